/-
  Code without some instructions: the reference's walk.
-/
import Derived.Test.YtkbbpnfhenoihaaDW
namespace Go.Proofs.Ytkbbpnfhenoihaa
open Go.RowKit

set_option maxHeartbeats 40000000 in
set_option maxRecDepth 100000 in
theorem l12Drop_any (va vb vc v : Value) (c : Cd) (D : List Bool) (w : World) (hr : ReadsC w va vb vc c) (hD : Reads w 1 v D.length (bools D)) (hDl : D.length = c.list.length) (hok : codeOk c = true) :
    Calls Try.prog 117 #[.agg #[va, vb, vc], v] w fun e w' => ∃ ua ub uc, e = .returned (.agg #[ua, ub, uc]) ∧ OwnC w' w.heap.size ua ub uc (wout c (dOf D)) ∧ Below w.heap.size w w' := by
  obtain ⟨a0, c0, a1, c1, a2, c2, rfl, rfl, rfl⟩ := hr.shape
  obtain ⟨l1, l2⟩ := codeOk_len hok
  obtain ⟨l3, l4⟩ := declOk_len (codeOk_decl hok)
  have HTI := Lib.hid (fun k hk h0 => tgt_in (codeOk_all hok k hk) h0)
  have HDN := Lib.hid (fun k hk => dOf_at D k hk)
  have HR : Hid (wout c (dOf D) = ⟨c.vars, c.arrays, outTo c.list (dOf D) c.list.length⟩) := Lib.hid rfl
  generalize wout c (dOf D) = R at *
  generalize dOf D = d at *
  have hrl := hr.l
  obtain ⟨_, hn, aa, cap, b, off, hv, hcap, ha, hca⟩ := hrl
  simp only [Value.slice.injEq, true_and] at hv
  obtain ⟨rfl, rfl⟩ := hv
  obtain ⟨rfl, hbs⟩ := ha (by omega)
  obtain ⟨_, hnD, ad, capd, bd, offd, rfl, hcapd, had, hcad⟩ := hD
  obtain ⟨rfl, hbd⟩ := had (by omega)
  have HDc := Lib.hid (fun k (h : k < c.list.length) => show w.cell? ⟨bd, offd + k, none⟩ = some (.bool (d k)) from by have h2 := hcad k (by rw [bools_length]; omega); rw [bools_get] at h2; rw [HDN.out k (by omega)]; exact h2)
  have hslD : Value.slice (some ⟨bd, offd, none⟩) D.length capd = Value.slice (some ⟨bd, offd, none⟩) c.list.length capd := by rw [hDl]
  rw [hslD]
  clear hcad had hnD hcapd hslD HDN ha
  clear hDl
  have HC := Lib.hid (reads_Instr hca)
  clear hca
  have ivr := hr.lt
  have hbw : b < w.heap.size := hbs
  go_enter Try.func117, Try.ntmps117
  go_upto_region 1 with (fail)
  obtain ⟨w2, hnw⟩ : ∃ X, X = (World.alloc (World.alloc w (.cells #[.slice a0 c.vars.length c0, .slice a1 c.arrays.length c1, .slice (some ⟨b, off, none⟩) c.list.length c2] 50)) (.cells #[.slice none 0 0, .slice none 0 0, .slice none 0 0] 50)) := ⟨_, rfl⟩
  have hb : Below (World.alloc (World.alloc w (.cells #[.slice a0 c.vars.length c0, .slice a1 c.arrays.length c1, .slice (some ⟨b, off, none⟩) c.list.length c2] 50)) (.cells #[.slice none 0 0, .slice none 0 0, .slice none 0 0] 50)).heap.size (World.alloc (World.alloc w (.cells #[.slice a0 c.vars.length c0, .slice a1 c.arrays.length c1, .slice (some ⟨b, off, none⟩) c.list.length c2] 50)) (.cells #[.slice none 0 0, .slice none 0 0, .slice none 0 0] 50)) w2 := by rw [hnw]; exact bself _
  have hsz1 := hb.size
  simp only [World.size_alloc] at hsz1
  replace hr := ((hr.below (bal (bself _) (.cells #[.slice a0 c.vars.length c0, .slice a1 c.arrays.length c1, .slice (some ⟨b, off, none⟩) c.list.length c2] 50))).below (bal (bself _) (.cells #[.slice none 0 0, .slice none 0 0, .slice none 0 0] 50))).below hb
  have bx2 : w2.cell? ⟨w.heap.size, 0, none⟩ = some (.slice a0 c.vars.length c0) := kept_cell hb (cell_al (cell_nw (by simp) (by rfl)) _)
  have bx3 : w2.cell? ⟨w.heap.size, 1, none⟩ = some (.slice a1 c.arrays.length c1) := kept_cell hb (cell_al (cell_nw (by simp) (by rfl)) _)
  have bx4 : w2.cell? ⟨w.heap.size, 2, none⟩ = some (.slice (some ⟨b, off, none⟩) c.list.length c2) := kept_cell hb (cell_al (cell_nw (by simp) (by rfl)) _)
  have bx5 : w2.cell? ⟨w.heap.size + 1, 0, none⟩ = some (.slice none 0 0) := kept_cell hb (cell_nw (by simp) (by rfl))
  have bf6 : w2.frozen? ⟨w.heap.size + 1, 0, none⟩ = false := kept_froz hb (by simp) (froz_nw (by simp))
  have bx7 : w2.cell? ⟨w.heap.size + 1, 1, none⟩ = some (.slice none 0 0) := kept_cell hb (cell_nw (by simp) (by rfl))
  have bf8 : w2.frozen? ⟨w.heap.size + 1, 1, none⟩ = false := kept_froz hb (by simp) (froz_nw (by simp))
  have bx9 : w2.cell? ⟨w.heap.size + 1, 2, none⟩ = some (.slice none 0 0) := kept_cell hb (cell_nw (by simp) (by rfl))
  have bf10 : w2.frozen? ⟨w.heap.size + 1, 2, none⟩ = false := kept_froz hb (by simp) (froz_nw (by simp))
  have tot := btr (bal (bal (bself w) (.cells #[.slice a0 c.vars.length c0, .slice a1 c.arrays.length c1, .slice (some ⟨b, off, none⟩) c.list.length c2] 50)) (.cells #[.slice none 0 0, .slice none 0 0, .slice none 0 0] 50)) hb
  clear hb
  rw [← hnw]
  clear hnw
  have lt11 := lt_of_cell bx2
  have lt12 := lt_of_cell bx3
  have lt13 := lt_of_cell bx4
  have lt14 := lt_of_cell bx5
  have lt15 := lt_of_cell bx7
  have lt16 := lt_of_cell bx9
  have oA0 := own_nil_rows w2 3 1
  have hA0 := bal (bself w2) (.cells #[] 3)
  have HD2 := Lib.hid (fun k (h : k < c.list.length) => kept_cell tot (HDc.out k h))
  have HC2 : Hid (∀ k (h : k < c.list.length), w2.cell? ⟨b, off + k * 5, none⟩ = some (.int .i64 c.list[k].op) ∧ w2.cell? ⟨b, off + k * 5 + 1, none⟩ = some (.int .i64 c.list[k].a) ∧ w2.cell? ⟨b, off + k * 5 + 2, none⟩ = some (.int .i64 c.list[k].b) ∧ w2.cell? ⟨b, off + k * 5 + 3, none⟩ = some (.int .i64 c.list[k].c) ∧ w2.cell? ⟨b, off + k * 5 + 4, none⟩ = some (.int .i64 c.list[k].d)) := Lib.hid (fun k h => by obtain ⟨e0, e1, e2, e3, e4⟩ := HC.out k h; exact ⟨kept_cell tot e0, kept_cell tot e1, kept_cell tot e2, kept_cell tot e3, kept_cell tot e4⟩)
  clear HC HDc
  go_wp2
  go_loopw [5, 6, 7] (fun av cn i wr => ∃ k : Nat, k ≤ c.list.length ∧ cn = .int .i64 (stay d k : Nat) ∧ i = .int .i64 k ∧ wr.ownsRow w2.heap.size 3 1 av k (ints (stays d k)) ∧ Below w2.heap.size w2 wr) (fun _ _ i _ => c.list.length - (intOf i).toNat)
  case atStart => exact ⟨0, Nat.zero_le _, rfl, rfl, oA0, hA0⟩
  case round =>
    obtain ⟨k, hk, rfl, rfl, oA, hB⟩ := hrel
    have hzB := hB.size
    have hcb := stay_le d k
    clear oA0 hA0
    by_cases hlt : k < c.list.length
    · have yM := kept_cell hB (HD2.out k hlt)
      have ky := lt_of_cell yM
      have hcs : stay d (k + 1) = stay d k + (if d k = true then 0 else 1) := rfl
      obtain ⟨q, hdv⟩ : ∃ q, d k = q := ⟨_, rfl⟩
      rw [hdv] at yM
      have HV := Lib.hid hdv
      have HCS := Lib.hid hcs
      clear hdv hcs HC2 HD2
      go_wp2_with (at_builtin; refine wpList_ap tInts rfl _ _ rfl w2.heap.size _ k _ rfl oA [.int .i64 (stay d k : Nat)] rfl rfl (one_ints [((stay d k : Nat) : Int)]) (by omega) (by omega) ?_)
      intro g4 c4 wy o4 hc4 hg4
      have iA := oA.lt
      have hBy := hB.trans (hc4.below w2.heap.size hB.size (fun q hq h => by have := iA q h; omega))
      replace yM := chg_cell hc4 yM (fun h => by have := iA _ h; omega)
      rw [show ints (stays d k) ++ [Value.int .i64 (stay d k : Nat)] = ints (stays d (k + 1)) from by rw [stays_succ, ints_append]; rfl] at o4
      clear oA hc4 hg4 hB
      cases q with
      | true =>
        go_wp2
        go_roundw
        case rel => exact ⟨k + 1, by omega, by rw [HCS.out, HV.out]; rfl, by go_num, o4, hBy⟩
        case measure => simp [intOf]; omega
      | false =>
        go_wp2
        go_roundw
        case rel => exact ⟨k + 1, by omega, by rw [HCS.out, HV.out]; rfl, by go_num, o4, hBy⟩
        case measure => simp [intOf]; omega
    · have e : k = c.list.length := by omega
      subst e
      have tot4 := tot.trans (hB.mono tot.size)
      replace bx2 := kept_cell hB bx2
      replace bx3 := kept_cell hB bx3
      replace bx4 := kept_cell hB bx4
      replace bx5 := kept_cell hB bx5
      replace bx7 := kept_cell hB bx7
      replace bx9 := kept_cell hB bx9
      replace bf6 := kept_froz hB (by omega) bf6
      replace bf8 := kept_froz hB (by omega) bf8
      replace bf10 := kept_froz hB (by omega) bf10
      have HC4 : Hid (∀ k (h : k < c.list.length), wr.cell? ⟨b, off + k * 5, none⟩ = some (.int .i64 c.list[k].op) ∧ wr.cell? ⟨b, off + k * 5 + 1, none⟩ = some (.int .i64 c.list[k].a) ∧ wr.cell? ⟨b, off + k * 5 + 2, none⟩ = some (.int .i64 c.list[k].b) ∧ wr.cell? ⟨b, off + k * 5 + 3, none⟩ = some (.int .i64 c.list[k].c) ∧ wr.cell? ⟨b, off + k * 5 + 4, none⟩ = some (.int .i64 c.list[k].d)) := Lib.hid (fun k h => by obtain ⟨e0, e1, e2, e3, e4⟩ := HC2.out k h; exact ⟨kept_cell hB e0, kept_cell hB e1, kept_cell hB e2, kept_cell hB e3, kept_cell hB e4⟩)
      have HD4 := Lib.hid (fun k (h : k < c.list.length) => kept_cell hB (HD2.out k h))
      have r := hr.below hB
      obtain ⟨pa, ta, rfl⟩ := own_shape oA
      clear HC2 HD2 hr hB tot
      obtain ⟨w4, rfl⟩ : ∃ X, X = wr := ⟨_, rfl⟩
      have lt17 := lt_of_cell bx2
      have lt18 := lt_of_cell bx3
      have lt19 := lt_of_cell bx4
      have lt20 := lt_of_cell bx5
      have lt21 := lt_of_cell bx7
      have lt22 := lt_of_cell bx9
      go_upto_region 9 with (fail)
      go_cut [8] (fun s wx => ∃ (bb : Nat) (p0 : Option Addr) (t0 : Nat) (p1 : Option Addr) (t1 : Nat), s = .pointer (some ⟨bb, 0, none⟩) ∧ wx.cell? ⟨bb, 0, none⟩ = some (.slice p0 c.vars.length t0) ∧ wx.cell? ⟨bb, 1, none⟩ = some (.slice p1 c.arrays.length t1) ∧ wx.cell? ⟨bb, 2, none⟩ = some (.slice none 0 0) ∧ wx.frozen? ⟨bb, 2, none⟩ = false ∧ w4.heap.size ≤ bb ∧ bb < wx.heap.size ∧ wx.ownsRow w4.heap.size 3 1 (.slice p0 c.vars.length t0) c.vars.length (ints c.vars) ∧ wx.ownsRow w4.heap.size 3 1 (.slice p1 c.arrays.length t1) c.arrays.length (ints c.arrays) ∧ (∀ q, (Value.slice p0 c.vars.length t0).ownBlock = some q → (Value.slice p1 c.arrays.length t1).ownBlock = some q → False) ∧ (∀ q, (Value.slice p0 c.vars.length t0).ownBlock = some q → ¬ q = bb) ∧ (∀ q, (Value.slice p1 c.arrays.length t1).ownBlock = some q → ¬ q = bb) ∧ Below w4.heap.size w4 wx)
      case first =>
        have D := Below.drew (bself w4)
        have HB0 := Lib.hid bx2; have HB1 := Lib.hid bx3
        clear bx2 bx3 bx4 bx5 bx7 bx9 bf6 bf8 bf10 tot4 oA HC4 HD4
        refine wp_region_noPanic ?_
        refine wp_region_held_drew (S := (fun W' => W'.cell? ⟨w.heap.size, 0, none⟩ = some (.slice a0 c.vars.length c0) ∧ W'.cell? ⟨w.heap.size, 1, none⟩ = some (.slice a1 c.arrays.length c1))) (by kernel_rfl) ⟨kept_cell D HB0.out, kept_cell D HB1.out⟩ (fun hHeld => ?_)
        obtain ⟨wd, hwd⟩ : ∃ X, X = World.drew w4 := ⟨_, rfl⟩
        rw [← hwd] at D hHeld ⊢
        have sd := D.size
        clear hwd
        refine take_d (i := 1) (d := 30) (v := ?_) rfl rfl (by kernel_rfl) (by kernel_rfl) (by kernel_rfl) (fun _ _ _ h => h) (Or.inl ⟨by rfl, ?_⟩) (by assumption) ?_
        rotate_left
        · intro W' hSw; (try dsimp only at hSw); obtain ⟨s0, s1⟩ := hSw; go_simp; try with_reducible rfl
        simp only [Act.put, List.setIfInBounds_toArray, List.set]
        refine take_d (i := 2) (d := 31) (v := ?_) rfl rfl (by kernel_rfl) (by kernel_rfl) (by kernel_rfl) (fun _ _ _ h => h) (Or.inl ⟨by rfl, ?_⟩) (by assumption) ?_
        rotate_left
        · intro W' hSw; (try dsimp only at hSw); obtain ⟨s0, s1⟩ := hSw; go_simp; try with_reducible rfl
        simp only [Act.put, List.setIfInBounds_toArray, List.set]
        refine take_d (i := 5) (d := 34) (v := ?_) rfl rfl (by kernel_rfl) (by kernel_rfl) (by kernel_rfl) (fun _ _ _ h => h) (Or.inl ⟨by rfl, ?_⟩) (by assumption) ?_
        rotate_left
        · intro W' hSw; (try dsimp only at hSw); obtain ⟨s0, s1⟩ := hSw; go_simp; try with_reducible rfl
        simp only [Act.put, List.setIfInBounds_toArray, List.set]
        refine take_d (i := 6) (d := 35) (v := ?_) rfl rfl (by kernel_rfl) (by kernel_rfl) (by kernel_rfl) (fun _ _ _ h => h) (Or.inl ⟨by rfl, ?_⟩) (by assumption) ?_
        rotate_left
        · intro W' hSw; (try dsimp only at hSw); obtain ⟨s0, s1⟩ := hSw; go_simp; try with_reducible rfl
        simp only [Act.put, List.setIfInBounds_toArray, List.set]
        refine wpAnyH_ready (rs := [0, 4, 9]) (by kernel_rfl) (by simp) ?_
        refine AllReadyH.cons rfl (fun K hK => ?_) ?_
        · -- 0
          go_simp
          obtain ⟨v1, hv⟩ : ∃ X, X = World.alloc wd (.cells #[] 3) := ⟨_, rfl⟩
          rw [← hv]
          have o1 : v1.ownsRow wd.heap.size 3 1 (.slice (some ⟨wd.heap.size, 0, none⟩) 0 0) 0 [] := by rw [hv]; exact own_nil_rows _ _ _
          have hb : Below wd.heap.size wd v1 := by rw [hv]; exact bal (bself _) _
          have D1 := btr D hb
          have s1 : wd.heap.size + 1 ≤ v1.heap.size := by rw [hv]; simp
          clear hv
          clear hb
          refine hK.out _ _ ⟨kept_cell D1 HB0.out, kept_cell D1 HB1.out⟩ (fun hHeld => ?_)
          clear hK K
          refine wpAnyH_ready (rs := [3, 4, 9]) (by kernel_rfl) (by simp) ?_
          refine AllReadyH.cons rfl (fun K hK => ?_) ?_
          · -- 3
            refine step_aps tInts rfl _ _ rfl wd.heap.size _ 0 [] rfl o1 _ _ _ rfl (r.below D1).a (one_ints c.vars) (by omega) (by omega) ?_
            intro v' v2 ho hc hn _
            simp only [Nat.zero_add, List.nil_append] at ho
            obtain ⟨p2, t2, rfl⟩ := own_shape ho
            have iv2 : ∀ q, (Value.slice p2 c.vars.length t2).ownBlock = some q → q = wd.heap.size ∨ v1.heap.size ≤ q := newor_cases hn rfl
            have iu2 := ho.lt
            have D2 := D1.trans (hc.below w4.heap.size D1.size (fun q hq h => by have e : wd.heap.size = q := Option.some.inj h; have := D1.size; omega))
            have s2 := hc.size
            have ho2 := ho; clear ho hc hn
            refine hK.out _ _ ⟨kept_cell D2 HB0.out, kept_cell D2 HB1.out⟩ (fun hHeld => ?_)
            clear hK K
            try simp only [Act.put, List.setIfInBounds_toArray]
            refine wpAnyH_ready (rs := [4, 9]) (by kernel_rfl) (by simp) ?_
            refine AllReadyH.cons rfl (fun K hK => ?_) ?_
            · -- 4
              go_simp
              obtain ⟨v3, hv⟩ : ∃ X, X = World.alloc v2 (.cells #[] 3) := ⟨_, rfl⟩
              rw [← hv]
              have o3 : v3.ownsRow v2.heap.size 3 1 (.slice (some ⟨v2.heap.size, 0, none⟩) 0 0) 0 [] := by rw [hv]; exact own_nil_rows _ _ _
              have hb : Below v2.heap.size v2 v3 := by rw [hv]; exact bal (bself _) _
              have D3 := btr D2 hb
              have s3 : v2.heap.size + 1 ≤ v3.heap.size := by rw [hv]; simp
              clear hv
              have oo0_3 := own_below ho2 hb
              clear hb
              refine hK.out _ _ ⟨kept_cell D3 HB0.out, kept_cell D3 HB1.out⟩ (fun hHeld => ?_)
              clear hK K
              refine wpAnyH_ready (rs := [7, 9]) (by kernel_rfl) (by simp) ?_
              refine AllReadyH.cons rfl (fun K hK => ?_) ?_
              · -- 7
                refine step_aps tInts rfl _ _ rfl v2.heap.size _ 0 [] rfl o3 _ _ _ rfl (r.below D3).b (one_ints c.arrays) (by omega) (by omega) ?_
                intro v' v4 ho hc hn _
                simp only [Nat.zero_add, List.nil_append] at ho
                obtain ⟨p4, t4, rfl⟩ := own_shape ho
                have iv4 : ∀ q, (Value.slice p4 c.arrays.length t4).ownBlock = some q → q = v2.heap.size ∨ v3.heap.size ≤ q := newor_cases hn rfl
                have iu4 := ho.lt
                have D4 := D3.trans (hc.below w4.heap.size D3.size (fun q hq h => by have e : v2.heap.size = q := Option.some.inj h; have := D3.size; omega))
                have s4 := hc.size
                have oo0_4 := own_keep oo0_3 hc (fun q h h2 => by have e2 : v2.heap.size = q := Option.some.inj h2; have := iv2 q h; have := iu2 q h; omega)
                have ho4 := ho; clear ho hc hn
                refine hK.out _ _ ⟨kept_cell D4 HB0.out, kept_cell D4 HB1.out⟩ (fun hHeld => ?_)
                clear hK K
                try simp only [Act.put, List.setIfInBounds_toArray]
                refine take_d (i := 8) (d := 37) (v := ?_) rfl rfl (by kernel_rfl) (by kernel_rfl) (by kernel_rfl) (fun _ _ _ h => h) (Or.inl ⟨by rfl, ?_⟩) (by assumption) ?_
                rotate_left
                · intro W' hSw; (try dsimp only at hSw); obtain ⟨s0, s1⟩ := hSw; go_simp; try with_reducible rfl
                try simp only [Act.put, List.setIfInBounds_toArray]
                refine wpAnyH_ready (rs := [9]) (by kernel_rfl) (by simp) ?_
                refine AllReadyH.cons rfl (fun K hK => ?_) ?_
                · -- 9
                  go_simp
                  obtain ⟨v5, hv⟩ : ∃ X, X = World.alloc v4 (.cells #[.slice none 0 0, .slice none 0 0, .slice none 0 0] 50) := ⟨_, rfl⟩
                  rw [← hv]
                  have bc0_5 : v5.cell? ⟨v4.heap.size, 0, none⟩ = some (.slice none 0 0) := by rw [hv]; exact cell_nw rfl rfl
                  have bz0_5 : v5.frozen? ⟨v4.heap.size, 0, none⟩ = false := by rw [hv]; exact froz_nw rfl
                  have bc1_5 : v5.cell? ⟨v4.heap.size, 1, none⟩ = some (.slice none 0 0) := by rw [hv]; exact cell_nw rfl rfl
                  have bz1_5 : v5.frozen? ⟨v4.heap.size, 1, none⟩ = false := by rw [hv]; exact froz_nw rfl
                  have bc2_5 : v5.cell? ⟨v4.heap.size, 2, none⟩ = some (.slice none 0 0) := by rw [hv]; exact cell_nw rfl rfl
                  have bz2_5 : v5.frozen? ⟨v4.heap.size, 2, none⟩ = false := by rw [hv]; exact froz_nw rfl
                  have hb : Below v4.heap.size v4 v5 := by rw [hv]; exact bal (bself _) _
                  have D5 := btr D4 hb
                  have s5 : v4.heap.size + 1 ≤ v5.heap.size := by rw [hv]; simp
                  clear hv
                  have oo0_5 := own_below oo0_4 hb
                  have oo1_5 := own_below ho4 hb
                  clear hb
                  refine hK.out _ _ ⟨kept_cell D5 HB0.out, kept_cell D5 HB1.out⟩ (fun hHeld => ?_)
                  clear hK K
                  have kb := lt_of_cell bc0_5
                  have nb0 : ∀ q, (Value.slice p2 c.vars.length t2).ownBlock = some q → ¬ q = v4.heap.size := fun q h => by have := iv2 q h; have := iu2 q h; omega
                  have y0 := (own_set (own_set (own_set (own_mono oo0_5 (base' := w4.heap.size) (by omega)) (v4.heap.size) 0 (fun h => nb0 _ h rfl) (.slice p2 c.vars.length t2)) (v4.heap.size) 1 (fun h => nb0 _ h rfl) (.slice p4 c.arrays.length t4)) (v4.heap.size) 2 (fun h => nb0 _ h rfl) (.slice none 0 0))
                  have nb1 : ∀ q, (Value.slice p4 c.arrays.length t4).ownBlock = some q → ¬ q = v4.heap.size := fun q h => by have := iv4 q h; have := iu4 q h; omega
                  have y1 := (own_set (own_set (own_set (own_mono oo1_5 (base' := w4.heap.size) (by omega)) (v4.heap.size) 0 (fun h => nb1 _ h rfl) (.slice p2 c.vars.length t2)) (v4.heap.size) 1 (fun h => nb1 _ h rfl) (.slice p4 c.arrays.length t4)) (v4.heap.size) 2 (fun h => nb1 _ h rfl) (.slice none 0 0))
                  have x0 := (cell_ne (b := (v4.heap.size)) (j := 2) (cell_ne (b := (v4.heap.size)) (j := 1) (cell_at _ (v4.heap.size) 0 (.slice p2 c.vars.length t2) bc0_5) (by omega) (.slice p4 c.arrays.length t4)) (by omega) (.slice none 0 0))
                  have x1 := (cell_ne (b := (v4.heap.size)) (j := 2) (cell_at _ (v4.heap.size) 1 (.slice p4 c.arrays.length t4) (cell_ne (b := (v4.heap.size)) (j := 0) bc1_5 (by omega) (.slice p2 c.vars.length t2))) (by omega) (.slice none 0 0))
                  have x2 := (cell_at _ (v4.heap.size) 2 (.slice none 0 0) (cell_ne (b := (v4.heap.size)) (j := 1) (cell_ne (b := (v4.heap.size)) (j := 0) bc2_5 (by omega) (.slice p2 c.vars.length t2)) (by omega) (.slice p4 c.arrays.length t4)))
                  have xf := (froz_st (b := ⟨(v4.heap.size), 2, none⟩) (froz_st (b := ⟨(v4.heap.size), 1, none⟩) (froz_st (b := ⟨(v4.heap.size), 0, none⟩) bz2_5 (.slice p2 c.vars.length t2)) (.slice p4 c.arrays.length t4)) (.slice none 0 0))
                  have tz := (bst (bst (bst D5 (v4.heap.size) 0 (by omega) (.slice p2 c.vars.length t2)) (v4.heap.size) 1 (by omega) (.slice p4 c.arrays.length t4)) (v4.heap.size) 2 (by omega) (.slice none 0 0))
                  have hab : ∀ q, (Value.slice p2 c.vars.length t2).ownBlock = some q → (Value.slice p4 c.arrays.length t4).ownBlock = some q → False := fun q h h' => by have := iv2 q h; have := iv4 q h'; have := iu2 q h; have := iu4 q h'; omega
                  have Z := And.intro (cell_ne (b := (v4.heap.size)) (j := 2) (cell_ne (b := (v4.heap.size)) (j := 1) (cell_ne (b := (v4.heap.size)) (j := 0) (kept_cell D5 HB0.out) (by omega) (.slice p2 c.vars.length t2)) (by omega) (.slice p4 c.arrays.length t4)) (by omega) (.slice none 0 0)) (cell_ne (b := (v4.heap.size)) (j := 2) (cell_ne (b := (v4.heap.size)) (j := 1) (cell_ne (b := (v4.heap.size)) (j := 0) (kept_cell D5 HB1.out) (by omega) (.slice p2 c.vars.length t2)) (by omega) (.slice p4 c.arrays.length t4)) (by omega) (.slice none 0 0))
                  refine wpAnyH_ready (rs := [10]) (by kernel_rfl) (by simp) ?_
                  refine AllReadyH.cons rfl (fun K hK => ?_) AllReadyH.nil
                  go_simp
                  refine hK.out _ _ Z (fun hHeld => ?_)
                  clear hK K
                  refine wpAnyH_done (by kernel_rfl) ?_ _
                  refine NoPanic.normal ?_
                  go_wp2_with fail
                  go_meet
                  exact ⟨_, _, _, _, _, rfl, x0, x1, x2, xf, by omega, by simp only [World.size_setCell]; exact kb, y0, y1, hab, nb0, nb1, tz⟩
                exact AllReadyH.nil
              refine AllReadyH.cons rfl (fun K hK => ?_) ?_
              · -- 9
                go_simp
                obtain ⟨v6, hv⟩ : ∃ X, X = World.alloc v3 (.cells #[.slice none 0 0, .slice none 0 0, .slice none 0 0] 50) := ⟨_, rfl⟩
                rw [← hv]
                have bc0_6 : v6.cell? ⟨v3.heap.size, 0, none⟩ = some (.slice none 0 0) := by rw [hv]; exact cell_nw rfl rfl
                have bz0_6 : v6.frozen? ⟨v3.heap.size, 0, none⟩ = false := by rw [hv]; exact froz_nw rfl
                have bc1_6 : v6.cell? ⟨v3.heap.size, 1, none⟩ = some (.slice none 0 0) := by rw [hv]; exact cell_nw rfl rfl
                have bz1_6 : v6.frozen? ⟨v3.heap.size, 1, none⟩ = false := by rw [hv]; exact froz_nw rfl
                have bc2_6 : v6.cell? ⟨v3.heap.size, 2, none⟩ = some (.slice none 0 0) := by rw [hv]; exact cell_nw rfl rfl
                have bz2_6 : v6.frozen? ⟨v3.heap.size, 2, none⟩ = false := by rw [hv]; exact froz_nw rfl
                have hb : Below v3.heap.size v3 v6 := by rw [hv]; exact bal (bself _) _
                have D6 := btr D3 hb
                have s6 : v3.heap.size + 1 ≤ v6.heap.size := by rw [hv]; simp
                clear hv
                have oo0_6 := own_below oo0_3 hb
                have oo1_6 := own_below o3 hb
                clear hb
                refine hK.out _ _ ⟨kept_cell D6 HB0.out, kept_cell D6 HB1.out⟩ (fun hHeld => ?_)
                clear hK K
                refine wpAnyH_ready (rs := [7]) (by kernel_rfl) (by simp) ?_
                refine AllReadyH.cons rfl (fun K hK => ?_) ?_
                · -- 7
                  refine step_aps tInts rfl _ _ rfl v2.heap.size _ 0 [] rfl oo1_6 _ _ _ rfl (r.below D6).b (one_ints c.arrays) (by omega) (by omega) ?_
                  intro v' v7 ho hc hn _
                  simp only [Nat.zero_add, List.nil_append] at ho
                  obtain ⟨p7, t7, rfl⟩ := own_shape ho
                  have iv7 : ∀ q, (Value.slice p7 c.arrays.length t7).ownBlock = some q → q = v2.heap.size ∨ v6.heap.size ≤ q := newor_cases hn rfl
                  have iu7 := ho.lt
                  have D7 := D6.trans (hc.below w4.heap.size D6.size (fun q hq h => by have e : v2.heap.size = q := Option.some.inj h; have := D6.size; omega))
                  have s7 := hc.size
                  have oo0_7 := own_keep oo0_6 hc (fun q h h2 => by have e2 : v2.heap.size = q := Option.some.inj h2; have := iv2 q h; have := iu2 q h; omega)
                  have bc0_7 := chg_cell hc bc0_6 (fun h => by have e : v2.heap.size = v3.heap.size := Option.some.inj h; omega); have bz0_7 := chg_froz hc (lt_of_cell bc0_6) bz0_6 (fun h => by have e : v2.heap.size = v3.heap.size := Option.some.inj h; omega)
                  have bc1_7 := chg_cell hc bc1_6 (fun h => by have e : v2.heap.size = v3.heap.size := Option.some.inj h; omega); have bz1_7 := chg_froz hc (lt_of_cell bc1_6) bz1_6 (fun h => by have e : v2.heap.size = v3.heap.size := Option.some.inj h; omega)
                  have bc2_7 := chg_cell hc bc2_6 (fun h => by have e : v2.heap.size = v3.heap.size := Option.some.inj h; omega); have bz2_7 := chg_froz hc (lt_of_cell bc2_6) bz2_6 (fun h => by have e : v2.heap.size = v3.heap.size := Option.some.inj h; omega)
                  have ho7 := ho; clear ho hc hn
                  refine hK.out _ _ ⟨kept_cell D7 HB0.out, kept_cell D7 HB1.out⟩ (fun hHeld => ?_)
                  clear hK K
                  try simp only [Act.put, List.setIfInBounds_toArray]
                  refine take_d (i := 8) (d := 37) (v := ?_) rfl rfl (by kernel_rfl) (by kernel_rfl) (by kernel_rfl) (fun _ _ _ h => h) (Or.inl ⟨by rfl, ?_⟩) (by assumption) ?_
                  rotate_left
                  · intro W' hSw; (try dsimp only at hSw); obtain ⟨s0, s1⟩ := hSw; go_simp; try with_reducible rfl
                  try simp only [Act.put, List.setIfInBounds_toArray]
                  have kb := lt_of_cell bc0_7
                  have nb0 : ∀ q, (Value.slice p2 c.vars.length t2).ownBlock = some q → ¬ q = v3.heap.size := fun q h => by have := iv2 q h; have := iu2 q h; omega
                  have y0 := (own_set (own_set (own_set (own_mono oo0_7 (base' := w4.heap.size) (by omega)) (v3.heap.size) 0 (fun h => nb0 _ h rfl) (.slice p2 c.vars.length t2)) (v3.heap.size) 1 (fun h => nb0 _ h rfl) (.slice p7 c.arrays.length t7)) (v3.heap.size) 2 (fun h => nb0 _ h rfl) (.slice none 0 0))
                  have nb1 : ∀ q, (Value.slice p7 c.arrays.length t7).ownBlock = some q → ¬ q = v3.heap.size := fun q h => by have := iv7 q h; have := iu7 q h; omega
                  have y1 := (own_set (own_set (own_set (own_mono ho7 (base' := w4.heap.size) (by omega)) (v3.heap.size) 0 (fun h => nb1 _ h rfl) (.slice p2 c.vars.length t2)) (v3.heap.size) 1 (fun h => nb1 _ h rfl) (.slice p7 c.arrays.length t7)) (v3.heap.size) 2 (fun h => nb1 _ h rfl) (.slice none 0 0))
                  have x0 := (cell_ne (b := (v3.heap.size)) (j := 2) (cell_ne (b := (v3.heap.size)) (j := 1) (cell_at _ (v3.heap.size) 0 (.slice p2 c.vars.length t2) bc0_7) (by omega) (.slice p7 c.arrays.length t7)) (by omega) (.slice none 0 0))
                  have x1 := (cell_ne (b := (v3.heap.size)) (j := 2) (cell_at _ (v3.heap.size) 1 (.slice p7 c.arrays.length t7) (cell_ne (b := (v3.heap.size)) (j := 0) bc1_7 (by omega) (.slice p2 c.vars.length t2))) (by omega) (.slice none 0 0))
                  have x2 := (cell_at _ (v3.heap.size) 2 (.slice none 0 0) (cell_ne (b := (v3.heap.size)) (j := 1) (cell_ne (b := (v3.heap.size)) (j := 0) bc2_7 (by omega) (.slice p2 c.vars.length t2)) (by omega) (.slice p7 c.arrays.length t7)))
                  have xf := (froz_st (b := ⟨(v3.heap.size), 2, none⟩) (froz_st (b := ⟨(v3.heap.size), 1, none⟩) (froz_st (b := ⟨(v3.heap.size), 0, none⟩) bz2_7 (.slice p2 c.vars.length t2)) (.slice p7 c.arrays.length t7)) (.slice none 0 0))
                  have tz := (bst (bst (bst D7 (v3.heap.size) 0 (by omega) (.slice p2 c.vars.length t2)) (v3.heap.size) 1 (by omega) (.slice p7 c.arrays.length t7)) (v3.heap.size) 2 (by omega) (.slice none 0 0))
                  have hab : ∀ q, (Value.slice p2 c.vars.length t2).ownBlock = some q → (Value.slice p7 c.arrays.length t7).ownBlock = some q → False := fun q h h' => by have := iv2 q h; have := iv7 q h'; have := iu2 q h; have := iu7 q h'; omega
                  have Z := And.intro (cell_ne (b := (v3.heap.size)) (j := 2) (cell_ne (b := (v3.heap.size)) (j := 1) (cell_ne (b := (v3.heap.size)) (j := 0) (kept_cell D7 HB0.out) (by omega) (.slice p2 c.vars.length t2)) (by omega) (.slice p7 c.arrays.length t7)) (by omega) (.slice none 0 0)) (cell_ne (b := (v3.heap.size)) (j := 2) (cell_ne (b := (v3.heap.size)) (j := 1) (cell_ne (b := (v3.heap.size)) (j := 0) (kept_cell D7 HB1.out) (by omega) (.slice p2 c.vars.length t2)) (by omega) (.slice p7 c.arrays.length t7)) (by omega) (.slice none 0 0))
                  refine wpAnyH_ready (rs := [10]) (by kernel_rfl) (by simp) ?_
                  refine AllReadyH.cons rfl (fun K hK => ?_) AllReadyH.nil
                  go_simp
                  refine hK.out _ _ Z (fun hHeld => ?_)
                  clear hK K
                  refine wpAnyH_done (by kernel_rfl) ?_ _
                  refine NoPanic.normal ?_
                  go_wp2_with fail
                  go_meet
                  exact ⟨_, _, _, _, _, rfl, x0, x1, x2, xf, by omega, by simp only [World.size_setCell]; exact kb, y0, y1, hab, nb0, nb1, tz⟩
                exact AllReadyH.nil
              exact AllReadyH.nil
            refine AllReadyH.cons rfl (fun K hK => ?_) ?_
            · -- 9
              go_simp
              obtain ⟨v8, hv⟩ : ∃ X, X = World.alloc v2 (.cells #[.slice none 0 0, .slice none 0 0, .slice none 0 0] 50) := ⟨_, rfl⟩
              rw [← hv]
              have bc0_8 : v8.cell? ⟨v2.heap.size, 0, none⟩ = some (.slice none 0 0) := by rw [hv]; exact cell_nw rfl rfl
              have bz0_8 : v8.frozen? ⟨v2.heap.size, 0, none⟩ = false := by rw [hv]; exact froz_nw rfl
              have bc1_8 : v8.cell? ⟨v2.heap.size, 1, none⟩ = some (.slice none 0 0) := by rw [hv]; exact cell_nw rfl rfl
              have bz1_8 : v8.frozen? ⟨v2.heap.size, 1, none⟩ = false := by rw [hv]; exact froz_nw rfl
              have bc2_8 : v8.cell? ⟨v2.heap.size, 2, none⟩ = some (.slice none 0 0) := by rw [hv]; exact cell_nw rfl rfl
              have bz2_8 : v8.frozen? ⟨v2.heap.size, 2, none⟩ = false := by rw [hv]; exact froz_nw rfl
              have hb : Below v2.heap.size v2 v8 := by rw [hv]; exact bal (bself _) _
              have D8 := btr D2 hb
              have s8 : v2.heap.size + 1 ≤ v8.heap.size := by rw [hv]; simp
              clear hv
              have oo0_8 := own_below ho2 hb
              clear hb
              refine hK.out _ _ ⟨kept_cell D8 HB0.out, kept_cell D8 HB1.out⟩ (fun hHeld => ?_)
              clear hK K
              refine wpAnyH_ready (rs := [4]) (by kernel_rfl) (by simp) ?_
              refine AllReadyH.cons rfl (fun K hK => ?_) ?_
              · -- 4
                go_simp
                obtain ⟨v9, hv⟩ : ∃ X, X = World.alloc v8 (.cells #[] 3) := ⟨_, rfl⟩
                rw [← hv]
                have o9 : v9.ownsRow v8.heap.size 3 1 (.slice (some ⟨v8.heap.size, 0, none⟩) 0 0) 0 [] := by rw [hv]; exact own_nil_rows _ _ _
                have hb : Below v8.heap.size v8 v9 := by rw [hv]; exact bal (bself _) _
                have D9 := btr D8 hb
                have s9 : v8.heap.size + 1 ≤ v9.heap.size := by rw [hv]; simp
                clear hv
                have oo0_9 := own_below oo0_8 hb
                have bc0_9 := kept_cell hb bc0_8; have bz0_9 := kept_froz hb (lt_of_cell bc0_8) bz0_8
                have bc1_9 := kept_cell hb bc1_8; have bz1_9 := kept_froz hb (lt_of_cell bc1_8) bz1_8
                have bc2_9 := kept_cell hb bc2_8; have bz2_9 := kept_froz hb (lt_of_cell bc2_8) bz2_8
                clear hb
                refine hK.out _ _ ⟨kept_cell D9 HB0.out, kept_cell D9 HB1.out⟩ (fun hHeld => ?_)
                clear hK K
                refine wpAnyH_ready (rs := [7]) (by kernel_rfl) (by simp) ?_
                refine AllReadyH.cons rfl (fun K hK => ?_) ?_
                · -- 7
                  refine step_aps tInts rfl _ _ rfl v8.heap.size _ 0 [] rfl o9 _ _ _ rfl (r.below D9).b (one_ints c.arrays) (by omega) (by omega) ?_
                  intro v' v10 ho hc hn _
                  simp only [Nat.zero_add, List.nil_append] at ho
                  obtain ⟨p10, t10, rfl⟩ := own_shape ho
                  have iv10 : ∀ q, (Value.slice p10 c.arrays.length t10).ownBlock = some q → q = v8.heap.size ∨ v9.heap.size ≤ q := newor_cases hn rfl
                  have iu10 := ho.lt
                  have D10 := D9.trans (hc.below w4.heap.size D9.size (fun q hq h => by have e : v8.heap.size = q := Option.some.inj h; have := D9.size; omega))
                  have s10 := hc.size
                  have oo0_10 := own_keep oo0_9 hc (fun q h h2 => by have e2 : v8.heap.size = q := Option.some.inj h2; have := iv2 q h; have := iu2 q h; omega)
                  have bc0_10 := chg_cell hc bc0_9 (fun h => by have e : v8.heap.size = v2.heap.size := Option.some.inj h; omega); have bz0_10 := chg_froz hc (lt_of_cell bc0_9) bz0_9 (fun h => by have e : v8.heap.size = v2.heap.size := Option.some.inj h; omega)
                  have bc1_10 := chg_cell hc bc1_9 (fun h => by have e : v8.heap.size = v2.heap.size := Option.some.inj h; omega); have bz1_10 := chg_froz hc (lt_of_cell bc1_9) bz1_9 (fun h => by have e : v8.heap.size = v2.heap.size := Option.some.inj h; omega)
                  have bc2_10 := chg_cell hc bc2_9 (fun h => by have e : v8.heap.size = v2.heap.size := Option.some.inj h; omega); have bz2_10 := chg_froz hc (lt_of_cell bc2_9) bz2_9 (fun h => by have e : v8.heap.size = v2.heap.size := Option.some.inj h; omega)
                  have ho10 := ho; clear ho hc hn
                  refine hK.out _ _ ⟨kept_cell D10 HB0.out, kept_cell D10 HB1.out⟩ (fun hHeld => ?_)
                  clear hK K
                  try simp only [Act.put, List.setIfInBounds_toArray]
                  refine take_d (i := 8) (d := 37) (v := ?_) rfl rfl (by kernel_rfl) (by kernel_rfl) (by kernel_rfl) (fun _ _ _ h => h) (Or.inl ⟨by rfl, ?_⟩) (by assumption) ?_
                  rotate_left
                  · intro W' hSw; (try dsimp only at hSw); obtain ⟨s0, s1⟩ := hSw; go_simp; try with_reducible rfl
                  try simp only [Act.put, List.setIfInBounds_toArray]
                  have kb := lt_of_cell bc0_10
                  have nb0 : ∀ q, (Value.slice p2 c.vars.length t2).ownBlock = some q → ¬ q = v2.heap.size := fun q h => by have := iv2 q h; have := iu2 q h; omega
                  have y0 := (own_set (own_set (own_set (own_mono oo0_10 (base' := w4.heap.size) (by omega)) (v2.heap.size) 0 (fun h => nb0 _ h rfl) (.slice p2 c.vars.length t2)) (v2.heap.size) 1 (fun h => nb0 _ h rfl) (.slice p10 c.arrays.length t10)) (v2.heap.size) 2 (fun h => nb0 _ h rfl) (.slice none 0 0))
                  have nb1 : ∀ q, (Value.slice p10 c.arrays.length t10).ownBlock = some q → ¬ q = v2.heap.size := fun q h => by have := iv10 q h; have := iu10 q h; omega
                  have y1 := (own_set (own_set (own_set (own_mono ho10 (base' := w4.heap.size) (by omega)) (v2.heap.size) 0 (fun h => nb1 _ h rfl) (.slice p2 c.vars.length t2)) (v2.heap.size) 1 (fun h => nb1 _ h rfl) (.slice p10 c.arrays.length t10)) (v2.heap.size) 2 (fun h => nb1 _ h rfl) (.slice none 0 0))
                  have x0 := (cell_ne (b := (v2.heap.size)) (j := 2) (cell_ne (b := (v2.heap.size)) (j := 1) (cell_at _ (v2.heap.size) 0 (.slice p2 c.vars.length t2) bc0_10) (by omega) (.slice p10 c.arrays.length t10)) (by omega) (.slice none 0 0))
                  have x1 := (cell_ne (b := (v2.heap.size)) (j := 2) (cell_at _ (v2.heap.size) 1 (.slice p10 c.arrays.length t10) (cell_ne (b := (v2.heap.size)) (j := 0) bc1_10 (by omega) (.slice p2 c.vars.length t2))) (by omega) (.slice none 0 0))
                  have x2 := (cell_at _ (v2.heap.size) 2 (.slice none 0 0) (cell_ne (b := (v2.heap.size)) (j := 1) (cell_ne (b := (v2.heap.size)) (j := 0) bc2_10 (by omega) (.slice p2 c.vars.length t2)) (by omega) (.slice p10 c.arrays.length t10)))
                  have xf := (froz_st (b := ⟨(v2.heap.size), 2, none⟩) (froz_st (b := ⟨(v2.heap.size), 1, none⟩) (froz_st (b := ⟨(v2.heap.size), 0, none⟩) bz2_10 (.slice p2 c.vars.length t2)) (.slice p10 c.arrays.length t10)) (.slice none 0 0))
                  have tz := (bst (bst (bst D10 (v2.heap.size) 0 (by omega) (.slice p2 c.vars.length t2)) (v2.heap.size) 1 (by omega) (.slice p10 c.arrays.length t10)) (v2.heap.size) 2 (by omega) (.slice none 0 0))
                  have hab : ∀ q, (Value.slice p2 c.vars.length t2).ownBlock = some q → (Value.slice p10 c.arrays.length t10).ownBlock = some q → False := fun q h h' => by have := iv2 q h; have := iv10 q h'; have := iu2 q h; have := iu10 q h'; omega
                  have Z := And.intro (cell_ne (b := (v2.heap.size)) (j := 2) (cell_ne (b := (v2.heap.size)) (j := 1) (cell_ne (b := (v2.heap.size)) (j := 0) (kept_cell D10 HB0.out) (by omega) (.slice p2 c.vars.length t2)) (by omega) (.slice p10 c.arrays.length t10)) (by omega) (.slice none 0 0)) (cell_ne (b := (v2.heap.size)) (j := 2) (cell_ne (b := (v2.heap.size)) (j := 1) (cell_ne (b := (v2.heap.size)) (j := 0) (kept_cell D10 HB1.out) (by omega) (.slice p2 c.vars.length t2)) (by omega) (.slice p10 c.arrays.length t10)) (by omega) (.slice none 0 0))
                  refine wpAnyH_ready (rs := [10]) (by kernel_rfl) (by simp) ?_
                  refine AllReadyH.cons rfl (fun K hK => ?_) AllReadyH.nil
                  go_simp
                  refine hK.out _ _ Z (fun hHeld => ?_)
                  clear hK K
                  refine wpAnyH_done (by kernel_rfl) ?_ _
                  refine NoPanic.normal ?_
                  go_wp2_with fail
                  go_meet
                  exact ⟨_, _, _, _, _, rfl, x0, x1, x2, xf, by omega, by simp only [World.size_setCell]; exact kb, y0, y1, hab, nb0, nb1, tz⟩
                exact AllReadyH.nil
              exact AllReadyH.nil
            exact AllReadyH.nil
          refine AllReadyH.cons rfl (fun K hK => ?_) ?_
          · -- 4
            go_simp
            obtain ⟨v11, hv⟩ : ∃ X, X = World.alloc v1 (.cells #[] 3) := ⟨_, rfl⟩
            rw [← hv]
            have o11 : v11.ownsRow v1.heap.size 3 1 (.slice (some ⟨v1.heap.size, 0, none⟩) 0 0) 0 [] := by rw [hv]; exact own_nil_rows _ _ _
            have hb : Below v1.heap.size v1 v11 := by rw [hv]; exact bal (bself _) _
            have D11 := btr D1 hb
            have s11 : v1.heap.size + 1 ≤ v11.heap.size := by rw [hv]; simp
            clear hv
            have oo0_11 := own_below o1 hb
            clear hb
            refine hK.out _ _ ⟨kept_cell D11 HB0.out, kept_cell D11 HB1.out⟩ (fun hHeld => ?_)
            clear hK K
            refine wpAnyH_ready (rs := [3, 9]) (by kernel_rfl) (by simp) ?_
            refine AllReadyH.cons rfl (fun K hK => ?_) ?_
            · -- 3
              refine step_aps tInts rfl _ _ rfl wd.heap.size _ 0 [] rfl oo0_11 _ _ _ rfl (r.below D11).a (one_ints c.vars) (by omega) (by omega) ?_
              intro v' v12 ho hc hn _
              simp only [Nat.zero_add, List.nil_append] at ho
              obtain ⟨p12, t12, rfl⟩ := own_shape ho
              have iv12 : ∀ q, (Value.slice p12 c.vars.length t12).ownBlock = some q → q = wd.heap.size ∨ v11.heap.size ≤ q := newor_cases hn rfl
              have iu12 := ho.lt
              have D12 := D11.trans (hc.below w4.heap.size D11.size (fun q hq h => by have e : wd.heap.size = q := Option.some.inj h; have := D11.size; omega))
              have s12 := hc.size
              have oo1_12 := own_keep o11 hc (fun q h h2 => by have e1 : v1.heap.size = q := Option.some.inj h; have e2 : wd.heap.size = q := Option.some.inj h2; omega)
              have ho12 := ho; clear ho hc hn
              refine hK.out _ _ ⟨kept_cell D12 HB0.out, kept_cell D12 HB1.out⟩ (fun hHeld => ?_)
              clear hK K
              try simp only [Act.put, List.setIfInBounds_toArray]
              refine wpAnyH_ready (rs := [7, 9]) (by kernel_rfl) (by simp) ?_
              refine AllReadyH.cons rfl (fun K hK => ?_) ?_
              · -- 7
                refine step_aps tInts rfl _ _ rfl v1.heap.size _ 0 [] rfl oo1_12 _ _ _ rfl (r.below D12).b (one_ints c.arrays) (by omega) (by omega) ?_
                intro v' v13 ho hc hn _
                simp only [Nat.zero_add, List.nil_append] at ho
                obtain ⟨p13, t13, rfl⟩ := own_shape ho
                have iv13 : ∀ q, (Value.slice p13 c.arrays.length t13).ownBlock = some q → q = v1.heap.size ∨ v12.heap.size ≤ q := newor_cases hn rfl
                have iu13 := ho.lt
                have D13 := D12.trans (hc.below w4.heap.size D12.size (fun q hq h => by have e : v1.heap.size = q := Option.some.inj h; have := D12.size; omega))
                have s13 := hc.size
                have oo0_13 := own_keep ho12 hc (fun q h h2 => by have e2 : v1.heap.size = q := Option.some.inj h2; have := iv12 q h; have := iu12 q h; omega)
                have ho13 := ho; clear ho hc hn
                refine hK.out _ _ ⟨kept_cell D13 HB0.out, kept_cell D13 HB1.out⟩ (fun hHeld => ?_)
                clear hK K
                try simp only [Act.put, List.setIfInBounds_toArray]
                refine take_d (i := 8) (d := 37) (v := ?_) rfl rfl (by kernel_rfl) (by kernel_rfl) (by kernel_rfl) (fun _ _ _ h => h) (Or.inl ⟨by rfl, ?_⟩) (by assumption) ?_
                rotate_left
                · intro W' hSw; (try dsimp only at hSw); obtain ⟨s0, s1⟩ := hSw; go_simp; try with_reducible rfl
                try simp only [Act.put, List.setIfInBounds_toArray]
                refine wpAnyH_ready (rs := [9]) (by kernel_rfl) (by simp) ?_
                refine AllReadyH.cons rfl (fun K hK => ?_) ?_
                · -- 9
                  go_simp
                  obtain ⟨v14, hv⟩ : ∃ X, X = World.alloc v13 (.cells #[.slice none 0 0, .slice none 0 0, .slice none 0 0] 50) := ⟨_, rfl⟩
                  rw [← hv]
                  have bc0_14 : v14.cell? ⟨v13.heap.size, 0, none⟩ = some (.slice none 0 0) := by rw [hv]; exact cell_nw rfl rfl
                  have bz0_14 : v14.frozen? ⟨v13.heap.size, 0, none⟩ = false := by rw [hv]; exact froz_nw rfl
                  have bc1_14 : v14.cell? ⟨v13.heap.size, 1, none⟩ = some (.slice none 0 0) := by rw [hv]; exact cell_nw rfl rfl
                  have bz1_14 : v14.frozen? ⟨v13.heap.size, 1, none⟩ = false := by rw [hv]; exact froz_nw rfl
                  have bc2_14 : v14.cell? ⟨v13.heap.size, 2, none⟩ = some (.slice none 0 0) := by rw [hv]; exact cell_nw rfl rfl
                  have bz2_14 : v14.frozen? ⟨v13.heap.size, 2, none⟩ = false := by rw [hv]; exact froz_nw rfl
                  have hb : Below v13.heap.size v13 v14 := by rw [hv]; exact bal (bself _) _
                  have D14 := btr D13 hb
                  have s14 : v13.heap.size + 1 ≤ v14.heap.size := by rw [hv]; simp
                  clear hv
                  have oo0_14 := own_below oo0_13 hb
                  have oo1_14 := own_below ho13 hb
                  clear hb
                  refine hK.out _ _ ⟨kept_cell D14 HB0.out, kept_cell D14 HB1.out⟩ (fun hHeld => ?_)
                  clear hK K
                  have kb := lt_of_cell bc0_14
                  have nb0 : ∀ q, (Value.slice p12 c.vars.length t12).ownBlock = some q → ¬ q = v13.heap.size := fun q h => by have := iv12 q h; have := iu12 q h; omega
                  have y0 := (own_set (own_set (own_set (own_mono oo0_14 (base' := w4.heap.size) (by omega)) (v13.heap.size) 0 (fun h => nb0 _ h rfl) (.slice p12 c.vars.length t12)) (v13.heap.size) 1 (fun h => nb0 _ h rfl) (.slice p13 c.arrays.length t13)) (v13.heap.size) 2 (fun h => nb0 _ h rfl) (.slice none 0 0))
                  have nb1 : ∀ q, (Value.slice p13 c.arrays.length t13).ownBlock = some q → ¬ q = v13.heap.size := fun q h => by have := iv13 q h; have := iu13 q h; omega
                  have y1 := (own_set (own_set (own_set (own_mono oo1_14 (base' := w4.heap.size) (by omega)) (v13.heap.size) 0 (fun h => nb1 _ h rfl) (.slice p12 c.vars.length t12)) (v13.heap.size) 1 (fun h => nb1 _ h rfl) (.slice p13 c.arrays.length t13)) (v13.heap.size) 2 (fun h => nb1 _ h rfl) (.slice none 0 0))
                  have x0 := (cell_ne (b := (v13.heap.size)) (j := 2) (cell_ne (b := (v13.heap.size)) (j := 1) (cell_at _ (v13.heap.size) 0 (.slice p12 c.vars.length t12) bc0_14) (by omega) (.slice p13 c.arrays.length t13)) (by omega) (.slice none 0 0))
                  have x1 := (cell_ne (b := (v13.heap.size)) (j := 2) (cell_at _ (v13.heap.size) 1 (.slice p13 c.arrays.length t13) (cell_ne (b := (v13.heap.size)) (j := 0) bc1_14 (by omega) (.slice p12 c.vars.length t12))) (by omega) (.slice none 0 0))
                  have x2 := (cell_at _ (v13.heap.size) 2 (.slice none 0 0) (cell_ne (b := (v13.heap.size)) (j := 1) (cell_ne (b := (v13.heap.size)) (j := 0) bc2_14 (by omega) (.slice p12 c.vars.length t12)) (by omega) (.slice p13 c.arrays.length t13)))
                  have xf := (froz_st (b := ⟨(v13.heap.size), 2, none⟩) (froz_st (b := ⟨(v13.heap.size), 1, none⟩) (froz_st (b := ⟨(v13.heap.size), 0, none⟩) bz2_14 (.slice p12 c.vars.length t12)) (.slice p13 c.arrays.length t13)) (.slice none 0 0))
                  have tz := (bst (bst (bst D14 (v13.heap.size) 0 (by omega) (.slice p12 c.vars.length t12)) (v13.heap.size) 1 (by omega) (.slice p13 c.arrays.length t13)) (v13.heap.size) 2 (by omega) (.slice none 0 0))
                  have hab : ∀ q, (Value.slice p12 c.vars.length t12).ownBlock = some q → (Value.slice p13 c.arrays.length t13).ownBlock = some q → False := fun q h h' => by have := iv12 q h; have := iv13 q h'; have := iu12 q h; have := iu13 q h'; omega
                  have Z := And.intro (cell_ne (b := (v13.heap.size)) (j := 2) (cell_ne (b := (v13.heap.size)) (j := 1) (cell_ne (b := (v13.heap.size)) (j := 0) (kept_cell D14 HB0.out) (by omega) (.slice p12 c.vars.length t12)) (by omega) (.slice p13 c.arrays.length t13)) (by omega) (.slice none 0 0)) (cell_ne (b := (v13.heap.size)) (j := 2) (cell_ne (b := (v13.heap.size)) (j := 1) (cell_ne (b := (v13.heap.size)) (j := 0) (kept_cell D14 HB1.out) (by omega) (.slice p12 c.vars.length t12)) (by omega) (.slice p13 c.arrays.length t13)) (by omega) (.slice none 0 0))
                  refine wpAnyH_ready (rs := [10]) (by kernel_rfl) (by simp) ?_
                  refine AllReadyH.cons rfl (fun K hK => ?_) AllReadyH.nil
                  go_simp
                  refine hK.out _ _ Z (fun hHeld => ?_)
                  clear hK K
                  refine wpAnyH_done (by kernel_rfl) ?_ _
                  refine NoPanic.normal ?_
                  go_wp2_with fail
                  go_meet
                  exact ⟨_, _, _, _, _, rfl, x0, x1, x2, xf, by omega, by simp only [World.size_setCell]; exact kb, y0, y1, hab, nb0, nb1, tz⟩
                exact AllReadyH.nil
              refine AllReadyH.cons rfl (fun K hK => ?_) ?_
              · -- 9
                go_simp
                obtain ⟨v15, hv⟩ : ∃ X, X = World.alloc v12 (.cells #[.slice none 0 0, .slice none 0 0, .slice none 0 0] 50) := ⟨_, rfl⟩
                rw [← hv]
                have bc0_15 : v15.cell? ⟨v12.heap.size, 0, none⟩ = some (.slice none 0 0) := by rw [hv]; exact cell_nw rfl rfl
                have bz0_15 : v15.frozen? ⟨v12.heap.size, 0, none⟩ = false := by rw [hv]; exact froz_nw rfl
                have bc1_15 : v15.cell? ⟨v12.heap.size, 1, none⟩ = some (.slice none 0 0) := by rw [hv]; exact cell_nw rfl rfl
                have bz1_15 : v15.frozen? ⟨v12.heap.size, 1, none⟩ = false := by rw [hv]; exact froz_nw rfl
                have bc2_15 : v15.cell? ⟨v12.heap.size, 2, none⟩ = some (.slice none 0 0) := by rw [hv]; exact cell_nw rfl rfl
                have bz2_15 : v15.frozen? ⟨v12.heap.size, 2, none⟩ = false := by rw [hv]; exact froz_nw rfl
                have hb : Below v12.heap.size v12 v15 := by rw [hv]; exact bal (bself _) _
                have D15 := btr D12 hb
                have s15 : v12.heap.size + 1 ≤ v15.heap.size := by rw [hv]; simp
                clear hv
                have oo0_15 := own_below ho12 hb
                have oo1_15 := own_below oo1_12 hb
                clear hb
                refine hK.out _ _ ⟨kept_cell D15 HB0.out, kept_cell D15 HB1.out⟩ (fun hHeld => ?_)
                clear hK K
                refine wpAnyH_ready (rs := [7]) (by kernel_rfl) (by simp) ?_
                refine AllReadyH.cons rfl (fun K hK => ?_) ?_
                · -- 7
                  refine step_aps tInts rfl _ _ rfl v1.heap.size _ 0 [] rfl oo1_15 _ _ _ rfl (r.below D15).b (one_ints c.arrays) (by omega) (by omega) ?_
                  intro v' v16 ho hc hn _
                  simp only [Nat.zero_add, List.nil_append] at ho
                  obtain ⟨p16, t16, rfl⟩ := own_shape ho
                  have iv16 : ∀ q, (Value.slice p16 c.arrays.length t16).ownBlock = some q → q = v1.heap.size ∨ v15.heap.size ≤ q := newor_cases hn rfl
                  have iu16 := ho.lt
                  have D16 := D15.trans (hc.below w4.heap.size D15.size (fun q hq h => by have e : v1.heap.size = q := Option.some.inj h; have := D15.size; omega))
                  have s16 := hc.size
                  have oo0_16 := own_keep oo0_15 hc (fun q h h2 => by have e2 : v1.heap.size = q := Option.some.inj h2; have := iv12 q h; have := iu12 q h; omega)
                  have bc0_16 := chg_cell hc bc0_15 (fun h => by have e : v1.heap.size = v12.heap.size := Option.some.inj h; omega); have bz0_16 := chg_froz hc (lt_of_cell bc0_15) bz0_15 (fun h => by have e : v1.heap.size = v12.heap.size := Option.some.inj h; omega)
                  have bc1_16 := chg_cell hc bc1_15 (fun h => by have e : v1.heap.size = v12.heap.size := Option.some.inj h; omega); have bz1_16 := chg_froz hc (lt_of_cell bc1_15) bz1_15 (fun h => by have e : v1.heap.size = v12.heap.size := Option.some.inj h; omega)
                  have bc2_16 := chg_cell hc bc2_15 (fun h => by have e : v1.heap.size = v12.heap.size := Option.some.inj h; omega); have bz2_16 := chg_froz hc (lt_of_cell bc2_15) bz2_15 (fun h => by have e : v1.heap.size = v12.heap.size := Option.some.inj h; omega)
                  have ho16 := ho; clear ho hc hn
                  refine hK.out _ _ ⟨kept_cell D16 HB0.out, kept_cell D16 HB1.out⟩ (fun hHeld => ?_)
                  clear hK K
                  try simp only [Act.put, List.setIfInBounds_toArray]
                  refine take_d (i := 8) (d := 37) (v := ?_) rfl rfl (by kernel_rfl) (by kernel_rfl) (by kernel_rfl) (fun _ _ _ h => h) (Or.inl ⟨by rfl, ?_⟩) (by assumption) ?_
                  rotate_left
                  · intro W' hSw; (try dsimp only at hSw); obtain ⟨s0, s1⟩ := hSw; go_simp; try with_reducible rfl
                  try simp only [Act.put, List.setIfInBounds_toArray]
                  have kb := lt_of_cell bc0_16
                  have nb0 : ∀ q, (Value.slice p12 c.vars.length t12).ownBlock = some q → ¬ q = v12.heap.size := fun q h => by have := iv12 q h; have := iu12 q h; omega
                  have y0 := (own_set (own_set (own_set (own_mono oo0_16 (base' := w4.heap.size) (by omega)) (v12.heap.size) 0 (fun h => nb0 _ h rfl) (.slice p12 c.vars.length t12)) (v12.heap.size) 1 (fun h => nb0 _ h rfl) (.slice p16 c.arrays.length t16)) (v12.heap.size) 2 (fun h => nb0 _ h rfl) (.slice none 0 0))
                  have nb1 : ∀ q, (Value.slice p16 c.arrays.length t16).ownBlock = some q → ¬ q = v12.heap.size := fun q h => by have := iv16 q h; have := iu16 q h; omega
                  have y1 := (own_set (own_set (own_set (own_mono ho16 (base' := w4.heap.size) (by omega)) (v12.heap.size) 0 (fun h => nb1 _ h rfl) (.slice p12 c.vars.length t12)) (v12.heap.size) 1 (fun h => nb1 _ h rfl) (.slice p16 c.arrays.length t16)) (v12.heap.size) 2 (fun h => nb1 _ h rfl) (.slice none 0 0))
                  have x0 := (cell_ne (b := (v12.heap.size)) (j := 2) (cell_ne (b := (v12.heap.size)) (j := 1) (cell_at _ (v12.heap.size) 0 (.slice p12 c.vars.length t12) bc0_16) (by omega) (.slice p16 c.arrays.length t16)) (by omega) (.slice none 0 0))
                  have x1 := (cell_ne (b := (v12.heap.size)) (j := 2) (cell_at _ (v12.heap.size) 1 (.slice p16 c.arrays.length t16) (cell_ne (b := (v12.heap.size)) (j := 0) bc1_16 (by omega) (.slice p12 c.vars.length t12))) (by omega) (.slice none 0 0))
                  have x2 := (cell_at _ (v12.heap.size) 2 (.slice none 0 0) (cell_ne (b := (v12.heap.size)) (j := 1) (cell_ne (b := (v12.heap.size)) (j := 0) bc2_16 (by omega) (.slice p12 c.vars.length t12)) (by omega) (.slice p16 c.arrays.length t16)))
                  have xf := (froz_st (b := ⟨(v12.heap.size), 2, none⟩) (froz_st (b := ⟨(v12.heap.size), 1, none⟩) (froz_st (b := ⟨(v12.heap.size), 0, none⟩) bz2_16 (.slice p12 c.vars.length t12)) (.slice p16 c.arrays.length t16)) (.slice none 0 0))
                  have tz := (bst (bst (bst D16 (v12.heap.size) 0 (by omega) (.slice p12 c.vars.length t12)) (v12.heap.size) 1 (by omega) (.slice p16 c.arrays.length t16)) (v12.heap.size) 2 (by omega) (.slice none 0 0))
                  have hab : ∀ q, (Value.slice p12 c.vars.length t12).ownBlock = some q → (Value.slice p16 c.arrays.length t16).ownBlock = some q → False := fun q h h' => by have := iv12 q h; have := iv16 q h'; have := iu12 q h; have := iu16 q h'; omega
                  have Z := And.intro (cell_ne (b := (v12.heap.size)) (j := 2) (cell_ne (b := (v12.heap.size)) (j := 1) (cell_ne (b := (v12.heap.size)) (j := 0) (kept_cell D16 HB0.out) (by omega) (.slice p12 c.vars.length t12)) (by omega) (.slice p16 c.arrays.length t16)) (by omega) (.slice none 0 0)) (cell_ne (b := (v12.heap.size)) (j := 2) (cell_ne (b := (v12.heap.size)) (j := 1) (cell_ne (b := (v12.heap.size)) (j := 0) (kept_cell D16 HB1.out) (by omega) (.slice p12 c.vars.length t12)) (by omega) (.slice p16 c.arrays.length t16)) (by omega) (.slice none 0 0))
                  refine wpAnyH_ready (rs := [10]) (by kernel_rfl) (by simp) ?_
                  refine AllReadyH.cons rfl (fun K hK => ?_) AllReadyH.nil
                  go_simp
                  refine hK.out _ _ Z (fun hHeld => ?_)
                  clear hK K
                  refine wpAnyH_done (by kernel_rfl) ?_ _
                  refine NoPanic.normal ?_
                  go_wp2_with fail
                  go_meet
                  exact ⟨_, _, _, _, _, rfl, x0, x1, x2, xf, by omega, by simp only [World.size_setCell]; exact kb, y0, y1, hab, nb0, nb1, tz⟩
                exact AllReadyH.nil
              exact AllReadyH.nil
            refine AllReadyH.cons rfl (fun K hK => ?_) ?_
            · -- 9
              go_simp
              obtain ⟨v17, hv⟩ : ∃ X, X = World.alloc v11 (.cells #[.slice none 0 0, .slice none 0 0, .slice none 0 0] 50) := ⟨_, rfl⟩
              rw [← hv]
              have bc0_17 : v17.cell? ⟨v11.heap.size, 0, none⟩ = some (.slice none 0 0) := by rw [hv]; exact cell_nw rfl rfl
              have bz0_17 : v17.frozen? ⟨v11.heap.size, 0, none⟩ = false := by rw [hv]; exact froz_nw rfl
              have bc1_17 : v17.cell? ⟨v11.heap.size, 1, none⟩ = some (.slice none 0 0) := by rw [hv]; exact cell_nw rfl rfl
              have bz1_17 : v17.frozen? ⟨v11.heap.size, 1, none⟩ = false := by rw [hv]; exact froz_nw rfl
              have bc2_17 : v17.cell? ⟨v11.heap.size, 2, none⟩ = some (.slice none 0 0) := by rw [hv]; exact cell_nw rfl rfl
              have bz2_17 : v17.frozen? ⟨v11.heap.size, 2, none⟩ = false := by rw [hv]; exact froz_nw rfl
              have hb : Below v11.heap.size v11 v17 := by rw [hv]; exact bal (bself _) _
              have D17 := btr D11 hb
              have s17 : v11.heap.size + 1 ≤ v17.heap.size := by rw [hv]; simp
              clear hv
              have oo0_17 := own_below oo0_11 hb
              have oo1_17 := own_below o11 hb
              clear hb
              refine hK.out _ _ ⟨kept_cell D17 HB0.out, kept_cell D17 HB1.out⟩ (fun hHeld => ?_)
              clear hK K
              refine wpAnyH_ready (rs := [3]) (by kernel_rfl) (by simp) ?_
              refine AllReadyH.cons rfl (fun K hK => ?_) ?_
              · -- 3
                refine step_aps tInts rfl _ _ rfl wd.heap.size _ 0 [] rfl oo0_17 _ _ _ rfl (r.below D17).a (one_ints c.vars) (by omega) (by omega) ?_
                intro v' v18 ho hc hn _
                simp only [Nat.zero_add, List.nil_append] at ho
                obtain ⟨p18, t18, rfl⟩ := own_shape ho
                have iv18 : ∀ q, (Value.slice p18 c.vars.length t18).ownBlock = some q → q = wd.heap.size ∨ v17.heap.size ≤ q := newor_cases hn rfl
                have iu18 := ho.lt
                have D18 := D17.trans (hc.below w4.heap.size D17.size (fun q hq h => by have e : wd.heap.size = q := Option.some.inj h; have := D17.size; omega))
                have s18 := hc.size
                have oo1_18 := own_keep oo1_17 hc (fun q h h2 => by have e1 : v1.heap.size = q := Option.some.inj h; have e2 : wd.heap.size = q := Option.some.inj h2; omega)
                have bc0_18 := chg_cell hc bc0_17 (fun h => by have e : wd.heap.size = v11.heap.size := Option.some.inj h; omega); have bz0_18 := chg_froz hc (lt_of_cell bc0_17) bz0_17 (fun h => by have e : wd.heap.size = v11.heap.size := Option.some.inj h; omega)
                have bc1_18 := chg_cell hc bc1_17 (fun h => by have e : wd.heap.size = v11.heap.size := Option.some.inj h; omega); have bz1_18 := chg_froz hc (lt_of_cell bc1_17) bz1_17 (fun h => by have e : wd.heap.size = v11.heap.size := Option.some.inj h; omega)
                have bc2_18 := chg_cell hc bc2_17 (fun h => by have e : wd.heap.size = v11.heap.size := Option.some.inj h; omega); have bz2_18 := chg_froz hc (lt_of_cell bc2_17) bz2_17 (fun h => by have e : wd.heap.size = v11.heap.size := Option.some.inj h; omega)
                have ho18 := ho; clear ho hc hn
                refine hK.out _ _ ⟨kept_cell D18 HB0.out, kept_cell D18 HB1.out⟩ (fun hHeld => ?_)
                clear hK K
                try simp only [Act.put, List.setIfInBounds_toArray]
                refine wpAnyH_ready (rs := [7]) (by kernel_rfl) (by simp) ?_
                refine AllReadyH.cons rfl (fun K hK => ?_) ?_
                · -- 7
                  refine step_aps tInts rfl _ _ rfl v1.heap.size _ 0 [] rfl oo1_18 _ _ _ rfl (r.below D18).b (one_ints c.arrays) (by omega) (by omega) ?_
                  intro v' v19 ho hc hn _
                  simp only [Nat.zero_add, List.nil_append] at ho
                  obtain ⟨p19, t19, rfl⟩ := own_shape ho
                  have iv19 : ∀ q, (Value.slice p19 c.arrays.length t19).ownBlock = some q → q = v1.heap.size ∨ v18.heap.size ≤ q := newor_cases hn rfl
                  have iu19 := ho.lt
                  have D19 := D18.trans (hc.below w4.heap.size D18.size (fun q hq h => by have e : v1.heap.size = q := Option.some.inj h; have := D18.size; omega))
                  have s19 := hc.size
                  have oo0_19 := own_keep ho18 hc (fun q h h2 => by have e2 : v1.heap.size = q := Option.some.inj h2; have := iv18 q h; have := iu18 q h; omega)
                  have bc0_19 := chg_cell hc bc0_18 (fun h => by have e : v1.heap.size = v11.heap.size := Option.some.inj h; omega); have bz0_19 := chg_froz hc (lt_of_cell bc0_18) bz0_18 (fun h => by have e : v1.heap.size = v11.heap.size := Option.some.inj h; omega)
                  have bc1_19 := chg_cell hc bc1_18 (fun h => by have e : v1.heap.size = v11.heap.size := Option.some.inj h; omega); have bz1_19 := chg_froz hc (lt_of_cell bc1_18) bz1_18 (fun h => by have e : v1.heap.size = v11.heap.size := Option.some.inj h; omega)
                  have bc2_19 := chg_cell hc bc2_18 (fun h => by have e : v1.heap.size = v11.heap.size := Option.some.inj h; omega); have bz2_19 := chg_froz hc (lt_of_cell bc2_18) bz2_18 (fun h => by have e : v1.heap.size = v11.heap.size := Option.some.inj h; omega)
                  have ho19 := ho; clear ho hc hn
                  refine hK.out _ _ ⟨kept_cell D19 HB0.out, kept_cell D19 HB1.out⟩ (fun hHeld => ?_)
                  clear hK K
                  try simp only [Act.put, List.setIfInBounds_toArray]
                  refine take_d (i := 8) (d := 37) (v := ?_) rfl rfl (by kernel_rfl) (by kernel_rfl) (by kernel_rfl) (fun _ _ _ h => h) (Or.inl ⟨by rfl, ?_⟩) (by assumption) ?_
                  rotate_left
                  · intro W' hSw; (try dsimp only at hSw); obtain ⟨s0, s1⟩ := hSw; go_simp; try with_reducible rfl
                  try simp only [Act.put, List.setIfInBounds_toArray]
                  have kb := lt_of_cell bc0_19
                  have nb0 : ∀ q, (Value.slice p18 c.vars.length t18).ownBlock = some q → ¬ q = v11.heap.size := fun q h => by have := iv18 q h; have := iu18 q h; omega
                  have y0 := (own_set (own_set (own_set (own_mono oo0_19 (base' := w4.heap.size) (by omega)) (v11.heap.size) 0 (fun h => nb0 _ h rfl) (.slice p18 c.vars.length t18)) (v11.heap.size) 1 (fun h => nb0 _ h rfl) (.slice p19 c.arrays.length t19)) (v11.heap.size) 2 (fun h => nb0 _ h rfl) (.slice none 0 0))
                  have nb1 : ∀ q, (Value.slice p19 c.arrays.length t19).ownBlock = some q → ¬ q = v11.heap.size := fun q h => by have := iv19 q h; have := iu19 q h; omega
                  have y1 := (own_set (own_set (own_set (own_mono ho19 (base' := w4.heap.size) (by omega)) (v11.heap.size) 0 (fun h => nb1 _ h rfl) (.slice p18 c.vars.length t18)) (v11.heap.size) 1 (fun h => nb1 _ h rfl) (.slice p19 c.arrays.length t19)) (v11.heap.size) 2 (fun h => nb1 _ h rfl) (.slice none 0 0))
                  have x0 := (cell_ne (b := (v11.heap.size)) (j := 2) (cell_ne (b := (v11.heap.size)) (j := 1) (cell_at _ (v11.heap.size) 0 (.slice p18 c.vars.length t18) bc0_19) (by omega) (.slice p19 c.arrays.length t19)) (by omega) (.slice none 0 0))
                  have x1 := (cell_ne (b := (v11.heap.size)) (j := 2) (cell_at _ (v11.heap.size) 1 (.slice p19 c.arrays.length t19) (cell_ne (b := (v11.heap.size)) (j := 0) bc1_19 (by omega) (.slice p18 c.vars.length t18))) (by omega) (.slice none 0 0))
                  have x2 := (cell_at _ (v11.heap.size) 2 (.slice none 0 0) (cell_ne (b := (v11.heap.size)) (j := 1) (cell_ne (b := (v11.heap.size)) (j := 0) bc2_19 (by omega) (.slice p18 c.vars.length t18)) (by omega) (.slice p19 c.arrays.length t19)))
                  have xf := (froz_st (b := ⟨(v11.heap.size), 2, none⟩) (froz_st (b := ⟨(v11.heap.size), 1, none⟩) (froz_st (b := ⟨(v11.heap.size), 0, none⟩) bz2_19 (.slice p18 c.vars.length t18)) (.slice p19 c.arrays.length t19)) (.slice none 0 0))
                  have tz := (bst (bst (bst D19 (v11.heap.size) 0 (by omega) (.slice p18 c.vars.length t18)) (v11.heap.size) 1 (by omega) (.slice p19 c.arrays.length t19)) (v11.heap.size) 2 (by omega) (.slice none 0 0))
                  have hab : ∀ q, (Value.slice p18 c.vars.length t18).ownBlock = some q → (Value.slice p19 c.arrays.length t19).ownBlock = some q → False := fun q h h' => by have := iv18 q h; have := iv19 q h'; have := iu18 q h; have := iu19 q h'; omega
                  have Z := And.intro (cell_ne (b := (v11.heap.size)) (j := 2) (cell_ne (b := (v11.heap.size)) (j := 1) (cell_ne (b := (v11.heap.size)) (j := 0) (kept_cell D19 HB0.out) (by omega) (.slice p18 c.vars.length t18)) (by omega) (.slice p19 c.arrays.length t19)) (by omega) (.slice none 0 0)) (cell_ne (b := (v11.heap.size)) (j := 2) (cell_ne (b := (v11.heap.size)) (j := 1) (cell_ne (b := (v11.heap.size)) (j := 0) (kept_cell D19 HB1.out) (by omega) (.slice p18 c.vars.length t18)) (by omega) (.slice p19 c.arrays.length t19)) (by omega) (.slice none 0 0))
                  refine wpAnyH_ready (rs := [10]) (by kernel_rfl) (by simp) ?_
                  refine AllReadyH.cons rfl (fun K hK => ?_) AllReadyH.nil
                  go_simp
                  refine hK.out _ _ Z (fun hHeld => ?_)
                  clear hK K
                  refine wpAnyH_done (by kernel_rfl) ?_ _
                  refine NoPanic.normal ?_
                  go_wp2_with fail
                  go_meet
                  exact ⟨_, _, _, _, _, rfl, x0, x1, x2, xf, by omega, by simp only [World.size_setCell]; exact kb, y0, y1, hab, nb0, nb1, tz⟩
                exact AllReadyH.nil
              exact AllReadyH.nil
            exact AllReadyH.nil
          refine AllReadyH.cons rfl (fun K hK => ?_) ?_
          · -- 9
            go_simp
            obtain ⟨v20, hv⟩ : ∃ X, X = World.alloc v1 (.cells #[.slice none 0 0, .slice none 0 0, .slice none 0 0] 50) := ⟨_, rfl⟩
            rw [← hv]
            have bc0_20 : v20.cell? ⟨v1.heap.size, 0, none⟩ = some (.slice none 0 0) := by rw [hv]; exact cell_nw rfl rfl
            have bz0_20 : v20.frozen? ⟨v1.heap.size, 0, none⟩ = false := by rw [hv]; exact froz_nw rfl
            have bc1_20 : v20.cell? ⟨v1.heap.size, 1, none⟩ = some (.slice none 0 0) := by rw [hv]; exact cell_nw rfl rfl
            have bz1_20 : v20.frozen? ⟨v1.heap.size, 1, none⟩ = false := by rw [hv]; exact froz_nw rfl
            have bc2_20 : v20.cell? ⟨v1.heap.size, 2, none⟩ = some (.slice none 0 0) := by rw [hv]; exact cell_nw rfl rfl
            have bz2_20 : v20.frozen? ⟨v1.heap.size, 2, none⟩ = false := by rw [hv]; exact froz_nw rfl
            have hb : Below v1.heap.size v1 v20 := by rw [hv]; exact bal (bself _) _
            have D20 := btr D1 hb
            have s20 : v1.heap.size + 1 ≤ v20.heap.size := by rw [hv]; simp
            clear hv
            have oo0_20 := own_below o1 hb
            clear hb
            refine hK.out _ _ ⟨kept_cell D20 HB0.out, kept_cell D20 HB1.out⟩ (fun hHeld => ?_)
            clear hK K
            refine wpAnyH_ready (rs := [3, 4]) (by kernel_rfl) (by simp) ?_
            refine AllReadyH.cons rfl (fun K hK => ?_) ?_
            · -- 3
              refine step_aps tInts rfl _ _ rfl wd.heap.size _ 0 [] rfl oo0_20 _ _ _ rfl (r.below D20).a (one_ints c.vars) (by omega) (by omega) ?_
              intro v' v21 ho hc hn _
              simp only [Nat.zero_add, List.nil_append] at ho
              obtain ⟨p21, t21, rfl⟩ := own_shape ho
              have iv21 : ∀ q, (Value.slice p21 c.vars.length t21).ownBlock = some q → q = wd.heap.size ∨ v20.heap.size ≤ q := newor_cases hn rfl
              have iu21 := ho.lt
              have D21 := D20.trans (hc.below w4.heap.size D20.size (fun q hq h => by have e : wd.heap.size = q := Option.some.inj h; have := D20.size; omega))
              have s21 := hc.size
              have bc0_21 := chg_cell hc bc0_20 (fun h => by have e : wd.heap.size = v1.heap.size := Option.some.inj h; omega); have bz0_21 := chg_froz hc (lt_of_cell bc0_20) bz0_20 (fun h => by have e : wd.heap.size = v1.heap.size := Option.some.inj h; omega)
              have bc1_21 := chg_cell hc bc1_20 (fun h => by have e : wd.heap.size = v1.heap.size := Option.some.inj h; omega); have bz1_21 := chg_froz hc (lt_of_cell bc1_20) bz1_20 (fun h => by have e : wd.heap.size = v1.heap.size := Option.some.inj h; omega)
              have bc2_21 := chg_cell hc bc2_20 (fun h => by have e : wd.heap.size = v1.heap.size := Option.some.inj h; omega); have bz2_21 := chg_froz hc (lt_of_cell bc2_20) bz2_20 (fun h => by have e : wd.heap.size = v1.heap.size := Option.some.inj h; omega)
              have ho21 := ho; clear ho hc hn
              refine hK.out _ _ ⟨kept_cell D21 HB0.out, kept_cell D21 HB1.out⟩ (fun hHeld => ?_)
              clear hK K
              try simp only [Act.put, List.setIfInBounds_toArray]
              refine wpAnyH_ready (rs := [4]) (by kernel_rfl) (by simp) ?_
              refine AllReadyH.cons rfl (fun K hK => ?_) ?_
              · -- 4
                go_simp
                obtain ⟨v22, hv⟩ : ∃ X, X = World.alloc v21 (.cells #[] 3) := ⟨_, rfl⟩
                rw [← hv]
                have o22 : v22.ownsRow v21.heap.size 3 1 (.slice (some ⟨v21.heap.size, 0, none⟩) 0 0) 0 [] := by rw [hv]; exact own_nil_rows _ _ _
                have hb : Below v21.heap.size v21 v22 := by rw [hv]; exact bal (bself _) _
                have D22 := btr D21 hb
                have s22 : v21.heap.size + 1 ≤ v22.heap.size := by rw [hv]; simp
                clear hv
                have oo0_22 := own_below ho21 hb
                have bc0_22 := kept_cell hb bc0_21; have bz0_22 := kept_froz hb (lt_of_cell bc0_21) bz0_21
                have bc1_22 := kept_cell hb bc1_21; have bz1_22 := kept_froz hb (lt_of_cell bc1_21) bz1_21
                have bc2_22 := kept_cell hb bc2_21; have bz2_22 := kept_froz hb (lt_of_cell bc2_21) bz2_21
                clear hb
                refine hK.out _ _ ⟨kept_cell D22 HB0.out, kept_cell D22 HB1.out⟩ (fun hHeld => ?_)
                clear hK K
                refine wpAnyH_ready (rs := [7]) (by kernel_rfl) (by simp) ?_
                refine AllReadyH.cons rfl (fun K hK => ?_) ?_
                · -- 7
                  refine step_aps tInts rfl _ _ rfl v21.heap.size _ 0 [] rfl o22 _ _ _ rfl (r.below D22).b (one_ints c.arrays) (by omega) (by omega) ?_
                  intro v' v23 ho hc hn _
                  simp only [Nat.zero_add, List.nil_append] at ho
                  obtain ⟨p23, t23, rfl⟩ := own_shape ho
                  have iv23 : ∀ q, (Value.slice p23 c.arrays.length t23).ownBlock = some q → q = v21.heap.size ∨ v22.heap.size ≤ q := newor_cases hn rfl
                  have iu23 := ho.lt
                  have D23 := D22.trans (hc.below w4.heap.size D22.size (fun q hq h => by have e : v21.heap.size = q := Option.some.inj h; have := D22.size; omega))
                  have s23 := hc.size
                  have oo0_23 := own_keep oo0_22 hc (fun q h h2 => by have e2 : v21.heap.size = q := Option.some.inj h2; have := iv21 q h; have := iu21 q h; omega)
                  have bc0_23 := chg_cell hc bc0_22 (fun h => by have e : v21.heap.size = v1.heap.size := Option.some.inj h; omega); have bz0_23 := chg_froz hc (lt_of_cell bc0_22) bz0_22 (fun h => by have e : v21.heap.size = v1.heap.size := Option.some.inj h; omega)
                  have bc1_23 := chg_cell hc bc1_22 (fun h => by have e : v21.heap.size = v1.heap.size := Option.some.inj h; omega); have bz1_23 := chg_froz hc (lt_of_cell bc1_22) bz1_22 (fun h => by have e : v21.heap.size = v1.heap.size := Option.some.inj h; omega)
                  have bc2_23 := chg_cell hc bc2_22 (fun h => by have e : v21.heap.size = v1.heap.size := Option.some.inj h; omega); have bz2_23 := chg_froz hc (lt_of_cell bc2_22) bz2_22 (fun h => by have e : v21.heap.size = v1.heap.size := Option.some.inj h; omega)
                  have ho23 := ho; clear ho hc hn
                  refine hK.out _ _ ⟨kept_cell D23 HB0.out, kept_cell D23 HB1.out⟩ (fun hHeld => ?_)
                  clear hK K
                  try simp only [Act.put, List.setIfInBounds_toArray]
                  refine take_d (i := 8) (d := 37) (v := ?_) rfl rfl (by kernel_rfl) (by kernel_rfl) (by kernel_rfl) (fun _ _ _ h => h) (Or.inl ⟨by rfl, ?_⟩) (by assumption) ?_
                  rotate_left
                  · intro W' hSw; (try dsimp only at hSw); obtain ⟨s0, s1⟩ := hSw; go_simp; try with_reducible rfl
                  try simp only [Act.put, List.setIfInBounds_toArray]
                  have kb := lt_of_cell bc0_23
                  have nb0 : ∀ q, (Value.slice p21 c.vars.length t21).ownBlock = some q → ¬ q = v1.heap.size := fun q h => by have := iv21 q h; have := iu21 q h; omega
                  have y0 := (own_set (own_set (own_set (own_mono oo0_23 (base' := w4.heap.size) (by omega)) (v1.heap.size) 0 (fun h => nb0 _ h rfl) (.slice p21 c.vars.length t21)) (v1.heap.size) 1 (fun h => nb0 _ h rfl) (.slice p23 c.arrays.length t23)) (v1.heap.size) 2 (fun h => nb0 _ h rfl) (.slice none 0 0))
                  have nb1 : ∀ q, (Value.slice p23 c.arrays.length t23).ownBlock = some q → ¬ q = v1.heap.size := fun q h => by have := iv23 q h; have := iu23 q h; omega
                  have y1 := (own_set (own_set (own_set (own_mono ho23 (base' := w4.heap.size) (by omega)) (v1.heap.size) 0 (fun h => nb1 _ h rfl) (.slice p21 c.vars.length t21)) (v1.heap.size) 1 (fun h => nb1 _ h rfl) (.slice p23 c.arrays.length t23)) (v1.heap.size) 2 (fun h => nb1 _ h rfl) (.slice none 0 0))
                  have x0 := (cell_ne (b := (v1.heap.size)) (j := 2) (cell_ne (b := (v1.heap.size)) (j := 1) (cell_at _ (v1.heap.size) 0 (.slice p21 c.vars.length t21) bc0_23) (by omega) (.slice p23 c.arrays.length t23)) (by omega) (.slice none 0 0))
                  have x1 := (cell_ne (b := (v1.heap.size)) (j := 2) (cell_at _ (v1.heap.size) 1 (.slice p23 c.arrays.length t23) (cell_ne (b := (v1.heap.size)) (j := 0) bc1_23 (by omega) (.slice p21 c.vars.length t21))) (by omega) (.slice none 0 0))
                  have x2 := (cell_at _ (v1.heap.size) 2 (.slice none 0 0) (cell_ne (b := (v1.heap.size)) (j := 1) (cell_ne (b := (v1.heap.size)) (j := 0) bc2_23 (by omega) (.slice p21 c.vars.length t21)) (by omega) (.slice p23 c.arrays.length t23)))
                  have xf := (froz_st (b := ⟨(v1.heap.size), 2, none⟩) (froz_st (b := ⟨(v1.heap.size), 1, none⟩) (froz_st (b := ⟨(v1.heap.size), 0, none⟩) bz2_23 (.slice p21 c.vars.length t21)) (.slice p23 c.arrays.length t23)) (.slice none 0 0))
                  have tz := (bst (bst (bst D23 (v1.heap.size) 0 (by omega) (.slice p21 c.vars.length t21)) (v1.heap.size) 1 (by omega) (.slice p23 c.arrays.length t23)) (v1.heap.size) 2 (by omega) (.slice none 0 0))
                  have hab : ∀ q, (Value.slice p21 c.vars.length t21).ownBlock = some q → (Value.slice p23 c.arrays.length t23).ownBlock = some q → False := fun q h h' => by have := iv21 q h; have := iv23 q h'; have := iu21 q h; have := iu23 q h'; omega
                  have Z := And.intro (cell_ne (b := (v1.heap.size)) (j := 2) (cell_ne (b := (v1.heap.size)) (j := 1) (cell_ne (b := (v1.heap.size)) (j := 0) (kept_cell D23 HB0.out) (by omega) (.slice p21 c.vars.length t21)) (by omega) (.slice p23 c.arrays.length t23)) (by omega) (.slice none 0 0)) (cell_ne (b := (v1.heap.size)) (j := 2) (cell_ne (b := (v1.heap.size)) (j := 1) (cell_ne (b := (v1.heap.size)) (j := 0) (kept_cell D23 HB1.out) (by omega) (.slice p21 c.vars.length t21)) (by omega) (.slice p23 c.arrays.length t23)) (by omega) (.slice none 0 0))
                  refine wpAnyH_ready (rs := [10]) (by kernel_rfl) (by simp) ?_
                  refine AllReadyH.cons rfl (fun K hK => ?_) AllReadyH.nil
                  go_simp
                  refine hK.out _ _ Z (fun hHeld => ?_)
                  clear hK K
                  refine wpAnyH_done (by kernel_rfl) ?_ _
                  refine NoPanic.normal ?_
                  go_wp2_with fail
                  go_meet
                  exact ⟨_, _, _, _, _, rfl, x0, x1, x2, xf, by omega, by simp only [World.size_setCell]; exact kb, y0, y1, hab, nb0, nb1, tz⟩
                exact AllReadyH.nil
              exact AllReadyH.nil
            refine AllReadyH.cons rfl (fun K hK => ?_) ?_
            · -- 4
              go_simp
              obtain ⟨v24, hv⟩ : ∃ X, X = World.alloc v20 (.cells #[] 3) := ⟨_, rfl⟩
              rw [← hv]
              have o24 : v24.ownsRow v20.heap.size 3 1 (.slice (some ⟨v20.heap.size, 0, none⟩) 0 0) 0 [] := by rw [hv]; exact own_nil_rows _ _ _
              have hb : Below v20.heap.size v20 v24 := by rw [hv]; exact bal (bself _) _
              have D24 := btr D20 hb
              have s24 : v20.heap.size + 1 ≤ v24.heap.size := by rw [hv]; simp
              clear hv
              have oo0_24 := own_below oo0_20 hb
              have bc0_24 := kept_cell hb bc0_20; have bz0_24 := kept_froz hb (lt_of_cell bc0_20) bz0_20
              have bc1_24 := kept_cell hb bc1_20; have bz1_24 := kept_froz hb (lt_of_cell bc1_20) bz1_20
              have bc2_24 := kept_cell hb bc2_20; have bz2_24 := kept_froz hb (lt_of_cell bc2_20) bz2_20
              clear hb
              refine hK.out _ _ ⟨kept_cell D24 HB0.out, kept_cell D24 HB1.out⟩ (fun hHeld => ?_)
              clear hK K
              refine wpAnyH_ready (rs := [3]) (by kernel_rfl) (by simp) ?_
              refine AllReadyH.cons rfl (fun K hK => ?_) ?_
              · -- 3
                refine step_aps tInts rfl _ _ rfl wd.heap.size _ 0 [] rfl oo0_24 _ _ _ rfl (r.below D24).a (one_ints c.vars) (by omega) (by omega) ?_
                intro v' v25 ho hc hn _
                simp only [Nat.zero_add, List.nil_append] at ho
                obtain ⟨p25, t25, rfl⟩ := own_shape ho
                have iv25 : ∀ q, (Value.slice p25 c.vars.length t25).ownBlock = some q → q = wd.heap.size ∨ v24.heap.size ≤ q := newor_cases hn rfl
                have iu25 := ho.lt
                have D25 := D24.trans (hc.below w4.heap.size D24.size (fun q hq h => by have e : wd.heap.size = q := Option.some.inj h; have := D24.size; omega))
                have s25 := hc.size
                have oo1_25 := own_keep o24 hc (fun q h h2 => by have e1 : v20.heap.size = q := Option.some.inj h; have e2 : wd.heap.size = q := Option.some.inj h2; omega)
                have bc0_25 := chg_cell hc bc0_24 (fun h => by have e : wd.heap.size = v1.heap.size := Option.some.inj h; omega); have bz0_25 := chg_froz hc (lt_of_cell bc0_24) bz0_24 (fun h => by have e : wd.heap.size = v1.heap.size := Option.some.inj h; omega)
                have bc1_25 := chg_cell hc bc1_24 (fun h => by have e : wd.heap.size = v1.heap.size := Option.some.inj h; omega); have bz1_25 := chg_froz hc (lt_of_cell bc1_24) bz1_24 (fun h => by have e : wd.heap.size = v1.heap.size := Option.some.inj h; omega)
                have bc2_25 := chg_cell hc bc2_24 (fun h => by have e : wd.heap.size = v1.heap.size := Option.some.inj h; omega); have bz2_25 := chg_froz hc (lt_of_cell bc2_24) bz2_24 (fun h => by have e : wd.heap.size = v1.heap.size := Option.some.inj h; omega)
                have ho25 := ho; clear ho hc hn
                refine hK.out _ _ ⟨kept_cell D25 HB0.out, kept_cell D25 HB1.out⟩ (fun hHeld => ?_)
                clear hK K
                try simp only [Act.put, List.setIfInBounds_toArray]
                refine wpAnyH_ready (rs := [7]) (by kernel_rfl) (by simp) ?_
                refine AllReadyH.cons rfl (fun K hK => ?_) ?_
                · -- 7
                  refine step_aps tInts rfl _ _ rfl v20.heap.size _ 0 [] rfl oo1_25 _ _ _ rfl (r.below D25).b (one_ints c.arrays) (by omega) (by omega) ?_
                  intro v' v26 ho hc hn _
                  simp only [Nat.zero_add, List.nil_append] at ho
                  obtain ⟨p26, t26, rfl⟩ := own_shape ho
                  have iv26 : ∀ q, (Value.slice p26 c.arrays.length t26).ownBlock = some q → q = v20.heap.size ∨ v25.heap.size ≤ q := newor_cases hn rfl
                  have iu26 := ho.lt
                  have D26 := D25.trans (hc.below w4.heap.size D25.size (fun q hq h => by have e : v20.heap.size = q := Option.some.inj h; have := D25.size; omega))
                  have s26 := hc.size
                  have oo0_26 := own_keep ho25 hc (fun q h h2 => by have e2 : v20.heap.size = q := Option.some.inj h2; have := iv25 q h; have := iu25 q h; omega)
                  have bc0_26 := chg_cell hc bc0_25 (fun h => by have e : v20.heap.size = v1.heap.size := Option.some.inj h; omega); have bz0_26 := chg_froz hc (lt_of_cell bc0_25) bz0_25 (fun h => by have e : v20.heap.size = v1.heap.size := Option.some.inj h; omega)
                  have bc1_26 := chg_cell hc bc1_25 (fun h => by have e : v20.heap.size = v1.heap.size := Option.some.inj h; omega); have bz1_26 := chg_froz hc (lt_of_cell bc1_25) bz1_25 (fun h => by have e : v20.heap.size = v1.heap.size := Option.some.inj h; omega)
                  have bc2_26 := chg_cell hc bc2_25 (fun h => by have e : v20.heap.size = v1.heap.size := Option.some.inj h; omega); have bz2_26 := chg_froz hc (lt_of_cell bc2_25) bz2_25 (fun h => by have e : v20.heap.size = v1.heap.size := Option.some.inj h; omega)
                  have ho26 := ho; clear ho hc hn
                  refine hK.out _ _ ⟨kept_cell D26 HB0.out, kept_cell D26 HB1.out⟩ (fun hHeld => ?_)
                  clear hK K
                  try simp only [Act.put, List.setIfInBounds_toArray]
                  refine take_d (i := 8) (d := 37) (v := ?_) rfl rfl (by kernel_rfl) (by kernel_rfl) (by kernel_rfl) (fun _ _ _ h => h) (Or.inl ⟨by rfl, ?_⟩) (by assumption) ?_
                  rotate_left
                  · intro W' hSw; (try dsimp only at hSw); obtain ⟨s0, s1⟩ := hSw; go_simp; try with_reducible rfl
                  try simp only [Act.put, List.setIfInBounds_toArray]
                  have kb := lt_of_cell bc0_26
                  have nb0 : ∀ q, (Value.slice p25 c.vars.length t25).ownBlock = some q → ¬ q = v1.heap.size := fun q h => by have := iv25 q h; have := iu25 q h; omega
                  have y0 := (own_set (own_set (own_set (own_mono oo0_26 (base' := w4.heap.size) (by omega)) (v1.heap.size) 0 (fun h => nb0 _ h rfl) (.slice p25 c.vars.length t25)) (v1.heap.size) 1 (fun h => nb0 _ h rfl) (.slice p26 c.arrays.length t26)) (v1.heap.size) 2 (fun h => nb0 _ h rfl) (.slice none 0 0))
                  have nb1 : ∀ q, (Value.slice p26 c.arrays.length t26).ownBlock = some q → ¬ q = v1.heap.size := fun q h => by have := iv26 q h; have := iu26 q h; omega
                  have y1 := (own_set (own_set (own_set (own_mono ho26 (base' := w4.heap.size) (by omega)) (v1.heap.size) 0 (fun h => nb1 _ h rfl) (.slice p25 c.vars.length t25)) (v1.heap.size) 1 (fun h => nb1 _ h rfl) (.slice p26 c.arrays.length t26)) (v1.heap.size) 2 (fun h => nb1 _ h rfl) (.slice none 0 0))
                  have x0 := (cell_ne (b := (v1.heap.size)) (j := 2) (cell_ne (b := (v1.heap.size)) (j := 1) (cell_at _ (v1.heap.size) 0 (.slice p25 c.vars.length t25) bc0_26) (by omega) (.slice p26 c.arrays.length t26)) (by omega) (.slice none 0 0))
                  have x1 := (cell_ne (b := (v1.heap.size)) (j := 2) (cell_at _ (v1.heap.size) 1 (.slice p26 c.arrays.length t26) (cell_ne (b := (v1.heap.size)) (j := 0) bc1_26 (by omega) (.slice p25 c.vars.length t25))) (by omega) (.slice none 0 0))
                  have x2 := (cell_at _ (v1.heap.size) 2 (.slice none 0 0) (cell_ne (b := (v1.heap.size)) (j := 1) (cell_ne (b := (v1.heap.size)) (j := 0) bc2_26 (by omega) (.slice p25 c.vars.length t25)) (by omega) (.slice p26 c.arrays.length t26)))
                  have xf := (froz_st (b := ⟨(v1.heap.size), 2, none⟩) (froz_st (b := ⟨(v1.heap.size), 1, none⟩) (froz_st (b := ⟨(v1.heap.size), 0, none⟩) bz2_26 (.slice p25 c.vars.length t25)) (.slice p26 c.arrays.length t26)) (.slice none 0 0))
                  have tz := (bst (bst (bst D26 (v1.heap.size) 0 (by omega) (.slice p25 c.vars.length t25)) (v1.heap.size) 1 (by omega) (.slice p26 c.arrays.length t26)) (v1.heap.size) 2 (by omega) (.slice none 0 0))
                  have hab : ∀ q, (Value.slice p25 c.vars.length t25).ownBlock = some q → (Value.slice p26 c.arrays.length t26).ownBlock = some q → False := fun q h h' => by have := iv25 q h; have := iv26 q h'; have := iu25 q h; have := iu26 q h'; omega
                  have Z := And.intro (cell_ne (b := (v1.heap.size)) (j := 2) (cell_ne (b := (v1.heap.size)) (j := 1) (cell_ne (b := (v1.heap.size)) (j := 0) (kept_cell D26 HB0.out) (by omega) (.slice p25 c.vars.length t25)) (by omega) (.slice p26 c.arrays.length t26)) (by omega) (.slice none 0 0)) (cell_ne (b := (v1.heap.size)) (j := 2) (cell_ne (b := (v1.heap.size)) (j := 1) (cell_ne (b := (v1.heap.size)) (j := 0) (kept_cell D26 HB1.out) (by omega) (.slice p25 c.vars.length t25)) (by omega) (.slice p26 c.arrays.length t26)) (by omega) (.slice none 0 0))
                  refine wpAnyH_ready (rs := [10]) (by kernel_rfl) (by simp) ?_
                  refine AllReadyH.cons rfl (fun K hK => ?_) AllReadyH.nil
                  go_simp
                  refine hK.out _ _ Z (fun hHeld => ?_)
                  clear hK K
                  refine wpAnyH_done (by kernel_rfl) ?_ _
                  refine NoPanic.normal ?_
                  go_wp2_with fail
                  go_meet
                  exact ⟨_, _, _, _, _, rfl, x0, x1, x2, xf, by omega, by simp only [World.size_setCell]; exact kb, y0, y1, hab, nb0, nb1, tz⟩
                exact AllReadyH.nil
              exact AllReadyH.nil
            exact AllReadyH.nil
          exact AllReadyH.nil
        refine AllReadyH.cons rfl (fun K hK => ?_) ?_
        · -- 4
          go_simp
          obtain ⟨v27, hv⟩ : ∃ X, X = World.alloc wd (.cells #[] 3) := ⟨_, rfl⟩
          rw [← hv]
          have o27 : v27.ownsRow wd.heap.size 3 1 (.slice (some ⟨wd.heap.size, 0, none⟩) 0 0) 0 [] := by rw [hv]; exact own_nil_rows _ _ _
          have hb : Below wd.heap.size wd v27 := by rw [hv]; exact bal (bself _) _
          have D27 := btr D hb
          have s27 : wd.heap.size + 1 ≤ v27.heap.size := by rw [hv]; simp
          clear hv
          clear hb
          refine hK.out _ _ ⟨kept_cell D27 HB0.out, kept_cell D27 HB1.out⟩ (fun hHeld => ?_)
          clear hK K
          refine wpAnyH_ready (rs := [0, 9]) (by kernel_rfl) (by simp) ?_
          refine AllReadyH.cons rfl (fun K hK => ?_) ?_
          · -- 0
            go_simp
            obtain ⟨v28, hv⟩ : ∃ X, X = World.alloc v27 (.cells #[] 3) := ⟨_, rfl⟩
            rw [← hv]
            have o28 : v28.ownsRow v27.heap.size 3 1 (.slice (some ⟨v27.heap.size, 0, none⟩) 0 0) 0 [] := by rw [hv]; exact own_nil_rows _ _ _
            have hb : Below v27.heap.size v27 v28 := by rw [hv]; exact bal (bself _) _
            have D28 := btr D27 hb
            have s28 : v27.heap.size + 1 ≤ v28.heap.size := by rw [hv]; simp
            clear hv
            have oo1_28 := own_below o27 hb
            clear hb
            refine hK.out _ _ ⟨kept_cell D28 HB0.out, kept_cell D28 HB1.out⟩ (fun hHeld => ?_)
            clear hK K
            refine wpAnyH_ready (rs := [3, 9]) (by kernel_rfl) (by simp) ?_
            refine AllReadyH.cons rfl (fun K hK => ?_) ?_
            · -- 3
              refine step_aps tInts rfl _ _ rfl v27.heap.size _ 0 [] rfl o28 _ _ _ rfl (r.below D28).a (one_ints c.vars) (by omega) (by omega) ?_
              intro v' v29 ho hc hn _
              simp only [Nat.zero_add, List.nil_append] at ho
              obtain ⟨p29, t29, rfl⟩ := own_shape ho
              have iv29 : ∀ q, (Value.slice p29 c.vars.length t29).ownBlock = some q → q = v27.heap.size ∨ v28.heap.size ≤ q := newor_cases hn rfl
              have iu29 := ho.lt
              have D29 := D28.trans (hc.below w4.heap.size D28.size (fun q hq h => by have e : v27.heap.size = q := Option.some.inj h; have := D28.size; omega))
              have s29 := hc.size
              have oo1_29 := own_keep oo1_28 hc (fun q h h2 => by have e1 : wd.heap.size = q := Option.some.inj h; have e2 : v27.heap.size = q := Option.some.inj h2; omega)
              have ho29 := ho; clear ho hc hn
              refine hK.out _ _ ⟨kept_cell D29 HB0.out, kept_cell D29 HB1.out⟩ (fun hHeld => ?_)
              clear hK K
              try simp only [Act.put, List.setIfInBounds_toArray]
              refine wpAnyH_ready (rs := [7, 9]) (by kernel_rfl) (by simp) ?_
              refine AllReadyH.cons rfl (fun K hK => ?_) ?_
              · -- 7
                refine step_aps tInts rfl _ _ rfl wd.heap.size _ 0 [] rfl oo1_29 _ _ _ rfl (r.below D29).b (one_ints c.arrays) (by omega) (by omega) ?_
                intro v' v30 ho hc hn _
                simp only [Nat.zero_add, List.nil_append] at ho
                obtain ⟨p30, t30, rfl⟩ := own_shape ho
                have iv30 : ∀ q, (Value.slice p30 c.arrays.length t30).ownBlock = some q → q = wd.heap.size ∨ v29.heap.size ≤ q := newor_cases hn rfl
                have iu30 := ho.lt
                have D30 := D29.trans (hc.below w4.heap.size D29.size (fun q hq h => by have e : wd.heap.size = q := Option.some.inj h; have := D29.size; omega))
                have s30 := hc.size
                have oo0_30 := own_keep ho29 hc (fun q h h2 => by have e2 : wd.heap.size = q := Option.some.inj h2; have := iv29 q h; have := iu29 q h; omega)
                have ho30 := ho; clear ho hc hn
                refine hK.out _ _ ⟨kept_cell D30 HB0.out, kept_cell D30 HB1.out⟩ (fun hHeld => ?_)
                clear hK K
                try simp only [Act.put, List.setIfInBounds_toArray]
                refine take_d (i := 8) (d := 37) (v := ?_) rfl rfl (by kernel_rfl) (by kernel_rfl) (by kernel_rfl) (fun _ _ _ h => h) (Or.inl ⟨by rfl, ?_⟩) (by assumption) ?_
                rotate_left
                · intro W' hSw; (try dsimp only at hSw); obtain ⟨s0, s1⟩ := hSw; go_simp; try with_reducible rfl
                try simp only [Act.put, List.setIfInBounds_toArray]
                refine wpAnyH_ready (rs := [9]) (by kernel_rfl) (by simp) ?_
                refine AllReadyH.cons rfl (fun K hK => ?_) ?_
                · -- 9
                  go_simp
                  obtain ⟨v31, hv⟩ : ∃ X, X = World.alloc v30 (.cells #[.slice none 0 0, .slice none 0 0, .slice none 0 0] 50) := ⟨_, rfl⟩
                  rw [← hv]
                  have bc0_31 : v31.cell? ⟨v30.heap.size, 0, none⟩ = some (.slice none 0 0) := by rw [hv]; exact cell_nw rfl rfl
                  have bz0_31 : v31.frozen? ⟨v30.heap.size, 0, none⟩ = false := by rw [hv]; exact froz_nw rfl
                  have bc1_31 : v31.cell? ⟨v30.heap.size, 1, none⟩ = some (.slice none 0 0) := by rw [hv]; exact cell_nw rfl rfl
                  have bz1_31 : v31.frozen? ⟨v30.heap.size, 1, none⟩ = false := by rw [hv]; exact froz_nw rfl
                  have bc2_31 : v31.cell? ⟨v30.heap.size, 2, none⟩ = some (.slice none 0 0) := by rw [hv]; exact cell_nw rfl rfl
                  have bz2_31 : v31.frozen? ⟨v30.heap.size, 2, none⟩ = false := by rw [hv]; exact froz_nw rfl
                  have hb : Below v30.heap.size v30 v31 := by rw [hv]; exact bal (bself _) _
                  have D31 := btr D30 hb
                  have s31 : v30.heap.size + 1 ≤ v31.heap.size := by rw [hv]; simp
                  clear hv
                  have oo0_31 := own_below oo0_30 hb
                  have oo1_31 := own_below ho30 hb
                  clear hb
                  refine hK.out _ _ ⟨kept_cell D31 HB0.out, kept_cell D31 HB1.out⟩ (fun hHeld => ?_)
                  clear hK K
                  have kb := lt_of_cell bc0_31
                  have nb0 : ∀ q, (Value.slice p29 c.vars.length t29).ownBlock = some q → ¬ q = v30.heap.size := fun q h => by have := iv29 q h; have := iu29 q h; omega
                  have y0 := (own_set (own_set (own_set (own_mono oo0_31 (base' := w4.heap.size) (by omega)) (v30.heap.size) 0 (fun h => nb0 _ h rfl) (.slice p29 c.vars.length t29)) (v30.heap.size) 1 (fun h => nb0 _ h rfl) (.slice p30 c.arrays.length t30)) (v30.heap.size) 2 (fun h => nb0 _ h rfl) (.slice none 0 0))
                  have nb1 : ∀ q, (Value.slice p30 c.arrays.length t30).ownBlock = some q → ¬ q = v30.heap.size := fun q h => by have := iv30 q h; have := iu30 q h; omega
                  have y1 := (own_set (own_set (own_set (own_mono oo1_31 (base' := w4.heap.size) (by omega)) (v30.heap.size) 0 (fun h => nb1 _ h rfl) (.slice p29 c.vars.length t29)) (v30.heap.size) 1 (fun h => nb1 _ h rfl) (.slice p30 c.arrays.length t30)) (v30.heap.size) 2 (fun h => nb1 _ h rfl) (.slice none 0 0))
                  have x0 := (cell_ne (b := (v30.heap.size)) (j := 2) (cell_ne (b := (v30.heap.size)) (j := 1) (cell_at _ (v30.heap.size) 0 (.slice p29 c.vars.length t29) bc0_31) (by omega) (.slice p30 c.arrays.length t30)) (by omega) (.slice none 0 0))
                  have x1 := (cell_ne (b := (v30.heap.size)) (j := 2) (cell_at _ (v30.heap.size) 1 (.slice p30 c.arrays.length t30) (cell_ne (b := (v30.heap.size)) (j := 0) bc1_31 (by omega) (.slice p29 c.vars.length t29))) (by omega) (.slice none 0 0))
                  have x2 := (cell_at _ (v30.heap.size) 2 (.slice none 0 0) (cell_ne (b := (v30.heap.size)) (j := 1) (cell_ne (b := (v30.heap.size)) (j := 0) bc2_31 (by omega) (.slice p29 c.vars.length t29)) (by omega) (.slice p30 c.arrays.length t30)))
                  have xf := (froz_st (b := ⟨(v30.heap.size), 2, none⟩) (froz_st (b := ⟨(v30.heap.size), 1, none⟩) (froz_st (b := ⟨(v30.heap.size), 0, none⟩) bz2_31 (.slice p29 c.vars.length t29)) (.slice p30 c.arrays.length t30)) (.slice none 0 0))
                  have tz := (bst (bst (bst D31 (v30.heap.size) 0 (by omega) (.slice p29 c.vars.length t29)) (v30.heap.size) 1 (by omega) (.slice p30 c.arrays.length t30)) (v30.heap.size) 2 (by omega) (.slice none 0 0))
                  have hab : ∀ q, (Value.slice p29 c.vars.length t29).ownBlock = some q → (Value.slice p30 c.arrays.length t30).ownBlock = some q → False := fun q h h' => by have := iv29 q h; have := iv30 q h'; have := iu29 q h; have := iu30 q h'; omega
                  have Z := And.intro (cell_ne (b := (v30.heap.size)) (j := 2) (cell_ne (b := (v30.heap.size)) (j := 1) (cell_ne (b := (v30.heap.size)) (j := 0) (kept_cell D31 HB0.out) (by omega) (.slice p29 c.vars.length t29)) (by omega) (.slice p30 c.arrays.length t30)) (by omega) (.slice none 0 0)) (cell_ne (b := (v30.heap.size)) (j := 2) (cell_ne (b := (v30.heap.size)) (j := 1) (cell_ne (b := (v30.heap.size)) (j := 0) (kept_cell D31 HB1.out) (by omega) (.slice p29 c.vars.length t29)) (by omega) (.slice p30 c.arrays.length t30)) (by omega) (.slice none 0 0))
                  refine wpAnyH_ready (rs := [10]) (by kernel_rfl) (by simp) ?_
                  refine AllReadyH.cons rfl (fun K hK => ?_) AllReadyH.nil
                  go_simp
                  refine hK.out _ _ Z (fun hHeld => ?_)
                  clear hK K
                  refine wpAnyH_done (by kernel_rfl) ?_ _
                  refine NoPanic.normal ?_
                  go_wp2_with fail
                  go_meet
                  exact ⟨_, _, _, _, _, rfl, x0, x1, x2, xf, by omega, by simp only [World.size_setCell]; exact kb, y0, y1, hab, nb0, nb1, tz⟩
                exact AllReadyH.nil
              refine AllReadyH.cons rfl (fun K hK => ?_) ?_
              · -- 9
                go_simp
                obtain ⟨v32, hv⟩ : ∃ X, X = World.alloc v29 (.cells #[.slice none 0 0, .slice none 0 0, .slice none 0 0] 50) := ⟨_, rfl⟩
                rw [← hv]
                have bc0_32 : v32.cell? ⟨v29.heap.size, 0, none⟩ = some (.slice none 0 0) := by rw [hv]; exact cell_nw rfl rfl
                have bz0_32 : v32.frozen? ⟨v29.heap.size, 0, none⟩ = false := by rw [hv]; exact froz_nw rfl
                have bc1_32 : v32.cell? ⟨v29.heap.size, 1, none⟩ = some (.slice none 0 0) := by rw [hv]; exact cell_nw rfl rfl
                have bz1_32 : v32.frozen? ⟨v29.heap.size, 1, none⟩ = false := by rw [hv]; exact froz_nw rfl
                have bc2_32 : v32.cell? ⟨v29.heap.size, 2, none⟩ = some (.slice none 0 0) := by rw [hv]; exact cell_nw rfl rfl
                have bz2_32 : v32.frozen? ⟨v29.heap.size, 2, none⟩ = false := by rw [hv]; exact froz_nw rfl
                have hb : Below v29.heap.size v29 v32 := by rw [hv]; exact bal (bself _) _
                have D32 := btr D29 hb
                have s32 : v29.heap.size + 1 ≤ v32.heap.size := by rw [hv]; simp
                clear hv
                have oo0_32 := own_below ho29 hb
                have oo1_32 := own_below oo1_29 hb
                clear hb
                refine hK.out _ _ ⟨kept_cell D32 HB0.out, kept_cell D32 HB1.out⟩ (fun hHeld => ?_)
                clear hK K
                refine wpAnyH_ready (rs := [7]) (by kernel_rfl) (by simp) ?_
                refine AllReadyH.cons rfl (fun K hK => ?_) ?_
                · -- 7
                  refine step_aps tInts rfl _ _ rfl wd.heap.size _ 0 [] rfl oo1_32 _ _ _ rfl (r.below D32).b (one_ints c.arrays) (by omega) (by omega) ?_
                  intro v' v33 ho hc hn _
                  simp only [Nat.zero_add, List.nil_append] at ho
                  obtain ⟨p33, t33, rfl⟩ := own_shape ho
                  have iv33 : ∀ q, (Value.slice p33 c.arrays.length t33).ownBlock = some q → q = wd.heap.size ∨ v32.heap.size ≤ q := newor_cases hn rfl
                  have iu33 := ho.lt
                  have D33 := D32.trans (hc.below w4.heap.size D32.size (fun q hq h => by have e : wd.heap.size = q := Option.some.inj h; have := D32.size; omega))
                  have s33 := hc.size
                  have oo0_33 := own_keep oo0_32 hc (fun q h h2 => by have e2 : wd.heap.size = q := Option.some.inj h2; have := iv29 q h; have := iu29 q h; omega)
                  have bc0_33 := chg_cell hc bc0_32 (fun h => by have e : wd.heap.size = v29.heap.size := Option.some.inj h; omega); have bz0_33 := chg_froz hc (lt_of_cell bc0_32) bz0_32 (fun h => by have e : wd.heap.size = v29.heap.size := Option.some.inj h; omega)
                  have bc1_33 := chg_cell hc bc1_32 (fun h => by have e : wd.heap.size = v29.heap.size := Option.some.inj h; omega); have bz1_33 := chg_froz hc (lt_of_cell bc1_32) bz1_32 (fun h => by have e : wd.heap.size = v29.heap.size := Option.some.inj h; omega)
                  have bc2_33 := chg_cell hc bc2_32 (fun h => by have e : wd.heap.size = v29.heap.size := Option.some.inj h; omega); have bz2_33 := chg_froz hc (lt_of_cell bc2_32) bz2_32 (fun h => by have e : wd.heap.size = v29.heap.size := Option.some.inj h; omega)
                  have ho33 := ho; clear ho hc hn
                  refine hK.out _ _ ⟨kept_cell D33 HB0.out, kept_cell D33 HB1.out⟩ (fun hHeld => ?_)
                  clear hK K
                  try simp only [Act.put, List.setIfInBounds_toArray]
                  refine take_d (i := 8) (d := 37) (v := ?_) rfl rfl (by kernel_rfl) (by kernel_rfl) (by kernel_rfl) (fun _ _ _ h => h) (Or.inl ⟨by rfl, ?_⟩) (by assumption) ?_
                  rotate_left
                  · intro W' hSw; (try dsimp only at hSw); obtain ⟨s0, s1⟩ := hSw; go_simp; try with_reducible rfl
                  try simp only [Act.put, List.setIfInBounds_toArray]
                  have kb := lt_of_cell bc0_33
                  have nb0 : ∀ q, (Value.slice p29 c.vars.length t29).ownBlock = some q → ¬ q = v29.heap.size := fun q h => by have := iv29 q h; have := iu29 q h; omega
                  have y0 := (own_set (own_set (own_set (own_mono oo0_33 (base' := w4.heap.size) (by omega)) (v29.heap.size) 0 (fun h => nb0 _ h rfl) (.slice p29 c.vars.length t29)) (v29.heap.size) 1 (fun h => nb0 _ h rfl) (.slice p33 c.arrays.length t33)) (v29.heap.size) 2 (fun h => nb0 _ h rfl) (.slice none 0 0))
                  have nb1 : ∀ q, (Value.slice p33 c.arrays.length t33).ownBlock = some q → ¬ q = v29.heap.size := fun q h => by have := iv33 q h; have := iu33 q h; omega
                  have y1 := (own_set (own_set (own_set (own_mono ho33 (base' := w4.heap.size) (by omega)) (v29.heap.size) 0 (fun h => nb1 _ h rfl) (.slice p29 c.vars.length t29)) (v29.heap.size) 1 (fun h => nb1 _ h rfl) (.slice p33 c.arrays.length t33)) (v29.heap.size) 2 (fun h => nb1 _ h rfl) (.slice none 0 0))
                  have x0 := (cell_ne (b := (v29.heap.size)) (j := 2) (cell_ne (b := (v29.heap.size)) (j := 1) (cell_at _ (v29.heap.size) 0 (.slice p29 c.vars.length t29) bc0_33) (by omega) (.slice p33 c.arrays.length t33)) (by omega) (.slice none 0 0))
                  have x1 := (cell_ne (b := (v29.heap.size)) (j := 2) (cell_at _ (v29.heap.size) 1 (.slice p33 c.arrays.length t33) (cell_ne (b := (v29.heap.size)) (j := 0) bc1_33 (by omega) (.slice p29 c.vars.length t29))) (by omega) (.slice none 0 0))
                  have x2 := (cell_at _ (v29.heap.size) 2 (.slice none 0 0) (cell_ne (b := (v29.heap.size)) (j := 1) (cell_ne (b := (v29.heap.size)) (j := 0) bc2_33 (by omega) (.slice p29 c.vars.length t29)) (by omega) (.slice p33 c.arrays.length t33)))
                  have xf := (froz_st (b := ⟨(v29.heap.size), 2, none⟩) (froz_st (b := ⟨(v29.heap.size), 1, none⟩) (froz_st (b := ⟨(v29.heap.size), 0, none⟩) bz2_33 (.slice p29 c.vars.length t29)) (.slice p33 c.arrays.length t33)) (.slice none 0 0))
                  have tz := (bst (bst (bst D33 (v29.heap.size) 0 (by omega) (.slice p29 c.vars.length t29)) (v29.heap.size) 1 (by omega) (.slice p33 c.arrays.length t33)) (v29.heap.size) 2 (by omega) (.slice none 0 0))
                  have hab : ∀ q, (Value.slice p29 c.vars.length t29).ownBlock = some q → (Value.slice p33 c.arrays.length t33).ownBlock = some q → False := fun q h h' => by have := iv29 q h; have := iv33 q h'; have := iu29 q h; have := iu33 q h'; omega
                  have Z := And.intro (cell_ne (b := (v29.heap.size)) (j := 2) (cell_ne (b := (v29.heap.size)) (j := 1) (cell_ne (b := (v29.heap.size)) (j := 0) (kept_cell D33 HB0.out) (by omega) (.slice p29 c.vars.length t29)) (by omega) (.slice p33 c.arrays.length t33)) (by omega) (.slice none 0 0)) (cell_ne (b := (v29.heap.size)) (j := 2) (cell_ne (b := (v29.heap.size)) (j := 1) (cell_ne (b := (v29.heap.size)) (j := 0) (kept_cell D33 HB1.out) (by omega) (.slice p29 c.vars.length t29)) (by omega) (.slice p33 c.arrays.length t33)) (by omega) (.slice none 0 0))
                  refine wpAnyH_ready (rs := [10]) (by kernel_rfl) (by simp) ?_
                  refine AllReadyH.cons rfl (fun K hK => ?_) AllReadyH.nil
                  go_simp
                  refine hK.out _ _ Z (fun hHeld => ?_)
                  clear hK K
                  refine wpAnyH_done (by kernel_rfl) ?_ _
                  refine NoPanic.normal ?_
                  go_wp2_with fail
                  go_meet
                  exact ⟨_, _, _, _, _, rfl, x0, x1, x2, xf, by omega, by simp only [World.size_setCell]; exact kb, y0, y1, hab, nb0, nb1, tz⟩
                exact AllReadyH.nil
              exact AllReadyH.nil
            refine AllReadyH.cons rfl (fun K hK => ?_) ?_
            · -- 9
              go_simp
              obtain ⟨v34, hv⟩ : ∃ X, X = World.alloc v28 (.cells #[.slice none 0 0, .slice none 0 0, .slice none 0 0] 50) := ⟨_, rfl⟩
              rw [← hv]
              have bc0_34 : v34.cell? ⟨v28.heap.size, 0, none⟩ = some (.slice none 0 0) := by rw [hv]; exact cell_nw rfl rfl
              have bz0_34 : v34.frozen? ⟨v28.heap.size, 0, none⟩ = false := by rw [hv]; exact froz_nw rfl
              have bc1_34 : v34.cell? ⟨v28.heap.size, 1, none⟩ = some (.slice none 0 0) := by rw [hv]; exact cell_nw rfl rfl
              have bz1_34 : v34.frozen? ⟨v28.heap.size, 1, none⟩ = false := by rw [hv]; exact froz_nw rfl
              have bc2_34 : v34.cell? ⟨v28.heap.size, 2, none⟩ = some (.slice none 0 0) := by rw [hv]; exact cell_nw rfl rfl
              have bz2_34 : v34.frozen? ⟨v28.heap.size, 2, none⟩ = false := by rw [hv]; exact froz_nw rfl
              have hb : Below v28.heap.size v28 v34 := by rw [hv]; exact bal (bself _) _
              have D34 := btr D28 hb
              have s34 : v28.heap.size + 1 ≤ v34.heap.size := by rw [hv]; simp
              clear hv
              have oo0_34 := own_below o28 hb
              have oo1_34 := own_below oo1_28 hb
              clear hb
              refine hK.out _ _ ⟨kept_cell D34 HB0.out, kept_cell D34 HB1.out⟩ (fun hHeld => ?_)
              clear hK K
              refine wpAnyH_ready (rs := [3]) (by kernel_rfl) (by simp) ?_
              refine AllReadyH.cons rfl (fun K hK => ?_) ?_
              · -- 3
                refine step_aps tInts rfl _ _ rfl v27.heap.size _ 0 [] rfl oo0_34 _ _ _ rfl (r.below D34).a (one_ints c.vars) (by omega) (by omega) ?_
                intro v' v35 ho hc hn _
                simp only [Nat.zero_add, List.nil_append] at ho
                obtain ⟨p35, t35, rfl⟩ := own_shape ho
                have iv35 : ∀ q, (Value.slice p35 c.vars.length t35).ownBlock = some q → q = v27.heap.size ∨ v34.heap.size ≤ q := newor_cases hn rfl
                have iu35 := ho.lt
                have D35 := D34.trans (hc.below w4.heap.size D34.size (fun q hq h => by have e : v27.heap.size = q := Option.some.inj h; have := D34.size; omega))
                have s35 := hc.size
                have oo1_35 := own_keep oo1_34 hc (fun q h h2 => by have e1 : wd.heap.size = q := Option.some.inj h; have e2 : v27.heap.size = q := Option.some.inj h2; omega)
                have bc0_35 := chg_cell hc bc0_34 (fun h => by have e : v27.heap.size = v28.heap.size := Option.some.inj h; omega); have bz0_35 := chg_froz hc (lt_of_cell bc0_34) bz0_34 (fun h => by have e : v27.heap.size = v28.heap.size := Option.some.inj h; omega)
                have bc1_35 := chg_cell hc bc1_34 (fun h => by have e : v27.heap.size = v28.heap.size := Option.some.inj h; omega); have bz1_35 := chg_froz hc (lt_of_cell bc1_34) bz1_34 (fun h => by have e : v27.heap.size = v28.heap.size := Option.some.inj h; omega)
                have bc2_35 := chg_cell hc bc2_34 (fun h => by have e : v27.heap.size = v28.heap.size := Option.some.inj h; omega); have bz2_35 := chg_froz hc (lt_of_cell bc2_34) bz2_34 (fun h => by have e : v27.heap.size = v28.heap.size := Option.some.inj h; omega)
                have ho35 := ho; clear ho hc hn
                refine hK.out _ _ ⟨kept_cell D35 HB0.out, kept_cell D35 HB1.out⟩ (fun hHeld => ?_)
                clear hK K
                try simp only [Act.put, List.setIfInBounds_toArray]
                refine wpAnyH_ready (rs := [7]) (by kernel_rfl) (by simp) ?_
                refine AllReadyH.cons rfl (fun K hK => ?_) ?_
                · -- 7
                  refine step_aps tInts rfl _ _ rfl wd.heap.size _ 0 [] rfl oo1_35 _ _ _ rfl (r.below D35).b (one_ints c.arrays) (by omega) (by omega) ?_
                  intro v' v36 ho hc hn _
                  simp only [Nat.zero_add, List.nil_append] at ho
                  obtain ⟨p36, t36, rfl⟩ := own_shape ho
                  have iv36 : ∀ q, (Value.slice p36 c.arrays.length t36).ownBlock = some q → q = wd.heap.size ∨ v35.heap.size ≤ q := newor_cases hn rfl
                  have iu36 := ho.lt
                  have D36 := D35.trans (hc.below w4.heap.size D35.size (fun q hq h => by have e : wd.heap.size = q := Option.some.inj h; have := D35.size; omega))
                  have s36 := hc.size
                  have oo0_36 := own_keep ho35 hc (fun q h h2 => by have e2 : wd.heap.size = q := Option.some.inj h2; have := iv35 q h; have := iu35 q h; omega)
                  have bc0_36 := chg_cell hc bc0_35 (fun h => by have e : wd.heap.size = v28.heap.size := Option.some.inj h; omega); have bz0_36 := chg_froz hc (lt_of_cell bc0_35) bz0_35 (fun h => by have e : wd.heap.size = v28.heap.size := Option.some.inj h; omega)
                  have bc1_36 := chg_cell hc bc1_35 (fun h => by have e : wd.heap.size = v28.heap.size := Option.some.inj h; omega); have bz1_36 := chg_froz hc (lt_of_cell bc1_35) bz1_35 (fun h => by have e : wd.heap.size = v28.heap.size := Option.some.inj h; omega)
                  have bc2_36 := chg_cell hc bc2_35 (fun h => by have e : wd.heap.size = v28.heap.size := Option.some.inj h; omega); have bz2_36 := chg_froz hc (lt_of_cell bc2_35) bz2_35 (fun h => by have e : wd.heap.size = v28.heap.size := Option.some.inj h; omega)
                  have ho36 := ho; clear ho hc hn
                  refine hK.out _ _ ⟨kept_cell D36 HB0.out, kept_cell D36 HB1.out⟩ (fun hHeld => ?_)
                  clear hK K
                  try simp only [Act.put, List.setIfInBounds_toArray]
                  refine take_d (i := 8) (d := 37) (v := ?_) rfl rfl (by kernel_rfl) (by kernel_rfl) (by kernel_rfl) (fun _ _ _ h => h) (Or.inl ⟨by rfl, ?_⟩) (by assumption) ?_
                  rotate_left
                  · intro W' hSw; (try dsimp only at hSw); obtain ⟨s0, s1⟩ := hSw; go_simp; try with_reducible rfl
                  try simp only [Act.put, List.setIfInBounds_toArray]
                  have kb := lt_of_cell bc0_36
                  have nb0 : ∀ q, (Value.slice p35 c.vars.length t35).ownBlock = some q → ¬ q = v28.heap.size := fun q h => by have := iv35 q h; have := iu35 q h; omega
                  have y0 := (own_set (own_set (own_set (own_mono oo0_36 (base' := w4.heap.size) (by omega)) (v28.heap.size) 0 (fun h => nb0 _ h rfl) (.slice p35 c.vars.length t35)) (v28.heap.size) 1 (fun h => nb0 _ h rfl) (.slice p36 c.arrays.length t36)) (v28.heap.size) 2 (fun h => nb0 _ h rfl) (.slice none 0 0))
                  have nb1 : ∀ q, (Value.slice p36 c.arrays.length t36).ownBlock = some q → ¬ q = v28.heap.size := fun q h => by have := iv36 q h; have := iu36 q h; omega
                  have y1 := (own_set (own_set (own_set (own_mono ho36 (base' := w4.heap.size) (by omega)) (v28.heap.size) 0 (fun h => nb1 _ h rfl) (.slice p35 c.vars.length t35)) (v28.heap.size) 1 (fun h => nb1 _ h rfl) (.slice p36 c.arrays.length t36)) (v28.heap.size) 2 (fun h => nb1 _ h rfl) (.slice none 0 0))
                  have x0 := (cell_ne (b := (v28.heap.size)) (j := 2) (cell_ne (b := (v28.heap.size)) (j := 1) (cell_at _ (v28.heap.size) 0 (.slice p35 c.vars.length t35) bc0_36) (by omega) (.slice p36 c.arrays.length t36)) (by omega) (.slice none 0 0))
                  have x1 := (cell_ne (b := (v28.heap.size)) (j := 2) (cell_at _ (v28.heap.size) 1 (.slice p36 c.arrays.length t36) (cell_ne (b := (v28.heap.size)) (j := 0) bc1_36 (by omega) (.slice p35 c.vars.length t35))) (by omega) (.slice none 0 0))
                  have x2 := (cell_at _ (v28.heap.size) 2 (.slice none 0 0) (cell_ne (b := (v28.heap.size)) (j := 1) (cell_ne (b := (v28.heap.size)) (j := 0) bc2_36 (by omega) (.slice p35 c.vars.length t35)) (by omega) (.slice p36 c.arrays.length t36)))
                  have xf := (froz_st (b := ⟨(v28.heap.size), 2, none⟩) (froz_st (b := ⟨(v28.heap.size), 1, none⟩) (froz_st (b := ⟨(v28.heap.size), 0, none⟩) bz2_36 (.slice p35 c.vars.length t35)) (.slice p36 c.arrays.length t36)) (.slice none 0 0))
                  have tz := (bst (bst (bst D36 (v28.heap.size) 0 (by omega) (.slice p35 c.vars.length t35)) (v28.heap.size) 1 (by omega) (.slice p36 c.arrays.length t36)) (v28.heap.size) 2 (by omega) (.slice none 0 0))
                  have hab : ∀ q, (Value.slice p35 c.vars.length t35).ownBlock = some q → (Value.slice p36 c.arrays.length t36).ownBlock = some q → False := fun q h h' => by have := iv35 q h; have := iv36 q h'; have := iu35 q h; have := iu36 q h'; omega
                  have Z := And.intro (cell_ne (b := (v28.heap.size)) (j := 2) (cell_ne (b := (v28.heap.size)) (j := 1) (cell_ne (b := (v28.heap.size)) (j := 0) (kept_cell D36 HB0.out) (by omega) (.slice p35 c.vars.length t35)) (by omega) (.slice p36 c.arrays.length t36)) (by omega) (.slice none 0 0)) (cell_ne (b := (v28.heap.size)) (j := 2) (cell_ne (b := (v28.heap.size)) (j := 1) (cell_ne (b := (v28.heap.size)) (j := 0) (kept_cell D36 HB1.out) (by omega) (.slice p35 c.vars.length t35)) (by omega) (.slice p36 c.arrays.length t36)) (by omega) (.slice none 0 0))
                  refine wpAnyH_ready (rs := [10]) (by kernel_rfl) (by simp) ?_
                  refine AllReadyH.cons rfl (fun K hK => ?_) AllReadyH.nil
                  go_simp
                  refine hK.out _ _ Z (fun hHeld => ?_)
                  clear hK K
                  refine wpAnyH_done (by kernel_rfl) ?_ _
                  refine NoPanic.normal ?_
                  go_wp2_with fail
                  go_meet
                  exact ⟨_, _, _, _, _, rfl, x0, x1, x2, xf, by omega, by simp only [World.size_setCell]; exact kb, y0, y1, hab, nb0, nb1, tz⟩
                exact AllReadyH.nil
              exact AllReadyH.nil
            exact AllReadyH.nil
          refine AllReadyH.cons rfl (fun K hK => ?_) ?_
          · -- 9
            go_simp
            obtain ⟨v37, hv⟩ : ∃ X, X = World.alloc v27 (.cells #[.slice none 0 0, .slice none 0 0, .slice none 0 0] 50) := ⟨_, rfl⟩
            rw [← hv]
            have bc0_37 : v37.cell? ⟨v27.heap.size, 0, none⟩ = some (.slice none 0 0) := by rw [hv]; exact cell_nw rfl rfl
            have bz0_37 : v37.frozen? ⟨v27.heap.size, 0, none⟩ = false := by rw [hv]; exact froz_nw rfl
            have bc1_37 : v37.cell? ⟨v27.heap.size, 1, none⟩ = some (.slice none 0 0) := by rw [hv]; exact cell_nw rfl rfl
            have bz1_37 : v37.frozen? ⟨v27.heap.size, 1, none⟩ = false := by rw [hv]; exact froz_nw rfl
            have bc2_37 : v37.cell? ⟨v27.heap.size, 2, none⟩ = some (.slice none 0 0) := by rw [hv]; exact cell_nw rfl rfl
            have bz2_37 : v37.frozen? ⟨v27.heap.size, 2, none⟩ = false := by rw [hv]; exact froz_nw rfl
            have hb : Below v27.heap.size v27 v37 := by rw [hv]; exact bal (bself _) _
            have D37 := btr D27 hb
            have s37 : v27.heap.size + 1 ≤ v37.heap.size := by rw [hv]; simp
            clear hv
            have oo1_37 := own_below o27 hb
            clear hb
            refine hK.out _ _ ⟨kept_cell D37 HB0.out, kept_cell D37 HB1.out⟩ (fun hHeld => ?_)
            clear hK K
            refine wpAnyH_ready (rs := [0]) (by kernel_rfl) (by simp) ?_
            refine AllReadyH.cons rfl (fun K hK => ?_) ?_
            · -- 0
              go_simp
              obtain ⟨v38, hv⟩ : ∃ X, X = World.alloc v37 (.cells #[] 3) := ⟨_, rfl⟩
              rw [← hv]
              have o38 : v38.ownsRow v37.heap.size 3 1 (.slice (some ⟨v37.heap.size, 0, none⟩) 0 0) 0 [] := by rw [hv]; exact own_nil_rows _ _ _
              have hb : Below v37.heap.size v37 v38 := by rw [hv]; exact bal (bself _) _
              have D38 := btr D37 hb
              have s38 : v37.heap.size + 1 ≤ v38.heap.size := by rw [hv]; simp
              clear hv
              have oo1_38 := own_below oo1_37 hb
              have bc0_38 := kept_cell hb bc0_37; have bz0_38 := kept_froz hb (lt_of_cell bc0_37) bz0_37
              have bc1_38 := kept_cell hb bc1_37; have bz1_38 := kept_froz hb (lt_of_cell bc1_37) bz1_37
              have bc2_38 := kept_cell hb bc2_37; have bz2_38 := kept_froz hb (lt_of_cell bc2_37) bz2_37
              clear hb
              refine hK.out _ _ ⟨kept_cell D38 HB0.out, kept_cell D38 HB1.out⟩ (fun hHeld => ?_)
              clear hK K
              refine wpAnyH_ready (rs := [3]) (by kernel_rfl) (by simp) ?_
              refine AllReadyH.cons rfl (fun K hK => ?_) ?_
              · -- 3
                refine step_aps tInts rfl _ _ rfl v37.heap.size _ 0 [] rfl o38 _ _ _ rfl (r.below D38).a (one_ints c.vars) (by omega) (by omega) ?_
                intro v' v39 ho hc hn _
                simp only [Nat.zero_add, List.nil_append] at ho
                obtain ⟨p39, t39, rfl⟩ := own_shape ho
                have iv39 : ∀ q, (Value.slice p39 c.vars.length t39).ownBlock = some q → q = v37.heap.size ∨ v38.heap.size ≤ q := newor_cases hn rfl
                have iu39 := ho.lt
                have D39 := D38.trans (hc.below w4.heap.size D38.size (fun q hq h => by have e : v37.heap.size = q := Option.some.inj h; have := D38.size; omega))
                have s39 := hc.size
                have oo1_39 := own_keep oo1_38 hc (fun q h h2 => by have e1 : wd.heap.size = q := Option.some.inj h; have e2 : v37.heap.size = q := Option.some.inj h2; omega)
                have bc0_39 := chg_cell hc bc0_38 (fun h => by have e : v37.heap.size = v27.heap.size := Option.some.inj h; omega); have bz0_39 := chg_froz hc (lt_of_cell bc0_38) bz0_38 (fun h => by have e : v37.heap.size = v27.heap.size := Option.some.inj h; omega)
                have bc1_39 := chg_cell hc bc1_38 (fun h => by have e : v37.heap.size = v27.heap.size := Option.some.inj h; omega); have bz1_39 := chg_froz hc (lt_of_cell bc1_38) bz1_38 (fun h => by have e : v37.heap.size = v27.heap.size := Option.some.inj h; omega)
                have bc2_39 := chg_cell hc bc2_38 (fun h => by have e : v37.heap.size = v27.heap.size := Option.some.inj h; omega); have bz2_39 := chg_froz hc (lt_of_cell bc2_38) bz2_38 (fun h => by have e : v37.heap.size = v27.heap.size := Option.some.inj h; omega)
                have ho39 := ho; clear ho hc hn
                refine hK.out _ _ ⟨kept_cell D39 HB0.out, kept_cell D39 HB1.out⟩ (fun hHeld => ?_)
                clear hK K
                try simp only [Act.put, List.setIfInBounds_toArray]
                refine wpAnyH_ready (rs := [7]) (by kernel_rfl) (by simp) ?_
                refine AllReadyH.cons rfl (fun K hK => ?_) ?_
                · -- 7
                  refine step_aps tInts rfl _ _ rfl wd.heap.size _ 0 [] rfl oo1_39 _ _ _ rfl (r.below D39).b (one_ints c.arrays) (by omega) (by omega) ?_
                  intro v' v40 ho hc hn _
                  simp only [Nat.zero_add, List.nil_append] at ho
                  obtain ⟨p40, t40, rfl⟩ := own_shape ho
                  have iv40 : ∀ q, (Value.slice p40 c.arrays.length t40).ownBlock = some q → q = wd.heap.size ∨ v39.heap.size ≤ q := newor_cases hn rfl
                  have iu40 := ho.lt
                  have D40 := D39.trans (hc.below w4.heap.size D39.size (fun q hq h => by have e : wd.heap.size = q := Option.some.inj h; have := D39.size; omega))
                  have s40 := hc.size
                  have oo0_40 := own_keep ho39 hc (fun q h h2 => by have e2 : wd.heap.size = q := Option.some.inj h2; have := iv39 q h; have := iu39 q h; omega)
                  have bc0_40 := chg_cell hc bc0_39 (fun h => by have e : wd.heap.size = v27.heap.size := Option.some.inj h; omega); have bz0_40 := chg_froz hc (lt_of_cell bc0_39) bz0_39 (fun h => by have e : wd.heap.size = v27.heap.size := Option.some.inj h; omega)
                  have bc1_40 := chg_cell hc bc1_39 (fun h => by have e : wd.heap.size = v27.heap.size := Option.some.inj h; omega); have bz1_40 := chg_froz hc (lt_of_cell bc1_39) bz1_39 (fun h => by have e : wd.heap.size = v27.heap.size := Option.some.inj h; omega)
                  have bc2_40 := chg_cell hc bc2_39 (fun h => by have e : wd.heap.size = v27.heap.size := Option.some.inj h; omega); have bz2_40 := chg_froz hc (lt_of_cell bc2_39) bz2_39 (fun h => by have e : wd.heap.size = v27.heap.size := Option.some.inj h; omega)
                  have ho40 := ho; clear ho hc hn
                  refine hK.out _ _ ⟨kept_cell D40 HB0.out, kept_cell D40 HB1.out⟩ (fun hHeld => ?_)
                  clear hK K
                  try simp only [Act.put, List.setIfInBounds_toArray]
                  refine take_d (i := 8) (d := 37) (v := ?_) rfl rfl (by kernel_rfl) (by kernel_rfl) (by kernel_rfl) (fun _ _ _ h => h) (Or.inl ⟨by rfl, ?_⟩) (by assumption) ?_
                  rotate_left
                  · intro W' hSw; (try dsimp only at hSw); obtain ⟨s0, s1⟩ := hSw; go_simp; try with_reducible rfl
                  try simp only [Act.put, List.setIfInBounds_toArray]
                  have kb := lt_of_cell bc0_40
                  have nb0 : ∀ q, (Value.slice p39 c.vars.length t39).ownBlock = some q → ¬ q = v27.heap.size := fun q h => by have := iv39 q h; have := iu39 q h; omega
                  have y0 := (own_set (own_set (own_set (own_mono oo0_40 (base' := w4.heap.size) (by omega)) (v27.heap.size) 0 (fun h => nb0 _ h rfl) (.slice p39 c.vars.length t39)) (v27.heap.size) 1 (fun h => nb0 _ h rfl) (.slice p40 c.arrays.length t40)) (v27.heap.size) 2 (fun h => nb0 _ h rfl) (.slice none 0 0))
                  have nb1 : ∀ q, (Value.slice p40 c.arrays.length t40).ownBlock = some q → ¬ q = v27.heap.size := fun q h => by have := iv40 q h; have := iu40 q h; omega
                  have y1 := (own_set (own_set (own_set (own_mono ho40 (base' := w4.heap.size) (by omega)) (v27.heap.size) 0 (fun h => nb1 _ h rfl) (.slice p39 c.vars.length t39)) (v27.heap.size) 1 (fun h => nb1 _ h rfl) (.slice p40 c.arrays.length t40)) (v27.heap.size) 2 (fun h => nb1 _ h rfl) (.slice none 0 0))
                  have x0 := (cell_ne (b := (v27.heap.size)) (j := 2) (cell_ne (b := (v27.heap.size)) (j := 1) (cell_at _ (v27.heap.size) 0 (.slice p39 c.vars.length t39) bc0_40) (by omega) (.slice p40 c.arrays.length t40)) (by omega) (.slice none 0 0))
                  have x1 := (cell_ne (b := (v27.heap.size)) (j := 2) (cell_at _ (v27.heap.size) 1 (.slice p40 c.arrays.length t40) (cell_ne (b := (v27.heap.size)) (j := 0) bc1_40 (by omega) (.slice p39 c.vars.length t39))) (by omega) (.slice none 0 0))
                  have x2 := (cell_at _ (v27.heap.size) 2 (.slice none 0 0) (cell_ne (b := (v27.heap.size)) (j := 1) (cell_ne (b := (v27.heap.size)) (j := 0) bc2_40 (by omega) (.slice p39 c.vars.length t39)) (by omega) (.slice p40 c.arrays.length t40)))
                  have xf := (froz_st (b := ⟨(v27.heap.size), 2, none⟩) (froz_st (b := ⟨(v27.heap.size), 1, none⟩) (froz_st (b := ⟨(v27.heap.size), 0, none⟩) bz2_40 (.slice p39 c.vars.length t39)) (.slice p40 c.arrays.length t40)) (.slice none 0 0))
                  have tz := (bst (bst (bst D40 (v27.heap.size) 0 (by omega) (.slice p39 c.vars.length t39)) (v27.heap.size) 1 (by omega) (.slice p40 c.arrays.length t40)) (v27.heap.size) 2 (by omega) (.slice none 0 0))
                  have hab : ∀ q, (Value.slice p39 c.vars.length t39).ownBlock = some q → (Value.slice p40 c.arrays.length t40).ownBlock = some q → False := fun q h h' => by have := iv39 q h; have := iv40 q h'; have := iu39 q h; have := iu40 q h'; omega
                  have Z := And.intro (cell_ne (b := (v27.heap.size)) (j := 2) (cell_ne (b := (v27.heap.size)) (j := 1) (cell_ne (b := (v27.heap.size)) (j := 0) (kept_cell D40 HB0.out) (by omega) (.slice p39 c.vars.length t39)) (by omega) (.slice p40 c.arrays.length t40)) (by omega) (.slice none 0 0)) (cell_ne (b := (v27.heap.size)) (j := 2) (cell_ne (b := (v27.heap.size)) (j := 1) (cell_ne (b := (v27.heap.size)) (j := 0) (kept_cell D40 HB1.out) (by omega) (.slice p39 c.vars.length t39)) (by omega) (.slice p40 c.arrays.length t40)) (by omega) (.slice none 0 0))
                  refine wpAnyH_ready (rs := [10]) (by kernel_rfl) (by simp) ?_
                  refine AllReadyH.cons rfl (fun K hK => ?_) AllReadyH.nil
                  go_simp
                  refine hK.out _ _ Z (fun hHeld => ?_)
                  clear hK K
                  refine wpAnyH_done (by kernel_rfl) ?_ _
                  refine NoPanic.normal ?_
                  go_wp2_with fail
                  go_meet
                  exact ⟨_, _, _, _, _, rfl, x0, x1, x2, xf, by omega, by simp only [World.size_setCell]; exact kb, y0, y1, hab, nb0, nb1, tz⟩
                exact AllReadyH.nil
              exact AllReadyH.nil
            exact AllReadyH.nil
          exact AllReadyH.nil
        refine AllReadyH.cons rfl (fun K hK => ?_) ?_
        · -- 9
          go_simp
          obtain ⟨v41, hv⟩ : ∃ X, X = World.alloc wd (.cells #[.slice none 0 0, .slice none 0 0, .slice none 0 0] 50) := ⟨_, rfl⟩
          rw [← hv]
          have bc0_41 : v41.cell? ⟨wd.heap.size, 0, none⟩ = some (.slice none 0 0) := by rw [hv]; exact cell_nw rfl rfl
          have bz0_41 : v41.frozen? ⟨wd.heap.size, 0, none⟩ = false := by rw [hv]; exact froz_nw rfl
          have bc1_41 : v41.cell? ⟨wd.heap.size, 1, none⟩ = some (.slice none 0 0) := by rw [hv]; exact cell_nw rfl rfl
          have bz1_41 : v41.frozen? ⟨wd.heap.size, 1, none⟩ = false := by rw [hv]; exact froz_nw rfl
          have bc2_41 : v41.cell? ⟨wd.heap.size, 2, none⟩ = some (.slice none 0 0) := by rw [hv]; exact cell_nw rfl rfl
          have bz2_41 : v41.frozen? ⟨wd.heap.size, 2, none⟩ = false := by rw [hv]; exact froz_nw rfl
          have hb : Below wd.heap.size wd v41 := by rw [hv]; exact bal (bself _) _
          have D41 := btr D hb
          have s41 : wd.heap.size + 1 ≤ v41.heap.size := by rw [hv]; simp
          clear hv
          clear hb
          refine hK.out _ _ ⟨kept_cell D41 HB0.out, kept_cell D41 HB1.out⟩ (fun hHeld => ?_)
          clear hK K
          refine wpAnyH_ready (rs := [0, 4]) (by kernel_rfl) (by simp) ?_
          refine AllReadyH.cons rfl (fun K hK => ?_) ?_
          · -- 0
            go_simp
            obtain ⟨v42, hv⟩ : ∃ X, X = World.alloc v41 (.cells #[] 3) := ⟨_, rfl⟩
            rw [← hv]
            have o42 : v42.ownsRow v41.heap.size 3 1 (.slice (some ⟨v41.heap.size, 0, none⟩) 0 0) 0 [] := by rw [hv]; exact own_nil_rows _ _ _
            have hb : Below v41.heap.size v41 v42 := by rw [hv]; exact bal (bself _) _
            have D42 := btr D41 hb
            have s42 : v41.heap.size + 1 ≤ v42.heap.size := by rw [hv]; simp
            clear hv
            have bc0_42 := kept_cell hb bc0_41; have bz0_42 := kept_froz hb (lt_of_cell bc0_41) bz0_41
            have bc1_42 := kept_cell hb bc1_41; have bz1_42 := kept_froz hb (lt_of_cell bc1_41) bz1_41
            have bc2_42 := kept_cell hb bc2_41; have bz2_42 := kept_froz hb (lt_of_cell bc2_41) bz2_41
            clear hb
            refine hK.out _ _ ⟨kept_cell D42 HB0.out, kept_cell D42 HB1.out⟩ (fun hHeld => ?_)
            clear hK K
            refine wpAnyH_ready (rs := [3, 4]) (by kernel_rfl) (by simp) ?_
            refine AllReadyH.cons rfl (fun K hK => ?_) ?_
            · -- 3
              refine step_aps tInts rfl _ _ rfl v41.heap.size _ 0 [] rfl o42 _ _ _ rfl (r.below D42).a (one_ints c.vars) (by omega) (by omega) ?_
              intro v' v43 ho hc hn _
              simp only [Nat.zero_add, List.nil_append] at ho
              obtain ⟨p43, t43, rfl⟩ := own_shape ho
              have iv43 : ∀ q, (Value.slice p43 c.vars.length t43).ownBlock = some q → q = v41.heap.size ∨ v42.heap.size ≤ q := newor_cases hn rfl
              have iu43 := ho.lt
              have D43 := D42.trans (hc.below w4.heap.size D42.size (fun q hq h => by have e : v41.heap.size = q := Option.some.inj h; have := D42.size; omega))
              have s43 := hc.size
              have bc0_43 := chg_cell hc bc0_42 (fun h => by have e : v41.heap.size = wd.heap.size := Option.some.inj h; omega); have bz0_43 := chg_froz hc (lt_of_cell bc0_42) bz0_42 (fun h => by have e : v41.heap.size = wd.heap.size := Option.some.inj h; omega)
              have bc1_43 := chg_cell hc bc1_42 (fun h => by have e : v41.heap.size = wd.heap.size := Option.some.inj h; omega); have bz1_43 := chg_froz hc (lt_of_cell bc1_42) bz1_42 (fun h => by have e : v41.heap.size = wd.heap.size := Option.some.inj h; omega)
              have bc2_43 := chg_cell hc bc2_42 (fun h => by have e : v41.heap.size = wd.heap.size := Option.some.inj h; omega); have bz2_43 := chg_froz hc (lt_of_cell bc2_42) bz2_42 (fun h => by have e : v41.heap.size = wd.heap.size := Option.some.inj h; omega)
              have ho43 := ho; clear ho hc hn
              refine hK.out _ _ ⟨kept_cell D43 HB0.out, kept_cell D43 HB1.out⟩ (fun hHeld => ?_)
              clear hK K
              try simp only [Act.put, List.setIfInBounds_toArray]
              refine wpAnyH_ready (rs := [4]) (by kernel_rfl) (by simp) ?_
              refine AllReadyH.cons rfl (fun K hK => ?_) ?_
              · -- 4
                go_simp
                obtain ⟨v44, hv⟩ : ∃ X, X = World.alloc v43 (.cells #[] 3) := ⟨_, rfl⟩
                rw [← hv]
                have o44 : v44.ownsRow v43.heap.size 3 1 (.slice (some ⟨v43.heap.size, 0, none⟩) 0 0) 0 [] := by rw [hv]; exact own_nil_rows _ _ _
                have hb : Below v43.heap.size v43 v44 := by rw [hv]; exact bal (bself _) _
                have D44 := btr D43 hb
                have s44 : v43.heap.size + 1 ≤ v44.heap.size := by rw [hv]; simp
                clear hv
                have oo0_44 := own_below ho43 hb
                have bc0_44 := kept_cell hb bc0_43; have bz0_44 := kept_froz hb (lt_of_cell bc0_43) bz0_43
                have bc1_44 := kept_cell hb bc1_43; have bz1_44 := kept_froz hb (lt_of_cell bc1_43) bz1_43
                have bc2_44 := kept_cell hb bc2_43; have bz2_44 := kept_froz hb (lt_of_cell bc2_43) bz2_43
                clear hb
                refine hK.out _ _ ⟨kept_cell D44 HB0.out, kept_cell D44 HB1.out⟩ (fun hHeld => ?_)
                clear hK K
                refine wpAnyH_ready (rs := [7]) (by kernel_rfl) (by simp) ?_
                refine AllReadyH.cons rfl (fun K hK => ?_) ?_
                · -- 7
                  refine step_aps tInts rfl _ _ rfl v43.heap.size _ 0 [] rfl o44 _ _ _ rfl (r.below D44).b (one_ints c.arrays) (by omega) (by omega) ?_
                  intro v' v45 ho hc hn _
                  simp only [Nat.zero_add, List.nil_append] at ho
                  obtain ⟨p45, t45, rfl⟩ := own_shape ho
                  have iv45 : ∀ q, (Value.slice p45 c.arrays.length t45).ownBlock = some q → q = v43.heap.size ∨ v44.heap.size ≤ q := newor_cases hn rfl
                  have iu45 := ho.lt
                  have D45 := D44.trans (hc.below w4.heap.size D44.size (fun q hq h => by have e : v43.heap.size = q := Option.some.inj h; have := D44.size; omega))
                  have s45 := hc.size
                  have oo0_45 := own_keep oo0_44 hc (fun q h h2 => by have e2 : v43.heap.size = q := Option.some.inj h2; have := iv43 q h; have := iu43 q h; omega)
                  have bc0_45 := chg_cell hc bc0_44 (fun h => by have e : v43.heap.size = wd.heap.size := Option.some.inj h; omega); have bz0_45 := chg_froz hc (lt_of_cell bc0_44) bz0_44 (fun h => by have e : v43.heap.size = wd.heap.size := Option.some.inj h; omega)
                  have bc1_45 := chg_cell hc bc1_44 (fun h => by have e : v43.heap.size = wd.heap.size := Option.some.inj h; omega); have bz1_45 := chg_froz hc (lt_of_cell bc1_44) bz1_44 (fun h => by have e : v43.heap.size = wd.heap.size := Option.some.inj h; omega)
                  have bc2_45 := chg_cell hc bc2_44 (fun h => by have e : v43.heap.size = wd.heap.size := Option.some.inj h; omega); have bz2_45 := chg_froz hc (lt_of_cell bc2_44) bz2_44 (fun h => by have e : v43.heap.size = wd.heap.size := Option.some.inj h; omega)
                  have ho45 := ho; clear ho hc hn
                  refine hK.out _ _ ⟨kept_cell D45 HB0.out, kept_cell D45 HB1.out⟩ (fun hHeld => ?_)
                  clear hK K
                  try simp only [Act.put, List.setIfInBounds_toArray]
                  refine take_d (i := 8) (d := 37) (v := ?_) rfl rfl (by kernel_rfl) (by kernel_rfl) (by kernel_rfl) (fun _ _ _ h => h) (Or.inl ⟨by rfl, ?_⟩) (by assumption) ?_
                  rotate_left
                  · intro W' hSw; (try dsimp only at hSw); obtain ⟨s0, s1⟩ := hSw; go_simp; try with_reducible rfl
                  try simp only [Act.put, List.setIfInBounds_toArray]
                  have kb := lt_of_cell bc0_45
                  have nb0 : ∀ q, (Value.slice p43 c.vars.length t43).ownBlock = some q → ¬ q = wd.heap.size := fun q h => by have := iv43 q h; have := iu43 q h; omega
                  have y0 := (own_set (own_set (own_set (own_mono oo0_45 (base' := w4.heap.size) (by omega)) (wd.heap.size) 0 (fun h => nb0 _ h rfl) (.slice p43 c.vars.length t43)) (wd.heap.size) 1 (fun h => nb0 _ h rfl) (.slice p45 c.arrays.length t45)) (wd.heap.size) 2 (fun h => nb0 _ h rfl) (.slice none 0 0))
                  have nb1 : ∀ q, (Value.slice p45 c.arrays.length t45).ownBlock = some q → ¬ q = wd.heap.size := fun q h => by have := iv45 q h; have := iu45 q h; omega
                  have y1 := (own_set (own_set (own_set (own_mono ho45 (base' := w4.heap.size) (by omega)) (wd.heap.size) 0 (fun h => nb1 _ h rfl) (.slice p43 c.vars.length t43)) (wd.heap.size) 1 (fun h => nb1 _ h rfl) (.slice p45 c.arrays.length t45)) (wd.heap.size) 2 (fun h => nb1 _ h rfl) (.slice none 0 0))
                  have x0 := (cell_ne (b := (wd.heap.size)) (j := 2) (cell_ne (b := (wd.heap.size)) (j := 1) (cell_at _ (wd.heap.size) 0 (.slice p43 c.vars.length t43) bc0_45) (by omega) (.slice p45 c.arrays.length t45)) (by omega) (.slice none 0 0))
                  have x1 := (cell_ne (b := (wd.heap.size)) (j := 2) (cell_at _ (wd.heap.size) 1 (.slice p45 c.arrays.length t45) (cell_ne (b := (wd.heap.size)) (j := 0) bc1_45 (by omega) (.slice p43 c.vars.length t43))) (by omega) (.slice none 0 0))
                  have x2 := (cell_at _ (wd.heap.size) 2 (.slice none 0 0) (cell_ne (b := (wd.heap.size)) (j := 1) (cell_ne (b := (wd.heap.size)) (j := 0) bc2_45 (by omega) (.slice p43 c.vars.length t43)) (by omega) (.slice p45 c.arrays.length t45)))
                  have xf := (froz_st (b := ⟨(wd.heap.size), 2, none⟩) (froz_st (b := ⟨(wd.heap.size), 1, none⟩) (froz_st (b := ⟨(wd.heap.size), 0, none⟩) bz2_45 (.slice p43 c.vars.length t43)) (.slice p45 c.arrays.length t45)) (.slice none 0 0))
                  have tz := (bst (bst (bst D45 (wd.heap.size) 0 (by omega) (.slice p43 c.vars.length t43)) (wd.heap.size) 1 (by omega) (.slice p45 c.arrays.length t45)) (wd.heap.size) 2 (by omega) (.slice none 0 0))
                  have hab : ∀ q, (Value.slice p43 c.vars.length t43).ownBlock = some q → (Value.slice p45 c.arrays.length t45).ownBlock = some q → False := fun q h h' => by have := iv43 q h; have := iv45 q h'; have := iu43 q h; have := iu45 q h'; omega
                  have Z := And.intro (cell_ne (b := (wd.heap.size)) (j := 2) (cell_ne (b := (wd.heap.size)) (j := 1) (cell_ne (b := (wd.heap.size)) (j := 0) (kept_cell D45 HB0.out) (by omega) (.slice p43 c.vars.length t43)) (by omega) (.slice p45 c.arrays.length t45)) (by omega) (.slice none 0 0)) (cell_ne (b := (wd.heap.size)) (j := 2) (cell_ne (b := (wd.heap.size)) (j := 1) (cell_ne (b := (wd.heap.size)) (j := 0) (kept_cell D45 HB1.out) (by omega) (.slice p43 c.vars.length t43)) (by omega) (.slice p45 c.arrays.length t45)) (by omega) (.slice none 0 0))
                  refine wpAnyH_ready (rs := [10]) (by kernel_rfl) (by simp) ?_
                  refine AllReadyH.cons rfl (fun K hK => ?_) AllReadyH.nil
                  go_simp
                  refine hK.out _ _ Z (fun hHeld => ?_)
                  clear hK K
                  refine wpAnyH_done (by kernel_rfl) ?_ _
                  refine NoPanic.normal ?_
                  go_wp2_with fail
                  go_meet
                  exact ⟨_, _, _, _, _, rfl, x0, x1, x2, xf, by omega, by simp only [World.size_setCell]; exact kb, y0, y1, hab, nb0, nb1, tz⟩
                exact AllReadyH.nil
              exact AllReadyH.nil
            refine AllReadyH.cons rfl (fun K hK => ?_) ?_
            · -- 4
              go_simp
              obtain ⟨v46, hv⟩ : ∃ X, X = World.alloc v42 (.cells #[] 3) := ⟨_, rfl⟩
              rw [← hv]
              have o46 : v46.ownsRow v42.heap.size 3 1 (.slice (some ⟨v42.heap.size, 0, none⟩) 0 0) 0 [] := by rw [hv]; exact own_nil_rows _ _ _
              have hb : Below v42.heap.size v42 v46 := by rw [hv]; exact bal (bself _) _
              have D46 := btr D42 hb
              have s46 : v42.heap.size + 1 ≤ v46.heap.size := by rw [hv]; simp
              clear hv
              have oo0_46 := own_below o42 hb
              have bc0_46 := kept_cell hb bc0_42; have bz0_46 := kept_froz hb (lt_of_cell bc0_42) bz0_42
              have bc1_46 := kept_cell hb bc1_42; have bz1_46 := kept_froz hb (lt_of_cell bc1_42) bz1_42
              have bc2_46 := kept_cell hb bc2_42; have bz2_46 := kept_froz hb (lt_of_cell bc2_42) bz2_42
              clear hb
              refine hK.out _ _ ⟨kept_cell D46 HB0.out, kept_cell D46 HB1.out⟩ (fun hHeld => ?_)
              clear hK K
              refine wpAnyH_ready (rs := [3]) (by kernel_rfl) (by simp) ?_
              refine AllReadyH.cons rfl (fun K hK => ?_) ?_
              · -- 3
                refine step_aps tInts rfl _ _ rfl v41.heap.size _ 0 [] rfl oo0_46 _ _ _ rfl (r.below D46).a (one_ints c.vars) (by omega) (by omega) ?_
                intro v' v47 ho hc hn _
                simp only [Nat.zero_add, List.nil_append] at ho
                obtain ⟨p47, t47, rfl⟩ := own_shape ho
                have iv47 : ∀ q, (Value.slice p47 c.vars.length t47).ownBlock = some q → q = v41.heap.size ∨ v46.heap.size ≤ q := newor_cases hn rfl
                have iu47 := ho.lt
                have D47 := D46.trans (hc.below w4.heap.size D46.size (fun q hq h => by have e : v41.heap.size = q := Option.some.inj h; have := D46.size; omega))
                have s47 := hc.size
                have oo1_47 := own_keep o46 hc (fun q h h2 => by have e1 : v42.heap.size = q := Option.some.inj h; have e2 : v41.heap.size = q := Option.some.inj h2; omega)
                have bc0_47 := chg_cell hc bc0_46 (fun h => by have e : v41.heap.size = wd.heap.size := Option.some.inj h; omega); have bz0_47 := chg_froz hc (lt_of_cell bc0_46) bz0_46 (fun h => by have e : v41.heap.size = wd.heap.size := Option.some.inj h; omega)
                have bc1_47 := chg_cell hc bc1_46 (fun h => by have e : v41.heap.size = wd.heap.size := Option.some.inj h; omega); have bz1_47 := chg_froz hc (lt_of_cell bc1_46) bz1_46 (fun h => by have e : v41.heap.size = wd.heap.size := Option.some.inj h; omega)
                have bc2_47 := chg_cell hc bc2_46 (fun h => by have e : v41.heap.size = wd.heap.size := Option.some.inj h; omega); have bz2_47 := chg_froz hc (lt_of_cell bc2_46) bz2_46 (fun h => by have e : v41.heap.size = wd.heap.size := Option.some.inj h; omega)
                have ho47 := ho; clear ho hc hn
                refine hK.out _ _ ⟨kept_cell D47 HB0.out, kept_cell D47 HB1.out⟩ (fun hHeld => ?_)
                clear hK K
                try simp only [Act.put, List.setIfInBounds_toArray]
                refine wpAnyH_ready (rs := [7]) (by kernel_rfl) (by simp) ?_
                refine AllReadyH.cons rfl (fun K hK => ?_) ?_
                · -- 7
                  refine step_aps tInts rfl _ _ rfl v42.heap.size _ 0 [] rfl oo1_47 _ _ _ rfl (r.below D47).b (one_ints c.arrays) (by omega) (by omega) ?_
                  intro v' v48 ho hc hn _
                  simp only [Nat.zero_add, List.nil_append] at ho
                  obtain ⟨p48, t48, rfl⟩ := own_shape ho
                  have iv48 : ∀ q, (Value.slice p48 c.arrays.length t48).ownBlock = some q → q = v42.heap.size ∨ v47.heap.size ≤ q := newor_cases hn rfl
                  have iu48 := ho.lt
                  have D48 := D47.trans (hc.below w4.heap.size D47.size (fun q hq h => by have e : v42.heap.size = q := Option.some.inj h; have := D47.size; omega))
                  have s48 := hc.size
                  have oo0_48 := own_keep ho47 hc (fun q h h2 => by have e2 : v42.heap.size = q := Option.some.inj h2; have := iv47 q h; have := iu47 q h; omega)
                  have bc0_48 := chg_cell hc bc0_47 (fun h => by have e : v42.heap.size = wd.heap.size := Option.some.inj h; omega); have bz0_48 := chg_froz hc (lt_of_cell bc0_47) bz0_47 (fun h => by have e : v42.heap.size = wd.heap.size := Option.some.inj h; omega)
                  have bc1_48 := chg_cell hc bc1_47 (fun h => by have e : v42.heap.size = wd.heap.size := Option.some.inj h; omega); have bz1_48 := chg_froz hc (lt_of_cell bc1_47) bz1_47 (fun h => by have e : v42.heap.size = wd.heap.size := Option.some.inj h; omega)
                  have bc2_48 := chg_cell hc bc2_47 (fun h => by have e : v42.heap.size = wd.heap.size := Option.some.inj h; omega); have bz2_48 := chg_froz hc (lt_of_cell bc2_47) bz2_47 (fun h => by have e : v42.heap.size = wd.heap.size := Option.some.inj h; omega)
                  have ho48 := ho; clear ho hc hn
                  refine hK.out _ _ ⟨kept_cell D48 HB0.out, kept_cell D48 HB1.out⟩ (fun hHeld => ?_)
                  clear hK K
                  try simp only [Act.put, List.setIfInBounds_toArray]
                  refine take_d (i := 8) (d := 37) (v := ?_) rfl rfl (by kernel_rfl) (by kernel_rfl) (by kernel_rfl) (fun _ _ _ h => h) (Or.inl ⟨by rfl, ?_⟩) (by assumption) ?_
                  rotate_left
                  · intro W' hSw; (try dsimp only at hSw); obtain ⟨s0, s1⟩ := hSw; go_simp; try with_reducible rfl
                  try simp only [Act.put, List.setIfInBounds_toArray]
                  have kb := lt_of_cell bc0_48
                  have nb0 : ∀ q, (Value.slice p47 c.vars.length t47).ownBlock = some q → ¬ q = wd.heap.size := fun q h => by have := iv47 q h; have := iu47 q h; omega
                  have y0 := (own_set (own_set (own_set (own_mono oo0_48 (base' := w4.heap.size) (by omega)) (wd.heap.size) 0 (fun h => nb0 _ h rfl) (.slice p47 c.vars.length t47)) (wd.heap.size) 1 (fun h => nb0 _ h rfl) (.slice p48 c.arrays.length t48)) (wd.heap.size) 2 (fun h => nb0 _ h rfl) (.slice none 0 0))
                  have nb1 : ∀ q, (Value.slice p48 c.arrays.length t48).ownBlock = some q → ¬ q = wd.heap.size := fun q h => by have := iv48 q h; have := iu48 q h; omega
                  have y1 := (own_set (own_set (own_set (own_mono ho48 (base' := w4.heap.size) (by omega)) (wd.heap.size) 0 (fun h => nb1 _ h rfl) (.slice p47 c.vars.length t47)) (wd.heap.size) 1 (fun h => nb1 _ h rfl) (.slice p48 c.arrays.length t48)) (wd.heap.size) 2 (fun h => nb1 _ h rfl) (.slice none 0 0))
                  have x0 := (cell_ne (b := (wd.heap.size)) (j := 2) (cell_ne (b := (wd.heap.size)) (j := 1) (cell_at _ (wd.heap.size) 0 (.slice p47 c.vars.length t47) bc0_48) (by omega) (.slice p48 c.arrays.length t48)) (by omega) (.slice none 0 0))
                  have x1 := (cell_ne (b := (wd.heap.size)) (j := 2) (cell_at _ (wd.heap.size) 1 (.slice p48 c.arrays.length t48) (cell_ne (b := (wd.heap.size)) (j := 0) bc1_48 (by omega) (.slice p47 c.vars.length t47))) (by omega) (.slice none 0 0))
                  have x2 := (cell_at _ (wd.heap.size) 2 (.slice none 0 0) (cell_ne (b := (wd.heap.size)) (j := 1) (cell_ne (b := (wd.heap.size)) (j := 0) bc2_48 (by omega) (.slice p47 c.vars.length t47)) (by omega) (.slice p48 c.arrays.length t48)))
                  have xf := (froz_st (b := ⟨(wd.heap.size), 2, none⟩) (froz_st (b := ⟨(wd.heap.size), 1, none⟩) (froz_st (b := ⟨(wd.heap.size), 0, none⟩) bz2_48 (.slice p47 c.vars.length t47)) (.slice p48 c.arrays.length t48)) (.slice none 0 0))
                  have tz := (bst (bst (bst D48 (wd.heap.size) 0 (by omega) (.slice p47 c.vars.length t47)) (wd.heap.size) 1 (by omega) (.slice p48 c.arrays.length t48)) (wd.heap.size) 2 (by omega) (.slice none 0 0))
                  have hab : ∀ q, (Value.slice p47 c.vars.length t47).ownBlock = some q → (Value.slice p48 c.arrays.length t48).ownBlock = some q → False := fun q h h' => by have := iv47 q h; have := iv48 q h'; have := iu47 q h; have := iu48 q h'; omega
                  have Z := And.intro (cell_ne (b := (wd.heap.size)) (j := 2) (cell_ne (b := (wd.heap.size)) (j := 1) (cell_ne (b := (wd.heap.size)) (j := 0) (kept_cell D48 HB0.out) (by omega) (.slice p47 c.vars.length t47)) (by omega) (.slice p48 c.arrays.length t48)) (by omega) (.slice none 0 0)) (cell_ne (b := (wd.heap.size)) (j := 2) (cell_ne (b := (wd.heap.size)) (j := 1) (cell_ne (b := (wd.heap.size)) (j := 0) (kept_cell D48 HB1.out) (by omega) (.slice p47 c.vars.length t47)) (by omega) (.slice p48 c.arrays.length t48)) (by omega) (.slice none 0 0))
                  refine wpAnyH_ready (rs := [10]) (by kernel_rfl) (by simp) ?_
                  refine AllReadyH.cons rfl (fun K hK => ?_) AllReadyH.nil
                  go_simp
                  refine hK.out _ _ Z (fun hHeld => ?_)
                  clear hK K
                  refine wpAnyH_done (by kernel_rfl) ?_ _
                  refine NoPanic.normal ?_
                  go_wp2_with fail
                  go_meet
                  exact ⟨_, _, _, _, _, rfl, x0, x1, x2, xf, by omega, by simp only [World.size_setCell]; exact kb, y0, y1, hab, nb0, nb1, tz⟩
                exact AllReadyH.nil
              exact AllReadyH.nil
            exact AllReadyH.nil
          refine AllReadyH.cons rfl (fun K hK => ?_) ?_
          · -- 4
            go_simp
            obtain ⟨v49, hv⟩ : ∃ X, X = World.alloc v41 (.cells #[] 3) := ⟨_, rfl⟩
            rw [← hv]
            have o49 : v49.ownsRow v41.heap.size 3 1 (.slice (some ⟨v41.heap.size, 0, none⟩) 0 0) 0 [] := by rw [hv]; exact own_nil_rows _ _ _
            have hb : Below v41.heap.size v41 v49 := by rw [hv]; exact bal (bself _) _
            have D49 := btr D41 hb
            have s49 : v41.heap.size + 1 ≤ v49.heap.size := by rw [hv]; simp
            clear hv
            have bc0_49 := kept_cell hb bc0_41; have bz0_49 := kept_froz hb (lt_of_cell bc0_41) bz0_41
            have bc1_49 := kept_cell hb bc1_41; have bz1_49 := kept_froz hb (lt_of_cell bc1_41) bz1_41
            have bc2_49 := kept_cell hb bc2_41; have bz2_49 := kept_froz hb (lt_of_cell bc2_41) bz2_41
            clear hb
            refine hK.out _ _ ⟨kept_cell D49 HB0.out, kept_cell D49 HB1.out⟩ (fun hHeld => ?_)
            clear hK K
            refine wpAnyH_ready (rs := [0]) (by kernel_rfl) (by simp) ?_
            refine AllReadyH.cons rfl (fun K hK => ?_) ?_
            · -- 0
              go_simp
              obtain ⟨v50, hv⟩ : ∃ X, X = World.alloc v49 (.cells #[] 3) := ⟨_, rfl⟩
              rw [← hv]
              have o50 : v50.ownsRow v49.heap.size 3 1 (.slice (some ⟨v49.heap.size, 0, none⟩) 0 0) 0 [] := by rw [hv]; exact own_nil_rows _ _ _
              have hb : Below v49.heap.size v49 v50 := by rw [hv]; exact bal (bself _) _
              have D50 := btr D49 hb
              have s50 : v49.heap.size + 1 ≤ v50.heap.size := by rw [hv]; simp
              clear hv
              have oo1_50 := own_below o49 hb
              have bc0_50 := kept_cell hb bc0_49; have bz0_50 := kept_froz hb (lt_of_cell bc0_49) bz0_49
              have bc1_50 := kept_cell hb bc1_49; have bz1_50 := kept_froz hb (lt_of_cell bc1_49) bz1_49
              have bc2_50 := kept_cell hb bc2_49; have bz2_50 := kept_froz hb (lt_of_cell bc2_49) bz2_49
              clear hb
              refine hK.out _ _ ⟨kept_cell D50 HB0.out, kept_cell D50 HB1.out⟩ (fun hHeld => ?_)
              clear hK K
              refine wpAnyH_ready (rs := [3]) (by kernel_rfl) (by simp) ?_
              refine AllReadyH.cons rfl (fun K hK => ?_) ?_
              · -- 3
                refine step_aps tInts rfl _ _ rfl v49.heap.size _ 0 [] rfl o50 _ _ _ rfl (r.below D50).a (one_ints c.vars) (by omega) (by omega) ?_
                intro v' v51 ho hc hn _
                simp only [Nat.zero_add, List.nil_append] at ho
                obtain ⟨p51, t51, rfl⟩ := own_shape ho
                have iv51 : ∀ q, (Value.slice p51 c.vars.length t51).ownBlock = some q → q = v49.heap.size ∨ v50.heap.size ≤ q := newor_cases hn rfl
                have iu51 := ho.lt
                have D51 := D50.trans (hc.below w4.heap.size D50.size (fun q hq h => by have e : v49.heap.size = q := Option.some.inj h; have := D50.size; omega))
                have s51 := hc.size
                have oo1_51 := own_keep oo1_50 hc (fun q h h2 => by have e1 : v41.heap.size = q := Option.some.inj h; have e2 : v49.heap.size = q := Option.some.inj h2; omega)
                have bc0_51 := chg_cell hc bc0_50 (fun h => by have e : v49.heap.size = wd.heap.size := Option.some.inj h; omega); have bz0_51 := chg_froz hc (lt_of_cell bc0_50) bz0_50 (fun h => by have e : v49.heap.size = wd.heap.size := Option.some.inj h; omega)
                have bc1_51 := chg_cell hc bc1_50 (fun h => by have e : v49.heap.size = wd.heap.size := Option.some.inj h; omega); have bz1_51 := chg_froz hc (lt_of_cell bc1_50) bz1_50 (fun h => by have e : v49.heap.size = wd.heap.size := Option.some.inj h; omega)
                have bc2_51 := chg_cell hc bc2_50 (fun h => by have e : v49.heap.size = wd.heap.size := Option.some.inj h; omega); have bz2_51 := chg_froz hc (lt_of_cell bc2_50) bz2_50 (fun h => by have e : v49.heap.size = wd.heap.size := Option.some.inj h; omega)
                have ho51 := ho; clear ho hc hn
                refine hK.out _ _ ⟨kept_cell D51 HB0.out, kept_cell D51 HB1.out⟩ (fun hHeld => ?_)
                clear hK K
                try simp only [Act.put, List.setIfInBounds_toArray]
                refine wpAnyH_ready (rs := [7]) (by kernel_rfl) (by simp) ?_
                refine AllReadyH.cons rfl (fun K hK => ?_) ?_
                · -- 7
                  refine step_aps tInts rfl _ _ rfl v41.heap.size _ 0 [] rfl oo1_51 _ _ _ rfl (r.below D51).b (one_ints c.arrays) (by omega) (by omega) ?_
                  intro v' v52 ho hc hn _
                  simp only [Nat.zero_add, List.nil_append] at ho
                  obtain ⟨p52, t52, rfl⟩ := own_shape ho
                  have iv52 : ∀ q, (Value.slice p52 c.arrays.length t52).ownBlock = some q → q = v41.heap.size ∨ v51.heap.size ≤ q := newor_cases hn rfl
                  have iu52 := ho.lt
                  have D52 := D51.trans (hc.below w4.heap.size D51.size (fun q hq h => by have e : v41.heap.size = q := Option.some.inj h; have := D51.size; omega))
                  have s52 := hc.size
                  have oo0_52 := own_keep ho51 hc (fun q h h2 => by have e2 : v41.heap.size = q := Option.some.inj h2; have := iv51 q h; have := iu51 q h; omega)
                  have bc0_52 := chg_cell hc bc0_51 (fun h => by have e : v41.heap.size = wd.heap.size := Option.some.inj h; omega); have bz0_52 := chg_froz hc (lt_of_cell bc0_51) bz0_51 (fun h => by have e : v41.heap.size = wd.heap.size := Option.some.inj h; omega)
                  have bc1_52 := chg_cell hc bc1_51 (fun h => by have e : v41.heap.size = wd.heap.size := Option.some.inj h; omega); have bz1_52 := chg_froz hc (lt_of_cell bc1_51) bz1_51 (fun h => by have e : v41.heap.size = wd.heap.size := Option.some.inj h; omega)
                  have bc2_52 := chg_cell hc bc2_51 (fun h => by have e : v41.heap.size = wd.heap.size := Option.some.inj h; omega); have bz2_52 := chg_froz hc (lt_of_cell bc2_51) bz2_51 (fun h => by have e : v41.heap.size = wd.heap.size := Option.some.inj h; omega)
                  have ho52 := ho; clear ho hc hn
                  refine hK.out _ _ ⟨kept_cell D52 HB0.out, kept_cell D52 HB1.out⟩ (fun hHeld => ?_)
                  clear hK K
                  try simp only [Act.put, List.setIfInBounds_toArray]
                  refine take_d (i := 8) (d := 37) (v := ?_) rfl rfl (by kernel_rfl) (by kernel_rfl) (by kernel_rfl) (fun _ _ _ h => h) (Or.inl ⟨by rfl, ?_⟩) (by assumption) ?_
                  rotate_left
                  · intro W' hSw; (try dsimp only at hSw); obtain ⟨s0, s1⟩ := hSw; go_simp; try with_reducible rfl
                  try simp only [Act.put, List.setIfInBounds_toArray]
                  have kb := lt_of_cell bc0_52
                  have nb0 : ∀ q, (Value.slice p51 c.vars.length t51).ownBlock = some q → ¬ q = wd.heap.size := fun q h => by have := iv51 q h; have := iu51 q h; omega
                  have y0 := (own_set (own_set (own_set (own_mono oo0_52 (base' := w4.heap.size) (by omega)) (wd.heap.size) 0 (fun h => nb0 _ h rfl) (.slice p51 c.vars.length t51)) (wd.heap.size) 1 (fun h => nb0 _ h rfl) (.slice p52 c.arrays.length t52)) (wd.heap.size) 2 (fun h => nb0 _ h rfl) (.slice none 0 0))
                  have nb1 : ∀ q, (Value.slice p52 c.arrays.length t52).ownBlock = some q → ¬ q = wd.heap.size := fun q h => by have := iv52 q h; have := iu52 q h; omega
                  have y1 := (own_set (own_set (own_set (own_mono ho52 (base' := w4.heap.size) (by omega)) (wd.heap.size) 0 (fun h => nb1 _ h rfl) (.slice p51 c.vars.length t51)) (wd.heap.size) 1 (fun h => nb1 _ h rfl) (.slice p52 c.arrays.length t52)) (wd.heap.size) 2 (fun h => nb1 _ h rfl) (.slice none 0 0))
                  have x0 := (cell_ne (b := (wd.heap.size)) (j := 2) (cell_ne (b := (wd.heap.size)) (j := 1) (cell_at _ (wd.heap.size) 0 (.slice p51 c.vars.length t51) bc0_52) (by omega) (.slice p52 c.arrays.length t52)) (by omega) (.slice none 0 0))
                  have x1 := (cell_ne (b := (wd.heap.size)) (j := 2) (cell_at _ (wd.heap.size) 1 (.slice p52 c.arrays.length t52) (cell_ne (b := (wd.heap.size)) (j := 0) bc1_52 (by omega) (.slice p51 c.vars.length t51))) (by omega) (.slice none 0 0))
                  have x2 := (cell_at _ (wd.heap.size) 2 (.slice none 0 0) (cell_ne (b := (wd.heap.size)) (j := 1) (cell_ne (b := (wd.heap.size)) (j := 0) bc2_52 (by omega) (.slice p51 c.vars.length t51)) (by omega) (.slice p52 c.arrays.length t52)))
                  have xf := (froz_st (b := ⟨(wd.heap.size), 2, none⟩) (froz_st (b := ⟨(wd.heap.size), 1, none⟩) (froz_st (b := ⟨(wd.heap.size), 0, none⟩) bz2_52 (.slice p51 c.vars.length t51)) (.slice p52 c.arrays.length t52)) (.slice none 0 0))
                  have tz := (bst (bst (bst D52 (wd.heap.size) 0 (by omega) (.slice p51 c.vars.length t51)) (wd.heap.size) 1 (by omega) (.slice p52 c.arrays.length t52)) (wd.heap.size) 2 (by omega) (.slice none 0 0))
                  have hab : ∀ q, (Value.slice p51 c.vars.length t51).ownBlock = some q → (Value.slice p52 c.arrays.length t52).ownBlock = some q → False := fun q h h' => by have := iv51 q h; have := iv52 q h'; have := iu51 q h; have := iu52 q h'; omega
                  have Z := And.intro (cell_ne (b := (wd.heap.size)) (j := 2) (cell_ne (b := (wd.heap.size)) (j := 1) (cell_ne (b := (wd.heap.size)) (j := 0) (kept_cell D52 HB0.out) (by omega) (.slice p51 c.vars.length t51)) (by omega) (.slice p52 c.arrays.length t52)) (by omega) (.slice none 0 0)) (cell_ne (b := (wd.heap.size)) (j := 2) (cell_ne (b := (wd.heap.size)) (j := 1) (cell_ne (b := (wd.heap.size)) (j := 0) (kept_cell D52 HB1.out) (by omega) (.slice p51 c.vars.length t51)) (by omega) (.slice p52 c.arrays.length t52)) (by omega) (.slice none 0 0))
                  refine wpAnyH_ready (rs := [10]) (by kernel_rfl) (by simp) ?_
                  refine AllReadyH.cons rfl (fun K hK => ?_) AllReadyH.nil
                  go_simp
                  refine hK.out _ _ Z (fun hHeld => ?_)
                  clear hK K
                  refine wpAnyH_done (by kernel_rfl) ?_ _
                  refine NoPanic.normal ?_
                  go_wp2_with fail
                  go_meet
                  exact ⟨_, _, _, _, _, rfl, x0, x1, x2, xf, by omega, by simp only [World.size_setCell]; exact kb, y0, y1, hab, nb0, nb1, tz⟩
                exact AllReadyH.nil
              exact AllReadyH.nil
            exact AllReadyH.nil
          exact AllReadyH.nil
        exact AllReadyH.nil
      obtain ⟨w7, rfl⟩ : ∃ W, W = wc := ⟨_, rfl⟩
      obtain ⟨bb, p0, t0, p1, t1, rfl, x0, x1, x2, xf, hbb, hbz, y0, y1, hab, nb0, nb1, hD⟩ := hcut
      replace bx2 := kept_cell hD bx2
      replace bx3 := kept_cell hD bx3
      replace bx4 := kept_cell hD bx4
      replace bx5 := kept_cell hD bx5
      replace bx7 := kept_cell hD bx7
      replace bx9 := kept_cell hD bx9
      replace bf6 := kept_froz hD (by omega) bf6
      replace bf8 := kept_froz hD (by omega) bf8
      replace bf10 := kept_froz hD (by omega) bf10
      have oAl4 : ∀ q, (Value.slice pa c.list.length ta).ownBlock = some q → q < w4.heap.size := fun q h => (oA.lt q h).2
      replace oA := own_below oA hD
      replace tot4 := tot4.trans (hD.mono tot4.size)
      have HD7 := Lib.hid (fun k (h : k < c.list.length) => kept_cell hD (HD4.out k h))
      have iA := oA.lt
      have oAlt : ∀ q, (Value.slice pa c.list.length ta).ownBlock = some q → q < w4.heap.size := oAl4
      have HC7 : Hid (∀ k (h : k < c.list.length), w7.cell? ⟨b, off + k * 5, none⟩ = some (.int .i64 c.list[k].op) ∧ w7.cell? ⟨b, off + k * 5 + 1, none⟩ = some (.int .i64 c.list[k].a) ∧ w7.cell? ⟨b, off + k * 5 + 2, none⟩ = some (.int .i64 c.list[k].b) ∧ w7.cell? ⟨b, off + k * 5 + 3, none⟩ = some (.int .i64 c.list[k].c) ∧ w7.cell? ⟨b, off + k * 5 + 4, none⟩ = some (.int .i64 c.list[k].d)) := Lib.hid (fun k h => by obtain ⟨e0, e1, e2, e3, e4⟩ := HC4.out k h; exact ⟨kept_cell hD e0, kept_cell hD e1, kept_cell hD e2, kept_cell hD e3, kept_cell hD e4⟩)
      have hz7 := hD.size
      clear HC4 HD4 r hD
      have lt23 := lt_of_cell bx2
      have lt24 := lt_of_cell bx3
      have lt25 := lt_of_cell bx4
      have lt26 := lt_of_cell bx5
      have lt27 := lt_of_cell bx7
      have lt28 := lt_of_cell bx9
      go_wp2
      go_loopw [9] (fun i wr => ∃ (k : Nat) (lv : Value), k ≤ c.list.length ∧ i = .int .i64 k ∧ wr.cell? ⟨bb, 2, none⟩ = some lv ∧ wr.frozen? ⟨bb, 2, none⟩ = false ∧ wr.cell? ⟨bb, 0, none⟩ = some (.slice p0 c.vars.length t0) ∧ wr.cell? ⟨bb, 1, none⟩ = some (.slice p1 c.arrays.length t1) ∧ wr.ownsRow w7.heap.size 98 5 lv (stay d k) (inss (outTo c.list d k)) ∧ Chg (fun q => q = bb) w7 wr) (fun i _ => c.list.length - (intOf i).toNat)
      case atStart => exact ⟨0, _, Nat.zero_le _, rfl, x2, xf, x0, x1, World.ownsRow_nil _ _ _ _, Chg.refl _ _⟩
      case round =>
        obtain ⟨k, lv, hk, rfl, m2, mf, m0, m1, ho, hC⟩ := hrel
        have hzC := hC.size
        have iv := ho.lt
        have hcb := stay_le d k
        have n2 := chg_cell hC bx4 (by omega)
        have k2 := lt_of_cell n2
        have km := lt_of_cell m2
        obtain ⟨la, lc, rfl⟩ := own_shape ho
        by_cases hlt : k < c.list.length
        · obtain ⟨e0, e1, e2, e3, e4⟩ := HC7.out k hlt
          replace e0 := chg_cell hC e0 (by omega)
          replace e1 := chg_cell hC e1 (by omega)
          replace e2 := chg_cell hC e2 (by omega)
          replace e3 := chg_cell hC e3 (by omega)
          replace e4 := chg_cell hC e4 (by omega)
          have yM := chg_cell hC (HD7.out k hlt) (by omega)
          have hms := outTo_succ c.list d k hlt
          have hcs : stay d (k + 1) = stay d k + (if d k = true then 0 else 1) := rfl
          have hti := HTI.out k hlt
          obtain ⟨q, hdv⟩ : ∃ q, d k = q := ⟨_, rfl⟩
          rw [hdv] at yM
          have HV := Lib.hid hdv
          generalize c.list[k] = x at *
          have HMS := Lib.hid hms
          have HCS := Lib.hid hcs
          have HT := Lib.hid hti
          clear hdv hms hcs hti HC7 HD7
          have ke := lt_of_cell e0
          have ky := lt_of_cell yM
          go_upto_region 14 with (fail)
          obtain ⟨w5, hw5⟩ : ∃ X, X = World.alloc wr (.cells #[.int .i64 x.op, .int .i64 x.a, .int .i64 x.b, .int .i64 x.c, .int .i64 x.d] 98) := ⟨_, rfl⟩
          rw [← hw5]
          have hb5 : Below wr.heap.size wr w5 := by rw [hw5]; exact bal (bself wr) _
          have hz5 : wr.heap.size + 1 ≤ w5.heap.size := by rw [hw5]; simp
          have d0 : w5.cell? ⟨wr.heap.size, 0, none⟩ = some (.int .i64 x.op) := by rw [hw5]; exact cell_nw rfl rfl
          have z0 : w5.frozen? ⟨wr.heap.size, 0, none⟩ = false := by rw [hw5]; exact froz_nw rfl
          have d1 : w5.cell? ⟨wr.heap.size, 1, none⟩ = some (.int .i64 x.a) := by rw [hw5]; exact cell_nw rfl rfl
          have z1 : w5.frozen? ⟨wr.heap.size, 1, none⟩ = false := by rw [hw5]; exact froz_nw rfl
          have d2 : w5.cell? ⟨wr.heap.size, 2, none⟩ = some (.int .i64 x.b) := by rw [hw5]; exact cell_nw rfl rfl
          have z2 : w5.frozen? ⟨wr.heap.size, 2, none⟩ = false := by rw [hw5]; exact froz_nw rfl
          have d3 : w5.cell? ⟨wr.heap.size, 3, none⟩ = some (.int .i64 x.c) := by rw [hw5]; exact cell_nw rfl rfl
          have z3 : w5.frozen? ⟨wr.heap.size, 3, none⟩ = false := by rw [hw5]; exact froz_nw rfl
          have d4 : w5.cell? ⟨wr.heap.size, 4, none⟩ = some (.int .i64 x.d) := by rw [hw5]; exact cell_nw rfl rfl
          have z4 : w5.frozen? ⟨wr.heap.size, 4, none⟩ = false := by rw [hw5]; exact froz_nw rfl
          clear hw5 e0 e1 e2 e3 e4 n2
          replace yM := kept_cell hb5 yM
          replace mf := kept_froz hb5 km mf
          replace m0 := kept_cell hb5 m0
          replace m1 := kept_cell hb5 m1
          replace m2 := kept_cell hb5 m2
          have ky5 := lt_of_cell yM
          have kd := lt_of_cell d0
          have km5 := lt_of_cell m2
          have hC5 := hC.trans (Chg.of_below (S := fun q => q = bb) hb5)
          have o5 := own_below ho hb5
          clear hb5 ho hC
          cases q with
          | true =>
            have hcn : stay d k = stay d (k + 1) := by rw [HCS.out, HV.out]; rfl
            have hln : outTo c.list d k = outTo c.list d (k + 1) := by rw [HMS.out, HV.out]; simp
            have HCN := Lib.hid hcn; have HLN := Lib.hid hln; clear hcn hln
            go_wp2
            go_roundw
            case rel => exact ⟨k + 1, _, by omega, by go_num, m2, mf, m0, m1, by rw [← HCN.out, ← HLN.out]; exact o5, hC5⟩
            case measure => simp [intOf]; omega
          | false =>
            go_wp2_with fail
            refine (l8Target_any x _).mono ?_
            rintro e w6 ⟨rfl, hb6⟩
            replace d0 := kept_cell hb6 d0; replace z0 := kept_froz hb6 (by omega) z0
            replace d1 := kept_cell hb6 d1; replace z1 := kept_froz hb6 (by omega) z1
            replace d2 := kept_cell hb6 d2; replace z2 := kept_froz hb6 (by omega) z2
            replace d3 := kept_cell hb6 d3; replace z3 := kept_froz hb6 (by omega) z3
            replace d4 := kept_cell hb6 d4; replace z4 := kept_froz hb6 (by omega) z4
            replace m0 := kept_cell hb6 m0; replace m1 := kept_cell hb6 m1; replace mf := kept_froz hb6 (by omega) mf; replace m2 := kept_cell hb6 m2
            have o6 := own_below o5 hb6; have C6 := hC5.trans (Chg.of_below (S := fun q => q = bb) hb6)
            have hz6 := hb6.size; have k6 := lt_of_cell d0; have km7 := lt_of_cell m2; replace km5 := km7
            clear hb6 o5 hC5
            by_cases ht : 0 ≤ tgt x
            · obtain ⟨t1, t2⟩ := HT.out ht
              obtain ⟨nt, hnt⟩ : ∃ nt : Nat, tgt x = nt := ⟨(tgt x).toNat, by omega⟩
              have HFX : Hid (dx d x = aim x (stay d nt : Nat)) := Lib.hid (by unfold dx; rw [if_pos ht, hnt, Int.toNat_natCast])
              have HNT := Lib.hid hnt
              rw [hnt] at t1 ⊢
              have hnt2 : nt < c.list.length := by omega
              have hq : (nt : Int) < (c.list.length : Int) := by omega
              have hq0 : (0 : Int) ≤ (nt : Int) := by omega
              have oA6 := own_keep oA C6 (fun q h h2 => by have := iA q h; have := oAlt q h; omega)
              obtain ⟨ga, ta2, hav⟩ := own_pos oA6 (by omega)
              simp only [Value.slice.injEq, true_and] at hav
              obtain ⟨rfl, rfl⟩ := hav
              have yP := oA6.cellAt nt (by omega)
              rw [ints_at _ _ (by rw [stays_len]; exact hnt2), stays_get] at yP
              have kP := lt_of_cell yP
              have HT2 := Lib.hid t2
              clear t1 t2 ht hnt oA6
              go_upto_region 16 with (fail)
              have D := Below.drew (bself w6)
              go_cut [63] (fun _ wx => wx.cell? ⟨wr.heap.size, 0, none⟩ = some (.int .i64 (aim x (stay d nt : Nat)).op) ∧ wx.cell? ⟨wr.heap.size, 1, none⟩ = some (.int .i64 (aim x (stay d nt : Nat)).a) ∧ wx.cell? ⟨wr.heap.size, 2, none⟩ = some (.int .i64 (aim x (stay d nt : Nat)).b) ∧ wx.cell? ⟨wr.heap.size, 3, none⟩ = some (.int .i64 (aim x (stay d nt : Nat)).c) ∧ wx.cell? ⟨wr.heap.size, 4, none⟩ = some (.int .i64 (aim x (stay d nt : Nat)).d) ∧ Chg (fun q => q = wr.heap.size) w6 wx)
              case first =>
                refine wp_region_noPanic ?_
                refine wp_region_held_drew (S := fun _ => True) (by kernel_rfl) trivial (fun hHeld => ?_)
                obtain ⟨wd, hwd⟩ : ∃ X, X = World.drew w6 := ⟨_, rfl⟩
                rw [← hwd] at D ⊢
                clear hwd
                have dd0 := kept_cell D d0
                have dd1 := kept_cell D d1
                have dd2 := kept_cell D d2
                have dd3 := kept_cell D d3
                have dd4 := kept_cell D d4
                have ddP := kept_cell D yP
                have kd0 := lt_of_cell dd0; have kdP := lt_of_cell ddP
                refine take_d (i := 1) (d := 58) (v := ?_) rfl rfl (by kernel_rfl) (by kernel_rfl) (by kernel_rfl) (fun _ _ _ h => h) (Or.inl ⟨by rfl, ?_⟩) (by assumption) ?_
                rotate_left
                · intro W' hSw; go_simp; try with_reducible rfl
                try simp only [Act.put, List.setIfInBounds_toArray, List.set]
                refine wpAnyH_ready (rs := [0, 2]) (by kernel_rfl) (by simp) ?_
                refine AllReadyH.cons rfl (fun K hK => ?_) ?_
                · -- 0
                  go_simp
                  refine hK.out _ _ trivial (fun hHeld => ?_)
                  clear hK K
                  refine wpAnyH_ready (rs := [2]) (by kernel_rfl) (by simp) ?_
                  refine AllReadyH.cons rfl (fun K hK => ?_) ?_
                  · -- 2
                    go_simp
                    refine hK.out _ _ trivial (fun hHeld => ?_)
                    clear hK K
                    refine wpAnyH_ready (rs := [3]) (by kernel_rfl) (by simp) ?_
                    refine AllReadyH.cons rfl (fun K hK => ?_) ?_
                    · -- 3
                      go_simp
                      go_at_call 100
                      refine (l8Target_any x _).mono ?_
                      rw [HNT.out]
                      rintro e y3 ⟨rfl, hb⟩
                      have d0_3 := kept_cell hb dd0
                      have d1_3 := kept_cell hb dd1
                      have d2_3 := kept_cell hb dd2
                      have d3_3 := kept_cell hb dd3
                      have d4_3 := kept_cell hb dd4
                      have dP_3 := kept_cell hb ddP
                      have D3 := btr D hb
                      have kd3 := lt_of_cell d0_3; have kP3 := lt_of_cell dP_3
                      clear hb
                      go_wp2_with fail
                      refine hK.out _ _ trivial (fun hHeld => ?_)
                      clear hK K
                      refine take_d (i := 4) (d := 61) (v := ?_) rfl rfl (by kernel_rfl) (by kernel_rfl) (by kernel_rfl) (fun _ _ _ h => h) (Or.inl ⟨by rfl, ?_⟩) (by assumption) ?_
                      rotate_left
                      · intro W' hSw; go_simp; try with_reducible rfl
                      try simp only [Act.put, List.setIfInBounds_toArray, List.set]
                      refine wpAnyH_ready (rs := [5]) (by kernel_rfl) (by simp) ?_
                      refine AllReadyH.cons rfl (fun K hK => ?_) ?_
                      · -- 5
                        go_simp
                        refine hK.out _ _ trivial (fun hHeld => ?_)
                        clear hK K
                        refine wpAnyH_ready (rs := [6]) (by kernel_rfl) (by simp) ?_
                        refine AllReadyH.cons rfl (fun K hK => ?_) AllReadyH.nil
                        go_simp
                        go_at_call 101
                        refine (l8Aim_any x _ _ HT2.out).mono ?_
                        rintro e w8 ⟨rfl, b8⟩
                        have v8 := btr D3 b8
                        have u0 := kept_cell v8 d0; have r0 := kept_froz v8 k6 z0
                        have u1 := kept_cell v8 d1; have r1 := kept_froz v8 k6 z1
                        have u2 := kept_cell v8 d2; have r2 := kept_froz v8 k6 z2
                        have u3 := kept_cell v8 d3; have r3 := kept_froz v8 k6 z3
                        have u4 := kept_cell v8 d4; have r4 := kept_froz v8 k6 z4
                        have k8 := lt_of_cell u0
                        go_wp2_with fail
                        refine hK.out _ _ trivial (fun hHeld => ?_)
                        clear hK K
                        refine wpAnyH_ready (rs := [7]) (by kernel_rfl) (by simp) ?_
                        refine AllReadyH.cons rfl (fun K hK => ?_) AllReadyH.nil
                        go_simp
                        refine hK.out _ _ trivial (fun hHeld => ?_)
                        clear hK K
                        refine wpAnyH_done (by kernel_rfl) ?_ _
                        refine NoPanic.normal ?_
                        go_wp2_with fail
                        go_meet
                        exact ⟨(cell_ne (b := wr.heap.size) (j := 4) (cell_ne (b := wr.heap.size) (j := 3) (cell_ne (b := wr.heap.size) (j := 2) (cell_ne (b := wr.heap.size) (j := 1) (cell_at _ wr.heap.size 0 (.int .i64 (aim x (stay d nt : Nat)).op) u0) (by omega) (.int .i64 (aim x (stay d nt : Nat)).a)) (by omega) (.int .i64 (aim x (stay d nt : Nat)).b)) (by omega) (.int .i64 (aim x (stay d nt : Nat)).c)) (by omega) (.int .i64 (aim x (stay d nt : Nat)).d)), (cell_ne (b := wr.heap.size) (j := 4) (cell_ne (b := wr.heap.size) (j := 3) (cell_ne (b := wr.heap.size) (j := 2) (cell_at _ wr.heap.size 1 (.int .i64 (aim x (stay d nt : Nat)).a) (cell_ne (b := wr.heap.size) (j := 0) u1 (by omega) (.int .i64 (aim x (stay d nt : Nat)).op))) (by omega) (.int .i64 (aim x (stay d nt : Nat)).b)) (by omega) (.int .i64 (aim x (stay d nt : Nat)).c)) (by omega) (.int .i64 (aim x (stay d nt : Nat)).d)), (cell_ne (b := wr.heap.size) (j := 4) (cell_ne (b := wr.heap.size) (j := 3) (cell_at _ wr.heap.size 2 (.int .i64 (aim x (stay d nt : Nat)).b) (cell_ne (b := wr.heap.size) (j := 1) (cell_ne (b := wr.heap.size) (j := 0) u2 (by omega) (.int .i64 (aim x (stay d nt : Nat)).op)) (by omega) (.int .i64 (aim x (stay d nt : Nat)).a))) (by omega) (.int .i64 (aim x (stay d nt : Nat)).c)) (by omega) (.int .i64 (aim x (stay d nt : Nat)).d)), (cell_ne (b := wr.heap.size) (j := 4) (cell_at _ wr.heap.size 3 (.int .i64 (aim x (stay d nt : Nat)).c) (cell_ne (b := wr.heap.size) (j := 2) (cell_ne (b := wr.heap.size) (j := 1) (cell_ne (b := wr.heap.size) (j := 0) u3 (by omega) (.int .i64 (aim x (stay d nt : Nat)).op)) (by omega) (.int .i64 (aim x (stay d nt : Nat)).a)) (by omega) (.int .i64 (aim x (stay d nt : Nat)).b))) (by omega) (.int .i64 (aim x (stay d nt : Nat)).d)), (cell_at _ wr.heap.size 4 (.int .i64 (aim x (stay d nt : Nat)).d) (cell_ne (b := wr.heap.size) (j := 3) (cell_ne (b := wr.heap.size) (j := 2) (cell_ne (b := wr.heap.size) (j := 1) (cell_ne (b := wr.heap.size) (j := 0) u4 (by omega) (.int .i64 (aim x (stay d nt : Nat)).op)) (by omega) (.int .i64 (aim x (stay d nt : Nat)).a)) (by omega) (.int .i64 (aim x (stay d nt : Nat)).b)) (by omega) (.int .i64 (aim x (stay d nt : Nat)).c))), ((((((Chg.of_below (S := fun q => q = wr.heap.size) v8).setCell wr.heap.size 0 (.int .i64 (aim x (stay d nt : Nat)).op) (fun _ => rfl)).setCell wr.heap.size 1 (.int .i64 (aim x (stay d nt : Nat)).a) (fun _ => rfl)).setCell wr.heap.size 2 (.int .i64 (aim x (stay d nt : Nat)).b) (fun _ => rfl)).setCell wr.heap.size 3 (.int .i64 (aim x (stay d nt : Nat)).c) (fun _ => rfl)).setCell wr.heap.size 4 (.int .i64 (aim x (stay d nt : Nat)).d) (fun _ => rfl))⟩
                      exact AllReadyH.nil
                    exact AllReadyH.nil
                  exact AllReadyH.nil
                refine AllReadyH.cons rfl (fun K hK => ?_) ?_
                · -- 2
                  go_simp
                  refine hK.out _ _ trivial (fun hHeld => ?_)
                  clear hK K
                  refine wpAnyH_ready (rs := [0, 3]) (by kernel_rfl) (by simp) ?_
                  refine AllReadyH.cons rfl (fun K hK => ?_) ?_
                  · -- 0
                    go_simp
                    refine hK.out _ _ trivial (fun hHeld => ?_)
                    clear hK K
                    refine wpAnyH_ready (rs := [3]) (by kernel_rfl) (by simp) ?_
                    refine AllReadyH.cons rfl (fun K hK => ?_) ?_
                    · -- 3
                      go_simp
                      go_at_call 100
                      refine (l8Target_any x _).mono ?_
                      rw [HNT.out]
                      rintro e y8 ⟨rfl, hb⟩
                      have d0_8 := kept_cell hb dd0
                      have d1_8 := kept_cell hb dd1
                      have d2_8 := kept_cell hb dd2
                      have d3_8 := kept_cell hb dd3
                      have d4_8 := kept_cell hb dd4
                      have dP_8 := kept_cell hb ddP
                      have D8 := btr D hb
                      have kd8 := lt_of_cell d0_8; have kP8 := lt_of_cell dP_8
                      clear hb
                      go_wp2_with fail
                      refine hK.out _ _ trivial (fun hHeld => ?_)
                      clear hK K
                      refine take_d (i := 4) (d := 61) (v := ?_) rfl rfl (by kernel_rfl) (by kernel_rfl) (by kernel_rfl) (fun _ _ _ h => h) (Or.inl ⟨by rfl, ?_⟩) (by assumption) ?_
                      rotate_left
                      · intro W' hSw; go_simp; try with_reducible rfl
                      try simp only [Act.put, List.setIfInBounds_toArray, List.set]
                      refine wpAnyH_ready (rs := [5]) (by kernel_rfl) (by simp) ?_
                      refine AllReadyH.cons rfl (fun K hK => ?_) ?_
                      · -- 5
                        go_simp
                        refine hK.out _ _ trivial (fun hHeld => ?_)
                        clear hK K
                        refine wpAnyH_ready (rs := [6]) (by kernel_rfl) (by simp) ?_
                        refine AllReadyH.cons rfl (fun K hK => ?_) AllReadyH.nil
                        go_simp
                        go_at_call 101
                        refine (l8Aim_any x _ _ HT2.out).mono ?_
                        rintro e w8 ⟨rfl, b8⟩
                        have v8 := btr D8 b8
                        have u0 := kept_cell v8 d0; have r0 := kept_froz v8 k6 z0
                        have u1 := kept_cell v8 d1; have r1 := kept_froz v8 k6 z1
                        have u2 := kept_cell v8 d2; have r2 := kept_froz v8 k6 z2
                        have u3 := kept_cell v8 d3; have r3 := kept_froz v8 k6 z3
                        have u4 := kept_cell v8 d4; have r4 := kept_froz v8 k6 z4
                        have k8 := lt_of_cell u0
                        go_wp2_with fail
                        refine hK.out _ _ trivial (fun hHeld => ?_)
                        clear hK K
                        refine wpAnyH_ready (rs := [7]) (by kernel_rfl) (by simp) ?_
                        refine AllReadyH.cons rfl (fun K hK => ?_) AllReadyH.nil
                        go_simp
                        refine hK.out _ _ trivial (fun hHeld => ?_)
                        clear hK K
                        refine wpAnyH_done (by kernel_rfl) ?_ _
                        refine NoPanic.normal ?_
                        go_wp2_with fail
                        go_meet
                        exact ⟨(cell_ne (b := wr.heap.size) (j := 4) (cell_ne (b := wr.heap.size) (j := 3) (cell_ne (b := wr.heap.size) (j := 2) (cell_ne (b := wr.heap.size) (j := 1) (cell_at _ wr.heap.size 0 (.int .i64 (aim x (stay d nt : Nat)).op) u0) (by omega) (.int .i64 (aim x (stay d nt : Nat)).a)) (by omega) (.int .i64 (aim x (stay d nt : Nat)).b)) (by omega) (.int .i64 (aim x (stay d nt : Nat)).c)) (by omega) (.int .i64 (aim x (stay d nt : Nat)).d)), (cell_ne (b := wr.heap.size) (j := 4) (cell_ne (b := wr.heap.size) (j := 3) (cell_ne (b := wr.heap.size) (j := 2) (cell_at _ wr.heap.size 1 (.int .i64 (aim x (stay d nt : Nat)).a) (cell_ne (b := wr.heap.size) (j := 0) u1 (by omega) (.int .i64 (aim x (stay d nt : Nat)).op))) (by omega) (.int .i64 (aim x (stay d nt : Nat)).b)) (by omega) (.int .i64 (aim x (stay d nt : Nat)).c)) (by omega) (.int .i64 (aim x (stay d nt : Nat)).d)), (cell_ne (b := wr.heap.size) (j := 4) (cell_ne (b := wr.heap.size) (j := 3) (cell_at _ wr.heap.size 2 (.int .i64 (aim x (stay d nt : Nat)).b) (cell_ne (b := wr.heap.size) (j := 1) (cell_ne (b := wr.heap.size) (j := 0) u2 (by omega) (.int .i64 (aim x (stay d nt : Nat)).op)) (by omega) (.int .i64 (aim x (stay d nt : Nat)).a))) (by omega) (.int .i64 (aim x (stay d nt : Nat)).c)) (by omega) (.int .i64 (aim x (stay d nt : Nat)).d)), (cell_ne (b := wr.heap.size) (j := 4) (cell_at _ wr.heap.size 3 (.int .i64 (aim x (stay d nt : Nat)).c) (cell_ne (b := wr.heap.size) (j := 2) (cell_ne (b := wr.heap.size) (j := 1) (cell_ne (b := wr.heap.size) (j := 0) u3 (by omega) (.int .i64 (aim x (stay d nt : Nat)).op)) (by omega) (.int .i64 (aim x (stay d nt : Nat)).a)) (by omega) (.int .i64 (aim x (stay d nt : Nat)).b))) (by omega) (.int .i64 (aim x (stay d nt : Nat)).d)), (cell_at _ wr.heap.size 4 (.int .i64 (aim x (stay d nt : Nat)).d) (cell_ne (b := wr.heap.size) (j := 3) (cell_ne (b := wr.heap.size) (j := 2) (cell_ne (b := wr.heap.size) (j := 1) (cell_ne (b := wr.heap.size) (j := 0) u4 (by omega) (.int .i64 (aim x (stay d nt : Nat)).op)) (by omega) (.int .i64 (aim x (stay d nt : Nat)).a)) (by omega) (.int .i64 (aim x (stay d nt : Nat)).b)) (by omega) (.int .i64 (aim x (stay d nt : Nat)).c))), ((((((Chg.of_below (S := fun q => q = wr.heap.size) v8).setCell wr.heap.size 0 (.int .i64 (aim x (stay d nt : Nat)).op) (fun _ => rfl)).setCell wr.heap.size 1 (.int .i64 (aim x (stay d nt : Nat)).a) (fun _ => rfl)).setCell wr.heap.size 2 (.int .i64 (aim x (stay d nt : Nat)).b) (fun _ => rfl)).setCell wr.heap.size 3 (.int .i64 (aim x (stay d nt : Nat)).c) (fun _ => rfl)).setCell wr.heap.size 4 (.int .i64 (aim x (stay d nt : Nat)).d) (fun _ => rfl))⟩
                      exact AllReadyH.nil
                    exact AllReadyH.nil
                  refine AllReadyH.cons rfl (fun K hK => ?_) ?_
                  · -- 3
                    go_simp
                    go_at_call 100
                    refine (l8Target_any x _).mono ?_
                    rw [HNT.out]
                    rintro e y11 ⟨rfl, hb⟩
                    have d0_11 := kept_cell hb dd0
                    have d1_11 := kept_cell hb dd1
                    have d2_11 := kept_cell hb dd2
                    have d3_11 := kept_cell hb dd3
                    have d4_11 := kept_cell hb dd4
                    have dP_11 := kept_cell hb ddP
                    have D11 := btr D hb
                    have kd11 := lt_of_cell d0_11; have kP11 := lt_of_cell dP_11
                    clear hb
                    go_wp2_with fail
                    refine hK.out _ _ trivial (fun hHeld => ?_)
                    clear hK K
                    refine take_d (i := 4) (d := 61) (v := ?_) rfl rfl (by kernel_rfl) (by kernel_rfl) (by kernel_rfl) (fun _ _ _ h => h) (Or.inl ⟨by rfl, ?_⟩) (by assumption) ?_
                    rotate_left
                    · intro W' hSw; go_simp; try with_reducible rfl
                    try simp only [Act.put, List.setIfInBounds_toArray, List.set]
                    refine wpAnyH_ready (rs := [0, 5]) (by kernel_rfl) (by simp) ?_
                    refine AllReadyH.cons rfl (fun K hK => ?_) ?_
                    · -- 0
                      go_simp
                      refine hK.out _ _ trivial (fun hHeld => ?_)
                      clear hK K
                      refine wpAnyH_ready (rs := [5]) (by kernel_rfl) (by simp) ?_
                      refine AllReadyH.cons rfl (fun K hK => ?_) ?_
                      · -- 5
                        go_simp
                        refine hK.out _ _ trivial (fun hHeld => ?_)
                        clear hK K
                        refine wpAnyH_ready (rs := [6]) (by kernel_rfl) (by simp) ?_
                        refine AllReadyH.cons rfl (fun K hK => ?_) AllReadyH.nil
                        go_simp
                        go_at_call 101
                        refine (l8Aim_any x _ _ HT2.out).mono ?_
                        rintro e w8 ⟨rfl, b8⟩
                        have v8 := btr D11 b8
                        have u0 := kept_cell v8 d0; have r0 := kept_froz v8 k6 z0
                        have u1 := kept_cell v8 d1; have r1 := kept_froz v8 k6 z1
                        have u2 := kept_cell v8 d2; have r2 := kept_froz v8 k6 z2
                        have u3 := kept_cell v8 d3; have r3 := kept_froz v8 k6 z3
                        have u4 := kept_cell v8 d4; have r4 := kept_froz v8 k6 z4
                        have k8 := lt_of_cell u0
                        go_wp2_with fail
                        refine hK.out _ _ trivial (fun hHeld => ?_)
                        clear hK K
                        refine wpAnyH_ready (rs := [7]) (by kernel_rfl) (by simp) ?_
                        refine AllReadyH.cons rfl (fun K hK => ?_) AllReadyH.nil
                        go_simp
                        refine hK.out _ _ trivial (fun hHeld => ?_)
                        clear hK K
                        refine wpAnyH_done (by kernel_rfl) ?_ _
                        refine NoPanic.normal ?_
                        go_wp2_with fail
                        go_meet
                        exact ⟨(cell_ne (b := wr.heap.size) (j := 4) (cell_ne (b := wr.heap.size) (j := 3) (cell_ne (b := wr.heap.size) (j := 2) (cell_ne (b := wr.heap.size) (j := 1) (cell_at _ wr.heap.size 0 (.int .i64 (aim x (stay d nt : Nat)).op) u0) (by omega) (.int .i64 (aim x (stay d nt : Nat)).a)) (by omega) (.int .i64 (aim x (stay d nt : Nat)).b)) (by omega) (.int .i64 (aim x (stay d nt : Nat)).c)) (by omega) (.int .i64 (aim x (stay d nt : Nat)).d)), (cell_ne (b := wr.heap.size) (j := 4) (cell_ne (b := wr.heap.size) (j := 3) (cell_ne (b := wr.heap.size) (j := 2) (cell_at _ wr.heap.size 1 (.int .i64 (aim x (stay d nt : Nat)).a) (cell_ne (b := wr.heap.size) (j := 0) u1 (by omega) (.int .i64 (aim x (stay d nt : Nat)).op))) (by omega) (.int .i64 (aim x (stay d nt : Nat)).b)) (by omega) (.int .i64 (aim x (stay d nt : Nat)).c)) (by omega) (.int .i64 (aim x (stay d nt : Nat)).d)), (cell_ne (b := wr.heap.size) (j := 4) (cell_ne (b := wr.heap.size) (j := 3) (cell_at _ wr.heap.size 2 (.int .i64 (aim x (stay d nt : Nat)).b) (cell_ne (b := wr.heap.size) (j := 1) (cell_ne (b := wr.heap.size) (j := 0) u2 (by omega) (.int .i64 (aim x (stay d nt : Nat)).op)) (by omega) (.int .i64 (aim x (stay d nt : Nat)).a))) (by omega) (.int .i64 (aim x (stay d nt : Nat)).c)) (by omega) (.int .i64 (aim x (stay d nt : Nat)).d)), (cell_ne (b := wr.heap.size) (j := 4) (cell_at _ wr.heap.size 3 (.int .i64 (aim x (stay d nt : Nat)).c) (cell_ne (b := wr.heap.size) (j := 2) (cell_ne (b := wr.heap.size) (j := 1) (cell_ne (b := wr.heap.size) (j := 0) u3 (by omega) (.int .i64 (aim x (stay d nt : Nat)).op)) (by omega) (.int .i64 (aim x (stay d nt : Nat)).a)) (by omega) (.int .i64 (aim x (stay d nt : Nat)).b))) (by omega) (.int .i64 (aim x (stay d nt : Nat)).d)), (cell_at _ wr.heap.size 4 (.int .i64 (aim x (stay d nt : Nat)).d) (cell_ne (b := wr.heap.size) (j := 3) (cell_ne (b := wr.heap.size) (j := 2) (cell_ne (b := wr.heap.size) (j := 1) (cell_ne (b := wr.heap.size) (j := 0) u4 (by omega) (.int .i64 (aim x (stay d nt : Nat)).op)) (by omega) (.int .i64 (aim x (stay d nt : Nat)).a)) (by omega) (.int .i64 (aim x (stay d nt : Nat)).b)) (by omega) (.int .i64 (aim x (stay d nt : Nat)).c))), ((((((Chg.of_below (S := fun q => q = wr.heap.size) v8).setCell wr.heap.size 0 (.int .i64 (aim x (stay d nt : Nat)).op) (fun _ => rfl)).setCell wr.heap.size 1 (.int .i64 (aim x (stay d nt : Nat)).a) (fun _ => rfl)).setCell wr.heap.size 2 (.int .i64 (aim x (stay d nt : Nat)).b) (fun _ => rfl)).setCell wr.heap.size 3 (.int .i64 (aim x (stay d nt : Nat)).c) (fun _ => rfl)).setCell wr.heap.size 4 (.int .i64 (aim x (stay d nt : Nat)).d) (fun _ => rfl))⟩
                      exact AllReadyH.nil
                    refine AllReadyH.cons rfl (fun K hK => ?_) ?_
                    · -- 5
                      go_simp
                      refine hK.out _ _ trivial (fun hHeld => ?_)
                      clear hK K
                      refine wpAnyH_ready (rs := [0]) (by kernel_rfl) (by simp) ?_
                      refine AllReadyH.cons rfl (fun K hK => ?_) ?_
                      · -- 0
                        go_simp
                        refine hK.out _ _ trivial (fun hHeld => ?_)
                        clear hK K
                        refine wpAnyH_ready (rs := [6]) (by kernel_rfl) (by simp) ?_
                        refine AllReadyH.cons rfl (fun K hK => ?_) AllReadyH.nil
                        go_simp
                        go_at_call 101
                        refine (l8Aim_any x _ _ HT2.out).mono ?_
                        rintro e w8 ⟨rfl, b8⟩
                        have v8 := btr D11 b8
                        have u0 := kept_cell v8 d0; have r0 := kept_froz v8 k6 z0
                        have u1 := kept_cell v8 d1; have r1 := kept_froz v8 k6 z1
                        have u2 := kept_cell v8 d2; have r2 := kept_froz v8 k6 z2
                        have u3 := kept_cell v8 d3; have r3 := kept_froz v8 k6 z3
                        have u4 := kept_cell v8 d4; have r4 := kept_froz v8 k6 z4
                        have k8 := lt_of_cell u0
                        go_wp2_with fail
                        refine hK.out _ _ trivial (fun hHeld => ?_)
                        clear hK K
                        refine wpAnyH_ready (rs := [7]) (by kernel_rfl) (by simp) ?_
                        refine AllReadyH.cons rfl (fun K hK => ?_) AllReadyH.nil
                        go_simp
                        refine hK.out _ _ trivial (fun hHeld => ?_)
                        clear hK K
                        refine wpAnyH_done (by kernel_rfl) ?_ _
                        refine NoPanic.normal ?_
                        go_wp2_with fail
                        go_meet
                        exact ⟨(cell_ne (b := wr.heap.size) (j := 4) (cell_ne (b := wr.heap.size) (j := 3) (cell_ne (b := wr.heap.size) (j := 2) (cell_ne (b := wr.heap.size) (j := 1) (cell_at _ wr.heap.size 0 (.int .i64 (aim x (stay d nt : Nat)).op) u0) (by omega) (.int .i64 (aim x (stay d nt : Nat)).a)) (by omega) (.int .i64 (aim x (stay d nt : Nat)).b)) (by omega) (.int .i64 (aim x (stay d nt : Nat)).c)) (by omega) (.int .i64 (aim x (stay d nt : Nat)).d)), (cell_ne (b := wr.heap.size) (j := 4) (cell_ne (b := wr.heap.size) (j := 3) (cell_ne (b := wr.heap.size) (j := 2) (cell_at _ wr.heap.size 1 (.int .i64 (aim x (stay d nt : Nat)).a) (cell_ne (b := wr.heap.size) (j := 0) u1 (by omega) (.int .i64 (aim x (stay d nt : Nat)).op))) (by omega) (.int .i64 (aim x (stay d nt : Nat)).b)) (by omega) (.int .i64 (aim x (stay d nt : Nat)).c)) (by omega) (.int .i64 (aim x (stay d nt : Nat)).d)), (cell_ne (b := wr.heap.size) (j := 4) (cell_ne (b := wr.heap.size) (j := 3) (cell_at _ wr.heap.size 2 (.int .i64 (aim x (stay d nt : Nat)).b) (cell_ne (b := wr.heap.size) (j := 1) (cell_ne (b := wr.heap.size) (j := 0) u2 (by omega) (.int .i64 (aim x (stay d nt : Nat)).op)) (by omega) (.int .i64 (aim x (stay d nt : Nat)).a))) (by omega) (.int .i64 (aim x (stay d nt : Nat)).c)) (by omega) (.int .i64 (aim x (stay d nt : Nat)).d)), (cell_ne (b := wr.heap.size) (j := 4) (cell_at _ wr.heap.size 3 (.int .i64 (aim x (stay d nt : Nat)).c) (cell_ne (b := wr.heap.size) (j := 2) (cell_ne (b := wr.heap.size) (j := 1) (cell_ne (b := wr.heap.size) (j := 0) u3 (by omega) (.int .i64 (aim x (stay d nt : Nat)).op)) (by omega) (.int .i64 (aim x (stay d nt : Nat)).a)) (by omega) (.int .i64 (aim x (stay d nt : Nat)).b))) (by omega) (.int .i64 (aim x (stay d nt : Nat)).d)), (cell_at _ wr.heap.size 4 (.int .i64 (aim x (stay d nt : Nat)).d) (cell_ne (b := wr.heap.size) (j := 3) (cell_ne (b := wr.heap.size) (j := 2) (cell_ne (b := wr.heap.size) (j := 1) (cell_ne (b := wr.heap.size) (j := 0) u4 (by omega) (.int .i64 (aim x (stay d nt : Nat)).op)) (by omega) (.int .i64 (aim x (stay d nt : Nat)).a)) (by omega) (.int .i64 (aim x (stay d nt : Nat)).b)) (by omega) (.int .i64 (aim x (stay d nt : Nat)).c))), ((((((Chg.of_below (S := fun q => q = wr.heap.size) v8).setCell wr.heap.size 0 (.int .i64 (aim x (stay d nt : Nat)).op) (fun _ => rfl)).setCell wr.heap.size 1 (.int .i64 (aim x (stay d nt : Nat)).a) (fun _ => rfl)).setCell wr.heap.size 2 (.int .i64 (aim x (stay d nt : Nat)).b) (fun _ => rfl)).setCell wr.heap.size 3 (.int .i64 (aim x (stay d nt : Nat)).c) (fun _ => rfl)).setCell wr.heap.size 4 (.int .i64 (aim x (stay d nt : Nat)).d) (fun _ => rfl))⟩
                      exact AllReadyH.nil
                    exact AllReadyH.nil
                  exact AllReadyH.nil
                exact AllReadyH.nil
              obtain ⟨w9, rfl⟩ : ∃ W, W = wc := ⟨_, rfl⟩
              obtain ⟨d0, d1, d2, d3, d4, hc9⟩ := hcut
              replace m0 := chg_cell hc9 m0 (by omega); replace m1 := chg_cell hc9 m1 (by omega); replace mf := chg_froz hc9 (by omega) mf (by omega); replace m2 := chg_cell hc9 m2 (by omega)
              have C9 : Chg (fun q => q = bb) w7 w9 := ⟨hc9.os.trans C6.os, hc9.tape.trans C6.tape, hc9.output.trans C6.output, by have := hc9.size; omega, fun q hq hn => (hc9.block q (by omega) (by omega)).trans (C6.block q hq hn)⟩
              have o9 := own_keep o6 hc9 (fun q h h2 => by have := iv q h; omega)
              have hz9 := hc9.size
              have k9 := lt_of_cell d0
              replace km5 := lt_of_cell m2
              clear hc9 C6 o6 D
              go_wp2_with (at_builtin; refine wpList_ap tInstrs rfl _ _ rfl w7.heap.size _ (stay d k) _ rfl o9 [.int .i64 ((aim x (stay d nt : Nat))).op, .int .i64 ((aim x (stay d nt : Nat))).a, .int .i64 ((aim x (stay d nt : Nat))).b, .int .i64 ((aim x (stay d nt : Nat))).c, .int .i64 ((aim x (stay d nt : Nat))).d] rfl rfl (one_insc ((aim x (stay d nt : Nat)))) (by omega) (by omega) ?_)
              intro g9 c9 wz ho hc hg
              have iz9 := o9.lt
              have zz9 := hc.size
              replace m2 := chg_cell hc m2 (fun h => by have := iz9 _ h; omega); replace mf := chg_froz hc km5 mf (fun h => by have := iz9 _ h; omega)
              replace m0 := cell_ne (b := bb) (j := 2) (chg_cell hc m0 (fun h => by have := iz9 _ h; omega)) (by omega) (.slice (some ⟨g9, 0, none⟩) (stay d k + 1) c9)
              replace m1 := cell_ne (b := bb) (j := 2) (chg_cell hc m1 (fun h => by have := iz9 _ h; omega)) (by omega) (.slice (some ⟨g9, 0, none⟩) (stay d k + 1) c9)
              have m3 := cell_at wz bb 2 (.slice (some ⟨g9, 0, none⟩) (stay d k + 1) c9) m2
              have mg := froz_st (b := ⟨bb, 2, none⟩) mf (.slice (some ⟨g9, 0, none⟩) (stay d k + 1) c9)
              have oo := own_set ho bb 2 (fun h => by have e : g9 = bb := Option.some.inj h; have := ho.lt _ rfl; simp only at this; omega) (.slice (some ⟨g9, 0, none⟩) (stay d k + 1) c9)
              have C2 : Chg (fun q => q = bb) w7 wz := ⟨hc.os.trans C9.os, hc.tape.trans C9.tape, hc.output.trans C9.output, by omega, fun q hq hn => (hc.block q (by omega) (fun h => by have := iz9 _ h; omega)).trans (C9.block q hq hn)⟩
              have C3 := C2.setCell bb 2 (.slice (some ⟨g9, 0, none⟩) (stay d k + 1) c9) (fun _ => rfl)
              have km6 := lt_of_cell m2
              clear hc hg ho C9 C2 o9
              rw [show inss (outTo c.list d k) ++ [Value.int .i64 ((aim x (stay d nt : Nat))).op, Value.int .i64 ((aim x (stay d nt : Nat))).a, Value.int .i64 ((aim x (stay d nt : Nat))).b, Value.int .i64 ((aim x (stay d nt : Nat))).c, Value.int .i64 ((aim x (stay d nt : Nat))).d] = inss (outTo c.list d (k + 1)) from by rw [HMS.out, HFX.out, HV.out]; simp [rows_append, rows]; rfl] at oo
              have hcn : stay d k + 1 = stay d (k + 1) := by rw [HCS.out, HV.out]; rfl
              have HCN := Lib.hid hcn; clear hcn
              go_wp2
              go_roundw
              case rel => exact ⟨k + 1, _, by omega, by go_num, m3, mg, m0, m1, by rw [← HCN.out]; exact oo, C3⟩
              case measure => simp [intOf]; omega
            · have HFX : Hid (dx d x = x) := Lib.hid (by unfold dx; rw [if_neg ht])
              have ht2 : ¬ 0 ≤ tgt x := ht
              go_wp2_with (at_builtin; refine wpList_ap tInstrs rfl _ _ rfl w7.heap.size _ (stay d k) _ rfl o6 [.int .i64 (x).op, .int .i64 (x).a, .int .i64 (x).b, .int .i64 (x).c, .int .i64 (x).d] rfl rfl (one_insc (x)) (by omega) (by omega) ?_)
              intro g9 c9 wz ho hc hg
              have iz9 := o6.lt
              have zz9 := hc.size
              replace m2 := chg_cell hc m2 (fun h => by have := iz9 _ h; omega); replace mf := chg_froz hc km5 mf (fun h => by have := iz9 _ h; omega)
              replace m0 := cell_ne (b := bb) (j := 2) (chg_cell hc m0 (fun h => by have := iz9 _ h; omega)) (by omega) (.slice (some ⟨g9, 0, none⟩) (stay d k + 1) c9)
              replace m1 := cell_ne (b := bb) (j := 2) (chg_cell hc m1 (fun h => by have := iz9 _ h; omega)) (by omega) (.slice (some ⟨g9, 0, none⟩) (stay d k + 1) c9)
              have m3 := cell_at wz bb 2 (.slice (some ⟨g9, 0, none⟩) (stay d k + 1) c9) m2
              have mg := froz_st (b := ⟨bb, 2, none⟩) mf (.slice (some ⟨g9, 0, none⟩) (stay d k + 1) c9)
              have oo := own_set ho bb 2 (fun h => by have e : g9 = bb := Option.some.inj h; have := ho.lt _ rfl; simp only at this; omega) (.slice (some ⟨g9, 0, none⟩) (stay d k + 1) c9)
              have C2 : Chg (fun q => q = bb) w7 wz := ⟨hc.os.trans C6.os, hc.tape.trans C6.tape, hc.output.trans C6.output, by omega, fun q hq hn => (hc.block q (by omega) (fun h => by have := iz9 _ h; omega)).trans (C6.block q hq hn)⟩
              have C3 := C2.setCell bb 2 (.slice (some ⟨g9, 0, none⟩) (stay d k + 1) c9) (fun _ => rfl)
              have km6 := lt_of_cell m2
              clear hc hg ho C6 C2 o6
              rw [show inss (outTo c.list d k) ++ [Value.int .i64 (x).op, Value.int .i64 (x).a, Value.int .i64 (x).b, Value.int .i64 (x).c, Value.int .i64 (x).d] = inss (outTo c.list d (k + 1)) from by rw [HMS.out, HFX.out, HV.out]; simp [rows_append, rows]; rfl] at oo
              have hcn : stay d k + 1 = stay d (k + 1) := by rw [HCS.out, HV.out]; rfl
              have HCN := Lib.hid hcn; clear hcn
              go_wp2
              go_roundw
              case rel => exact ⟨k + 1, _, by omega, by go_num, m3, mg, m0, m1, by rw [← HCN.out]; exact oo, C3⟩
              case measure => simp [intOf]; omega
        · have e : k = c.list.length := by omega
          subst e
          have r0 := chg_cell hC bx5 (by omega); have q0 := chg_froz hC (by omega) bf6 (by omega)
          have r1 := chg_cell hC bx7 (by omega); have q1 := chg_froz hC (by omega) bf8 (by omega)
          have r2 := chg_cell hC bx9 (by omega); have q2 := chg_froz hC (by omega) bf10 (by omega)
          have oa := own_keep y0 hC (fun q h h2 => nb0 q h h2); have ob := own_keep y1 hC (fun q h h2 => nb1 q h h2)
          have tt := tot4.trans (hC.below w.heap.size tot4.size (fun q hq h => by omega))
          have k9 := lt_of_cell r0
          have ia := oa.lt; have ib := ob.lt; have il := ho.lt
          have xx0 := (cell_ne (b := (w.heap.size + 1)) (j := 2) (cell_ne (b := (w.heap.size + 1)) (j := 1) (cell_at _ (w.heap.size + 1) 0 (.slice p0 c.vars.length t0) r0) (by omega) (.slice p1 c.arrays.length t1)) (by omega) (.slice la (stay d c.list.length) lc))
          have xx1 := (cell_ne (b := (w.heap.size + 1)) (j := 2) (cell_at _ (w.heap.size + 1) 1 (.slice p1 c.arrays.length t1) (cell_ne (b := (w.heap.size + 1)) (j := 0) r1 (by omega) (.slice p0 c.vars.length t0))) (by omega) (.slice la (stay d c.list.length) lc))
          have xx2 := (cell_at _ (w.heap.size + 1) 2 (.slice la (stay d c.list.length) lc) (cell_ne (b := (w.heap.size + 1)) (j := 1) (cell_ne (b := (w.heap.size + 1)) (j := 0) r2 (by omega) (.slice p0 c.vars.length t0)) (by omega) (.slice p1 c.arrays.length t1)))
          have yy0 := (own_set (own_set (own_set oa (w.heap.size + 1) 0 (fun h => by have := ia _ h; omega) (.slice p0 c.vars.length t0)) (w.heap.size + 1) 1 (fun h => by have := ia _ h; omega) (.slice p1 c.arrays.length t1)) (w.heap.size + 1) 2 (fun h => by have := ia _ h; omega) (.slice la (stay d c.list.length) lc))
          have yy1 := (own_set (own_set (own_set ob (w.heap.size + 1) 0 (fun h => by have := ib _ h; omega) (.slice p0 c.vars.length t0)) (w.heap.size + 1) 1 (fun h => by have := ib _ h; omega) (.slice p1 c.arrays.length t1)) (w.heap.size + 1) 2 (fun h => by have := ib _ h; omega) (.slice la (stay d c.list.length) lc))
          have yy2 := (own_set (own_set (own_set ho (w.heap.size + 1) 0 (fun h => by have := il _ h; omega) (.slice p0 c.vars.length t0)) (w.heap.size + 1) 1 (fun h => by have := il _ h; omega) (.slice p1 c.arrays.length t1)) (w.heap.size + 1) 2 (fun h => by have := il _ h; omega) (.slice la (stay d c.list.length) lc))
          have tz := (bst (bst (bst tt (w.heap.size + 1) 0 (by omega) (.slice p0 c.vars.length t0)) (w.heap.size + 1) 1 (by omega) (.slice p1 c.arrays.length t1)) (w.heap.size + 1) 2 (by omega) (.slice la (stay d c.list.length) lc))
          have hel := outTo_len c.list d c.list.length (Nat.le_refl _)
          have HEL := Lib.hid hel; clear hel oa ob ho tt oA HC7 HD7 y0 y1
          go_wp2
          exact bodyPost_ret (v := .agg #[.slice p0 c.vars.length t0, .slice p1 c.arrays.length t1, .slice la (stay d c.list.length) lc]) (by simp [results, Try.results117, go_sem, xx0, xx1, xx2]) rfl (by rw [HR.out]; exact ⟨_, _, _, rfl, ⟨own_mono yy0 (by omega), own_mono yy1 (by omega), by show World.ownsRow _ _ _ _ _ (outTo c.list d c.list.length).length (inss (outTo c.list d c.list.length)); rw [HEL.out]; exact own_mono yy2 (by omega), hab⟩, tz⟩)
end Go.Proofs.Ytkbbpnfhenoihaa
