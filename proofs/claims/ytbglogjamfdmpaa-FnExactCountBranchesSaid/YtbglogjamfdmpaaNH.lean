/-
  Parts of the proof of the law FnExactCountBranches.
-/
import Derived.Test.YtbglogjamfdmpaaMX
namespace Go.Proofs.Ytbglogjamfdmpaa
open Go.RowKit

def trN (c : Cd) (s : Ms) : List Ev := match runR c s with | some n => evN c (n + 1) s | none => []
theorem trN_some {c : Cd} {s : Ms} {n : Nat} (h : runR c s = some n) : trN c s = evN c (n + 1) s := by unfold trN; rw [h]
def mrN (c : Cd) (s : Ms) : Mm := match runR c s with | some n => (stN c (n + 1) s).mem | none => ⟨[], []⟩
theorem mrN_some {c : Cd} {s : Ms} {n : Nat} (h : runR c s = some n) : mrN c s = (stN c (n + 1) s).mem := by unfold mrN; rw [h]
theorem mrN_none {c : Cd} {s : Ms} (h : runR c s = none) : mrN c s = ⟨[], []⟩ := by unfold mrN; rw [h]
theorem trN_none {c : Cd} {s : Ms} (h : runR c s = none) : trN c s = [] := by unfold trN; rw [h]

/-- what stands at the head of a round of l6Run: the state at bb, the trace tr, in world W; the loop began in w4 -/
structure L6 (c : Cd) (s : Ms) (w4 W : World) (b1 b2 bb : Nat) (vr vx vy : Value) (us : List Value) (tr : Value) (n : Nat) : Prop where
  d0 : W.cell? ⟨bb, 0, none⟩ = some (.int .i64 (stN c n s).pc)
  d1 : W.cell? ⟨bb, 1, none⟩ = some vr
  d2 : W.cell? ⟨bb, 2, none⟩ = some vx
  d3 : W.cell? ⟨bb, 3, none⟩ = some vy
  f0 : W.frozen? ⟨bb, 0, none⟩ = false
  f1 : W.frozen? ⟨bb, 1, none⟩ = false
  f2 : W.frozen? ⟨bb, 2, none⟩ = false
  f3 : W.frozen? ⟨bb, 3, none⟩ = false
  own : OwnMv W b1 vr vx vy us (stN c n s).regs (stN c n s).mem
  ev : W.ownsRow b2 89 2 tr (evN c n s).length (evs (evN c n s))
  ed : ∀ q, tr.ownBlock = some q → ¬ OwnMB vr vx vy us q ∧ ¬ q = bb
  no : ∀ j, j < n → ¬ opAt c s j = 13
  chg : Chg (fun q => q = bb ∨ OwnMB vr vx vy us q ∨ b2 ≤ q) w4 W

set_option maxHeartbeats 12800000 in
set_option maxRecDepth 100000 in
theorem l6Run_any (va vb vc vx vy : Value) (c : Cd) (m : Mm) (w : World) (hr : ReadsC w va vb vc c) (hm : ReadsM w vx vy m) (hl : m.vals.length ≤ 1048576) (hn : m.arrs.length ≤ 1048576) (hp : pre2 m.arrs m.arrs.length ≤ 1048576) (hg : goOk c m = true) :
    Calls Try.prog 105 #[.agg #[va, vb, vc], .agg #[vx, vy], .int .i64 20000] w fun e w' => ∃ ux uy us u, e = .returned (.tuple #[.agg #[ux, uy], u, .bool (runR c (ini m)).isSome]) ∧ w'.ownsRow w.heap.size 89 2 u (trN c (ini m)).length (evs (trN c (ini m))) ∧ OwnM w' w.heap.size ux uy us (mrN c (ini m)) ∧ Below w.heap.size w w' := by
  obtain ⟨a0, c0, a1, c1, a2, c2, rfl, rfl, rfl⟩ := hr.shape
  obtain ⟨a3, c3, a4, c4, rfl, rfl⟩ := hm.shape
  have ivr := hr.lt
  have hmk := fun u => mk_int14 u
  have HMS := ini_ok hg
  have hok := goOk_code hg
  obtain ⟨l1, l2⟩ := codeOk_len hok
  have HSN := Lib.hid (fun n => stN_ok hok HMS n)
  have HOC := Lib.hid hok
  have HRS := Lib.hid (fun n h1 h2 h3 => runR_some (c := c) (s := ini m) (n := n) h1 h2 h3)
  have HRN := Lib.hid (fun h => runR_none (c := c) (s := ini m) h)
  have HTS := Lib.hid (fun n (h : runR c (ini m) = some n) => trN_some h)
  have HTN := Lib.hid (fun (h : runR c (ini m) = none) => trN_none h)
  have HIR : Hid ((ini m).regs = reg0 ∧ (ini m).mem = m ∧ (ini m).pc = 0) := Lib.hid ⟨rfl, rfl, rfl⟩
  have HCP := Lib.hid (fun W (hW : Below w.heap.size w W) => l3Copy_any _ _ m W (hm.below hW).x (hm.below hW).y hl hn hp)
  have HR := Lib.hid (fun W (hW : Below w.heap.size w W) => hr.below hW)
  clear hl hn hp hr hm hg HMS hok
  have HMS' := Lib.hid (fun n (h : runR c (ini m) = some n) => mrN_some h)
  have HMN := Lib.hid (fun (h : runR c (ini m) = none) => mrN_none h)
  generalize trN c (ini m) = T at *
  generalize mrN c (ini m) = TM at *
  generalize runR c (ini m) = R at *
  generalize ini m = s at *
  go_enter Try.func105, Try.ntmps105
  go_upto_region 1 with (fail)
  obtain ⟨w1, hnw⟩ : ∃ X, X = (World.alloc (World.alloc (World.alloc w (.cells #[.slice a0 c.vars.length c0, .slice a1 c.arrays.length c1, .slice a2 c.list.length c2] 35)) (.cells #[.slice a3 m.vals.length c3, .slice a4 m.arrs.length c4] 37)) (.cells #[.slice none 0 0, .slice none 0 0] 37)) := ⟨_, rfl⟩
  have hb : Below (World.alloc (World.alloc (World.alloc w (.cells #[.slice a0 c.vars.length c0, .slice a1 c.arrays.length c1, .slice a2 c.list.length c2] 35)) (.cells #[.slice a3 m.vals.length c3, .slice a4 m.arrs.length c4] 37)) (.cells #[.slice none 0 0, .slice none 0 0] 37)).heap.size (World.alloc (World.alloc (World.alloc w (.cells #[.slice a0 c.vars.length c0, .slice a1 c.arrays.length c1, .slice a2 c.list.length c2] 35)) (.cells #[.slice a3 m.vals.length c3, .slice a4 m.arrs.length c4] 37)) (.cells #[.slice none 0 0, .slice none 0 0] 37)) w1 := by rw [hnw]; exact bself _
  have hsz1 := hb.size
  simp only [World.size_alloc] at hsz1
  have bx2 : w1.cell? ⟨w.heap.size, 0, none⟩ = some (.slice a0 c.vars.length c0) := kept_cell hb (cell_al (cell_al (cell_nw (by simp) (by rfl)) _) _)
  have bx3 : w1.cell? ⟨w.heap.size, 1, none⟩ = some (.slice a1 c.arrays.length c1) := kept_cell hb (cell_al (cell_al (cell_nw (by simp) (by rfl)) _) _)
  have bx4 : w1.cell? ⟨w.heap.size, 2, none⟩ = some (.slice a2 c.list.length c2) := kept_cell hb (cell_al (cell_al (cell_nw (by simp) (by rfl)) _) _)
  have bx5 : w1.cell? ⟨w.heap.size + 1, 0, none⟩ = some (.slice a3 m.vals.length c3) := kept_cell hb (cell_al (cell_nw (by simp) (by rfl)) _)
  have bx6 : w1.cell? ⟨w.heap.size + 1, 1, none⟩ = some (.slice a4 m.arrs.length c4) := kept_cell hb (cell_al (cell_nw (by simp) (by rfl)) _)
  have bx7 : w1.cell? ⟨w.heap.size + 1 + 1, 0, none⟩ = some (.slice none 0 0) := kept_cell hb (cell_nw (by simp) (by rfl))
  have bf8 : w1.frozen? ⟨w.heap.size + 1 + 1, 0, none⟩ = false := kept_froz hb (by simp) (froz_nw (by simp))
  have bx9 : w1.cell? ⟨w.heap.size + 1 + 1, 1, none⟩ = some (.slice none 0 0) := kept_cell hb (cell_nw (by simp) (by rfl))
  have bf10 : w1.frozen? ⟨w.heap.size + 1 + 1, 1, none⟩ = false := kept_froz hb (by simp) (froz_nw (by simp))
  have tot := btr (bal (bal (bal (bself w) (.cells #[.slice a0 c.vars.length c0, .slice a1 c.arrays.length c1, .slice a2 c.list.length c2] 35)) (.cells #[.slice a3 m.vals.length c3, .slice a4 m.arrs.length c4] 37)) (.cells #[.slice none 0 0, .slice none 0 0] 37)) hb
  clear hb
  rw [← hnw]
  clear hnw
  have lt11 := lt_of_cell bx2
  have lt12 := lt_of_cell bx5
  have lt13 := lt_of_cell bx7
  go_cut [9] (fun s wx => ∃ (bb gr : Nat) (px : Option Addr) (tx : Nat) (py : Option Addr) (ty : Nat) (us : List Value), s = .pointer (some ⟨bb, 0, none⟩) ∧ wx.cell? ⟨bb, 0, none⟩ = some (.int .i64 0) ∧ wx.cell? ⟨bb, 1, none⟩ = some (.slice (some ⟨gr, 0, none⟩) 14 14) ∧ wx.cell? ⟨bb, 2, none⟩ = some (.slice px m.vals.length tx) ∧ wx.cell? ⟨bb, 3, none⟩ = some (.slice py m.arrs.length ty) ∧ wx.frozen? ⟨bb, 0, none⟩ = false ∧ wx.frozen? ⟨bb, 1, none⟩ = false ∧ wx.frozen? ⟨bb, 2, none⟩ = false ∧ wx.frozen? ⟨bb, 3, none⟩ = false ∧ OwnMv wx w1.heap.size (.slice (some ⟨gr, 0, none⟩) 14 14) (.slice px m.vals.length tx) (.slice py m.arrs.length ty) us reg0 m ∧ w1.heap.size ≤ bb ∧ bb < wx.heap.size ∧ (∀ q, OwnMB (.slice (some ⟨gr, 0, none⟩) 14 14) (.slice px m.vals.length tx) (.slice py m.arrs.length ty) us q → ¬ q = bb) ∧ Below w1.heap.size w1 wx)
  case first =>
    have HT0 := Lib.hid tot; clear tot
    clear bx2 bx3 bx4 bx7 bf8 bx9 bf10
    have lt14 := lt_of_cell bx5
    clear lt14
    have lt15 := lt_of_cell bx5
    refine wp_region_noPanic ?_
    refine wp_region_held_drew (S := (fun W' => W'.cell? ⟨w.heap.size + 1, 0, none⟩ = some (.slice a3 m.vals.length c3) ∧ W'.cell? ⟨w.heap.size + 1, 1, none⟩ = some (.slice a4 m.arrs.length c4))) (by kernel_rfl) ⟨kept_cell (Below.drew (bself w1)) bx5, kept_cell (Below.drew (bself w1)) bx6⟩ (fun hHeld => ?_)
    obtain ⟨w2, hwd⟩ : ∃ X, X = World.drew w1 := ⟨_, rfl⟩
    rw [← hwd] at hHeld ⊢
    have hb : Below w1.heap.size w1 w2 := by rw [hwd]; exact Below.drew (bself _)
    clear hwd
    have hsz16 := hb.size
    replace bx5 : w2.cell? ⟨w.heap.size + 1, 0, none⟩ = some (.slice a3 m.vals.length c3) := kept_cell hb bx5
    replace bx6 : w2.cell? ⟨w.heap.size + 1, 1, none⟩ = some (.slice a4 m.arrs.length c4) := kept_cell hb bx6
    have tot := btr (bself w1) hb
    clear hb
    clear lt15
    have lt17 := lt_of_cell bx5
    refine take_d (i := 1) (d := 14) (v := ?_) rfl rfl (by kernel_rfl) (by kernel_rfl) (by kernel_rfl) (fun _ _ _ h => h) (Or.inl ⟨by rfl, ?_⟩) (by assumption) ?_
    rotate_left
    · intro W' hSw; (try dsimp only at hSw); obtain ⟨s0, s1⟩ := hSw; go_simp; try with_reducible rfl
    try simp only [Act.put, List.setIfInBounds_toArray, List.set]
    refine wpAnyH_ready (rs := [0, 2, 4]) (by kernel_rfl) (by simp) ?_
    refine AllReadyH.cons rfl (fun K hK => ?_) ?_
    · -- 0
      go_simp
      obtain ⟨w3, hnw⟩ : ∃ X, X = World.alloc w2 (.cells (madeCells #[.int .i64 0] 14) 3) := ⟨_, rfl⟩
      try rw [← hnw]
      have om18 := own_made w2 (.int .i64 0) 14 3 (by unfold maxLen; omega)
      rw [← ints_replicate, ← hnw] at om18
      have hb : Below w2.heap.size w2 w3 := by rw [hnw]; exact bal (bself _) _
      have hzm19 : w2.heap.size + 1 ≤ w3.heap.size := by rw [hnw]; simp
      clear hnw
      have hsz20 := hb.size
      replace bx5 : w3.cell? ⟨w.heap.size + 1, 0, none⟩ = some (.slice a3 m.vals.length c3) := kept_cell hb bx5
      replace bx6 : w3.cell? ⟨w.heap.size + 1, 1, none⟩ = some (.slice a4 m.arrs.length c4) := kept_cell hb bx6
      replace tot := btr tot hb
      clear hb
      have iv21 := om18.lt
      clear lt17
      have lt22 := lt_of_cell bx5
      refine hK.out _ _ ⟨bx5, bx6⟩ (fun hHeld => ?_)
      clear hK K
      try simp only [Act.put, List.setIfInBounds_toArray, List.set]
      refine wpAnyH_ready (rs := [2, 4]) (by kernel_rfl) (by simp) ?_
      refine AllReadyH.cons rfl (fun K hK => ?_) ?_
      · -- 2
        go_simp
        refine (HCP.out _ (btr HT0.out tot)).mono ?_
        rintro e w4 ⟨ux, uy, us, rfl, ox, oy, hap, hb⟩
        obtain ⟨px, tx, rfl⟩ := own_shape ox
        obtain ⟨py, ty, rfl⟩ := own_shape oy.out
        have oM : OwnM w4 _ _ _ _ m := ⟨ox, oy, hap⟩
        clear ox oy hap
        have hsz23 := hb.size
        replace bx5 : w4.cell? ⟨w.heap.size + 1, 0, none⟩ = some (.slice a3 m.vals.length c3) := kept_cell hb bx5
        replace bx6 : w4.cell? ⟨w.heap.size + 1, 1, none⟩ = some (.slice a4 m.arrs.length c4) := kept_cell hb bx6
        replace om18 := own_below om18 hb
        replace tot := btr tot hb
        clear hb
        have iv24 := oM.lt
        clear lt22
        have lt25 := lt_of_cell bx5
        refine hK.out _ _ ⟨bx5, bx6⟩ (fun hHeld => ?_)
        clear hK K
        try simp only [Act.put, List.setIfInBounds_toArray, List.set]
        refine take_d (i := 3) (d := 16) (v := ?_) rfl rfl (by kernel_rfl) (by kernel_rfl) (by kernel_rfl) (fun _ _ _ h => h) (Or.inl ⟨by rfl, ?_⟩) (by assumption) ?_
        rotate_left
        · intro W' hSw; (try dsimp only at hSw); obtain ⟨s0, s1⟩ := hSw; go_simp; try with_reducible rfl
        try simp only [Act.put, List.setIfInBounds_toArray, List.set]
        refine wpAnyH_ready (rs := [4]) (by kernel_rfl) (by simp) ?_
        refine AllReadyH.cons rfl (fun K hK => ?_) AllReadyH.nil
        go_simp
        obtain ⟨w5, hnw⟩ : ∃ X, X = (World.alloc w4 (.cells #[.int .i64 0, .slice none 0 0, .slice none 0 0, .slice none 0 0] 49)) := ⟨_, rfl⟩
        have hb : Below (World.alloc w4 (.cells #[.int .i64 0, .slice none 0 0, .slice none 0 0, .slice none 0 0] 49)).heap.size (World.alloc w4 (.cells #[.int .i64 0, .slice none 0 0, .slice none 0 0, .slice none 0 0] 49)) w5 := by rw [hnw]; exact bself _
        have hsz26 := hb.size
        simp only [World.size_alloc] at hsz26
        replace bx5 : w5.cell? ⟨w.heap.size + 1, 0, none⟩ = some (.slice a3 m.vals.length c3) := kept_cell hb (cell_al bx5 (.cells #[.int .i64 0, .slice none 0 0, .slice none 0 0, .slice none 0 0] 49))
        replace bx6 : w5.cell? ⟨w.heap.size + 1, 1, none⟩ = some (.slice a4 m.arrs.length c4) := kept_cell hb (cell_al bx6 (.cells #[.int .i64 0, .slice none 0 0, .slice none 0 0, .slice none 0 0] 49))
        replace om18 := own_below (own_below om18 (bal (bself _) (.cells #[.int .i64 0, .slice none 0 0, .slice none 0 0, .slice none 0 0] 49))) hb
        replace oM := (oM.below (bal (bself _) (.cells #[.int .i64 0, .slice none 0 0, .slice none 0 0, .slice none 0 0] 49))).below hb
        have bx27 : w5.cell? ⟨w4.heap.size, 0, none⟩ = some (.int .i64 0) := kept_cell hb (cell_nw (by simp) (by rfl))
        have bf28 : w5.frozen? ⟨w4.heap.size, 0, none⟩ = false := kept_froz hb (by simp) (froz_nw (by simp))
        have bx29 : w5.cell? ⟨w4.heap.size, 1, none⟩ = some (.slice none 0 0) := kept_cell hb (cell_nw (by simp) (by rfl))
        have bf30 : w5.frozen? ⟨w4.heap.size, 1, none⟩ = false := kept_froz hb (by simp) (froz_nw (by simp))
        have bx31 : w5.cell? ⟨w4.heap.size, 2, none⟩ = some (.slice none 0 0) := kept_cell hb (cell_nw (by simp) (by rfl))
        have bf32 : w5.frozen? ⟨w4.heap.size, 2, none⟩ = false := kept_froz hb (by simp) (froz_nw (by simp))
        have bx33 : w5.cell? ⟨w4.heap.size, 3, none⟩ = some (.slice none 0 0) := kept_cell hb (cell_nw (by simp) (by rfl))
        have bf34 : w5.frozen? ⟨w4.heap.size, 3, none⟩ = false := kept_froz hb (by simp) (froz_nw (by simp))
        replace tot := btr (bal tot (.cells #[.int .i64 0, .slice none 0 0, .slice none 0 0, .slice none 0 0] 49)) hb
        clear hb
        rw [← hnw]
        clear hnw
        clear lt25
        have lt35 := lt_of_cell bx5
        have lt36 := lt_of_cell bx27
        refine hK.out _ _ ⟨bx5, bx6⟩ (fun hHeld => ?_)
        clear hK K
        try simp only [Act.put, List.setIfInBounds_toArray, List.set]
        refine wpAnyH_ready (rs := [5]) (by kernel_rfl) (by simp) ?_
        refine AllReadyH.cons rfl (fun K hK => ?_) AllReadyH.nil
        go_simp
        obtain ⟨w6, hnw⟩ : ∃ X, X = (World.setCell (World.setCell (World.setCell (World.setCell w5 ⟨w4.heap.size, 0, none⟩ (.int .i64 0)) ⟨w4.heap.size, 1, none⟩ (.slice (some ⟨w2.heap.size, 0, none⟩) 14 14)) ⟨w4.heap.size, 2, none⟩ (.slice px m.vals.length tx)) ⟨w4.heap.size, 3, none⟩ (.slice py m.arrs.length ty)) := ⟨_, rfl⟩
        have hb : Below (World.setCell (World.setCell (World.setCell (World.setCell w5 ⟨w4.heap.size, 0, none⟩ (.int .i64 0)) ⟨w4.heap.size, 1, none⟩ (.slice (some ⟨w2.heap.size, 0, none⟩) 14 14)) ⟨w4.heap.size, 2, none⟩ (.slice px m.vals.length tx)) ⟨w4.heap.size, 3, none⟩ (.slice py m.arrs.length ty)).heap.size (World.setCell (World.setCell (World.setCell (World.setCell w5 ⟨w4.heap.size, 0, none⟩ (.int .i64 0)) ⟨w4.heap.size, 1, none⟩ (.slice (some ⟨w2.heap.size, 0, none⟩) 14 14)) ⟨w4.heap.size, 2, none⟩ (.slice px m.vals.length tx)) ⟨w4.heap.size, 3, none⟩ (.slice py m.arrs.length ty)) w6 := by rw [hnw]; exact bself _
        have hsz37 := hb.size
        simp only [World.size_setCell] at hsz37
        replace bf28 := kept_froz hb (lt_of_cell (cell_ne (b := (w4.heap.size)) (j := 3) (cell_ne (b := (w4.heap.size)) (j := 2) (cell_ne (b := (w4.heap.size)) (j := 1) (cell_at _ (w4.heap.size) 0 (.int .i64 0) bx27) (by omega) (.slice (some ⟨w2.heap.size, 0, none⟩) 14 14)) (by omega) (.slice px m.vals.length tx)) (by omega) (.slice py m.arrs.length ty))) (froz_st (b := ⟨(w4.heap.size), 3, none⟩) (froz_st (b := ⟨(w4.heap.size), 2, none⟩) (froz_st (b := ⟨(w4.heap.size), 1, none⟩) (froz_st (b := ⟨(w4.heap.size), 0, none⟩) bf28 (.int .i64 0)) (.slice (some ⟨w2.heap.size, 0, none⟩) 14 14)) (.slice px m.vals.length tx)) (.slice py m.arrs.length ty))
        replace bf30 := kept_froz hb (lt_of_cell (cell_ne (b := (w4.heap.size)) (j := 3) (cell_ne (b := (w4.heap.size)) (j := 2) (cell_at _ (w4.heap.size) 1 (.slice (some ⟨w2.heap.size, 0, none⟩) 14 14) (cell_ne (b := (w4.heap.size)) (j := 0) bx29 (by omega) (.int .i64 0))) (by omega) (.slice px m.vals.length tx)) (by omega) (.slice py m.arrs.length ty))) (froz_st (b := ⟨(w4.heap.size), 3, none⟩) (froz_st (b := ⟨(w4.heap.size), 2, none⟩) (froz_st (b := ⟨(w4.heap.size), 1, none⟩) (froz_st (b := ⟨(w4.heap.size), 0, none⟩) bf30 (.int .i64 0)) (.slice (some ⟨w2.heap.size, 0, none⟩) 14 14)) (.slice px m.vals.length tx)) (.slice py m.arrs.length ty))
        replace bf32 := kept_froz hb (lt_of_cell (cell_ne (b := (w4.heap.size)) (j := 3) (cell_at _ (w4.heap.size) 2 (.slice px m.vals.length tx) (cell_ne (b := (w4.heap.size)) (j := 1) (cell_ne (b := (w4.heap.size)) (j := 0) bx31 (by omega) (.int .i64 0)) (by omega) (.slice (some ⟨w2.heap.size, 0, none⟩) 14 14))) (by omega) (.slice py m.arrs.length ty))) (froz_st (b := ⟨(w4.heap.size), 3, none⟩) (froz_st (b := ⟨(w4.heap.size), 2, none⟩) (froz_st (b := ⟨(w4.heap.size), 1, none⟩) (froz_st (b := ⟨(w4.heap.size), 0, none⟩) bf32 (.int .i64 0)) (.slice (some ⟨w2.heap.size, 0, none⟩) 14 14)) (.slice px m.vals.length tx)) (.slice py m.arrs.length ty))
        replace bf34 := kept_froz hb (lt_of_cell (cell_at _ (w4.heap.size) 3 (.slice py m.arrs.length ty) (cell_ne (b := (w4.heap.size)) (j := 2) (cell_ne (b := (w4.heap.size)) (j := 1) (cell_ne (b := (w4.heap.size)) (j := 0) bx33 (by omega) (.int .i64 0)) (by omega) (.slice (some ⟨w2.heap.size, 0, none⟩) 14 14)) (by omega) (.slice px m.vals.length tx)))) (froz_st (b := ⟨(w4.heap.size), 3, none⟩) (froz_st (b := ⟨(w4.heap.size), 2, none⟩) (froz_st (b := ⟨(w4.heap.size), 1, none⟩) (froz_st (b := ⟨(w4.heap.size), 0, none⟩) bf34 (.int .i64 0)) (.slice (some ⟨w2.heap.size, 0, none⟩) 14 14)) (.slice px m.vals.length tx)) (.slice py m.arrs.length ty))
        replace bx5 : w6.cell? ⟨w.heap.size + 1, 0, none⟩ = some (.slice a3 m.vals.length c3) := kept_cell hb (cell_ne (b := (w4.heap.size)) (j := 3) (cell_ne (b := (w4.heap.size)) (j := 2) (cell_ne (b := (w4.heap.size)) (j := 1) (cell_ne (b := (w4.heap.size)) (j := 0) bx5 (by omega) (.int .i64 0)) (by omega) (.slice (some ⟨w2.heap.size, 0, none⟩) 14 14)) (by omega) (.slice px m.vals.length tx)) (by omega) (.slice py m.arrs.length ty))
        replace bx6 : w6.cell? ⟨w.heap.size + 1, 1, none⟩ = some (.slice a4 m.arrs.length c4) := kept_cell hb (cell_ne (b := (w4.heap.size)) (j := 3) (cell_ne (b := (w4.heap.size)) (j := 2) (cell_ne (b := (w4.heap.size)) (j := 1) (cell_ne (b := (w4.heap.size)) (j := 0) bx6 (by omega) (.int .i64 0)) (by omega) (.slice (some ⟨w2.heap.size, 0, none⟩) 14 14)) (by omega) (.slice px m.vals.length tx)) (by omega) (.slice py m.arrs.length ty))
        replace om18 := own_below (own_set (own_set (own_set (own_set om18 (w4.heap.size) 0 (fun h => by have := iv21 _ h; omega) (.int .i64 0)) (w4.heap.size) 1 (fun h => by have := iv21 _ h; omega) (.slice (some ⟨w2.heap.size, 0, none⟩) 14 14)) (w4.heap.size) 2 (fun h => by have := iv21 _ h; omega) (.slice px m.vals.length tx)) (w4.heap.size) 3 (fun h => by have := iv21 _ h; omega) (.slice py m.arrs.length ty)) hb
        replace oM := ((((oM.keep ((Chg.refl (fun gk => gk = (w4.heap.size)) _).setCell (w4.heap.size) 0 (.int .i64 0) (fun _ => rfl)) (fun gq h h2 => by have := iv24 gq h; omega)).keep ((Chg.refl (fun gk => gk = (w4.heap.size)) _).setCell (w4.heap.size) 1 (.slice (some ⟨w2.heap.size, 0, none⟩) 14 14) (fun _ => rfl)) (fun gq h h2 => by have := iv24 gq h; omega)).keep ((Chg.refl (fun gk => gk = (w4.heap.size)) _).setCell (w4.heap.size) 2 (.slice px m.vals.length tx) (fun _ => rfl)) (fun gq h h2 => by have := iv24 gq h; omega)).keep ((Chg.refl (fun gk => gk = (w4.heap.size)) _).setCell (w4.heap.size) 3 (.slice py m.arrs.length ty) (fun _ => rfl)) (fun gq h h2 => by have := iv24 gq h; omega)).below hb
        replace bx27 : w6.cell? ⟨w4.heap.size, 0, none⟩ = some (.int .i64 0) := kept_cell hb (cell_ne (b := (w4.heap.size)) (j := 3) (cell_ne (b := (w4.heap.size)) (j := 2) (cell_ne (b := (w4.heap.size)) (j := 1) (cell_at _ (w4.heap.size) 0 (.int .i64 0) bx27) (by omega) (.slice (some ⟨w2.heap.size, 0, none⟩) 14 14)) (by omega) (.slice px m.vals.length tx)) (by omega) (.slice py m.arrs.length ty))
        replace bx29 : w6.cell? ⟨w4.heap.size, 1, none⟩ = some (.slice (some ⟨w2.heap.size, 0, none⟩) 14 14) := kept_cell hb (cell_ne (b := (w4.heap.size)) (j := 3) (cell_ne (b := (w4.heap.size)) (j := 2) (cell_at _ (w4.heap.size) 1 (.slice (some ⟨w2.heap.size, 0, none⟩) 14 14) (cell_ne (b := (w4.heap.size)) (j := 0) bx29 (by omega) (.int .i64 0))) (by omega) (.slice px m.vals.length tx)) (by omega) (.slice py m.arrs.length ty))
        replace bx31 : w6.cell? ⟨w4.heap.size, 2, none⟩ = some (.slice px m.vals.length tx) := kept_cell hb (cell_ne (b := (w4.heap.size)) (j := 3) (cell_at _ (w4.heap.size) 2 (.slice px m.vals.length tx) (cell_ne (b := (w4.heap.size)) (j := 1) (cell_ne (b := (w4.heap.size)) (j := 0) bx31 (by omega) (.int .i64 0)) (by omega) (.slice (some ⟨w2.heap.size, 0, none⟩) 14 14))) (by omega) (.slice py m.arrs.length ty))
        replace bx33 : w6.cell? ⟨w4.heap.size, 3, none⟩ = some (.slice py m.arrs.length ty) := kept_cell hb (cell_at _ (w4.heap.size) 3 (.slice py m.arrs.length ty) (cell_ne (b := (w4.heap.size)) (j := 2) (cell_ne (b := (w4.heap.size)) (j := 1) (cell_ne (b := (w4.heap.size)) (j := 0) bx33 (by omega) (.int .i64 0)) (by omega) (.slice (some ⟨w2.heap.size, 0, none⟩) 14 14)) (by omega) (.slice px m.vals.length tx)))
        replace tot := btr (bst (bst (bst (bst tot (w4.heap.size) 0 (by omega) (.int .i64 0)) (w4.heap.size) 1 (by omega) (.slice (some ⟨w2.heap.size, 0, none⟩) 14 14)) (w4.heap.size) 2 (by omega) (.slice px m.vals.length tx)) (w4.heap.size) 3 (by omega) (.slice py m.arrs.length ty)) hb
        clear hb
        rw [← hnw]
        clear hnw
        clear lt35 lt36
        have lt38 := lt_of_cell bx5
        have lt39 := lt_of_cell bx27
        refine hK.out _ _ ⟨bx5, bx6⟩ (fun hHeld => ?_)
        clear hK K
        try simp only [Act.put, List.setIfInBounds_toArray, List.set]
        refine wpAnyH_done (by kernel_rfl) ?_ _
        refine NoPanic.normal ?_
        clear hHeld
        go_wp2_with fail
        go_meet
        have OM : OwnMv _ w1.heap.size _ (.slice px m.vals.length tx) (.slice py m.arrs.length ty) us reg0 m := ⟨own_mono om18 (by omega), own_mono oM.x (by omega), oM.y.mono (by omega), fun q h h2 => by have := iv21 q h; have := iv24 q (Or.inl h2); omega, fun q h h2 => by have := iv21 q h; have := iv24 q (Or.inr h2); omega, oM.ap⟩
        have lz40 := lt_of_cell bx27
        exact ⟨_, _, _, _, _, _, us, rfl, bx27, bx29, bx31, bx33, bf28, bf30, bf32, bf34, OM, by omega, by omega, (fun q h hq => by rcases h with h | h | h; (have := iv21 q h; omega); (have := iv24 q (Or.inl h); omega); (have := iv24 q (Or.inr h); omega)), tot⟩
      refine AllReadyH.cons rfl (fun K hK => ?_) AllReadyH.nil
      go_simp
      obtain ⟨w4, hnw⟩ : ∃ X, X = (World.alloc w3 (.cells #[.int .i64 0, .slice none 0 0, .slice none 0 0, .slice none 0 0] 49)) := ⟨_, rfl⟩
      have hb : Below (World.alloc w3 (.cells #[.int .i64 0, .slice none 0 0, .slice none 0 0, .slice none 0 0] 49)).heap.size (World.alloc w3 (.cells #[.int .i64 0, .slice none 0 0, .slice none 0 0, .slice none 0 0] 49)) w4 := by rw [hnw]; exact bself _
      have hsz41 := hb.size
      simp only [World.size_alloc] at hsz41
      replace bx5 : w4.cell? ⟨w.heap.size + 1, 0, none⟩ = some (.slice a3 m.vals.length c3) := kept_cell hb (cell_al bx5 (.cells #[.int .i64 0, .slice none 0 0, .slice none 0 0, .slice none 0 0] 49))
      replace bx6 : w4.cell? ⟨w.heap.size + 1, 1, none⟩ = some (.slice a4 m.arrs.length c4) := kept_cell hb (cell_al bx6 (.cells #[.int .i64 0, .slice none 0 0, .slice none 0 0, .slice none 0 0] 49))
      replace om18 := own_below (own_below om18 (bal (bself _) (.cells #[.int .i64 0, .slice none 0 0, .slice none 0 0, .slice none 0 0] 49))) hb
      have bx42 : w4.cell? ⟨w3.heap.size, 0, none⟩ = some (.int .i64 0) := kept_cell hb (cell_nw (by simp) (by rfl))
      have bf43 : w4.frozen? ⟨w3.heap.size, 0, none⟩ = false := kept_froz hb (by simp) (froz_nw (by simp))
      have bx44 : w4.cell? ⟨w3.heap.size, 1, none⟩ = some (.slice none 0 0) := kept_cell hb (cell_nw (by simp) (by rfl))
      have bf45 : w4.frozen? ⟨w3.heap.size, 1, none⟩ = false := kept_froz hb (by simp) (froz_nw (by simp))
      have bx46 : w4.cell? ⟨w3.heap.size, 2, none⟩ = some (.slice none 0 0) := kept_cell hb (cell_nw (by simp) (by rfl))
      have bf47 : w4.frozen? ⟨w3.heap.size, 2, none⟩ = false := kept_froz hb (by simp) (froz_nw (by simp))
      have bx48 : w4.cell? ⟨w3.heap.size, 3, none⟩ = some (.slice none 0 0) := kept_cell hb (cell_nw (by simp) (by rfl))
      have bf49 : w4.frozen? ⟨w3.heap.size, 3, none⟩ = false := kept_froz hb (by simp) (froz_nw (by simp))
      replace tot := btr (bal tot (.cells #[.int .i64 0, .slice none 0 0, .slice none 0 0, .slice none 0 0] 49)) hb
      clear hb
      rw [← hnw]
      clear hnw
      clear lt22
      have lt50 := lt_of_cell bx5
      have lt51 := lt_of_cell bx42
      refine hK.out _ _ ⟨bx5, bx6⟩ (fun hHeld => ?_)
      clear hK K
      try simp only [Act.put, List.setIfInBounds_toArray, List.set]
      refine wpAnyH_ready (rs := [2]) (by kernel_rfl) (by simp) ?_
      refine AllReadyH.cons rfl (fun K hK => ?_) AllReadyH.nil
      go_simp
      refine (HCP.out _ (btr HT0.out tot)).mono ?_
      rintro e w5 ⟨ux, uy, us, rfl, ox, oy, hap, hb⟩
      obtain ⟨px, tx, rfl⟩ := own_shape ox
      obtain ⟨py, ty, rfl⟩ := own_shape oy.out
      have oM : OwnM w5 _ _ _ _ m := ⟨ox, oy, hap⟩
      clear ox oy hap
      have hsz52 := hb.size
      replace bf43 := kept_froz hb (lt_of_cell bx42) bf43
      replace bf45 := kept_froz hb (lt_of_cell bx44) bf45
      replace bf47 := kept_froz hb (lt_of_cell bx46) bf47
      replace bf49 := kept_froz hb (lt_of_cell bx48) bf49
      replace bx5 : w5.cell? ⟨w.heap.size + 1, 0, none⟩ = some (.slice a3 m.vals.length c3) := kept_cell hb bx5
      replace bx6 : w5.cell? ⟨w.heap.size + 1, 1, none⟩ = some (.slice a4 m.arrs.length c4) := kept_cell hb bx6
      replace om18 := own_below om18 hb
      replace bx42 : w5.cell? ⟨w3.heap.size, 0, none⟩ = some (.int .i64 0) := kept_cell hb bx42
      replace bx44 : w5.cell? ⟨w3.heap.size, 1, none⟩ = some (.slice none 0 0) := kept_cell hb bx44
      replace bx46 : w5.cell? ⟨w3.heap.size, 2, none⟩ = some (.slice none 0 0) := kept_cell hb bx46
      replace bx48 : w5.cell? ⟨w3.heap.size, 3, none⟩ = some (.slice none 0 0) := kept_cell hb bx48
      replace tot := btr tot hb
      clear hb
      have iv53 := oM.lt
      clear lt50 lt51
      have lt54 := lt_of_cell bx5
      have lt55 := lt_of_cell bx42
      refine hK.out _ _ ⟨bx5, bx6⟩ (fun hHeld => ?_)
      clear hK K
      try simp only [Act.put, List.setIfInBounds_toArray, List.set]
      refine take_d (i := 3) (d := 16) (v := ?_) rfl rfl (by kernel_rfl) (by kernel_rfl) (by kernel_rfl) (fun _ _ _ h => h) (Or.inl ⟨by rfl, ?_⟩) (by assumption) ?_
      rotate_left
      · intro W' hSw; (try dsimp only at hSw); obtain ⟨s0, s1⟩ := hSw; go_simp; try with_reducible rfl
      try simp only [Act.put, List.setIfInBounds_toArray, List.set]
      refine wpAnyH_ready (rs := [5]) (by kernel_rfl) (by simp) ?_
      refine AllReadyH.cons rfl (fun K hK => ?_) AllReadyH.nil
      go_simp
      obtain ⟨w6, hnw⟩ : ∃ X, X = (World.setCell (World.setCell (World.setCell (World.setCell w5 ⟨w3.heap.size, 0, none⟩ (.int .i64 0)) ⟨w3.heap.size, 1, none⟩ (.slice (some ⟨w2.heap.size, 0, none⟩) 14 14)) ⟨w3.heap.size, 2, none⟩ (.slice px m.vals.length tx)) ⟨w3.heap.size, 3, none⟩ (.slice py m.arrs.length ty)) := ⟨_, rfl⟩
      have hb : Below (World.setCell (World.setCell (World.setCell (World.setCell w5 ⟨w3.heap.size, 0, none⟩ (.int .i64 0)) ⟨w3.heap.size, 1, none⟩ (.slice (some ⟨w2.heap.size, 0, none⟩) 14 14)) ⟨w3.heap.size, 2, none⟩ (.slice px m.vals.length tx)) ⟨w3.heap.size, 3, none⟩ (.slice py m.arrs.length ty)).heap.size (World.setCell (World.setCell (World.setCell (World.setCell w5 ⟨w3.heap.size, 0, none⟩ (.int .i64 0)) ⟨w3.heap.size, 1, none⟩ (.slice (some ⟨w2.heap.size, 0, none⟩) 14 14)) ⟨w3.heap.size, 2, none⟩ (.slice px m.vals.length tx)) ⟨w3.heap.size, 3, none⟩ (.slice py m.arrs.length ty)) w6 := by rw [hnw]; exact bself _
      have hsz56 := hb.size
      simp only [World.size_setCell] at hsz56
      replace bf43 := kept_froz hb (lt_of_cell (cell_ne (b := (w3.heap.size)) (j := 3) (cell_ne (b := (w3.heap.size)) (j := 2) (cell_ne (b := (w3.heap.size)) (j := 1) (cell_at _ (w3.heap.size) 0 (.int .i64 0) bx42) (by omega) (.slice (some ⟨w2.heap.size, 0, none⟩) 14 14)) (by omega) (.slice px m.vals.length tx)) (by omega) (.slice py m.arrs.length ty))) (froz_st (b := ⟨(w3.heap.size), 3, none⟩) (froz_st (b := ⟨(w3.heap.size), 2, none⟩) (froz_st (b := ⟨(w3.heap.size), 1, none⟩) (froz_st (b := ⟨(w3.heap.size), 0, none⟩) bf43 (.int .i64 0)) (.slice (some ⟨w2.heap.size, 0, none⟩) 14 14)) (.slice px m.vals.length tx)) (.slice py m.arrs.length ty))
      replace bf45 := kept_froz hb (lt_of_cell (cell_ne (b := (w3.heap.size)) (j := 3) (cell_ne (b := (w3.heap.size)) (j := 2) (cell_at _ (w3.heap.size) 1 (.slice (some ⟨w2.heap.size, 0, none⟩) 14 14) (cell_ne (b := (w3.heap.size)) (j := 0) bx44 (by omega) (.int .i64 0))) (by omega) (.slice px m.vals.length tx)) (by omega) (.slice py m.arrs.length ty))) (froz_st (b := ⟨(w3.heap.size), 3, none⟩) (froz_st (b := ⟨(w3.heap.size), 2, none⟩) (froz_st (b := ⟨(w3.heap.size), 1, none⟩) (froz_st (b := ⟨(w3.heap.size), 0, none⟩) bf45 (.int .i64 0)) (.slice (some ⟨w2.heap.size, 0, none⟩) 14 14)) (.slice px m.vals.length tx)) (.slice py m.arrs.length ty))
      replace bf47 := kept_froz hb (lt_of_cell (cell_ne (b := (w3.heap.size)) (j := 3) (cell_at _ (w3.heap.size) 2 (.slice px m.vals.length tx) (cell_ne (b := (w3.heap.size)) (j := 1) (cell_ne (b := (w3.heap.size)) (j := 0) bx46 (by omega) (.int .i64 0)) (by omega) (.slice (some ⟨w2.heap.size, 0, none⟩) 14 14))) (by omega) (.slice py m.arrs.length ty))) (froz_st (b := ⟨(w3.heap.size), 3, none⟩) (froz_st (b := ⟨(w3.heap.size), 2, none⟩) (froz_st (b := ⟨(w3.heap.size), 1, none⟩) (froz_st (b := ⟨(w3.heap.size), 0, none⟩) bf47 (.int .i64 0)) (.slice (some ⟨w2.heap.size, 0, none⟩) 14 14)) (.slice px m.vals.length tx)) (.slice py m.arrs.length ty))
      replace bf49 := kept_froz hb (lt_of_cell (cell_at _ (w3.heap.size) 3 (.slice py m.arrs.length ty) (cell_ne (b := (w3.heap.size)) (j := 2) (cell_ne (b := (w3.heap.size)) (j := 1) (cell_ne (b := (w3.heap.size)) (j := 0) bx48 (by omega) (.int .i64 0)) (by omega) (.slice (some ⟨w2.heap.size, 0, none⟩) 14 14)) (by omega) (.slice px m.vals.length tx)))) (froz_st (b := ⟨(w3.heap.size), 3, none⟩) (froz_st (b := ⟨(w3.heap.size), 2, none⟩) (froz_st (b := ⟨(w3.heap.size), 1, none⟩) (froz_st (b := ⟨(w3.heap.size), 0, none⟩) bf49 (.int .i64 0)) (.slice (some ⟨w2.heap.size, 0, none⟩) 14 14)) (.slice px m.vals.length tx)) (.slice py m.arrs.length ty))
      replace bx5 : w6.cell? ⟨w.heap.size + 1, 0, none⟩ = some (.slice a3 m.vals.length c3) := kept_cell hb (cell_ne (b := (w3.heap.size)) (j := 3) (cell_ne (b := (w3.heap.size)) (j := 2) (cell_ne (b := (w3.heap.size)) (j := 1) (cell_ne (b := (w3.heap.size)) (j := 0) bx5 (by omega) (.int .i64 0)) (by omega) (.slice (some ⟨w2.heap.size, 0, none⟩) 14 14)) (by omega) (.slice px m.vals.length tx)) (by omega) (.slice py m.arrs.length ty))
      replace bx6 : w6.cell? ⟨w.heap.size + 1, 1, none⟩ = some (.slice a4 m.arrs.length c4) := kept_cell hb (cell_ne (b := (w3.heap.size)) (j := 3) (cell_ne (b := (w3.heap.size)) (j := 2) (cell_ne (b := (w3.heap.size)) (j := 1) (cell_ne (b := (w3.heap.size)) (j := 0) bx6 (by omega) (.int .i64 0)) (by omega) (.slice (some ⟨w2.heap.size, 0, none⟩) 14 14)) (by omega) (.slice px m.vals.length tx)) (by omega) (.slice py m.arrs.length ty))
      replace om18 := own_below (own_set (own_set (own_set (own_set om18 (w3.heap.size) 0 (fun h => by have := iv21 _ h; omega) (.int .i64 0)) (w3.heap.size) 1 (fun h => by have := iv21 _ h; omega) (.slice (some ⟨w2.heap.size, 0, none⟩) 14 14)) (w3.heap.size) 2 (fun h => by have := iv21 _ h; omega) (.slice px m.vals.length tx)) (w3.heap.size) 3 (fun h => by have := iv21 _ h; omega) (.slice py m.arrs.length ty)) hb
      replace bx42 : w6.cell? ⟨w3.heap.size, 0, none⟩ = some (.int .i64 0) := kept_cell hb (cell_ne (b := (w3.heap.size)) (j := 3) (cell_ne (b := (w3.heap.size)) (j := 2) (cell_ne (b := (w3.heap.size)) (j := 1) (cell_at _ (w3.heap.size) 0 (.int .i64 0) bx42) (by omega) (.slice (some ⟨w2.heap.size, 0, none⟩) 14 14)) (by omega) (.slice px m.vals.length tx)) (by omega) (.slice py m.arrs.length ty))
      replace bx44 : w6.cell? ⟨w3.heap.size, 1, none⟩ = some (.slice (some ⟨w2.heap.size, 0, none⟩) 14 14) := kept_cell hb (cell_ne (b := (w3.heap.size)) (j := 3) (cell_ne (b := (w3.heap.size)) (j := 2) (cell_at _ (w3.heap.size) 1 (.slice (some ⟨w2.heap.size, 0, none⟩) 14 14) (cell_ne (b := (w3.heap.size)) (j := 0) bx44 (by omega) (.int .i64 0))) (by omega) (.slice px m.vals.length tx)) (by omega) (.slice py m.arrs.length ty))
      replace bx46 : w6.cell? ⟨w3.heap.size, 2, none⟩ = some (.slice px m.vals.length tx) := kept_cell hb (cell_ne (b := (w3.heap.size)) (j := 3) (cell_at _ (w3.heap.size) 2 (.slice px m.vals.length tx) (cell_ne (b := (w3.heap.size)) (j := 1) (cell_ne (b := (w3.heap.size)) (j := 0) bx46 (by omega) (.int .i64 0)) (by omega) (.slice (some ⟨w2.heap.size, 0, none⟩) 14 14))) (by omega) (.slice py m.arrs.length ty))
      replace bx48 : w6.cell? ⟨w3.heap.size, 3, none⟩ = some (.slice py m.arrs.length ty) := kept_cell hb (cell_at _ (w3.heap.size) 3 (.slice py m.arrs.length ty) (cell_ne (b := (w3.heap.size)) (j := 2) (cell_ne (b := (w3.heap.size)) (j := 1) (cell_ne (b := (w3.heap.size)) (j := 0) bx48 (by omega) (.int .i64 0)) (by omega) (.slice (some ⟨w2.heap.size, 0, none⟩) 14 14)) (by omega) (.slice px m.vals.length tx)))
      replace oM := ((((oM.keep ((Chg.refl (fun gk => gk = (w3.heap.size)) _).setCell (w3.heap.size) 0 (.int .i64 0) (fun _ => rfl)) (fun gq h h2 => by have := iv53 gq h; omega)).keep ((Chg.refl (fun gk => gk = (w3.heap.size)) _).setCell (w3.heap.size) 1 (.slice (some ⟨w2.heap.size, 0, none⟩) 14 14) (fun _ => rfl)) (fun gq h h2 => by have := iv53 gq h; omega)).keep ((Chg.refl (fun gk => gk = (w3.heap.size)) _).setCell (w3.heap.size) 2 (.slice px m.vals.length tx) (fun _ => rfl)) (fun gq h h2 => by have := iv53 gq h; omega)).keep ((Chg.refl (fun gk => gk = (w3.heap.size)) _).setCell (w3.heap.size) 3 (.slice py m.arrs.length ty) (fun _ => rfl)) (fun gq h h2 => by have := iv53 gq h; omega)).below hb
      replace tot := btr (bst (bst (bst (bst tot (w3.heap.size) 0 (by omega) (.int .i64 0)) (w3.heap.size) 1 (by omega) (.slice (some ⟨w2.heap.size, 0, none⟩) 14 14)) (w3.heap.size) 2 (by omega) (.slice px m.vals.length tx)) (w3.heap.size) 3 (by omega) (.slice py m.arrs.length ty)) hb
      clear hb
      rw [← hnw]
      clear hnw
      clear lt54 lt55
      have lt57 := lt_of_cell bx5
      have lt58 := lt_of_cell bx42
      refine hK.out _ _ ⟨bx5, bx6⟩ (fun hHeld => ?_)
      clear hK K
      try simp only [Act.put, List.setIfInBounds_toArray, List.set]
      refine wpAnyH_done (by kernel_rfl) ?_ _
      refine NoPanic.normal ?_
      clear hHeld
      go_wp2_with fail
      go_meet
      have OM : OwnMv _ w1.heap.size _ (.slice px m.vals.length tx) (.slice py m.arrs.length ty) us reg0 m := ⟨own_mono om18 (by omega), own_mono oM.x (by omega), oM.y.mono (by omega), fun q h h2 => by have := iv21 q h; have := iv53 q (Or.inl h2); omega, fun q h h2 => by have := iv21 q h; have := iv53 q (Or.inr h2); omega, oM.ap⟩
      have lz59 := lt_of_cell bx42
      exact ⟨_, _, _, _, _, _, us, rfl, bx42, bx44, bx46, bx48, bf43, bf45, bf47, bf49, OM, by omega, by omega, (fun q h hq => by rcases h with h | h | h; (have := iv21 q h; omega); (have := iv53 q (Or.inl h); omega); (have := iv53 q (Or.inr h); omega)), tot⟩
    refine AllReadyH.cons rfl (fun K hK => ?_) ?_
    · -- 2
      go_simp
      refine (HCP.out _ (btr HT0.out tot)).mono ?_
      rintro e w3 ⟨ux, uy, us, rfl, ox, oy, hap, hb⟩
      obtain ⟨px, tx, rfl⟩ := own_shape ox
      obtain ⟨py, ty, rfl⟩ := own_shape oy.out
      have oM : OwnM w3 _ _ _ _ m := ⟨ox, oy, hap⟩
      clear ox oy hap
      have hsz60 := hb.size
      replace bx5 : w3.cell? ⟨w.heap.size + 1, 0, none⟩ = some (.slice a3 m.vals.length c3) := kept_cell hb bx5
      replace bx6 : w3.cell? ⟨w.heap.size + 1, 1, none⟩ = some (.slice a4 m.arrs.length c4) := kept_cell hb bx6
      replace tot := btr tot hb
      clear hb
      have iv61 := oM.lt
      clear lt17
      have lt62 := lt_of_cell bx5
      refine hK.out _ _ ⟨bx5, bx6⟩ (fun hHeld => ?_)
      clear hK K
      try simp only [Act.put, List.setIfInBounds_toArray, List.set]
      refine wpAnyH_ready (rs := [0, 4]) (by kernel_rfl) (by simp) ?_
      refine AllReadyH.cons rfl (fun K hK => ?_) ?_
      · -- 0
        go_simp
        obtain ⟨w4, hnw⟩ : ∃ X, X = World.alloc w3 (.cells (madeCells #[.int .i64 0] 14) 3) := ⟨_, rfl⟩
        try rw [← hnw]
        have om63 := own_made w3 (.int .i64 0) 14 3 (by unfold maxLen; omega)
        rw [← ints_replicate, ← hnw] at om63
        have hb : Below w3.heap.size w3 w4 := by rw [hnw]; exact bal (bself _) _
        have hzm64 : w3.heap.size + 1 ≤ w4.heap.size := by rw [hnw]; simp
        clear hnw
        have hsz65 := hb.size
        replace bx5 : w4.cell? ⟨w.heap.size + 1, 0, none⟩ = some (.slice a3 m.vals.length c3) := kept_cell hb bx5
        replace bx6 : w4.cell? ⟨w.heap.size + 1, 1, none⟩ = some (.slice a4 m.arrs.length c4) := kept_cell hb bx6
        replace oM := oM.below hb
        replace tot := btr tot hb
        clear hb
        have iv66 := om63.lt
        clear lt62
        have lt67 := lt_of_cell bx5
        refine hK.out _ _ ⟨bx5, bx6⟩ (fun hHeld => ?_)
        clear hK K
        try simp only [Act.put, List.setIfInBounds_toArray, List.set]
        refine take_d (i := 3) (d := 16) (v := ?_) rfl rfl (by kernel_rfl) (by kernel_rfl) (by kernel_rfl) (fun _ _ _ h => h) (Or.inl ⟨by rfl, ?_⟩) (by assumption) ?_
        rotate_left
        · intro W' hSw; (try dsimp only at hSw); obtain ⟨s0, s1⟩ := hSw; go_simp; try with_reducible rfl
        try simp only [Act.put, List.setIfInBounds_toArray, List.set]
        refine wpAnyH_ready (rs := [4]) (by kernel_rfl) (by simp) ?_
        refine AllReadyH.cons rfl (fun K hK => ?_) AllReadyH.nil
        go_simp
        obtain ⟨w5, hnw⟩ : ∃ X, X = (World.alloc w4 (.cells #[.int .i64 0, .slice none 0 0, .slice none 0 0, .slice none 0 0] 49)) := ⟨_, rfl⟩
        have hb : Below (World.alloc w4 (.cells #[.int .i64 0, .slice none 0 0, .slice none 0 0, .slice none 0 0] 49)).heap.size (World.alloc w4 (.cells #[.int .i64 0, .slice none 0 0, .slice none 0 0, .slice none 0 0] 49)) w5 := by rw [hnw]; exact bself _
        have hsz68 := hb.size
        simp only [World.size_alloc] at hsz68
        replace bx5 : w5.cell? ⟨w.heap.size + 1, 0, none⟩ = some (.slice a3 m.vals.length c3) := kept_cell hb (cell_al bx5 (.cells #[.int .i64 0, .slice none 0 0, .slice none 0 0, .slice none 0 0] 49))
        replace bx6 : w5.cell? ⟨w.heap.size + 1, 1, none⟩ = some (.slice a4 m.arrs.length c4) := kept_cell hb (cell_al bx6 (.cells #[.int .i64 0, .slice none 0 0, .slice none 0 0, .slice none 0 0] 49))
        replace oM := (oM.below (bal (bself _) (.cells #[.int .i64 0, .slice none 0 0, .slice none 0 0, .slice none 0 0] 49))).below hb
        replace om63 := own_below (own_below om63 (bal (bself _) (.cells #[.int .i64 0, .slice none 0 0, .slice none 0 0, .slice none 0 0] 49))) hb
        have bx69 : w5.cell? ⟨w4.heap.size, 0, none⟩ = some (.int .i64 0) := kept_cell hb (cell_nw (by simp) (by rfl))
        have bf70 : w5.frozen? ⟨w4.heap.size, 0, none⟩ = false := kept_froz hb (by simp) (froz_nw (by simp))
        have bx71 : w5.cell? ⟨w4.heap.size, 1, none⟩ = some (.slice none 0 0) := kept_cell hb (cell_nw (by simp) (by rfl))
        have bf72 : w5.frozen? ⟨w4.heap.size, 1, none⟩ = false := kept_froz hb (by simp) (froz_nw (by simp))
        have bx73 : w5.cell? ⟨w4.heap.size, 2, none⟩ = some (.slice none 0 0) := kept_cell hb (cell_nw (by simp) (by rfl))
        have bf74 : w5.frozen? ⟨w4.heap.size, 2, none⟩ = false := kept_froz hb (by simp) (froz_nw (by simp))
        have bx75 : w5.cell? ⟨w4.heap.size, 3, none⟩ = some (.slice none 0 0) := kept_cell hb (cell_nw (by simp) (by rfl))
        have bf76 : w5.frozen? ⟨w4.heap.size, 3, none⟩ = false := kept_froz hb (by simp) (froz_nw (by simp))
        replace tot := btr (bal tot (.cells #[.int .i64 0, .slice none 0 0, .slice none 0 0, .slice none 0 0] 49)) hb
        clear hb
        rw [← hnw]
        clear hnw
        clear lt67
        have lt77 := lt_of_cell bx5
        have lt78 := lt_of_cell bx69
        refine hK.out _ _ ⟨bx5, bx6⟩ (fun hHeld => ?_)
        clear hK K
        try simp only [Act.put, List.setIfInBounds_toArray, List.set]
        refine wpAnyH_ready (rs := [5]) (by kernel_rfl) (by simp) ?_
        refine AllReadyH.cons rfl (fun K hK => ?_) AllReadyH.nil
        go_simp
        obtain ⟨w6, hnw⟩ : ∃ X, X = (World.setCell (World.setCell (World.setCell (World.setCell w5 ⟨w4.heap.size, 0, none⟩ (.int .i64 0)) ⟨w4.heap.size, 1, none⟩ (.slice (some ⟨w3.heap.size, 0, none⟩) 14 14)) ⟨w4.heap.size, 2, none⟩ (.slice px m.vals.length tx)) ⟨w4.heap.size, 3, none⟩ (.slice py m.arrs.length ty)) := ⟨_, rfl⟩
        have hb : Below (World.setCell (World.setCell (World.setCell (World.setCell w5 ⟨w4.heap.size, 0, none⟩ (.int .i64 0)) ⟨w4.heap.size, 1, none⟩ (.slice (some ⟨w3.heap.size, 0, none⟩) 14 14)) ⟨w4.heap.size, 2, none⟩ (.slice px m.vals.length tx)) ⟨w4.heap.size, 3, none⟩ (.slice py m.arrs.length ty)).heap.size (World.setCell (World.setCell (World.setCell (World.setCell w5 ⟨w4.heap.size, 0, none⟩ (.int .i64 0)) ⟨w4.heap.size, 1, none⟩ (.slice (some ⟨w3.heap.size, 0, none⟩) 14 14)) ⟨w4.heap.size, 2, none⟩ (.slice px m.vals.length tx)) ⟨w4.heap.size, 3, none⟩ (.slice py m.arrs.length ty)) w6 := by rw [hnw]; exact bself _
        have hsz79 := hb.size
        simp only [World.size_setCell] at hsz79
        replace bf70 := kept_froz hb (lt_of_cell (cell_ne (b := (w4.heap.size)) (j := 3) (cell_ne (b := (w4.heap.size)) (j := 2) (cell_ne (b := (w4.heap.size)) (j := 1) (cell_at _ (w4.heap.size) 0 (.int .i64 0) bx69) (by omega) (.slice (some ⟨w3.heap.size, 0, none⟩) 14 14)) (by omega) (.slice px m.vals.length tx)) (by omega) (.slice py m.arrs.length ty))) (froz_st (b := ⟨(w4.heap.size), 3, none⟩) (froz_st (b := ⟨(w4.heap.size), 2, none⟩) (froz_st (b := ⟨(w4.heap.size), 1, none⟩) (froz_st (b := ⟨(w4.heap.size), 0, none⟩) bf70 (.int .i64 0)) (.slice (some ⟨w3.heap.size, 0, none⟩) 14 14)) (.slice px m.vals.length tx)) (.slice py m.arrs.length ty))
        replace bf72 := kept_froz hb (lt_of_cell (cell_ne (b := (w4.heap.size)) (j := 3) (cell_ne (b := (w4.heap.size)) (j := 2) (cell_at _ (w4.heap.size) 1 (.slice (some ⟨w3.heap.size, 0, none⟩) 14 14) (cell_ne (b := (w4.heap.size)) (j := 0) bx71 (by omega) (.int .i64 0))) (by omega) (.slice px m.vals.length tx)) (by omega) (.slice py m.arrs.length ty))) (froz_st (b := ⟨(w4.heap.size), 3, none⟩) (froz_st (b := ⟨(w4.heap.size), 2, none⟩) (froz_st (b := ⟨(w4.heap.size), 1, none⟩) (froz_st (b := ⟨(w4.heap.size), 0, none⟩) bf72 (.int .i64 0)) (.slice (some ⟨w3.heap.size, 0, none⟩) 14 14)) (.slice px m.vals.length tx)) (.slice py m.arrs.length ty))
        replace bf74 := kept_froz hb (lt_of_cell (cell_ne (b := (w4.heap.size)) (j := 3) (cell_at _ (w4.heap.size) 2 (.slice px m.vals.length tx) (cell_ne (b := (w4.heap.size)) (j := 1) (cell_ne (b := (w4.heap.size)) (j := 0) bx73 (by omega) (.int .i64 0)) (by omega) (.slice (some ⟨w3.heap.size, 0, none⟩) 14 14))) (by omega) (.slice py m.arrs.length ty))) (froz_st (b := ⟨(w4.heap.size), 3, none⟩) (froz_st (b := ⟨(w4.heap.size), 2, none⟩) (froz_st (b := ⟨(w4.heap.size), 1, none⟩) (froz_st (b := ⟨(w4.heap.size), 0, none⟩) bf74 (.int .i64 0)) (.slice (some ⟨w3.heap.size, 0, none⟩) 14 14)) (.slice px m.vals.length tx)) (.slice py m.arrs.length ty))
        replace bf76 := kept_froz hb (lt_of_cell (cell_at _ (w4.heap.size) 3 (.slice py m.arrs.length ty) (cell_ne (b := (w4.heap.size)) (j := 2) (cell_ne (b := (w4.heap.size)) (j := 1) (cell_ne (b := (w4.heap.size)) (j := 0) bx75 (by omega) (.int .i64 0)) (by omega) (.slice (some ⟨w3.heap.size, 0, none⟩) 14 14)) (by omega) (.slice px m.vals.length tx)))) (froz_st (b := ⟨(w4.heap.size), 3, none⟩) (froz_st (b := ⟨(w4.heap.size), 2, none⟩) (froz_st (b := ⟨(w4.heap.size), 1, none⟩) (froz_st (b := ⟨(w4.heap.size), 0, none⟩) bf76 (.int .i64 0)) (.slice (some ⟨w3.heap.size, 0, none⟩) 14 14)) (.slice px m.vals.length tx)) (.slice py m.arrs.length ty))
        replace bx5 : w6.cell? ⟨w.heap.size + 1, 0, none⟩ = some (.slice a3 m.vals.length c3) := kept_cell hb (cell_ne (b := (w4.heap.size)) (j := 3) (cell_ne (b := (w4.heap.size)) (j := 2) (cell_ne (b := (w4.heap.size)) (j := 1) (cell_ne (b := (w4.heap.size)) (j := 0) bx5 (by omega) (.int .i64 0)) (by omega) (.slice (some ⟨w3.heap.size, 0, none⟩) 14 14)) (by omega) (.slice px m.vals.length tx)) (by omega) (.slice py m.arrs.length ty))
        replace bx6 : w6.cell? ⟨w.heap.size + 1, 1, none⟩ = some (.slice a4 m.arrs.length c4) := kept_cell hb (cell_ne (b := (w4.heap.size)) (j := 3) (cell_ne (b := (w4.heap.size)) (j := 2) (cell_ne (b := (w4.heap.size)) (j := 1) (cell_ne (b := (w4.heap.size)) (j := 0) bx6 (by omega) (.int .i64 0)) (by omega) (.slice (some ⟨w3.heap.size, 0, none⟩) 14 14)) (by omega) (.slice px m.vals.length tx)) (by omega) (.slice py m.arrs.length ty))
        replace oM := ((((oM.keep ((Chg.refl (fun gk => gk = (w4.heap.size)) _).setCell (w4.heap.size) 0 (.int .i64 0) (fun _ => rfl)) (fun gq h h2 => by have := iv61 gq h; omega)).keep ((Chg.refl (fun gk => gk = (w4.heap.size)) _).setCell (w4.heap.size) 1 (.slice (some ⟨w3.heap.size, 0, none⟩) 14 14) (fun _ => rfl)) (fun gq h h2 => by have := iv61 gq h; omega)).keep ((Chg.refl (fun gk => gk = (w4.heap.size)) _).setCell (w4.heap.size) 2 (.slice px m.vals.length tx) (fun _ => rfl)) (fun gq h h2 => by have := iv61 gq h; omega)).keep ((Chg.refl (fun gk => gk = (w4.heap.size)) _).setCell (w4.heap.size) 3 (.slice py m.arrs.length ty) (fun _ => rfl)) (fun gq h h2 => by have := iv61 gq h; omega)).below hb
        replace om63 := own_below (own_set (own_set (own_set (own_set om63 (w4.heap.size) 0 (fun h => by have := iv66 _ h; omega) (.int .i64 0)) (w4.heap.size) 1 (fun h => by have := iv66 _ h; omega) (.slice (some ⟨w3.heap.size, 0, none⟩) 14 14)) (w4.heap.size) 2 (fun h => by have := iv66 _ h; omega) (.slice px m.vals.length tx)) (w4.heap.size) 3 (fun h => by have := iv66 _ h; omega) (.slice py m.arrs.length ty)) hb
        replace bx69 : w6.cell? ⟨w4.heap.size, 0, none⟩ = some (.int .i64 0) := kept_cell hb (cell_ne (b := (w4.heap.size)) (j := 3) (cell_ne (b := (w4.heap.size)) (j := 2) (cell_ne (b := (w4.heap.size)) (j := 1) (cell_at _ (w4.heap.size) 0 (.int .i64 0) bx69) (by omega) (.slice (some ⟨w3.heap.size, 0, none⟩) 14 14)) (by omega) (.slice px m.vals.length tx)) (by omega) (.slice py m.arrs.length ty))
        replace bx71 : w6.cell? ⟨w4.heap.size, 1, none⟩ = some (.slice (some ⟨w3.heap.size, 0, none⟩) 14 14) := kept_cell hb (cell_ne (b := (w4.heap.size)) (j := 3) (cell_ne (b := (w4.heap.size)) (j := 2) (cell_at _ (w4.heap.size) 1 (.slice (some ⟨w3.heap.size, 0, none⟩) 14 14) (cell_ne (b := (w4.heap.size)) (j := 0) bx71 (by omega) (.int .i64 0))) (by omega) (.slice px m.vals.length tx)) (by omega) (.slice py m.arrs.length ty))
        replace bx73 : w6.cell? ⟨w4.heap.size, 2, none⟩ = some (.slice px m.vals.length tx) := kept_cell hb (cell_ne (b := (w4.heap.size)) (j := 3) (cell_at _ (w4.heap.size) 2 (.slice px m.vals.length tx) (cell_ne (b := (w4.heap.size)) (j := 1) (cell_ne (b := (w4.heap.size)) (j := 0) bx73 (by omega) (.int .i64 0)) (by omega) (.slice (some ⟨w3.heap.size, 0, none⟩) 14 14))) (by omega) (.slice py m.arrs.length ty))
        replace bx75 : w6.cell? ⟨w4.heap.size, 3, none⟩ = some (.slice py m.arrs.length ty) := kept_cell hb (cell_at _ (w4.heap.size) 3 (.slice py m.arrs.length ty) (cell_ne (b := (w4.heap.size)) (j := 2) (cell_ne (b := (w4.heap.size)) (j := 1) (cell_ne (b := (w4.heap.size)) (j := 0) bx75 (by omega) (.int .i64 0)) (by omega) (.slice (some ⟨w3.heap.size, 0, none⟩) 14 14)) (by omega) (.slice px m.vals.length tx)))
        replace tot := btr (bst (bst (bst (bst tot (w4.heap.size) 0 (by omega) (.int .i64 0)) (w4.heap.size) 1 (by omega) (.slice (some ⟨w3.heap.size, 0, none⟩) 14 14)) (w4.heap.size) 2 (by omega) (.slice px m.vals.length tx)) (w4.heap.size) 3 (by omega) (.slice py m.arrs.length ty)) hb
        clear hb
        rw [← hnw]
        clear hnw
        clear lt77 lt78
        have lt80 := lt_of_cell bx5
        have lt81 := lt_of_cell bx69
        refine hK.out _ _ ⟨bx5, bx6⟩ (fun hHeld => ?_)
        clear hK K
        try simp only [Act.put, List.setIfInBounds_toArray, List.set]
        refine wpAnyH_done (by kernel_rfl) ?_ _
        refine NoPanic.normal ?_
        clear hHeld
        go_wp2_with fail
        go_meet
        have OM : OwnMv _ w1.heap.size _ (.slice px m.vals.length tx) (.slice py m.arrs.length ty) us reg0 m := ⟨own_mono om63 (by omega), own_mono oM.x (by omega), oM.y.mono (by omega), fun q h h2 => by have := iv66 q h; have := iv61 q (Or.inl h2); omega, fun q h h2 => by have := iv66 q h; have := iv61 q (Or.inr h2); omega, oM.ap⟩
        have lz82 := lt_of_cell bx69
        exact ⟨_, _, _, _, _, _, us, rfl, bx69, bx71, bx73, bx75, bf70, bf72, bf74, bf76, OM, by omega, by omega, (fun q h hq => by rcases h with h | h | h; (have := iv66 q h; omega); (have := iv61 q (Or.inl h); omega); (have := iv61 q (Or.inr h); omega)), tot⟩
      refine AllReadyH.cons rfl (fun K hK => ?_) AllReadyH.nil
      go_simp
      obtain ⟨w4, hnw⟩ : ∃ X, X = (World.alloc w3 (.cells #[.int .i64 0, .slice none 0 0, .slice none 0 0, .slice none 0 0] 49)) := ⟨_, rfl⟩
      have hb : Below (World.alloc w3 (.cells #[.int .i64 0, .slice none 0 0, .slice none 0 0, .slice none 0 0] 49)).heap.size (World.alloc w3 (.cells #[.int .i64 0, .slice none 0 0, .slice none 0 0, .slice none 0 0] 49)) w4 := by rw [hnw]; exact bself _
      have hsz83 := hb.size
      simp only [World.size_alloc] at hsz83
      replace bx5 : w4.cell? ⟨w.heap.size + 1, 0, none⟩ = some (.slice a3 m.vals.length c3) := kept_cell hb (cell_al bx5 (.cells #[.int .i64 0, .slice none 0 0, .slice none 0 0, .slice none 0 0] 49))
      replace bx6 : w4.cell? ⟨w.heap.size + 1, 1, none⟩ = some (.slice a4 m.arrs.length c4) := kept_cell hb (cell_al bx6 (.cells #[.int .i64 0, .slice none 0 0, .slice none 0 0, .slice none 0 0] 49))
      replace oM := (oM.below (bal (bself _) (.cells #[.int .i64 0, .slice none 0 0, .slice none 0 0, .slice none 0 0] 49))).below hb
      have bx84 : w4.cell? ⟨w3.heap.size, 0, none⟩ = some (.int .i64 0) := kept_cell hb (cell_nw (by simp) (by rfl))
      have bf85 : w4.frozen? ⟨w3.heap.size, 0, none⟩ = false := kept_froz hb (by simp) (froz_nw (by simp))
      have bx86 : w4.cell? ⟨w3.heap.size, 1, none⟩ = some (.slice none 0 0) := kept_cell hb (cell_nw (by simp) (by rfl))
      have bf87 : w4.frozen? ⟨w3.heap.size, 1, none⟩ = false := kept_froz hb (by simp) (froz_nw (by simp))
      have bx88 : w4.cell? ⟨w3.heap.size, 2, none⟩ = some (.slice none 0 0) := kept_cell hb (cell_nw (by simp) (by rfl))
      have bf89 : w4.frozen? ⟨w3.heap.size, 2, none⟩ = false := kept_froz hb (by simp) (froz_nw (by simp))
      have bx90 : w4.cell? ⟨w3.heap.size, 3, none⟩ = some (.slice none 0 0) := kept_cell hb (cell_nw (by simp) (by rfl))
      have bf91 : w4.frozen? ⟨w3.heap.size, 3, none⟩ = false := kept_froz hb (by simp) (froz_nw (by simp))
      replace tot := btr (bal tot (.cells #[.int .i64 0, .slice none 0 0, .slice none 0 0, .slice none 0 0] 49)) hb
      clear hb
      rw [← hnw]
      clear hnw
      clear lt62
      have lt92 := lt_of_cell bx5
      have lt93 := lt_of_cell bx84
      refine hK.out _ _ ⟨bx5, bx6⟩ (fun hHeld => ?_)
      clear hK K
      try simp only [Act.put, List.setIfInBounds_toArray, List.set]
      refine wpAnyH_ready (rs := [0]) (by kernel_rfl) (by simp) ?_
      refine AllReadyH.cons rfl (fun K hK => ?_) AllReadyH.nil
      go_simp
      obtain ⟨w5, hnw⟩ : ∃ X, X = World.alloc w4 (.cells (madeCells #[.int .i64 0] 14) 3) := ⟨_, rfl⟩
      try rw [← hnw]
      have om94 := own_made w4 (.int .i64 0) 14 3 (by unfold maxLen; omega)
      rw [← ints_replicate, ← hnw] at om94
      have hb : Below w4.heap.size w4 w5 := by rw [hnw]; exact bal (bself _) _
      have hzm95 : w4.heap.size + 1 ≤ w5.heap.size := by rw [hnw]; simp
      clear hnw
      have hsz96 := hb.size
      replace bf85 := kept_froz hb (lt_of_cell bx84) bf85
      replace bf87 := kept_froz hb (lt_of_cell bx86) bf87
      replace bf89 := kept_froz hb (lt_of_cell bx88) bf89
      replace bf91 := kept_froz hb (lt_of_cell bx90) bf91
      replace bx5 : w5.cell? ⟨w.heap.size + 1, 0, none⟩ = some (.slice a3 m.vals.length c3) := kept_cell hb bx5
      replace bx6 : w5.cell? ⟨w.heap.size + 1, 1, none⟩ = some (.slice a4 m.arrs.length c4) := kept_cell hb bx6
      replace oM := oM.below hb
      replace bx84 : w5.cell? ⟨w3.heap.size, 0, none⟩ = some (.int .i64 0) := kept_cell hb bx84
      replace bx86 : w5.cell? ⟨w3.heap.size, 1, none⟩ = some (.slice none 0 0) := kept_cell hb bx86
      replace bx88 : w5.cell? ⟨w3.heap.size, 2, none⟩ = some (.slice none 0 0) := kept_cell hb bx88
      replace bx90 : w5.cell? ⟨w3.heap.size, 3, none⟩ = some (.slice none 0 0) := kept_cell hb bx90
      replace tot := btr tot hb
      clear hb
      have iv97 := om94.lt
      clear lt92 lt93
      have lt98 := lt_of_cell bx5
      have lt99 := lt_of_cell bx84
      refine hK.out _ _ ⟨bx5, bx6⟩ (fun hHeld => ?_)
      clear hK K
      try simp only [Act.put, List.setIfInBounds_toArray, List.set]
      refine take_d (i := 3) (d := 16) (v := ?_) rfl rfl (by kernel_rfl) (by kernel_rfl) (by kernel_rfl) (fun _ _ _ h => h) (Or.inl ⟨by rfl, ?_⟩) (by assumption) ?_
      rotate_left
      · intro W' hSw; (try dsimp only at hSw); obtain ⟨s0, s1⟩ := hSw; go_simp; try with_reducible rfl
      try simp only [Act.put, List.setIfInBounds_toArray, List.set]
      refine wpAnyH_ready (rs := [5]) (by kernel_rfl) (by simp) ?_
      refine AllReadyH.cons rfl (fun K hK => ?_) AllReadyH.nil
      go_simp
      obtain ⟨w6, hnw⟩ : ∃ X, X = (World.setCell (World.setCell (World.setCell (World.setCell w5 ⟨w3.heap.size, 0, none⟩ (.int .i64 0)) ⟨w3.heap.size, 1, none⟩ (.slice (some ⟨w4.heap.size, 0, none⟩) 14 14)) ⟨w3.heap.size, 2, none⟩ (.slice px m.vals.length tx)) ⟨w3.heap.size, 3, none⟩ (.slice py m.arrs.length ty)) := ⟨_, rfl⟩
      have hb : Below (World.setCell (World.setCell (World.setCell (World.setCell w5 ⟨w3.heap.size, 0, none⟩ (.int .i64 0)) ⟨w3.heap.size, 1, none⟩ (.slice (some ⟨w4.heap.size, 0, none⟩) 14 14)) ⟨w3.heap.size, 2, none⟩ (.slice px m.vals.length tx)) ⟨w3.heap.size, 3, none⟩ (.slice py m.arrs.length ty)).heap.size (World.setCell (World.setCell (World.setCell (World.setCell w5 ⟨w3.heap.size, 0, none⟩ (.int .i64 0)) ⟨w3.heap.size, 1, none⟩ (.slice (some ⟨w4.heap.size, 0, none⟩) 14 14)) ⟨w3.heap.size, 2, none⟩ (.slice px m.vals.length tx)) ⟨w3.heap.size, 3, none⟩ (.slice py m.arrs.length ty)) w6 := by rw [hnw]; exact bself _
      have hsz100 := hb.size
      simp only [World.size_setCell] at hsz100
      replace bf85 := kept_froz hb (lt_of_cell (cell_ne (b := (w3.heap.size)) (j := 3) (cell_ne (b := (w3.heap.size)) (j := 2) (cell_ne (b := (w3.heap.size)) (j := 1) (cell_at _ (w3.heap.size) 0 (.int .i64 0) bx84) (by omega) (.slice (some ⟨w4.heap.size, 0, none⟩) 14 14)) (by omega) (.slice px m.vals.length tx)) (by omega) (.slice py m.arrs.length ty))) (froz_st (b := ⟨(w3.heap.size), 3, none⟩) (froz_st (b := ⟨(w3.heap.size), 2, none⟩) (froz_st (b := ⟨(w3.heap.size), 1, none⟩) (froz_st (b := ⟨(w3.heap.size), 0, none⟩) bf85 (.int .i64 0)) (.slice (some ⟨w4.heap.size, 0, none⟩) 14 14)) (.slice px m.vals.length tx)) (.slice py m.arrs.length ty))
      replace bf87 := kept_froz hb (lt_of_cell (cell_ne (b := (w3.heap.size)) (j := 3) (cell_ne (b := (w3.heap.size)) (j := 2) (cell_at _ (w3.heap.size) 1 (.slice (some ⟨w4.heap.size, 0, none⟩) 14 14) (cell_ne (b := (w3.heap.size)) (j := 0) bx86 (by omega) (.int .i64 0))) (by omega) (.slice px m.vals.length tx)) (by omega) (.slice py m.arrs.length ty))) (froz_st (b := ⟨(w3.heap.size), 3, none⟩) (froz_st (b := ⟨(w3.heap.size), 2, none⟩) (froz_st (b := ⟨(w3.heap.size), 1, none⟩) (froz_st (b := ⟨(w3.heap.size), 0, none⟩) bf87 (.int .i64 0)) (.slice (some ⟨w4.heap.size, 0, none⟩) 14 14)) (.slice px m.vals.length tx)) (.slice py m.arrs.length ty))
      replace bf89 := kept_froz hb (lt_of_cell (cell_ne (b := (w3.heap.size)) (j := 3) (cell_at _ (w3.heap.size) 2 (.slice px m.vals.length tx) (cell_ne (b := (w3.heap.size)) (j := 1) (cell_ne (b := (w3.heap.size)) (j := 0) bx88 (by omega) (.int .i64 0)) (by omega) (.slice (some ⟨w4.heap.size, 0, none⟩) 14 14))) (by omega) (.slice py m.arrs.length ty))) (froz_st (b := ⟨(w3.heap.size), 3, none⟩) (froz_st (b := ⟨(w3.heap.size), 2, none⟩) (froz_st (b := ⟨(w3.heap.size), 1, none⟩) (froz_st (b := ⟨(w3.heap.size), 0, none⟩) bf89 (.int .i64 0)) (.slice (some ⟨w4.heap.size, 0, none⟩) 14 14)) (.slice px m.vals.length tx)) (.slice py m.arrs.length ty))
      replace bf91 := kept_froz hb (lt_of_cell (cell_at _ (w3.heap.size) 3 (.slice py m.arrs.length ty) (cell_ne (b := (w3.heap.size)) (j := 2) (cell_ne (b := (w3.heap.size)) (j := 1) (cell_ne (b := (w3.heap.size)) (j := 0) bx90 (by omega) (.int .i64 0)) (by omega) (.slice (some ⟨w4.heap.size, 0, none⟩) 14 14)) (by omega) (.slice px m.vals.length tx)))) (froz_st (b := ⟨(w3.heap.size), 3, none⟩) (froz_st (b := ⟨(w3.heap.size), 2, none⟩) (froz_st (b := ⟨(w3.heap.size), 1, none⟩) (froz_st (b := ⟨(w3.heap.size), 0, none⟩) bf91 (.int .i64 0)) (.slice (some ⟨w4.heap.size, 0, none⟩) 14 14)) (.slice px m.vals.length tx)) (.slice py m.arrs.length ty))
      replace bx5 : w6.cell? ⟨w.heap.size + 1, 0, none⟩ = some (.slice a3 m.vals.length c3) := kept_cell hb (cell_ne (b := (w3.heap.size)) (j := 3) (cell_ne (b := (w3.heap.size)) (j := 2) (cell_ne (b := (w3.heap.size)) (j := 1) (cell_ne (b := (w3.heap.size)) (j := 0) bx5 (by omega) (.int .i64 0)) (by omega) (.slice (some ⟨w4.heap.size, 0, none⟩) 14 14)) (by omega) (.slice px m.vals.length tx)) (by omega) (.slice py m.arrs.length ty))
      replace bx6 : w6.cell? ⟨w.heap.size + 1, 1, none⟩ = some (.slice a4 m.arrs.length c4) := kept_cell hb (cell_ne (b := (w3.heap.size)) (j := 3) (cell_ne (b := (w3.heap.size)) (j := 2) (cell_ne (b := (w3.heap.size)) (j := 1) (cell_ne (b := (w3.heap.size)) (j := 0) bx6 (by omega) (.int .i64 0)) (by omega) (.slice (some ⟨w4.heap.size, 0, none⟩) 14 14)) (by omega) (.slice px m.vals.length tx)) (by omega) (.slice py m.arrs.length ty))
      replace oM := ((((oM.keep ((Chg.refl (fun gk => gk = (w3.heap.size)) _).setCell (w3.heap.size) 0 (.int .i64 0) (fun _ => rfl)) (fun gq h h2 => by have := iv61 gq h; omega)).keep ((Chg.refl (fun gk => gk = (w3.heap.size)) _).setCell (w3.heap.size) 1 (.slice (some ⟨w4.heap.size, 0, none⟩) 14 14) (fun _ => rfl)) (fun gq h h2 => by have := iv61 gq h; omega)).keep ((Chg.refl (fun gk => gk = (w3.heap.size)) _).setCell (w3.heap.size) 2 (.slice px m.vals.length tx) (fun _ => rfl)) (fun gq h h2 => by have := iv61 gq h; omega)).keep ((Chg.refl (fun gk => gk = (w3.heap.size)) _).setCell (w3.heap.size) 3 (.slice py m.arrs.length ty) (fun _ => rfl)) (fun gq h h2 => by have := iv61 gq h; omega)).below hb
      replace bx84 : w6.cell? ⟨w3.heap.size, 0, none⟩ = some (.int .i64 0) := kept_cell hb (cell_ne (b := (w3.heap.size)) (j := 3) (cell_ne (b := (w3.heap.size)) (j := 2) (cell_ne (b := (w3.heap.size)) (j := 1) (cell_at _ (w3.heap.size) 0 (.int .i64 0) bx84) (by omega) (.slice (some ⟨w4.heap.size, 0, none⟩) 14 14)) (by omega) (.slice px m.vals.length tx)) (by omega) (.slice py m.arrs.length ty))
      replace bx86 : w6.cell? ⟨w3.heap.size, 1, none⟩ = some (.slice (some ⟨w4.heap.size, 0, none⟩) 14 14) := kept_cell hb (cell_ne (b := (w3.heap.size)) (j := 3) (cell_ne (b := (w3.heap.size)) (j := 2) (cell_at _ (w3.heap.size) 1 (.slice (some ⟨w4.heap.size, 0, none⟩) 14 14) (cell_ne (b := (w3.heap.size)) (j := 0) bx86 (by omega) (.int .i64 0))) (by omega) (.slice px m.vals.length tx)) (by omega) (.slice py m.arrs.length ty))
      replace bx88 : w6.cell? ⟨w3.heap.size, 2, none⟩ = some (.slice px m.vals.length tx) := kept_cell hb (cell_ne (b := (w3.heap.size)) (j := 3) (cell_at _ (w3.heap.size) 2 (.slice px m.vals.length tx) (cell_ne (b := (w3.heap.size)) (j := 1) (cell_ne (b := (w3.heap.size)) (j := 0) bx88 (by omega) (.int .i64 0)) (by omega) (.slice (some ⟨w4.heap.size, 0, none⟩) 14 14))) (by omega) (.slice py m.arrs.length ty))
      replace bx90 : w6.cell? ⟨w3.heap.size, 3, none⟩ = some (.slice py m.arrs.length ty) := kept_cell hb (cell_at _ (w3.heap.size) 3 (.slice py m.arrs.length ty) (cell_ne (b := (w3.heap.size)) (j := 2) (cell_ne (b := (w3.heap.size)) (j := 1) (cell_ne (b := (w3.heap.size)) (j := 0) bx90 (by omega) (.int .i64 0)) (by omega) (.slice (some ⟨w4.heap.size, 0, none⟩) 14 14)) (by omega) (.slice px m.vals.length tx)))
      replace om94 := own_below (own_set (own_set (own_set (own_set om94 (w3.heap.size) 0 (fun h => by have := iv97 _ h; omega) (.int .i64 0)) (w3.heap.size) 1 (fun h => by have := iv97 _ h; omega) (.slice (some ⟨w4.heap.size, 0, none⟩) 14 14)) (w3.heap.size) 2 (fun h => by have := iv97 _ h; omega) (.slice px m.vals.length tx)) (w3.heap.size) 3 (fun h => by have := iv97 _ h; omega) (.slice py m.arrs.length ty)) hb
      replace tot := btr (bst (bst (bst (bst tot (w3.heap.size) 0 (by omega) (.int .i64 0)) (w3.heap.size) 1 (by omega) (.slice (some ⟨w4.heap.size, 0, none⟩) 14 14)) (w3.heap.size) 2 (by omega) (.slice px m.vals.length tx)) (w3.heap.size) 3 (by omega) (.slice py m.arrs.length ty)) hb
      clear hb
      rw [← hnw]
      clear hnw
      clear lt98 lt99
      have lt101 := lt_of_cell bx5
      have lt102 := lt_of_cell bx84
      refine hK.out _ _ ⟨bx5, bx6⟩ (fun hHeld => ?_)
      clear hK K
      try simp only [Act.put, List.setIfInBounds_toArray, List.set]
      refine wpAnyH_done (by kernel_rfl) ?_ _
      refine NoPanic.normal ?_
      clear hHeld
      go_wp2_with fail
      go_meet
      have OM : OwnMv _ w1.heap.size _ (.slice px m.vals.length tx) (.slice py m.arrs.length ty) us reg0 m := ⟨own_mono om94 (by omega), own_mono oM.x (by omega), oM.y.mono (by omega), fun q h h2 => by have := iv97 q h; have := iv61 q (Or.inl h2); omega, fun q h h2 => by have := iv97 q h; have := iv61 q (Or.inr h2); omega, oM.ap⟩
      have lz103 := lt_of_cell bx84
      exact ⟨_, _, _, _, _, _, us, rfl, bx84, bx86, bx88, bx90, bf85, bf87, bf89, bf91, OM, by omega, by omega, (fun q h hq => by rcases h with h | h | h; (have := iv97 q h; omega); (have := iv61 q (Or.inl h); omega); (have := iv61 q (Or.inr h); omega)), tot⟩
    refine AllReadyH.cons rfl (fun K hK => ?_) AllReadyH.nil
    go_simp
    obtain ⟨w3, hnw⟩ : ∃ X, X = (World.alloc w2 (.cells #[.int .i64 0, .slice none 0 0, .slice none 0 0, .slice none 0 0] 49)) := ⟨_, rfl⟩
    have hb : Below (World.alloc w2 (.cells #[.int .i64 0, .slice none 0 0, .slice none 0 0, .slice none 0 0] 49)).heap.size (World.alloc w2 (.cells #[.int .i64 0, .slice none 0 0, .slice none 0 0, .slice none 0 0] 49)) w3 := by rw [hnw]; exact bself _
    have hsz104 := hb.size
    simp only [World.size_alloc] at hsz104
    replace bx5 : w3.cell? ⟨w.heap.size + 1, 0, none⟩ = some (.slice a3 m.vals.length c3) := kept_cell hb (cell_al bx5 (.cells #[.int .i64 0, .slice none 0 0, .slice none 0 0, .slice none 0 0] 49))
    replace bx6 : w3.cell? ⟨w.heap.size + 1, 1, none⟩ = some (.slice a4 m.arrs.length c4) := kept_cell hb (cell_al bx6 (.cells #[.int .i64 0, .slice none 0 0, .slice none 0 0, .slice none 0 0] 49))
    have bx105 : w3.cell? ⟨w2.heap.size, 0, none⟩ = some (.int .i64 0) := kept_cell hb (cell_nw (by simp) (by rfl))
    have bf106 : w3.frozen? ⟨w2.heap.size, 0, none⟩ = false := kept_froz hb (by simp) (froz_nw (by simp))
    have bx107 : w3.cell? ⟨w2.heap.size, 1, none⟩ = some (.slice none 0 0) := kept_cell hb (cell_nw (by simp) (by rfl))
    have bf108 : w3.frozen? ⟨w2.heap.size, 1, none⟩ = false := kept_froz hb (by simp) (froz_nw (by simp))
    have bx109 : w3.cell? ⟨w2.heap.size, 2, none⟩ = some (.slice none 0 0) := kept_cell hb (cell_nw (by simp) (by rfl))
    have bf110 : w3.frozen? ⟨w2.heap.size, 2, none⟩ = false := kept_froz hb (by simp) (froz_nw (by simp))
    have bx111 : w3.cell? ⟨w2.heap.size, 3, none⟩ = some (.slice none 0 0) := kept_cell hb (cell_nw (by simp) (by rfl))
    have bf112 : w3.frozen? ⟨w2.heap.size, 3, none⟩ = false := kept_froz hb (by simp) (froz_nw (by simp))
    replace tot := btr (bal tot (.cells #[.int .i64 0, .slice none 0 0, .slice none 0 0, .slice none 0 0] 49)) hb
    clear hb
    rw [← hnw]
    clear hnw
    clear lt17
    have lt113 := lt_of_cell bx5
    have lt114 := lt_of_cell bx105
    refine hK.out _ _ ⟨bx5, bx6⟩ (fun hHeld => ?_)
    clear hK K
    try simp only [Act.put, List.setIfInBounds_toArray, List.set]
    refine wpAnyH_ready (rs := [0, 2]) (by kernel_rfl) (by simp) ?_
    refine AllReadyH.cons rfl (fun K hK => ?_) ?_
    · -- 0
      go_simp
      obtain ⟨w4, hnw⟩ : ∃ X, X = World.alloc w3 (.cells (madeCells #[.int .i64 0] 14) 3) := ⟨_, rfl⟩
      try rw [← hnw]
      have om115 := own_made w3 (.int .i64 0) 14 3 (by unfold maxLen; omega)
      rw [← ints_replicate, ← hnw] at om115
      have hb : Below w3.heap.size w3 w4 := by rw [hnw]; exact bal (bself _) _
      have hzm116 : w3.heap.size + 1 ≤ w4.heap.size := by rw [hnw]; simp
      clear hnw
      have hsz117 := hb.size
      replace bf106 := kept_froz hb (lt_of_cell bx105) bf106
      replace bf108 := kept_froz hb (lt_of_cell bx107) bf108
      replace bf110 := kept_froz hb (lt_of_cell bx109) bf110
      replace bf112 := kept_froz hb (lt_of_cell bx111) bf112
      replace bx5 : w4.cell? ⟨w.heap.size + 1, 0, none⟩ = some (.slice a3 m.vals.length c3) := kept_cell hb bx5
      replace bx6 : w4.cell? ⟨w.heap.size + 1, 1, none⟩ = some (.slice a4 m.arrs.length c4) := kept_cell hb bx6
      replace bx105 : w4.cell? ⟨w2.heap.size, 0, none⟩ = some (.int .i64 0) := kept_cell hb bx105
      replace bx107 : w4.cell? ⟨w2.heap.size, 1, none⟩ = some (.slice none 0 0) := kept_cell hb bx107
      replace bx109 : w4.cell? ⟨w2.heap.size, 2, none⟩ = some (.slice none 0 0) := kept_cell hb bx109
      replace bx111 : w4.cell? ⟨w2.heap.size, 3, none⟩ = some (.slice none 0 0) := kept_cell hb bx111
      replace tot := btr tot hb
      clear hb
      have iv118 := om115.lt
      clear lt113 lt114
      have lt119 := lt_of_cell bx5
      have lt120 := lt_of_cell bx105
      refine hK.out _ _ ⟨bx5, bx6⟩ (fun hHeld => ?_)
      clear hK K
      try simp only [Act.put, List.setIfInBounds_toArray, List.set]
      refine wpAnyH_ready (rs := [2]) (by kernel_rfl) (by simp) ?_
      refine AllReadyH.cons rfl (fun K hK => ?_) AllReadyH.nil
      go_simp
      refine (HCP.out _ (btr HT0.out tot)).mono ?_
      rintro e w5 ⟨ux, uy, us, rfl, ox, oy, hap, hb⟩
      obtain ⟨px, tx, rfl⟩ := own_shape ox
      obtain ⟨py, ty, rfl⟩ := own_shape oy.out
      have oM : OwnM w5 _ _ _ _ m := ⟨ox, oy, hap⟩
      clear ox oy hap
      have hsz121 := hb.size
      replace bf106 := kept_froz hb (lt_of_cell bx105) bf106
      replace bf108 := kept_froz hb (lt_of_cell bx107) bf108
      replace bf110 := kept_froz hb (lt_of_cell bx109) bf110
      replace bf112 := kept_froz hb (lt_of_cell bx111) bf112
      replace bx5 : w5.cell? ⟨w.heap.size + 1, 0, none⟩ = some (.slice a3 m.vals.length c3) := kept_cell hb bx5
      replace bx6 : w5.cell? ⟨w.heap.size + 1, 1, none⟩ = some (.slice a4 m.arrs.length c4) := kept_cell hb bx6
      replace bx105 : w5.cell? ⟨w2.heap.size, 0, none⟩ = some (.int .i64 0) := kept_cell hb bx105
      replace bx107 : w5.cell? ⟨w2.heap.size, 1, none⟩ = some (.slice none 0 0) := kept_cell hb bx107
      replace bx109 : w5.cell? ⟨w2.heap.size, 2, none⟩ = some (.slice none 0 0) := kept_cell hb bx109
      replace bx111 : w5.cell? ⟨w2.heap.size, 3, none⟩ = some (.slice none 0 0) := kept_cell hb bx111
      replace om115 := own_below om115 hb
      replace tot := btr tot hb
      clear hb
      have iv122 := oM.lt
      clear lt119 lt120
      have lt123 := lt_of_cell bx5
      have lt124 := lt_of_cell bx105
      refine hK.out _ _ ⟨bx5, bx6⟩ (fun hHeld => ?_)
      clear hK K
      try simp only [Act.put, List.setIfInBounds_toArray, List.set]
      refine take_d (i := 3) (d := 16) (v := ?_) rfl rfl (by kernel_rfl) (by kernel_rfl) (by kernel_rfl) (fun _ _ _ h => h) (Or.inl ⟨by rfl, ?_⟩) (by assumption) ?_
      rotate_left
      · intro W' hSw; (try dsimp only at hSw); obtain ⟨s0, s1⟩ := hSw; go_simp; try with_reducible rfl
      try simp only [Act.put, List.setIfInBounds_toArray, List.set]
      refine wpAnyH_ready (rs := [5]) (by kernel_rfl) (by simp) ?_
      refine AllReadyH.cons rfl (fun K hK => ?_) AllReadyH.nil
      go_simp
      obtain ⟨w6, hnw⟩ : ∃ X, X = (World.setCell (World.setCell (World.setCell (World.setCell w5 ⟨w2.heap.size, 0, none⟩ (.int .i64 0)) ⟨w2.heap.size, 1, none⟩ (.slice (some ⟨w3.heap.size, 0, none⟩) 14 14)) ⟨w2.heap.size, 2, none⟩ (.slice px m.vals.length tx)) ⟨w2.heap.size, 3, none⟩ (.slice py m.arrs.length ty)) := ⟨_, rfl⟩
      have hb : Below (World.setCell (World.setCell (World.setCell (World.setCell w5 ⟨w2.heap.size, 0, none⟩ (.int .i64 0)) ⟨w2.heap.size, 1, none⟩ (.slice (some ⟨w3.heap.size, 0, none⟩) 14 14)) ⟨w2.heap.size, 2, none⟩ (.slice px m.vals.length tx)) ⟨w2.heap.size, 3, none⟩ (.slice py m.arrs.length ty)).heap.size (World.setCell (World.setCell (World.setCell (World.setCell w5 ⟨w2.heap.size, 0, none⟩ (.int .i64 0)) ⟨w2.heap.size, 1, none⟩ (.slice (some ⟨w3.heap.size, 0, none⟩) 14 14)) ⟨w2.heap.size, 2, none⟩ (.slice px m.vals.length tx)) ⟨w2.heap.size, 3, none⟩ (.slice py m.arrs.length ty)) w6 := by rw [hnw]; exact bself _
      have hsz125 := hb.size
      simp only [World.size_setCell] at hsz125
      replace bf106 := kept_froz hb (lt_of_cell (cell_ne (b := (w2.heap.size)) (j := 3) (cell_ne (b := (w2.heap.size)) (j := 2) (cell_ne (b := (w2.heap.size)) (j := 1) (cell_at _ (w2.heap.size) 0 (.int .i64 0) bx105) (by omega) (.slice (some ⟨w3.heap.size, 0, none⟩) 14 14)) (by omega) (.slice px m.vals.length tx)) (by omega) (.slice py m.arrs.length ty))) (froz_st (b := ⟨(w2.heap.size), 3, none⟩) (froz_st (b := ⟨(w2.heap.size), 2, none⟩) (froz_st (b := ⟨(w2.heap.size), 1, none⟩) (froz_st (b := ⟨(w2.heap.size), 0, none⟩) bf106 (.int .i64 0)) (.slice (some ⟨w3.heap.size, 0, none⟩) 14 14)) (.slice px m.vals.length tx)) (.slice py m.arrs.length ty))
      replace bf108 := kept_froz hb (lt_of_cell (cell_ne (b := (w2.heap.size)) (j := 3) (cell_ne (b := (w2.heap.size)) (j := 2) (cell_at _ (w2.heap.size) 1 (.slice (some ⟨w3.heap.size, 0, none⟩) 14 14) (cell_ne (b := (w2.heap.size)) (j := 0) bx107 (by omega) (.int .i64 0))) (by omega) (.slice px m.vals.length tx)) (by omega) (.slice py m.arrs.length ty))) (froz_st (b := ⟨(w2.heap.size), 3, none⟩) (froz_st (b := ⟨(w2.heap.size), 2, none⟩) (froz_st (b := ⟨(w2.heap.size), 1, none⟩) (froz_st (b := ⟨(w2.heap.size), 0, none⟩) bf108 (.int .i64 0)) (.slice (some ⟨w3.heap.size, 0, none⟩) 14 14)) (.slice px m.vals.length tx)) (.slice py m.arrs.length ty))
      replace bf110 := kept_froz hb (lt_of_cell (cell_ne (b := (w2.heap.size)) (j := 3) (cell_at _ (w2.heap.size) 2 (.slice px m.vals.length tx) (cell_ne (b := (w2.heap.size)) (j := 1) (cell_ne (b := (w2.heap.size)) (j := 0) bx109 (by omega) (.int .i64 0)) (by omega) (.slice (some ⟨w3.heap.size, 0, none⟩) 14 14))) (by omega) (.slice py m.arrs.length ty))) (froz_st (b := ⟨(w2.heap.size), 3, none⟩) (froz_st (b := ⟨(w2.heap.size), 2, none⟩) (froz_st (b := ⟨(w2.heap.size), 1, none⟩) (froz_st (b := ⟨(w2.heap.size), 0, none⟩) bf110 (.int .i64 0)) (.slice (some ⟨w3.heap.size, 0, none⟩) 14 14)) (.slice px m.vals.length tx)) (.slice py m.arrs.length ty))
      replace bf112 := kept_froz hb (lt_of_cell (cell_at _ (w2.heap.size) 3 (.slice py m.arrs.length ty) (cell_ne (b := (w2.heap.size)) (j := 2) (cell_ne (b := (w2.heap.size)) (j := 1) (cell_ne (b := (w2.heap.size)) (j := 0) bx111 (by omega) (.int .i64 0)) (by omega) (.slice (some ⟨w3.heap.size, 0, none⟩) 14 14)) (by omega) (.slice px m.vals.length tx)))) (froz_st (b := ⟨(w2.heap.size), 3, none⟩) (froz_st (b := ⟨(w2.heap.size), 2, none⟩) (froz_st (b := ⟨(w2.heap.size), 1, none⟩) (froz_st (b := ⟨(w2.heap.size), 0, none⟩) bf112 (.int .i64 0)) (.slice (some ⟨w3.heap.size, 0, none⟩) 14 14)) (.slice px m.vals.length tx)) (.slice py m.arrs.length ty))
      replace bx5 : w6.cell? ⟨w.heap.size + 1, 0, none⟩ = some (.slice a3 m.vals.length c3) := kept_cell hb (cell_ne (b := (w2.heap.size)) (j := 3) (cell_ne (b := (w2.heap.size)) (j := 2) (cell_ne (b := (w2.heap.size)) (j := 1) (cell_ne (b := (w2.heap.size)) (j := 0) bx5 (by omega) (.int .i64 0)) (by omega) (.slice (some ⟨w3.heap.size, 0, none⟩) 14 14)) (by omega) (.slice px m.vals.length tx)) (by omega) (.slice py m.arrs.length ty))
      replace bx6 : w6.cell? ⟨w.heap.size + 1, 1, none⟩ = some (.slice a4 m.arrs.length c4) := kept_cell hb (cell_ne (b := (w2.heap.size)) (j := 3) (cell_ne (b := (w2.heap.size)) (j := 2) (cell_ne (b := (w2.heap.size)) (j := 1) (cell_ne (b := (w2.heap.size)) (j := 0) bx6 (by omega) (.int .i64 0)) (by omega) (.slice (some ⟨w3.heap.size, 0, none⟩) 14 14)) (by omega) (.slice px m.vals.length tx)) (by omega) (.slice py m.arrs.length ty))
      replace bx105 : w6.cell? ⟨w2.heap.size, 0, none⟩ = some (.int .i64 0) := kept_cell hb (cell_ne (b := (w2.heap.size)) (j := 3) (cell_ne (b := (w2.heap.size)) (j := 2) (cell_ne (b := (w2.heap.size)) (j := 1) (cell_at _ (w2.heap.size) 0 (.int .i64 0) bx105) (by omega) (.slice (some ⟨w3.heap.size, 0, none⟩) 14 14)) (by omega) (.slice px m.vals.length tx)) (by omega) (.slice py m.arrs.length ty))
      replace bx107 : w6.cell? ⟨w2.heap.size, 1, none⟩ = some (.slice (some ⟨w3.heap.size, 0, none⟩) 14 14) := kept_cell hb (cell_ne (b := (w2.heap.size)) (j := 3) (cell_ne (b := (w2.heap.size)) (j := 2) (cell_at _ (w2.heap.size) 1 (.slice (some ⟨w3.heap.size, 0, none⟩) 14 14) (cell_ne (b := (w2.heap.size)) (j := 0) bx107 (by omega) (.int .i64 0))) (by omega) (.slice px m.vals.length tx)) (by omega) (.slice py m.arrs.length ty))
      replace bx109 : w6.cell? ⟨w2.heap.size, 2, none⟩ = some (.slice px m.vals.length tx) := kept_cell hb (cell_ne (b := (w2.heap.size)) (j := 3) (cell_at _ (w2.heap.size) 2 (.slice px m.vals.length tx) (cell_ne (b := (w2.heap.size)) (j := 1) (cell_ne (b := (w2.heap.size)) (j := 0) bx109 (by omega) (.int .i64 0)) (by omega) (.slice (some ⟨w3.heap.size, 0, none⟩) 14 14))) (by omega) (.slice py m.arrs.length ty))
      replace bx111 : w6.cell? ⟨w2.heap.size, 3, none⟩ = some (.slice py m.arrs.length ty) := kept_cell hb (cell_at _ (w2.heap.size) 3 (.slice py m.arrs.length ty) (cell_ne (b := (w2.heap.size)) (j := 2) (cell_ne (b := (w2.heap.size)) (j := 1) (cell_ne (b := (w2.heap.size)) (j := 0) bx111 (by omega) (.int .i64 0)) (by omega) (.slice (some ⟨w3.heap.size, 0, none⟩) 14 14)) (by omega) (.slice px m.vals.length tx)))
      replace om115 := own_below (own_set (own_set (own_set (own_set om115 (w2.heap.size) 0 (fun h => by have := iv118 _ h; omega) (.int .i64 0)) (w2.heap.size) 1 (fun h => by have := iv118 _ h; omega) (.slice (some ⟨w3.heap.size, 0, none⟩) 14 14)) (w2.heap.size) 2 (fun h => by have := iv118 _ h; omega) (.slice px m.vals.length tx)) (w2.heap.size) 3 (fun h => by have := iv118 _ h; omega) (.slice py m.arrs.length ty)) hb
      replace oM := ((((oM.keep ((Chg.refl (fun gk => gk = (w2.heap.size)) _).setCell (w2.heap.size) 0 (.int .i64 0) (fun _ => rfl)) (fun gq h h2 => by have := iv122 gq h; omega)).keep ((Chg.refl (fun gk => gk = (w2.heap.size)) _).setCell (w2.heap.size) 1 (.slice (some ⟨w3.heap.size, 0, none⟩) 14 14) (fun _ => rfl)) (fun gq h h2 => by have := iv122 gq h; omega)).keep ((Chg.refl (fun gk => gk = (w2.heap.size)) _).setCell (w2.heap.size) 2 (.slice px m.vals.length tx) (fun _ => rfl)) (fun gq h h2 => by have := iv122 gq h; omega)).keep ((Chg.refl (fun gk => gk = (w2.heap.size)) _).setCell (w2.heap.size) 3 (.slice py m.arrs.length ty) (fun _ => rfl)) (fun gq h h2 => by have := iv122 gq h; omega)).below hb
      replace tot := btr (bst (bst (bst (bst tot (w2.heap.size) 0 (by omega) (.int .i64 0)) (w2.heap.size) 1 (by omega) (.slice (some ⟨w3.heap.size, 0, none⟩) 14 14)) (w2.heap.size) 2 (by omega) (.slice px m.vals.length tx)) (w2.heap.size) 3 (by omega) (.slice py m.arrs.length ty)) hb
      clear hb
      rw [← hnw]
      clear hnw
      clear lt123 lt124
      have lt126 := lt_of_cell bx5
      have lt127 := lt_of_cell bx105
      refine hK.out _ _ ⟨bx5, bx6⟩ (fun hHeld => ?_)
      clear hK K
      try simp only [Act.put, List.setIfInBounds_toArray, List.set]
      refine wpAnyH_done (by kernel_rfl) ?_ _
      refine NoPanic.normal ?_
      clear hHeld
      go_wp2_with fail
      go_meet
      have OM : OwnMv _ w1.heap.size _ (.slice px m.vals.length tx) (.slice py m.arrs.length ty) us reg0 m := ⟨own_mono om115 (by omega), own_mono oM.x (by omega), oM.y.mono (by omega), fun q h h2 => by have := iv118 q h; have := iv122 q (Or.inl h2); omega, fun q h h2 => by have := iv118 q h; have := iv122 q (Or.inr h2); omega, oM.ap⟩
      have lz128 := lt_of_cell bx105
      exact ⟨_, _, _, _, _, _, us, rfl, bx105, bx107, bx109, bx111, bf106, bf108, bf110, bf112, OM, by omega, by omega, (fun q h hq => by rcases h with h | h | h; (have := iv118 q h; omega); (have := iv122 q (Or.inl h); omega); (have := iv122 q (Or.inr h); omega)), tot⟩
    refine AllReadyH.cons rfl (fun K hK => ?_) AllReadyH.nil
    go_simp
    refine (HCP.out _ (btr HT0.out tot)).mono ?_
    rintro e w4 ⟨ux, uy, us, rfl, ox, oy, hap, hb⟩
    obtain ⟨px, tx, rfl⟩ := own_shape ox
    obtain ⟨py, ty, rfl⟩ := own_shape oy.out
    have oM : OwnM w4 _ _ _ _ m := ⟨ox, oy, hap⟩
    clear ox oy hap
    have hsz129 := hb.size
    replace bf106 := kept_froz hb (lt_of_cell bx105) bf106
    replace bf108 := kept_froz hb (lt_of_cell bx107) bf108
    replace bf110 := kept_froz hb (lt_of_cell bx109) bf110
    replace bf112 := kept_froz hb (lt_of_cell bx111) bf112
    replace bx5 : w4.cell? ⟨w.heap.size + 1, 0, none⟩ = some (.slice a3 m.vals.length c3) := kept_cell hb bx5
    replace bx6 : w4.cell? ⟨w.heap.size + 1, 1, none⟩ = some (.slice a4 m.arrs.length c4) := kept_cell hb bx6
    replace bx105 : w4.cell? ⟨w2.heap.size, 0, none⟩ = some (.int .i64 0) := kept_cell hb bx105
    replace bx107 : w4.cell? ⟨w2.heap.size, 1, none⟩ = some (.slice none 0 0) := kept_cell hb bx107
    replace bx109 : w4.cell? ⟨w2.heap.size, 2, none⟩ = some (.slice none 0 0) := kept_cell hb bx109
    replace bx111 : w4.cell? ⟨w2.heap.size, 3, none⟩ = some (.slice none 0 0) := kept_cell hb bx111
    replace tot := btr tot hb
    clear hb
    have iv130 := oM.lt
    clear lt113 lt114
    have lt131 := lt_of_cell bx5
    have lt132 := lt_of_cell bx105
    refine hK.out _ _ ⟨bx5, bx6⟩ (fun hHeld => ?_)
    clear hK K
    try simp only [Act.put, List.setIfInBounds_toArray, List.set]
    refine wpAnyH_ready (rs := [0]) (by kernel_rfl) (by simp) ?_
    refine AllReadyH.cons rfl (fun K hK => ?_) AllReadyH.nil
    go_simp
    obtain ⟨w5, hnw⟩ : ∃ X, X = World.alloc w4 (.cells (madeCells #[.int .i64 0] 14) 3) := ⟨_, rfl⟩
    try rw [← hnw]
    have om133 := own_made w4 (.int .i64 0) 14 3 (by unfold maxLen; omega)
    rw [← ints_replicate, ← hnw] at om133
    have hb : Below w4.heap.size w4 w5 := by rw [hnw]; exact bal (bself _) _
    have hzm134 : w4.heap.size + 1 ≤ w5.heap.size := by rw [hnw]; simp
    clear hnw
    have hsz135 := hb.size
    replace bf106 := kept_froz hb (lt_of_cell bx105) bf106
    replace bf108 := kept_froz hb (lt_of_cell bx107) bf108
    replace bf110 := kept_froz hb (lt_of_cell bx109) bf110
    replace bf112 := kept_froz hb (lt_of_cell bx111) bf112
    replace bx5 : w5.cell? ⟨w.heap.size + 1, 0, none⟩ = some (.slice a3 m.vals.length c3) := kept_cell hb bx5
    replace bx6 : w5.cell? ⟨w.heap.size + 1, 1, none⟩ = some (.slice a4 m.arrs.length c4) := kept_cell hb bx6
    replace bx105 : w5.cell? ⟨w2.heap.size, 0, none⟩ = some (.int .i64 0) := kept_cell hb bx105
    replace bx107 : w5.cell? ⟨w2.heap.size, 1, none⟩ = some (.slice none 0 0) := kept_cell hb bx107
    replace bx109 : w5.cell? ⟨w2.heap.size, 2, none⟩ = some (.slice none 0 0) := kept_cell hb bx109
    replace bx111 : w5.cell? ⟨w2.heap.size, 3, none⟩ = some (.slice none 0 0) := kept_cell hb bx111
    replace oM := oM.below hb
    replace tot := btr tot hb
    clear hb
    have iv136 := om133.lt
    clear lt131 lt132
    have lt137 := lt_of_cell bx5
    have lt138 := lt_of_cell bx105
    refine hK.out _ _ ⟨bx5, bx6⟩ (fun hHeld => ?_)
    clear hK K
    try simp only [Act.put, List.setIfInBounds_toArray, List.set]
    refine take_d (i := 3) (d := 16) (v := ?_) rfl rfl (by kernel_rfl) (by kernel_rfl) (by kernel_rfl) (fun _ _ _ h => h) (Or.inl ⟨by rfl, ?_⟩) (by assumption) ?_
    rotate_left
    · intro W' hSw; (try dsimp only at hSw); obtain ⟨s0, s1⟩ := hSw; go_simp; try with_reducible rfl
    try simp only [Act.put, List.setIfInBounds_toArray, List.set]
    refine wpAnyH_ready (rs := [5]) (by kernel_rfl) (by simp) ?_
    refine AllReadyH.cons rfl (fun K hK => ?_) AllReadyH.nil
    go_simp
    obtain ⟨w6, hnw⟩ : ∃ X, X = (World.setCell (World.setCell (World.setCell (World.setCell w5 ⟨w2.heap.size, 0, none⟩ (.int .i64 0)) ⟨w2.heap.size, 1, none⟩ (.slice (some ⟨w4.heap.size, 0, none⟩) 14 14)) ⟨w2.heap.size, 2, none⟩ (.slice px m.vals.length tx)) ⟨w2.heap.size, 3, none⟩ (.slice py m.arrs.length ty)) := ⟨_, rfl⟩
    have hb : Below (World.setCell (World.setCell (World.setCell (World.setCell w5 ⟨w2.heap.size, 0, none⟩ (.int .i64 0)) ⟨w2.heap.size, 1, none⟩ (.slice (some ⟨w4.heap.size, 0, none⟩) 14 14)) ⟨w2.heap.size, 2, none⟩ (.slice px m.vals.length tx)) ⟨w2.heap.size, 3, none⟩ (.slice py m.arrs.length ty)).heap.size (World.setCell (World.setCell (World.setCell (World.setCell w5 ⟨w2.heap.size, 0, none⟩ (.int .i64 0)) ⟨w2.heap.size, 1, none⟩ (.slice (some ⟨w4.heap.size, 0, none⟩) 14 14)) ⟨w2.heap.size, 2, none⟩ (.slice px m.vals.length tx)) ⟨w2.heap.size, 3, none⟩ (.slice py m.arrs.length ty)) w6 := by rw [hnw]; exact bself _
    have hsz139 := hb.size
    simp only [World.size_setCell] at hsz139
    replace bf106 := kept_froz hb (lt_of_cell (cell_ne (b := (w2.heap.size)) (j := 3) (cell_ne (b := (w2.heap.size)) (j := 2) (cell_ne (b := (w2.heap.size)) (j := 1) (cell_at _ (w2.heap.size) 0 (.int .i64 0) bx105) (by omega) (.slice (some ⟨w4.heap.size, 0, none⟩) 14 14)) (by omega) (.slice px m.vals.length tx)) (by omega) (.slice py m.arrs.length ty))) (froz_st (b := ⟨(w2.heap.size), 3, none⟩) (froz_st (b := ⟨(w2.heap.size), 2, none⟩) (froz_st (b := ⟨(w2.heap.size), 1, none⟩) (froz_st (b := ⟨(w2.heap.size), 0, none⟩) bf106 (.int .i64 0)) (.slice (some ⟨w4.heap.size, 0, none⟩) 14 14)) (.slice px m.vals.length tx)) (.slice py m.arrs.length ty))
    replace bf108 := kept_froz hb (lt_of_cell (cell_ne (b := (w2.heap.size)) (j := 3) (cell_ne (b := (w2.heap.size)) (j := 2) (cell_at _ (w2.heap.size) 1 (.slice (some ⟨w4.heap.size, 0, none⟩) 14 14) (cell_ne (b := (w2.heap.size)) (j := 0) bx107 (by omega) (.int .i64 0))) (by omega) (.slice px m.vals.length tx)) (by omega) (.slice py m.arrs.length ty))) (froz_st (b := ⟨(w2.heap.size), 3, none⟩) (froz_st (b := ⟨(w2.heap.size), 2, none⟩) (froz_st (b := ⟨(w2.heap.size), 1, none⟩) (froz_st (b := ⟨(w2.heap.size), 0, none⟩) bf108 (.int .i64 0)) (.slice (some ⟨w4.heap.size, 0, none⟩) 14 14)) (.slice px m.vals.length tx)) (.slice py m.arrs.length ty))
    replace bf110 := kept_froz hb (lt_of_cell (cell_ne (b := (w2.heap.size)) (j := 3) (cell_at _ (w2.heap.size) 2 (.slice px m.vals.length tx) (cell_ne (b := (w2.heap.size)) (j := 1) (cell_ne (b := (w2.heap.size)) (j := 0) bx109 (by omega) (.int .i64 0)) (by omega) (.slice (some ⟨w4.heap.size, 0, none⟩) 14 14))) (by omega) (.slice py m.arrs.length ty))) (froz_st (b := ⟨(w2.heap.size), 3, none⟩) (froz_st (b := ⟨(w2.heap.size), 2, none⟩) (froz_st (b := ⟨(w2.heap.size), 1, none⟩) (froz_st (b := ⟨(w2.heap.size), 0, none⟩) bf110 (.int .i64 0)) (.slice (some ⟨w4.heap.size, 0, none⟩) 14 14)) (.slice px m.vals.length tx)) (.slice py m.arrs.length ty))
    replace bf112 := kept_froz hb (lt_of_cell (cell_at _ (w2.heap.size) 3 (.slice py m.arrs.length ty) (cell_ne (b := (w2.heap.size)) (j := 2) (cell_ne (b := (w2.heap.size)) (j := 1) (cell_ne (b := (w2.heap.size)) (j := 0) bx111 (by omega) (.int .i64 0)) (by omega) (.slice (some ⟨w4.heap.size, 0, none⟩) 14 14)) (by omega) (.slice px m.vals.length tx)))) (froz_st (b := ⟨(w2.heap.size), 3, none⟩) (froz_st (b := ⟨(w2.heap.size), 2, none⟩) (froz_st (b := ⟨(w2.heap.size), 1, none⟩) (froz_st (b := ⟨(w2.heap.size), 0, none⟩) bf112 (.int .i64 0)) (.slice (some ⟨w4.heap.size, 0, none⟩) 14 14)) (.slice px m.vals.length tx)) (.slice py m.arrs.length ty))
    replace bx5 : w6.cell? ⟨w.heap.size + 1, 0, none⟩ = some (.slice a3 m.vals.length c3) := kept_cell hb (cell_ne (b := (w2.heap.size)) (j := 3) (cell_ne (b := (w2.heap.size)) (j := 2) (cell_ne (b := (w2.heap.size)) (j := 1) (cell_ne (b := (w2.heap.size)) (j := 0) bx5 (by omega) (.int .i64 0)) (by omega) (.slice (some ⟨w4.heap.size, 0, none⟩) 14 14)) (by omega) (.slice px m.vals.length tx)) (by omega) (.slice py m.arrs.length ty))
    replace bx6 : w6.cell? ⟨w.heap.size + 1, 1, none⟩ = some (.slice a4 m.arrs.length c4) := kept_cell hb (cell_ne (b := (w2.heap.size)) (j := 3) (cell_ne (b := (w2.heap.size)) (j := 2) (cell_ne (b := (w2.heap.size)) (j := 1) (cell_ne (b := (w2.heap.size)) (j := 0) bx6 (by omega) (.int .i64 0)) (by omega) (.slice (some ⟨w4.heap.size, 0, none⟩) 14 14)) (by omega) (.slice px m.vals.length tx)) (by omega) (.slice py m.arrs.length ty))
    replace bx105 : w6.cell? ⟨w2.heap.size, 0, none⟩ = some (.int .i64 0) := kept_cell hb (cell_ne (b := (w2.heap.size)) (j := 3) (cell_ne (b := (w2.heap.size)) (j := 2) (cell_ne (b := (w2.heap.size)) (j := 1) (cell_at _ (w2.heap.size) 0 (.int .i64 0) bx105) (by omega) (.slice (some ⟨w4.heap.size, 0, none⟩) 14 14)) (by omega) (.slice px m.vals.length tx)) (by omega) (.slice py m.arrs.length ty))
    replace bx107 : w6.cell? ⟨w2.heap.size, 1, none⟩ = some (.slice (some ⟨w4.heap.size, 0, none⟩) 14 14) := kept_cell hb (cell_ne (b := (w2.heap.size)) (j := 3) (cell_ne (b := (w2.heap.size)) (j := 2) (cell_at _ (w2.heap.size) 1 (.slice (some ⟨w4.heap.size, 0, none⟩) 14 14) (cell_ne (b := (w2.heap.size)) (j := 0) bx107 (by omega) (.int .i64 0))) (by omega) (.slice px m.vals.length tx)) (by omega) (.slice py m.arrs.length ty))
    replace bx109 : w6.cell? ⟨w2.heap.size, 2, none⟩ = some (.slice px m.vals.length tx) := kept_cell hb (cell_ne (b := (w2.heap.size)) (j := 3) (cell_at _ (w2.heap.size) 2 (.slice px m.vals.length tx) (cell_ne (b := (w2.heap.size)) (j := 1) (cell_ne (b := (w2.heap.size)) (j := 0) bx109 (by omega) (.int .i64 0)) (by omega) (.slice (some ⟨w4.heap.size, 0, none⟩) 14 14))) (by omega) (.slice py m.arrs.length ty))
    replace bx111 : w6.cell? ⟨w2.heap.size, 3, none⟩ = some (.slice py m.arrs.length ty) := kept_cell hb (cell_at _ (w2.heap.size) 3 (.slice py m.arrs.length ty) (cell_ne (b := (w2.heap.size)) (j := 2) (cell_ne (b := (w2.heap.size)) (j := 1) (cell_ne (b := (w2.heap.size)) (j := 0) bx111 (by omega) (.int .i64 0)) (by omega) (.slice (some ⟨w4.heap.size, 0, none⟩) 14 14)) (by omega) (.slice px m.vals.length tx)))
    replace oM := ((((oM.keep ((Chg.refl (fun gk => gk = (w2.heap.size)) _).setCell (w2.heap.size) 0 (.int .i64 0) (fun _ => rfl)) (fun gq h h2 => by have := iv130 gq h; omega)).keep ((Chg.refl (fun gk => gk = (w2.heap.size)) _).setCell (w2.heap.size) 1 (.slice (some ⟨w4.heap.size, 0, none⟩) 14 14) (fun _ => rfl)) (fun gq h h2 => by have := iv130 gq h; omega)).keep ((Chg.refl (fun gk => gk = (w2.heap.size)) _).setCell (w2.heap.size) 2 (.slice px m.vals.length tx) (fun _ => rfl)) (fun gq h h2 => by have := iv130 gq h; omega)).keep ((Chg.refl (fun gk => gk = (w2.heap.size)) _).setCell (w2.heap.size) 3 (.slice py m.arrs.length ty) (fun _ => rfl)) (fun gq h h2 => by have := iv130 gq h; omega)).below hb
    replace om133 := own_below (own_set (own_set (own_set (own_set om133 (w2.heap.size) 0 (fun h => by have := iv136 _ h; omega) (.int .i64 0)) (w2.heap.size) 1 (fun h => by have := iv136 _ h; omega) (.slice (some ⟨w4.heap.size, 0, none⟩) 14 14)) (w2.heap.size) 2 (fun h => by have := iv136 _ h; omega) (.slice px m.vals.length tx)) (w2.heap.size) 3 (fun h => by have := iv136 _ h; omega) (.slice py m.arrs.length ty)) hb
    replace tot := btr (bst (bst (bst (bst tot (w2.heap.size) 0 (by omega) (.int .i64 0)) (w2.heap.size) 1 (by omega) (.slice (some ⟨w4.heap.size, 0, none⟩) 14 14)) (w2.heap.size) 2 (by omega) (.slice px m.vals.length tx)) (w2.heap.size) 3 (by omega) (.slice py m.arrs.length ty)) hb
    clear hb
    rw [← hnw]
    clear hnw
    clear lt137 lt138
    have lt140 := lt_of_cell bx5
    have lt141 := lt_of_cell bx105
    refine hK.out _ _ ⟨bx5, bx6⟩ (fun hHeld => ?_)
    clear hK K
    try simp only [Act.put, List.setIfInBounds_toArray, List.set]
    refine wpAnyH_done (by kernel_rfl) ?_ _
    refine NoPanic.normal ?_
    clear hHeld
    go_wp2_with fail
    go_meet
    have OM : OwnMv _ w1.heap.size _ (.slice px m.vals.length tx) (.slice py m.arrs.length ty) us reg0 m := ⟨own_mono om133 (by omega), own_mono oM.x (by omega), oM.y.mono (by omega), fun q h h2 => by have := iv136 q h; have := iv130 q (Or.inl h2); omega, fun q h h2 => by have := iv136 q h; have := iv130 q (Or.inr h2); omega, oM.ap⟩
    have lz142 := lt_of_cell bx105
    exact ⟨_, _, _, _, _, _, us, rfl, bx105, bx107, bx109, bx111, bf106, bf108, bf110, bf112, OM, by omega, by omega, (fun q h hq => by rcases h with h | h | h; (have := iv136 q h; omega); (have := iv130 q (Or.inl h); omega); (have := iv130 q (Or.inr h); omega)), tot⟩
  obtain ⟨w3, rfl⟩ : ∃ W, W = wc := ⟨_, rfl⟩
  obtain ⟨bb, gr, px, tx, py, ty, us, rfl, d0, d1, d2, d3, f0, f1, f2, f3, OM, hbb, hbz, nM, hb⟩ := hcut
  have iM := OM.lt
  have hsz143 := hb.size
  replace bf8 := kept_froz hb (lt_of_cell bx7) bf8
  replace bf10 := kept_froz hb (lt_of_cell bx9) bf10
  replace bx2 : w3.cell? ⟨w.heap.size, 0, none⟩ = some (.slice a0 c.vars.length c0) := kept_cell hb bx2
  replace bx3 : w3.cell? ⟨w.heap.size, 1, none⟩ = some (.slice a1 c.arrays.length c1) := kept_cell hb bx3
  replace bx4 : w3.cell? ⟨w.heap.size, 2, none⟩ = some (.slice a2 c.list.length c2) := kept_cell hb bx4
  replace bx5 : w3.cell? ⟨w.heap.size + 1, 0, none⟩ = some (.slice a3 m.vals.length c3) := kept_cell hb bx5
  replace bx6 : w3.cell? ⟨w.heap.size + 1, 1, none⟩ = some (.slice a4 m.arrs.length c4) := kept_cell hb bx6
  replace bx7 : w3.cell? ⟨w.heap.size + 1 + 1, 0, none⟩ = some (.slice none 0 0) := kept_cell hb bx7
  replace bx9 : w3.cell? ⟨w.heap.size + 1 + 1, 1, none⟩ = some (.slice none 0 0) := kept_cell hb bx9
  replace tot := btr tot hb
  clear hb
  clear lt11 lt12 lt13
  have lt144 := lt_of_cell bx2
  have lt145 := lt_of_cell bx5
  have lt146 := lt_of_cell bx7
  have lt147 := lt_of_cell d0
  go_upto_region 3 with (fail)
  obtain ⟨w4, hnw⟩ : ∃ X, X = (World.alloc w3 (.cells #[] 89)) := ⟨_, rfl⟩
  have hb : Below (World.alloc w3 (.cells #[] 89)).heap.size (World.alloc w3 (.cells #[] 89)) w4 := by rw [hnw]; exact bself _
  have ol148 := own_below (World.ownsRow_lit (base := (w3).heap.size) (e := 89) (size := 2) (w3) #[] 0 (Nat.le_refl _) (by unfold maxLen; omega) (by simp)) hb
  try simp only [World.size_alloc, World.size_setCell] at ol148
  have hsz149 := hb.size
  simp only [World.size_alloc] at hsz149
  replace bf8 := kept_froz hb (lt_of_cell (cell_al bx7 (.cells #[] 89))) (froz_al (lt_of_cell bx7) bf8 (.cells #[] 89))
  replace bf10 := kept_froz hb (lt_of_cell (cell_al bx9 (.cells #[] 89))) (froz_al (lt_of_cell bx9) bf10 (.cells #[] 89))
  replace f0 := kept_froz hb (lt_of_cell (cell_al d0 (.cells #[] 89))) (froz_al (lt_of_cell d0) f0 (.cells #[] 89))
  replace f1 := kept_froz hb (lt_of_cell (cell_al d1 (.cells #[] 89))) (froz_al (lt_of_cell d1) f1 (.cells #[] 89))
  replace f2 := kept_froz hb (lt_of_cell (cell_al d2 (.cells #[] 89))) (froz_al (lt_of_cell d2) f2 (.cells #[] 89))
  replace f3 := kept_froz hb (lt_of_cell (cell_al d3 (.cells #[] 89))) (froz_al (lt_of_cell d3) f3 (.cells #[] 89))
  replace bx2 : w4.cell? ⟨w.heap.size, 0, none⟩ = some (.slice a0 c.vars.length c0) := kept_cell hb (cell_al bx2 (.cells #[] 89))
  replace bx3 : w4.cell? ⟨w.heap.size, 1, none⟩ = some (.slice a1 c.arrays.length c1) := kept_cell hb (cell_al bx3 (.cells #[] 89))
  replace bx4 : w4.cell? ⟨w.heap.size, 2, none⟩ = some (.slice a2 c.list.length c2) := kept_cell hb (cell_al bx4 (.cells #[] 89))
  replace bx5 : w4.cell? ⟨w.heap.size + 1, 0, none⟩ = some (.slice a3 m.vals.length c3) := kept_cell hb (cell_al bx5 (.cells #[] 89))
  replace bx6 : w4.cell? ⟨w.heap.size + 1, 1, none⟩ = some (.slice a4 m.arrs.length c4) := kept_cell hb (cell_al bx6 (.cells #[] 89))
  replace bx7 : w4.cell? ⟨w.heap.size + 1 + 1, 0, none⟩ = some (.slice none 0 0) := kept_cell hb (cell_al bx7 (.cells #[] 89))
  replace bx9 : w4.cell? ⟨w.heap.size + 1 + 1, 1, none⟩ = some (.slice none 0 0) := kept_cell hb (cell_al bx9 (.cells #[] 89))
  replace d0 : w4.cell? ⟨bb, 0, none⟩ = some (.int .i64 0) := kept_cell hb (cell_al d0 (.cells #[] 89))
  replace d1 : w4.cell? ⟨bb, 1, none⟩ = some (.slice (some ⟨gr, 0, none⟩) 14 14) := kept_cell hb (cell_al d1 (.cells #[] 89))
  replace d2 : w4.cell? ⟨bb, 2, none⟩ = some (.slice px m.vals.length tx) := kept_cell hb (cell_al d2 (.cells #[] 89))
  replace d3 : w4.cell? ⟨bb, 3, none⟩ = some (.slice py m.arrs.length ty) := kept_cell hb (cell_al d3 (.cells #[] 89))
  replace OM := (OM.below (bal (bself _) (.cells #[] 89))).below hb
  replace tot := btr (bal tot (.cells #[] 89)) hb
  clear hb
  have iv150 := ol148.lt
  try simp only [World.size_alloc] at iv150
  rw [← hnw]
  clear hnw
  clear bx5 bx6
  clear lt144 lt145 lt146 lt147
  have lt151 := lt_of_cell bx2
  have lt152 := lt_of_cell bx7
  have lt153 := lt_of_cell d0
  have tot4h := Lib.hid tot
  have OM4 : OwnMv w4 w1.heap.size (.slice (some ⟨gr, 0, none⟩) 14 14) (.slice px m.vals.length tx) (.slice py m.arrs.length ty) us (stN c 0 s).regs (stN c 0 s).mem := by show OwnMv _ _ _ _ _ _ s.regs s.mem; rw [HIR.out.1, HIR.out.2.1]; exact OM
  have L0 : L6 c s w4 w4 w1.heap.size w3.heap.size bb (.slice (some ⟨gr, 0, none⟩) 14 14) (.slice px m.vals.length tx) (.slice py m.arrs.length ty) us (.slice (some ⟨w3.heap.size, 0, none⟩) 0 0) 0 := ⟨by show _ = some (Value.int .i64 s.pc); rw [HIR.out.2.2]; exact d0, d1, d2, d3, f0, f1, f2, f3, OM4, ol148, fun q h => by have e1 : w3.heap.size = q := Option.some.inj h; exact ⟨fun h2 => by have := iM _ h2; omega, by omega⟩, fun j h => by omega, Chg.refl _ _⟩
  have hnf : ∀ q, q < w1.heap.size → ¬ (q = bb ∨ OwnMB (.slice (some ⟨gr, 0, none⟩) 14 14) (.slice px m.vals.length tx) (.slice py m.arrs.length ty) us q ∨ w3.heap.size ≤ q) := fun q hq h => by rcases h with h | h | h; omega; (have := iM _ h; omega); omega
  have hxn := hnf w.heap.size (by omega); have hrn := hnf (w.heap.size + 1 + 1) (by omega)
  have HNF := Lib.hid hnf; have HIM := Lib.hid iM; have HNM := Lib.hid nM; have HL0 := Lib.hid L0
  clear hnf iM nM L0 OM4 OM ol148 d0 d1 d2 d3 f0 f1 f2 f3
  clear lt151 lt152 lt153
  go_wp2_with fail
  go_loopw [10, 11] (fun tr t wr => ∃ n : Nat, n ≤ 20000 ∧ t = .int .i64 n ∧ L6 c s w4 wr w1.heap.size w3.heap.size bb (.slice (some ⟨gr, 0, none⟩) 14 14) (.slice px m.vals.length tx) (.slice py m.arrs.length ty) us tr n) (fun _ t _ => 20000 - (intOf t).toNat)
  case atStart => exact ⟨0, by omega, rfl, HL0.out⟩
  case round =>
    obtain ⟨n, hn2, rfl, hL⟩ := hrel
    have HL := Lib.hid hL; clear hL HL0
    obtain ⟨pu, tu, rfl⟩ := own_shape HL.out.ev
    have hzr := HL.out.chg.size
    have totr := tot.trans (HL.out.chg.below w.heap.size tot.size (fun q hq h => HNF.out q (by omega) h))
    replace bx2 := chg_cell HL.out.chg bx2 hxn; replace bx3 := chg_cell HL.out.chg bx3 hxn; replace bx4 := chg_cell HL.out.chg bx4 hxn
    replace bf8 := chg_froz HL.out.chg (lt_of_cell bx7) bf8 hrn; replace bf10 := chg_froz HL.out.chg (lt_of_cell bx9) bf10 hrn
    replace bx7 := chg_cell HL.out.chg bx7 hrn; replace bx9 := chg_cell HL.out.chg bx9 hrn
    clear tot
    by_cases hlt : n < 20000
    · have hMn := HSN.out n
      obtain ⟨k, hk⟩ : ∃ k : Nat, (stN c n s).pc = k := ⟨(stN c n s).pc.toNat, by have := hMn.pc0; omega⟩
      have hkl : k < c.list.length := by have := hMn.pc1; omega
      have HOP : Hid (opAt c s n = c.list[k].op) := Lib.hid (by unfold opAt insAt; rw [hk, Int.toNat_natCast, List.getElem?_eq_getElem hkl]; rfl)
      have hrl := (HR.out wr totr).l
      obtain ⟨_, hn, aa, cap, b0, off, hv, hcap, ha, hca⟩ := hrl
      simp only [Value.slice.injEq, true_and] at hv
      obtain ⟨rfl, rfl⟩ := hv
      obtain ⟨rfl, hbs⟩ := ha (by omega)
      obtain ⟨e0, _⟩ := reads_Instr hca k hkl
      have ke := lt_of_cell e0
      have hqk : (k : Int) < (c.list.length : Int) := by omega
      have hel := evN_len c s n
      clear hca ha hbs
      have hvp : (Value.int .i64 (stN c n s).pc) = .int .i64 (k : Int) := by rw [hk]
      have HXE := Lib.hid (exec_any w3.heap.size w1.heap.size _ _ _ _ _ _ _ us c (stN c n s) (evN c n s) wr (HR.out wr totr) HL.out.own HL.out.ev (fun q h => (HL.out.ed q h).1) (by omega) (by omega) hMn HOC.out)
      have HXE2 := Lib.hid (by have h := HXE.out; rw [hvp] at h; exact h)
      clear HXE hvp hMn
      have d0 : wr.cell? ⟨bb, 0, none⟩ = some (.int .i64 (k : Int)) := by rw [← hk]; exact HL.out.d0
      have d1 := HL.out.d1; have d2 := HL.out.d2; have d3 := HL.out.d3
      clear hk
      obtain ⟨x, HX⟩ : ∃ x : Ins, Hid (x = c.list[k]) := ⟨c.list[k], Lib.hid rfl⟩
      rw [← HX.out] at e0 HOP
      have lt154 := lt_of_cell bx2
      have lt155 := lt_of_cell bx7
      have lt156 := lt_of_cell d0
      go_upto_region 7 with (fail)
      go_wp2_with fail
      refine HXE2.out.mono ?_
      rintro e w5 ⟨u', rfl, O5, E5, hd5, hC5⟩
      obtain ⟨pu', tu', rfl⟩ := own_shape E5
      have hz5 := hC5.size
      have hnS : ¬ (OwnMB (.slice (some ⟨gr, 0, none⟩) 14 14) (.slice px m.vals.length tx) (.slice py m.arrs.length ty) us bb ∨ (Value.slice pu (evN c n s).length tu).ownBlock = some bb) := by rintro (h | h); exact HNM.out _ h rfl; exact (HL.out.ed bb h).2 rfl
      have hnL : ∀ q, q < w1.heap.size → ¬ (OwnMB (.slice (some ⟨gr, 0, none⟩) 14 14) (.slice px m.vals.length tx) (.slice py m.arrs.length ty) us q ∨ (Value.slice pu (evN c n s).length tu).ownBlock = some q) := fun q hq h => by rcases h with h | h; (have := HIM.out _ h; omega); (have := (HL.out.ev.lt _ h).1; omega)
      have f0 := chg_froz hC5 (lt_of_cell HL.out.d0) HL.out.f0 hnS; replace d0 := chg_cell hC5 HL.out.d0 hnS
      have f1 := chg_froz hC5 (lt_of_cell HL.out.d1) HL.out.f1 hnS; replace d1 := chg_cell hC5 HL.out.d1 hnS
      have f2 := chg_froz hC5 (lt_of_cell HL.out.d2) HL.out.f2 hnS; replace d2 := chg_cell hC5 HL.out.d2 hnS
      have f3 := chg_froz hC5 (lt_of_cell HL.out.d3) HL.out.f3 hnS; replace d3 := chg_cell hC5 HL.out.d3 hnS
      replace bf8 := chg_froz hC5 (lt_of_cell bx7) bf8 (hnL _ (by omega)); replace bx7 := chg_cell hC5 bx7 (hnL _ (by omega))
      replace bf10 := chg_froz hC5 (lt_of_cell bx9) bf10 (hnL _ (by omega)); replace bx9 := chg_cell hC5 bx9 (hnL _ (by omega))
      clear bx2 bx3 bx4 e0
      have iO5 : ∀ q, OwnMB (.slice (some ⟨gr, 0, none⟩) 14 14) (.slice px m.vals.length tx) (.slice py m.arrs.length ty) us q → w1.heap.size ≤ q ∧ q < w5.heap.size ∧ ¬ q = bb := fun q h => ⟨(O5.lt q h).1, (O5.lt q h).2, HNM.out q h⟩
      have iE5 : ∀ q, (Value.slice pu' (evN c n s ++ stEvs (insAt c (stN c n s).pc) (stN c n s)).length tu').ownBlock = some q → w3.heap.size ≤ q ∧ q < w5.heap.size ∧ ¬ q = bb := fun q h => ⟨(E5.lt q h).1, (E5.lt q h).2, fun e1 => by rcases (hd5 q h).2 with h2 | h2; exact (HL.out.ed q h2).2 e1; (have := lt_of_cell HL.out.d0; omega)⟩
      have hCa : Chg (fun q => q = bb ∨ OwnMB (.slice (some ⟨gr, 0, none⟩) 14 14) (.slice px m.vals.length tx) (.slice py m.arrs.length ty) us q ∨ w3.heap.size ≤ q) w4 w5 := HL.out.chg.trans (hC5.mono (fun q _ h => by rcases h with h | h; exact Or.inr (Or.inl h); exact Or.inr (Or.inr (HL.out.ev.lt _ h).1)))
      have hEd := fun q h => (hd5 q h).1
      clear hC5 hnS hnL HXE2
      have totr := tot4h.out.trans (hCa.below w.heap.size tot4h.out.size (fun q hq h => HNF.out q (by omega) h))
      clear lt154 lt155 lt156
      have lt157 := lt_of_cell bx7
      have lt158 := lt_of_cell d0
      go_upto_region 8 with (fail)
      obtain ⟨w6, hnw⟩ : ∃ X, X = (World.setCell (World.setCell (World.setCell (World.setCell w5 ⟨bb, 0, none⟩ (.int .i64 (stPc (insAt c (stN c n s).pc) (stN c n s)))) ⟨bb, 1, none⟩ (.slice (some ⟨gr, 0, none⟩) 14 14)) ⟨bb, 2, none⟩ (.slice px m.vals.length tx)) ⟨bb, 3, none⟩ (.slice py m.arrs.length ty)) := ⟨_, rfl⟩
      have hb : Below (World.setCell (World.setCell (World.setCell (World.setCell w5 ⟨bb, 0, none⟩ (.int .i64 (stPc (insAt c (stN c n s).pc) (stN c n s)))) ⟨bb, 1, none⟩ (.slice (some ⟨gr, 0, none⟩) 14 14)) ⟨bb, 2, none⟩ (.slice px m.vals.length tx)) ⟨bb, 3, none⟩ (.slice py m.arrs.length ty)).heap.size (World.setCell (World.setCell (World.setCell (World.setCell w5 ⟨bb, 0, none⟩ (.int .i64 (stPc (insAt c (stN c n s).pc) (stN c n s)))) ⟨bb, 1, none⟩ (.slice (some ⟨gr, 0, none⟩) 14 14)) ⟨bb, 2, none⟩ (.slice px m.vals.length tx)) ⟨bb, 3, none⟩ (.slice py m.arrs.length ty)) w6 := by rw [hnw]; exact bself _
      have hsz159 := hb.size
      simp only [World.size_setCell] at hsz159
      replace bf8 := kept_froz hb (lt_of_cell (cell_ne (b := (bb)) (j := 3) (cell_ne (b := (bb)) (j := 2) (cell_ne (b := (bb)) (j := 1) (cell_ne (b := (bb)) (j := 0) bx7 (by omega) (.int .i64 (stPc (insAt c (stN c n s).pc) (stN c n s)))) (by omega) (.slice (some ⟨gr, 0, none⟩) 14 14)) (by omega) (.slice px m.vals.length tx)) (by omega) (.slice py m.arrs.length ty))) (froz_st (b := ⟨(bb), 3, none⟩) (froz_st (b := ⟨(bb), 2, none⟩) (froz_st (b := ⟨(bb), 1, none⟩) (froz_st (b := ⟨(bb), 0, none⟩) bf8 (.int .i64 (stPc (insAt c (stN c n s).pc) (stN c n s)))) (.slice (some ⟨gr, 0, none⟩) 14 14)) (.slice px m.vals.length tx)) (.slice py m.arrs.length ty))
      replace bf10 := kept_froz hb (lt_of_cell (cell_ne (b := (bb)) (j := 3) (cell_ne (b := (bb)) (j := 2) (cell_ne (b := (bb)) (j := 1) (cell_ne (b := (bb)) (j := 0) bx9 (by omega) (.int .i64 (stPc (insAt c (stN c n s).pc) (stN c n s)))) (by omega) (.slice (some ⟨gr, 0, none⟩) 14 14)) (by omega) (.slice px m.vals.length tx)) (by omega) (.slice py m.arrs.length ty))) (froz_st (b := ⟨(bb), 3, none⟩) (froz_st (b := ⟨(bb), 2, none⟩) (froz_st (b := ⟨(bb), 1, none⟩) (froz_st (b := ⟨(bb), 0, none⟩) bf10 (.int .i64 (stPc (insAt c (stN c n s).pc) (stN c n s)))) (.slice (some ⟨gr, 0, none⟩) 14 14)) (.slice px m.vals.length tx)) (.slice py m.arrs.length ty))
      replace f0 := kept_froz hb (lt_of_cell (cell_ne (b := (bb)) (j := 3) (cell_ne (b := (bb)) (j := 2) (cell_ne (b := (bb)) (j := 1) (cell_at _ (bb) 0 (.int .i64 (stPc (insAt c (stN c n s).pc) (stN c n s))) d0) (by omega) (.slice (some ⟨gr, 0, none⟩) 14 14)) (by omega) (.slice px m.vals.length tx)) (by omega) (.slice py m.arrs.length ty))) (froz_st (b := ⟨(bb), 3, none⟩) (froz_st (b := ⟨(bb), 2, none⟩) (froz_st (b := ⟨(bb), 1, none⟩) (froz_st (b := ⟨(bb), 0, none⟩) f0 (.int .i64 (stPc (insAt c (stN c n s).pc) (stN c n s)))) (.slice (some ⟨gr, 0, none⟩) 14 14)) (.slice px m.vals.length tx)) (.slice py m.arrs.length ty))
      replace f1 := kept_froz hb (lt_of_cell (cell_ne (b := (bb)) (j := 3) (cell_ne (b := (bb)) (j := 2) (cell_at _ (bb) 1 (.slice (some ⟨gr, 0, none⟩) 14 14) (cell_ne (b := (bb)) (j := 0) d1 (by omega) (.int .i64 (stPc (insAt c (stN c n s).pc) (stN c n s))))) (by omega) (.slice px m.vals.length tx)) (by omega) (.slice py m.arrs.length ty))) (froz_st (b := ⟨(bb), 3, none⟩) (froz_st (b := ⟨(bb), 2, none⟩) (froz_st (b := ⟨(bb), 1, none⟩) (froz_st (b := ⟨(bb), 0, none⟩) f1 (.int .i64 (stPc (insAt c (stN c n s).pc) (stN c n s)))) (.slice (some ⟨gr, 0, none⟩) 14 14)) (.slice px m.vals.length tx)) (.slice py m.arrs.length ty))
      replace f2 := kept_froz hb (lt_of_cell (cell_ne (b := (bb)) (j := 3) (cell_at _ (bb) 2 (.slice px m.vals.length tx) (cell_ne (b := (bb)) (j := 1) (cell_ne (b := (bb)) (j := 0) d2 (by omega) (.int .i64 (stPc (insAt c (stN c n s).pc) (stN c n s)))) (by omega) (.slice (some ⟨gr, 0, none⟩) 14 14))) (by omega) (.slice py m.arrs.length ty))) (froz_st (b := ⟨(bb), 3, none⟩) (froz_st (b := ⟨(bb), 2, none⟩) (froz_st (b := ⟨(bb), 1, none⟩) (froz_st (b := ⟨(bb), 0, none⟩) f2 (.int .i64 (stPc (insAt c (stN c n s).pc) (stN c n s)))) (.slice (some ⟨gr, 0, none⟩) 14 14)) (.slice px m.vals.length tx)) (.slice py m.arrs.length ty))
      replace f3 := kept_froz hb (lt_of_cell (cell_at _ (bb) 3 (.slice py m.arrs.length ty) (cell_ne (b := (bb)) (j := 2) (cell_ne (b := (bb)) (j := 1) (cell_ne (b := (bb)) (j := 0) d3 (by omega) (.int .i64 (stPc (insAt c (stN c n s).pc) (stN c n s)))) (by omega) (.slice (some ⟨gr, 0, none⟩) 14 14)) (by omega) (.slice px m.vals.length tx)))) (froz_st (b := ⟨(bb), 3, none⟩) (froz_st (b := ⟨(bb), 2, none⟩) (froz_st (b := ⟨(bb), 1, none⟩) (froz_st (b := ⟨(bb), 0, none⟩) f3 (.int .i64 (stPc (insAt c (stN c n s).pc) (stN c n s)))) (.slice (some ⟨gr, 0, none⟩) 14 14)) (.slice px m.vals.length tx)) (.slice py m.arrs.length ty))
      replace bx7 : w6.cell? ⟨w.heap.size + 1 + 1, 0, none⟩ = some (.slice none 0 0) := kept_cell hb (cell_ne (b := (bb)) (j := 3) (cell_ne (b := (bb)) (j := 2) (cell_ne (b := (bb)) (j := 1) (cell_ne (b := (bb)) (j := 0) bx7 (by omega) (.int .i64 (stPc (insAt c (stN c n s).pc) (stN c n s)))) (by omega) (.slice (some ⟨gr, 0, none⟩) 14 14)) (by omega) (.slice px m.vals.length tx)) (by omega) (.slice py m.arrs.length ty))
      replace bx9 : w6.cell? ⟨w.heap.size + 1 + 1, 1, none⟩ = some (.slice none 0 0) := kept_cell hb (cell_ne (b := (bb)) (j := 3) (cell_ne (b := (bb)) (j := 2) (cell_ne (b := (bb)) (j := 1) (cell_ne (b := (bb)) (j := 0) bx9 (by omega) (.int .i64 (stPc (insAt c (stN c n s).pc) (stN c n s)))) (by omega) (.slice (some ⟨gr, 0, none⟩) 14 14)) (by omega) (.slice px m.vals.length tx)) (by omega) (.slice py m.arrs.length ty))
      replace d0 : w6.cell? ⟨bb, 0, none⟩ = some (.int .i64 (stPc (insAt c (stN c n s).pc) (stN c n s))) := kept_cell hb (cell_ne (b := (bb)) (j := 3) (cell_ne (b := (bb)) (j := 2) (cell_ne (b := (bb)) (j := 1) (cell_at _ (bb) 0 (.int .i64 (stPc (insAt c (stN c n s).pc) (stN c n s))) d0) (by omega) (.slice (some ⟨gr, 0, none⟩) 14 14)) (by omega) (.slice px m.vals.length tx)) (by omega) (.slice py m.arrs.length ty))
      replace d1 : w6.cell? ⟨bb, 1, none⟩ = some (.slice (some ⟨gr, 0, none⟩) 14 14) := kept_cell hb (cell_ne (b := (bb)) (j := 3) (cell_ne (b := (bb)) (j := 2) (cell_at _ (bb) 1 (.slice (some ⟨gr, 0, none⟩) 14 14) (cell_ne (b := (bb)) (j := 0) d1 (by omega) (.int .i64 (stPc (insAt c (stN c n s).pc) (stN c n s))))) (by omega) (.slice px m.vals.length tx)) (by omega) (.slice py m.arrs.length ty))
      replace d2 : w6.cell? ⟨bb, 2, none⟩ = some (.slice px m.vals.length tx) := kept_cell hb (cell_ne (b := (bb)) (j := 3) (cell_at _ (bb) 2 (.slice px m.vals.length tx) (cell_ne (b := (bb)) (j := 1) (cell_ne (b := (bb)) (j := 0) d2 (by omega) (.int .i64 (stPc (insAt c (stN c n s).pc) (stN c n s)))) (by omega) (.slice (some ⟨gr, 0, none⟩) 14 14))) (by omega) (.slice py m.arrs.length ty))
      replace d3 : w6.cell? ⟨bb, 3, none⟩ = some (.slice py m.arrs.length ty) := kept_cell hb (cell_at _ (bb) 3 (.slice py m.arrs.length ty) (cell_ne (b := (bb)) (j := 2) (cell_ne (b := (bb)) (j := 1) (cell_ne (b := (bb)) (j := 0) d3 (by omega) (.int .i64 (stPc (insAt c (stN c n s).pc) (stN c n s)))) (by omega) (.slice (some ⟨gr, 0, none⟩) 14 14)) (by omega) (.slice px m.vals.length tx)))
      replace O5 := ((((O5.keep ((Chg.refl (fun gk => gk = (bb)) _).setCell (bb) 0 (.int .i64 (stPc (insAt c (stN c n s).pc) (stN c n s))) (fun _ => rfl)) (fun gq h h2 => by have := iO5 gq h; omega)).keep ((Chg.refl (fun gk => gk = (bb)) _).setCell (bb) 1 (.slice (some ⟨gr, 0, none⟩) 14 14) (fun _ => rfl)) (fun gq h h2 => by have := iO5 gq h; omega)).keep ((Chg.refl (fun gk => gk = (bb)) _).setCell (bb) 2 (.slice px m.vals.length tx) (fun _ => rfl)) (fun gq h h2 => by have := iO5 gq h; omega)).keep ((Chg.refl (fun gk => gk = (bb)) _).setCell (bb) 3 (.slice py m.arrs.length ty) (fun _ => rfl)) (fun gq h h2 => by have := iO5 gq h; omega)).below hb
      replace E5 := own_below (own_set (own_set (own_set (own_set E5 (bb) 0 (fun h => by have := iE5 _ h; omega) (.int .i64 (stPc (insAt c (stN c n s).pc) (stN c n s)))) (bb) 1 (fun h => by have := iE5 _ h; omega) (.slice (some ⟨gr, 0, none⟩) 14 14)) (bb) 2 (fun h => by have := iE5 _ h; omega) (.slice px m.vals.length tx)) (bb) 3 (fun h => by have := iE5 _ h; omega) (.slice py m.arrs.length ty)) hb
      replace hCa := ((((hCa.setCell (bb) 0 (.int .i64 (stPc (insAt c (stN c n s).pc) (stN c n s))) (fun _ => Or.inl rfl)).setCell (bb) 1 (.slice (some ⟨gr, 0, none⟩) 14 14) (fun _ => Or.inl rfl)).setCell (bb) 2 (.slice px m.vals.length tx) (fun _ => Or.inl rfl)).setCell (bb) 3 (.slice py m.arrs.length ty) (fun _ => Or.inl rfl)).trans (Chg.of_below hb)
      replace tot := btr (bst (bst (bst (bst totr (bb) 0 (by omega) (.int .i64 (stPc (insAt c (stN c n s).pc) (stN c n s)))) (bb) 1 (by omega) (.slice (some ⟨gr, 0, none⟩) 14 14)) (bb) 2 (by omega) (.slice px m.vals.length tx)) (bb) 3 (by omega) (.slice py m.arrs.length ty)) hb
      clear hb
      rw [← hnw]
      clear hnw
      clear lt157 lt158
      have lt160 := lt_of_cell bx7
      have lt161 := lt_of_cell d0
      have L1 : Hid (¬ x.op = 13 → L6 c s w4 w6 w1.heap.size w3.heap.size bb (.slice (some ⟨gr, 0, none⟩) 14 14) (.slice px m.vals.length tx) (.slice py m.arrs.length ty) us (.slice pu' (evN c n s ++ stEvs (insAt c (stN c n s).pc) (stN c n s)).length tu') (n + 1)) := Lib.hid (fun h13 => ⟨d0, d1, d2, d3, f0, f1, f2, f3, O5, E5, fun q h => ⟨hEd q h, (iE5 q h).2.2⟩, fun j hj => by (by_cases e : j = n); (subst e; rw [HOP.out]; exact h13); exact HL.out.no j (by omega), hCa⟩)
      have HF := Lib.hid (And.intro O5 E5)
      clear O5 E5 hCa hEd f0 f1 f2 f3
      by_cases h13 : x.op = 13
      · have hx : (x.op == 13) = true := by simp [h13]
        have HRR := Lib.hid (HRS.out n hlt HL.out.no (by rw [HOP.out]; exact h13))
        have HTT := Lib.hid (HTS.out n HRR.out)
        have HMM := Lib.hid (HMS'.out n HRR.out)
        clear L1 h13
        have iO6 := iO5; have iE6 := iE5
        have O6 := HF.out.1; have E6 := HF.out.2
        have OF := Lib.hid ((O6.keep ((Chg.refl (fun gk => gk = (w.heap.size + 1 + 1)) _).setCell (w.heap.size + 1 + 1) 0 (.slice px m.vals.length tx) (fun _ => rfl)) (fun gq h h2 => by have := iO6 gq h; omega)).keep ((Chg.refl (fun gk => gk = (w.heap.size + 1 + 1)) _).setCell (w.heap.size + 1 + 1) 1 (.slice py m.arrs.length ty) (fun _ => rfl)) (fun gq h h2 => by have := iO6 gq h; omega)); have EF := Lib.hid (own_set (own_set E6 (w.heap.size + 1 + 1) 0 (fun h => by have := iE6 _ h; omega) (.slice px m.vals.length tx)) (w.heap.size + 1 + 1) 1 (fun h => by have := iE6 _ h; omega) (.slice py m.arrs.length ty))
        clear O6 E6
        have x162 := (cell_ne (b := (w.heap.size + 1 + 1)) (j := 1) (cell_at _ (w.heap.size + 1 + 1) 0 (.slice px m.vals.length tx) bx7) (by omega) (.slice py m.arrs.length ty))
        have x163 := (cell_at _ (w.heap.size + 1 + 1) 1 (.slice py m.arrs.length ty) (cell_ne (b := (w.heap.size + 1 + 1)) (j := 0) bx9 (by omega) (.slice px m.vals.length tx)))
        have tt := (bst (bst tot (w.heap.size + 1 + 1) 0 (by omega) (.slice px m.vals.length tx)) (w.heap.size + 1 + 1) 1 (by omega) (.slice py m.arrs.length ty))
        go_wp2
        exact bodyPost_ret (v := .tuple #[.agg #[.slice px m.vals.length tx, .slice py m.arrs.length ty], (.slice pu' (evN c n s ++ stEvs (insAt c (stN c n s).pc) (stN c n s)).length tu'), .bool true]) (by simp [results, Try.results105, go_sem, x162, x163]) rfl (by exact by rw [HRR.out, HTT.out, HMM.out]; exact ⟨_, _, _, _, rfl, own_mono EF.out (by omega), OF.out.toM.mono (by omega), tt⟩)
      · have hx : (x.op == 13) = false := by simp [h13]
        have L2 := Lib.hid (L1.out h13)
        clear L1 h13 HF
        go_wp2
        go_roundw
        case rel => exact ⟨n + 1, by omega, by go_num, by have h := L2.out; rw [List.length_append] at h; exact h⟩
        case measure => simp [intOf]; omega
    · have en : n = 20000 := by omega
      subst en
      have HRR := Lib.hid (HRN.out HL.out.no); have HTT := Lib.hid (HTN.out HRR.out); have HMM := Lib.hid (HMN.out HRR.out)
      clear HL
      have lt164 := lt_of_cell bx2
      have lt165 := lt_of_cell bx7
      have ef := (World.ownsRow_lit (base := ((World.setCell (World.setCell wr ⟨w.heap.size + 1 + 1, 0, none⟩ (.slice none 0 0)) ⟨w.heap.size + 1 + 1, 1, none⟩ (.slice none 0 0))).heap.size) (e := 89) (size := 2) ((World.setCell (World.setCell wr ⟨w.heap.size + 1 + 1, 0, none⟩ (.slice none 0 0)) ⟨w.heap.size + 1 + 1, 1, none⟩ (.slice none 0 0))) #[] 0 (Nat.le_refl _) (by unfold maxLen; omega) (by simp))
      try simp only [World.size_alloc, World.size_setCell] at ef
      have EF := Lib.hid ef; clear ef
      have x167 := (cell_al (cell_ne (b := (w.heap.size + 1 + 1)) (j := 1) (cell_at _ (w.heap.size + 1 + 1) 0 (.slice none 0 0) bx7) (by omega) (.slice none 0 0)) (.cells #[] 89))
      have x168 := (cell_al (cell_at _ (w.heap.size + 1 + 1) 1 (.slice none 0 0) (cell_ne (b := (w.heap.size + 1 + 1)) (j := 0) bx9 (by omega) (.slice none 0 0))) (.cells #[] 89))
      have tt := (bal (bst (bst totr (w.heap.size + 1 + 1) 0 (by omega) (.slice none 0 0)) (w.heap.size + 1 + 1) 1 (by omega) (.slice none 0 0)) (.cells #[] 89))
      go_wp2
      exact bodyPost_ret (v := .tuple #[.agg #[.slice none 0 0, .slice none 0 0], .slice (some ⟨wr.heap.size, 0, none⟩) 0 0, .bool false]) (by simp [results, Try.results105, go_sem, x167, x168]) rfl (by exact by rw [HRR.out, HTT.out, HMM.out]; exact ⟨_, _, [], _, rfl, own_mono EF.out (by omega), noMem_own _ _, tt⟩)
end Go.Proofs.Ytbglogjamfdmpaa
