import Derived.Test.YtcnaeeejffeeoaaLL
import Derived.Test.YtcnaeeejffeeoaaKK
import Derived.Test.YtcnaeeejffeeoaaCC
namespace Go.Proofs.Ytcnaeeejffeeoaa
open Go.RowKit

theorem wpList_apsW {P : Program} {t e : TypeId} {z : Value} {size bytes : Nat} (T : SliceT P t e z size bytes) {ops : Array Oper} {rest : List Oper} {o : Oper} {a : Act} {Q : Exit → Act → World → Prop} {w : World}
    (hwt : Region.wanted o (yielded ops a.tmps) = true) (s x : Operand) (ho : o.op = .call { callee := .builtin .append, args := #[s, x], argTypes := #[t, t] })
    (base : Nat) (v : Value) (n : Nat) (xs : List Value) (hs : a.eval s = v) (hown : w.ownsRow base e size v n xs)
    (sv : Value) (m : Nat) (news : List Value) (hx : a.eval x = sv) (hsrc : Reads w size sv m news) (h1 : ∀ u ∈ news, u.oneCell' = true) (hn : n + m ≤ 4294967296) (hbase : base ≤ w.heap.size)
    (h : ∀ v' w', w'.ownsRow base e size v' (n + m) (xs ++ news) → Chg (fun k => v.ownBlock = some k) w w' → NewOr w v v' → (v' = .slice none 0 0 ↔ v = .slice none 0 0 ∧ m = 0) → wpList P ops Q rest (a.put o.dst v') w') :
    wpList P ops Q (o :: rest) a w := by
  obtain ⟨v', w', hr, h2, h3, h4, h5⟩ := run_ap T o.type w base v n xs hown sv m news hsrc h1 hn hbase
  refine BigFrame.wpList_want hwt fun K hK => ?_
  unfold Oper.wp execOp
  simp only [ho, resolve, invoke, builtin, Sem.run_bind, Sem.run_pure, Result.andThen_ok, List.map_toArray, List.map_cons, List.map_nil, hs, hx, hr]
  exact hK _ _ (h v' w' h2 h3 h4 h5)

set_option maxHeartbeats 4000000 in
set_option maxRecDepth 100000 in
theorem FnCacheRun_walk (v : Value) (n : Nat) (vs : List Int) (v2 : Value) (n2 : Nat) (vs2 : List Value) (w : World) (r0 : Reads w 1 v n (vs.map (Value.int .u8))) (hv : ∀ x ∈ vs, 0 ≤ x ∧ x < 256) (r2 : Reads w 1 v2 n2 vs2) :
    Calls Try.prog 11 #[v, v2] w fun e w' => e = .returned (.bool true) ∧ Below w.heap.size w w' := by
  by_cases hn : n ≤ 1048576 ∧ n2 ≤ 1048576
  · obtain ⟨hn, hm⟩ := hn
    obtain ⟨va, vc, rfl⟩ := reads_shape r0
    obtain ⟨vb, vd, rfl⟩ := reads_shape r2
    have hn2 : ¬ (1048576 : Int) < (n : Int) := by omega
    have hm2 : ¬ (1048576 : Int) < (n2 : Int) := by omega
    clear r2
    go_enter Try.func11, Try.ntmps11
    go_wp2_with fail
    refine (DrawCacheRun_any _ n vs _ r0 hv hn).mono ?_
    rintro e w1 ⟨u, tv, xs, l, rfl, oc, hxl, ot, hl8, hb⟩
    have hk1 := btr (bself w) hb
    have hsz1 := hb.size
    have tot := hk1
    clear hk1 hb
    clear r0 hv
    obtain ⟨a1, c1, rfl⟩ := own_shape oc
    have iv2 := oc.lt
    obtain ⟨ta, tc, rfl⟩ := own_shape ot
    have iv3 := ot.lt
    have hcr := crunR_hits xs l
    obtain ⟨hcr1, hcr2⟩ := hcr
    go_wp2_with fail
    refine (iCacheRun_any _ _ xs l _ (reads_of_owns (own_below oc (bal (bself w1) _)) (by omega)) (reads_of_owns (own_below ot (bal (bself w1) _)) (by omega)) (by omega)).mono ?_
    rintro e w2 ⟨u2, b2, rfl, oy2, oh2, hb⟩
    have hk4 := btr (bal (bself w1) _) hb
    have hsz4 := hb.size
    simp only [World.size_alloc] at hsz4
    replace oc := own_below oc hk4
    replace ot := own_below ot hk4
    have bx5 : w2.cell? ⟨w1.heap.size, 0, none⟩ = some (.slice a1 xs.length c1) := kept_cell hb (by simp [go_sem])
    replace tot := btr tot hk4
    clear hk4 hb
    obtain ⟨ya2, yc2, rfl⟩ := own_shape oy2
    have iv6 := oy2.lt
    simp only [World.size_alloc] at iv6
    obtain ⟨ha2, hc2, rfl⟩ := own_shape oh2
    have iv7 := oh2.lt
    simp only [World.size_alloc] at iv7
    have lt8 := lt_of_cell bx5
    go_wp2_with fail
    refine (sCacheRun_any _ _ xs l _ (reads_of_owns (own_below oc (bal (bself w2) _)) (by omega)) (reads_of_owns (own_below ot (bal (bself w2) _)) (by omega)) (by omega)).mono ?_
    rintro e w3 ⟨u3, b3, rfl, oy3, oh3, hb⟩
    have hk9 := btr (bal (bself w2) _) hb
    have hsz9 := hb.size
    simp only [World.size_alloc] at hsz9
    replace oc := own_below oc hk9
    replace ot := own_below ot hk9
    replace bx5 := kept_cell hk9 bx5
    replace oy2 := own_below oy2 hk9
    replace oh2 := own_below oh2 hk9
    have bx10 : w3.cell? ⟨w2.heap.size, 0, none⟩ = some (.slice ya2 (crunR xs l).1.length yc2) := kept_cell hb (by simp [go_sem])
    replace tot := btr tot hk9
    clear hk9 hb
    obtain ⟨ya3, yc3, rfl⟩ := own_shape oy3
    have iv11 := oy3.lt
    simp only [World.size_alloc] at iv11
    obtain ⟨ha3, hc3, rfl⟩ := own_shape oh3
    have iv12 := oh3.lt
    simp only [World.size_alloc] at iv12
    have lt13 := lt_of_cell bx5
    have lt14 := lt_of_cell bx10
    cases hok : (crunR xs l).2.2
    · go_wp2_with fail
      refine (ctInts_b _ _ (crunR xs l).1 (crunR xs l).1 _ (reads_of_owns (own_below oy2 (bal (bself w3) _)) (by omega)) (reads_of_owns (own_below oy3 (bal (bself w3) _)) (by omega))).mono ?_
      rintro e w4 ⟨rfl, hb⟩
      have hk15 := btr (bal (bself w3) _) hb
      have hsz15 := hb.size
      simp only [World.size_alloc] at hsz15
      replace oc := own_below oc hk15
      replace ot := own_below ot hk15
      replace bx5 := kept_cell hk15 bx5
      replace oy2 := own_below oy2 hk15
      replace oh2 := own_below oh2 hk15
      replace bx10 := kept_cell hk15 bx10
      replace oy3 := own_below oy3 hk15
      replace oh3 := own_below oh3 hk15
      have bx16 : w4.cell? ⟨w3.heap.size, 0, none⟩ = some (.slice ya3 (crunR xs l).1.length yc3) := kept_cell hb (by simp [go_sem])
      replace tot := btr tot hk15
      clear hk15 hb
      rw [decide_eq_true (Eq.refl (crunR xs l).1)]
      have lt17 := lt_of_cell bx5
      have lt18 := lt_of_cell bx10
      have lt19 := lt_of_cell bx16
      go_wp2_with fail
      refine (ctBools_b _ _ (crunR xs l).2.1 (crunR xs l).2.1 _ (reads_of_owns oh2 (by omega)) (reads_of_owns oh3 (by omega))).mono ?_
      rintro e w5 ⟨rfl, hb⟩
      have hk20 := btr (bself w4) hb
      have hsz20 := hb.size
      replace oc := own_below oc hk20
      replace ot := own_below ot hk20
      replace bx5 := kept_cell hk20 bx5
      replace oy2 := own_below oy2 hk20
      replace oh2 := own_below oh2 hk20
      replace bx10 := kept_cell hk20 bx10
      replace oy3 := own_below oy3 hk20
      replace oh3 := own_below oh3 hk20
      replace bx16 := kept_cell hk20 bx16
      replace tot := btr tot hk20
      clear hk20 hb
      rw [decide_eq_true (Eq.refl (crunR xs l).2.1)]
      have lt21 := lt_of_cell bx5
      have lt22 := lt_of_cell bx10
      have lt23 := lt_of_cell bx16
      go_wp2_with fail
      refine (ctInts_b _ _ (crunR xs l).1 (crunR xs l).1 _ (reads_of_owns oy2 (by omega)) (reads_of_owns oy3 (by omega))).mono ?_
      rintro e w6 ⟨rfl, hb⟩
      have hk24 := btr (bself w5) hb
      have hsz24 := hb.size
      replace oc := own_below oc hk24
      replace ot := own_below ot hk24
      replace bx5 := kept_cell hk24 bx5
      replace oy2 := own_below oy2 hk24
      replace oh2 := own_below oh2 hk24
      replace bx10 := kept_cell hk24 bx10
      replace oy3 := own_below oy3 hk24
      replace oh3 := own_below oh3 hk24
      replace bx16 := kept_cell hk24 bx16
      replace tot := btr tot hk24
      clear hk24 hb
      rw [decide_eq_true (Eq.refl (crunR xs l).1)]
      have lt25 := lt_of_cell bx5
      have lt26 := lt_of_cell bx10
      have lt27 := lt_of_cell bx16
      go_wp2_with fail
      refine (ctBools_b _ _ (crunR xs l).2.1 (crunR xs l).2.1 _ (reads_of_owns oh2 (by omega)) (reads_of_owns oh3 (by omega))).mono ?_
      rintro e w7 ⟨rfl, hb⟩
      have hk28 := btr (bself w6) hb
      have hsz28 := hb.size
      replace oc := own_below oc hk28
      replace ot := own_below ot hk28
      replace bx5 := kept_cell hk28 bx5
      replace oy2 := own_below oy2 hk28
      replace oh2 := own_below oh2 hk28
      replace bx10 := kept_cell hk28 bx10
      replace oy3 := own_below oy3 hk28
      replace oh3 := own_below oh3 hk28
      replace bx16 := kept_cell hk28 bx16
      replace tot := btr tot hk28
      clear hk28 hb
      rw [decide_eq_true (Eq.refl (crunR xs l).2.1)]
      have lt29 := lt_of_cell bx5
      have lt30 := lt_of_cell bx10
      have lt31 := lt_of_cell bx16
      clear oy2 oy3 oh2 oh3 oc ot
      go_wp2
      go_ret
      exact ⟨rfl, tot⟩
    · go_wp2_with fail
      refine (ctInts_b _ _ (crunR xs l).1 (crunR xs l).1 _ (reads_of_owns (own_below oy2 (bal (bself w3) _)) (by omega)) (reads_of_owns (own_below oy3 (bal (bself w3) _)) (by omega))).mono ?_
      rintro e w4 ⟨rfl, hb⟩
      have hk15 := btr (bal (bself w3) _) hb
      have hsz15 := hb.size
      simp only [World.size_alloc] at hsz15
      replace oc := own_below oc hk15
      replace ot := own_below ot hk15
      replace bx5 := kept_cell hk15 bx5
      replace oy2 := own_below oy2 hk15
      replace oh2 := own_below oh2 hk15
      replace bx10 := kept_cell hk15 bx10
      replace oy3 := own_below oy3 hk15
      replace oh3 := own_below oh3 hk15
      have bx16 : w4.cell? ⟨w3.heap.size, 0, none⟩ = some (.slice ya3 (crunR xs l).1.length yc3) := kept_cell hb (by simp [go_sem])
      replace tot := btr tot hk15
      clear hk15 hb
      rw [decide_eq_true (Eq.refl (crunR xs l).1)]
      have lt17 := lt_of_cell bx5
      have lt18 := lt_of_cell bx10
      have lt19 := lt_of_cell bx16
      clear oy3
      go_wp2_with fail
      refine (ctBools_b _ _ (crunR xs l).2.1 (crunR xs l).2.1 _ (reads_of_owns oh2 (by omega)) (reads_of_owns oh3 (by omega))).mono ?_
      rintro e w5 ⟨rfl, hb⟩
      have hk20 := btr (bself w4) hb
      have hsz20 := hb.size
      replace oc := own_below oc hk20
      replace ot := own_below ot hk20
      replace bx5 := kept_cell hk20 bx5
      replace oy2 := own_below oy2 hk20
      replace oh2 := own_below oh2 hk20
      replace bx10 := kept_cell hk20 bx10
      replace oh3 := own_below oh3 hk20
      replace bx16 := kept_cell hk20 bx16
      replace tot := btr tot hk20
      clear hk20 hb
      rw [decide_eq_true (Eq.refl (crunR xs l).2.1)]
      have lt21 := lt_of_cell bx5
      have lt22 := lt_of_cell bx10
      have lt23 := lt_of_cell bx16
      clear oh3
      have hkb : n2 % (l.length + 1) < l.length + 1 := Nat.mod_lt _ (by omega)
      have hke : ((n2 : Int) % ((l.length : Int) + 1)) = ((n2 % (l.length + 1) : Nat) : Int) := by
        have : ((l.length : Int) + 1) = ((l.length + 1 : Nat) : Int) := by omega
        rw [this, ← Int.natCast_emod]
      generalize n2 % (l.length + 1) = k at *
      have hkl : k ≤ l.length := by omega
      have hcrp := crunR_parts hok k
      have hy2 := crunR_hits xs (l.take k)
      have hz2 := crunR_hits (crunR xs (l.take k)).1 (l.drop k)
      have hcap : k ≤ tc := by
        obtain ⟨_, _, a', c', _, _, hq, ⟨hq1, _⟩, _⟩ := reads_of_owns ot (by omega)
        simp only [Value.slice.injEq, true_and] at hq
        omega
      have hp1 := run_pre tEvs ta l.length tc k hcap
      have hp2 := run_post tEvs ta l.length tc k hkl
      have hR1 : ∀ W', Below w5.heap.size w5 W' → Reads W' 2 (.slice ta k tc) k (evs (l.take k)) := fun W' h => by rw [← evs_take]; exact own_pre (own_below ot h) (by omega) k hkl
      have hR2 : ∀ W', Below w5.heap.size w5 W' → Reads W' 2 (.slice (if tc = k then ta else ta.map (fun x => x.add (k * 2))) (l.length - k) (tc - k)) (l.length - k) (evs (l.drop k)) := fun W' h => by rw [← evs_drop]; exact own_post (own_below ot h) (by omega) k hkl
      generalize (if tc = k then ta else ta.map (fun x => x.add (k * 2))) = tp at *
      have hRc : ∀ W', Below w5.heap.size w5 W' → Reads W' 1 (.slice a1 xs.length c1) xs.length (ints xs) := fun W' h => reads_of_owns (own_below oc h) (by omega)
      have htake : (l.take k).length = k := by rw [List.length_take]; omega
      have hdrop : (l.drop k).length = l.length - k := List.length_drop
      have hCR := fun (W : World) r1 r2 => iCacheRun_any (.slice a1 xs.length c1) (.slice ta k tc) xs (l.take k) W r1 r2 (by omega)
      have hCD := fun (W : World) ya yc r1 r2 => iCacheRun_any (.slice ya (crunR xs (l.take k)).1.length yc) (.slice tp (l.length - k) (tc - k)) (crunR xs (l.take k)).1 (l.drop k) W r1 r2 (by omega)
      rw [htake] at hCR hy2
      rw [hdrop] at hCD hz2
      obtain ⟨q1, q2, q3, q4⟩ := hcrp
      rw [q1] at hCR
      rw [q2, q3] at hCD
      have HCR := Lib.hid hCR
      have HCD := Lib.hid hCD
      have HR1 := Lib.hid hR1
      have HR2 := Lib.hid hR2
      have HRc := Lib.hid hRc
      clear hCR hCD hR1 hR2 hRc q1 q2 q3 htake hdrop hkb hcap hok
      generalize crunR (crunR xs (l.take k)).1 (l.drop k) = R2 at *
      generalize crunR xs (l.take k) = R1 at *
      obtain ⟨ys, h1, ok1⟩ := R1
      obtain ⟨zs, h2, ok2⟩ := R2
      simp only at *
      obtain ⟨hy3, hy2⟩ := hy2
      obtain ⟨hz3, hz2⟩ := hz2
      have hlen : h1.length + h2.length = (crunR xs l).2.1.length := by rw [← q4, List.length_append]
      have H4 := Lib.hid q4
      have HLEN := Lib.hid hlen
      clear q4 hlen
      have c0 := Below.drew (bself w5)
      clear oc ot
      go_upto_region 9 with (fail)
      rw [hke]
      clear hke
      go_cut [14, 15, 16] (fun sa sh sc wx => ∃ (bb : Nat) (ya : Option Addr) (yc : Nat) (ga : Option Addr) (gc : Nat), sa = .pointer (some ⟨bb, 0, none⟩) ∧ sh = .slice ga h1.length gc ∧ sc = .bool true ∧ wx.cell? ⟨bb, 0, none⟩ = some (.slice ya ys.length yc) ∧ wx.ownsRow w5.heap.size 3 1 (.slice ya ys.length yc) ys.length (ints ys) ∧ wx.ownsRow w5.heap.size 4 1 (.slice ga h1.length gc) h1.length (bools h1) ∧ Below w5.heap.size w5 wx)
      case first =>
        clear tot oy2 oh2
        have d1 := Below.drew (bal (bself w5) (.cells #[.slice none 0 0] 24))
        go_region_with (first | (go_at_call 38; refine (HCR.out _ (HRc.out _ c0) (HR1.out _ c0)).mono ?_; rintro e wq ⟨u9, b9, rfl, o9, oh9, hb9⟩; obtain ⟨a9, c9, rfl⟩ := own_shape o9; obtain ⟨a8, c8, rfl⟩ := own_shape oh9; have k5 := btr c0 hb9) | (go_at_call 38; refine (HCR.out _ (HRc.out _ d1) (HR1.out _ d1)).mono ?_; rintro e wq ⟨u9, b9, rfl, o9, oh9, hb9⟩; obtain ⟨a9, c9, rfl⟩ := own_shape o9; obtain ⟨a8, c8, rfl⟩ := own_shape oh9; have k5 := btr d1 hb9; have q5 : wq.cell? ⟨w5.heap.size, 0, none⟩ = some (.slice none 0 0) := kept_cell hb9 (by simp [go_sem]); have r5 : wq.frozen? ⟨w5.heap.size, 0, none⟩ = false := kept_froz hb9 (by simp) (by simp [go_sem])))
        all_goals (go_wp2_with fail; go_meet; refine ⟨_, a9, c9, a8, c8, rfl, rfl, rfl, ?_⟩)
        all_goals first | exact ⟨cell_new1 _ _ _, own_below (own_mono o9 (by simp)) (bal (bself wq) _), own_below (own_mono oh9 (by simp)) (bal (bself wq) _), bal k5 _⟩ | exact ⟨cell_at _ _ _ _ q5, own_set (own_mono o9 (by simp)) _ _ (fun h => by have := o9.lt _ h; simp at this; omega) _, own_set (own_mono oh9 (by simp)) _ _ (fun h => by have := oh9.lt _ h; simp at this; omega) _, bst k5 _ _ (by omega) _⟩
      obtain ⟨W5, rfl⟩ : ∃ W, W = wc := ⟨_, rfl⟩
      obtain ⟨bb, ya, yc, ga, gc, rfl, rfl, rfl, cb, oys, oh1, hb⟩ := hcut
      have k5 := hb
      have hk24 := btr (bself w5) hb
      have hsz24 := hb.size
      replace bx5 := kept_cell hk24 bx5
      replace oy2 := own_below oy2 hk24
      replace oh2 := own_below oh2 hk24
      replace bx10 := kept_cell hk24 bx10
      replace bx16 := kept_cell hk24 bx16
      replace tot := btr tot hk24
      clear hk24 hb
      have iv25 := oys.lt
      have iv26 := oh1.lt
      have lt27 := lt_of_cell bx5
      have lt28 := lt_of_cell bx10
      have lt29 := lt_of_cell bx16
      have lt30 := lt_of_cell cb
      have c5 := Below.drew (bself W5)
      have e5 := btr k5 c5
      go_upto_region 10 with (fail)
      go_cut [17, 18, 19] (fun sa sh sc wx => ∃ (bb : Nat) (ya : Option Addr) (yc : Nat) (ga : Option Addr) (gc : Nat), sa = .pointer (some ⟨bb, 0, none⟩) ∧ sh = .slice ga h2.length gc ∧ sc = .bool true ∧ wx.cell? ⟨bb, 0, none⟩ = some (.slice ya (crunR xs l).1.length yc) ∧ wx.ownsRow W5.heap.size 3 1 (.slice ya (crunR xs l).1.length yc) (crunR xs l).1.length (ints (crunR xs l).1) ∧ wx.ownsRow W5.heap.size 4 1 (.slice ga h2.length gc) h2.length (bools h2) ∧ Below W5.heap.size W5 wx)
      case first =>
        clear tot oy2 oh2 oh1
        have d1 := Below.drew (bal (bself W5) (.cells #[.slice none 0 0] 24))
        have f1 := btr k5 d1
        go_region_with (first | (go_at_call 38; refine (HCD.out _ _ _ (reads_of_owns (own_below oys c5) (by omega)) (HR2.out _ e5)).mono ?_; rintro e wq ⟨u9, b9, rfl, o9, oh9, hb9⟩; obtain ⟨a9, c9, rfl⟩ := own_shape o9; obtain ⟨a8, c8, rfl⟩ := own_shape oh9; have g5 := btr c5 hb9) | (go_at_call 38; refine (HCD.out _ _ _ (reads_of_owns (own_below oys d1) (by omega)) (HR2.out _ f1)).mono ?_; rintro e wq ⟨u9, b9, rfl, o9, oh9, hb9⟩; obtain ⟨a9, c9, rfl⟩ := own_shape o9; obtain ⟨a8, c8, rfl⟩ := own_shape oh9; have g5 := btr d1 hb9; have q5 : wq.cell? ⟨W5.heap.size, 0, none⟩ = some (.slice none 0 0) := kept_cell hb9 (by simp [go_sem]); have r5 : wq.frozen? ⟨W5.heap.size, 0, none⟩ = false := kept_froz hb9 (by simp) (by simp [go_sem])))
        all_goals (go_wp2_with fail; go_meet; refine ⟨_, a9, c9, a8, c8, rfl, rfl, rfl, ?_⟩)
        all_goals first | exact ⟨cell_new1 _ _ _, own_below (own_mono o9 (by simp)) (bal (bself wq) _), own_below (own_mono oh9 (by simp)) (bal (bself wq) _), bal g5 _⟩ | exact ⟨cell_at _ _ _ _ q5, own_set (own_mono o9 (by simp)) _ _ (fun h => by have := o9.lt _ h; simp at this; omega) _, own_set (own_mono oh9 (by simp)) _ _ (fun h => by have := oh9.lt _ h; simp at this; omega) _, bst g5 _ _ (by omega) _⟩
      obtain ⟨W6, rfl⟩ : ∃ W, W = wc := ⟨_, rfl⟩
      obtain ⟨bz, za, zc, gz, gy, rfl, rfl, rfl, cz, ozs, ohz, hb⟩ := hcut
      clear e5 c5 k5 oys
      have hk31 := btr (bself W5) hb
      have hsz31 := hb.size
      replace bx5 := kept_cell hk31 bx5
      replace oy2 := own_below oy2 hk31
      replace oh2 := own_below oh2 hk31
      replace bx10 := kept_cell hk31 bx10
      replace bx16 := kept_cell hk31 bx16
      replace oh1 := own_below oh1 hk31
      replace tot := btr tot hk31
      clear hk31 hb
      have iv32 := ozs.lt
      have iv33 := ohz.lt
      have lt34 := lt_of_cell bx5
      have lt35 := lt_of_cell bx10
      have lt36 := lt_of_cell bx16
      have lt37 := lt_of_cell cz
      clear HCR HCD HR1 HR2 HRc c0 hp1 hp2
      go_wp2_with fail
      refine (ctInts_b _ _ (crunR xs l).1 (crunR xs l).1 _ (reads_of_owns ozs (by omega)) (reads_of_owns oy2 (by omega))).mono ?_
      rintro e w6 ⟨rfl, hb⟩
      have hk38 := btr (bself W6) hb
      have hsz38 := hb.size
      replace bx5 := kept_cell hk38 bx5
      replace oy2 := own_below oy2 hk38
      replace oh2 := own_below oh2 hk38
      replace bx10 := kept_cell hk38 bx10
      replace bx16 := kept_cell hk38 bx16
      replace oh1 := own_below oh1 hk38
      replace cz := kept_cell hk38 cz
      replace ozs := own_below ozs hk38
      replace ohz := own_below ohz hk38
      replace tot := btr tot hk38
      clear hk38 hb
      rw [decide_eq_true (Eq.refl (crunR xs l).1)]
      clear ozs
      clear oy2
      have ivz := iv33
      have ivh := iv7
      have hon := own_nil_made w6 4
      have hz := bal (bself w6) (.cells #[] 4)
      have r1 := reads_of_owns (own_below oh1 hz) (by omega)
      have r2 := reads_of_owns (own_below ohz hz) (by omega)
      have hlb := HLEN.out
      have r3 := reads_of_owns (own_below oh2 hz) (by omega)
      have hb1 : h1.length + h2.length ≤ 8 := by omega
      clear hlb HLEN
      go_wp2_with (at_builtin; refine wpList_apsW tBools (by kernel_rfl) _ _ rfl w6.heap.size (.slice (some ⟨w6.heap.size, 0, none⟩) 0 0) 0 [] (by simp [Act.eval]) hon (.slice ga h1.length gc) h1.length (bools h1) (by simp [Act.eval]) r1 (one_bools h1) (by omega) ?_ ?_)
      · simp
      intro v' wa ho' hc' hn' hi'
      obtain ⟨va', ca', rfl⟩ := own_shape ho'
      have hS : ∀ q, q < w6.heap.size → ¬ (Value.slice (some ⟨w6.heap.size, 0, none⟩) 0 0).ownBlock = some q := fun q hq h => by have e : w6.heap.size = q := Option.some.inj h; omega
      have r2' := r2.keep hc' (fun b _ _ _ h => hS b (by have := ivz b (by rw [h]; rfl); omega))
      have r3' := r3.keep hc' (fun b _ _ _ h => hS b (by have := ivh b (by rw [h]; rfl); omega))
      have hba := hz.trans (hc'.below w6.heap.size hz.size (fun q hq h => hS q hq h))
      have hna : ∀ q, (Value.slice va' h1.length ca').ownBlock = some q → w6.heap.size ≤ q := fun q h => (ho'.lt q h).1
      have tot2 := tot.trans (hba.mono tot.size)
      have hwa := hba.size
      have htz := tot.size
      clear r1 r2 r3 hon hz hc' hn' hi' hba tot hS oh1 ohz oh2 cz
      go_wp2_with (at_builtin; refine wpList_apsW tBools (by kernel_rfl) _ _ rfl w6.heap.size (.slice va' h1.length ca') h1.length (bools h1) (by simp [Act.eval]) ho' (.slice gz h2.length gy) h2.length (bools h2) (by simp [Act.eval]) r2' (one_bools h2) (by omega) hwa ?_)
      intro v' wb ho2 hc2 hn2 hi2
      obtain ⟨vb', cb', rfl⟩ := own_shape ho2
      have r3b := r3'.keep hc2 (fun b _ _ _ h h2 => by have := hna b h2; have := ivh b (by rw [h]; rfl); omega)
      have tot3 := tot2.trans (hc2.below w.heap.size tot2.size (fun q hq h => by have := hna q h; omega))
      have ho3 : Reads wb 1 (.slice vb' (h1.length + h2.length) cb') (crunR xs l).2.1.length (bools (crunR xs l).2.1) := by
        have h := reads_of_owns ho2 (by omega)
        rw [← bools_append, H4.out] at h
        rw [← H4.out, List.length_append, H4.out]; exact h
      clear ho2 hc2 hn2 hi2 r3' tot2
      go_wp2_with fail
      refine (ctBools_b _ _ (crunR xs l).2.1 (crunR xs l).2.1 _ ho3 r3b).mono ?_
      rintro e wz ⟨rfl, hb⟩
      rw [decide_eq_true (Eq.refl (crunR xs l).2.1)]
      replace tot3 := btr tot3 hb
      clear ho3 r3b hb
      go_wp2
      go_ret
      exact ⟨rfl, tot3⟩
  · have hm2 : (1048576 : Int) < (n : Int) ∨ (¬ (1048576 : Int) < (n : Int) ∧ (1048576 : Int) < (n2 : Int)) := by omega
    obtain ⟨va, vc, rfl⟩ := reads_shape r0
    obtain ⟨vb, vd, rfl⟩ := reads_shape r2
    clear r0 r2 hn
    rcases hm2 with hm2 | ⟨hm1, hm2⟩
    all_goals
      go_enter Try.func11, Try.ntmps11
      go_wp2
      go_ret
      exact ⟨rfl, Below.refl _ _⟩
end Go.Proofs.Ytcnaeeejffeeoaa
