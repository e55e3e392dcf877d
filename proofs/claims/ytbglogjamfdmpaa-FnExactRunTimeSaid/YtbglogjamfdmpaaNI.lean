/-
  Parts of the proof of the law FnExactRunTime.
-/
import Derived.Test.YtbglogjamfdmpaaNA
import Derived.Test.YtbglogjamfdmpaaNB
namespace Go.Proofs.Ytbglogjamfdmpaa
open Go.RowKit

def runE (c : Cd) (m : Mm) : List Ev := match finN c m with | some n => evN c (n + 1) (ini m) | none => []
def runM (c : Cd) (m : Mm) : Mm := match finN c m with | some n => (stN c (n + 1) (ini m)).mem | none => ⟨[], []⟩
def runB (c : Cd) (m : Mm) : Bool := (finN c m).isSome
theorem run_no {c : Cd} {m : Mm} (h : finN c m = none) : runE c m = [] ∧ runM c m = ⟨[], []⟩ ∧ runB c m = false := by unfold runE runM runB; rw [h]; exact ⟨rfl, rfl, rfl⟩
theorem run_yes {c : Cd} {m : Mm} {n : Nat} (h : finN c m = some n) : runE c m = evN c (n + 1) (ini m) ∧ runM c m = (stN c (n + 1) (ini m)).mem ∧ runB c m = true := by unfold runE runM runB; rw [h]; exact ⟨rfl, rfl, rfl⟩
theorem finN_lt {c : Cd} {m : Mm} {n : Nat} (h : finN c m = some n) : n < 20000 := by
  unfold finN at h
  split at h
  · have hf : ∀ (p : Nat → Bool) (f k n : Nat), fstH p f k = some n → n < k + f := by
      intro p f
      induction f with
      | zero => intro k n h; cases h
      | succ f ih =>
        intro k n h
        rw [fstH] at h
        split at h
        · have := Option.some.inj h; omega
        · have := ih _ _ h; omega
    have := hf _ _ _ _ h; omega
  · cases h
theorem runE_len (c : Cd) (m : Mm) : (runE c m).length ≤ 40000 := by
  cases h : finN c m with
  | none => rw [(run_no h).1]; simp
  | some n => rw [(run_yes h).1]; have := evN_len c (ini m) (n + 1); have := finN_lt h; omega
theorem noMem_own (w : World) (base : Nat) : OwnM w base (.slice none 0 0) (.slice none 0 0) [] ⟨[], []⟩ :=
  ⟨World.ownsRow_nil _ _ _ _, ⟨rfl, World.ownsRow_nil _ _ _ _, fun k u r h => by simp at h, fun j k u u' h => by simp at h⟩, fun q h => by simp [Value.ownBlock] at h⟩
theorem OwnMv.toM {w : World} {base : Nat} {vr vv va : Value} {us : List Value} {rs : List Int} {m : Mm} (h : OwnMv w base vr vv va us rs m) : OwnM w base vv va us m := ⟨h.v, h.a, h.va⟩


set_option maxHeartbeats 6400000 in
set_option maxRecDepth 100000 in
theorem iRunCode_any (va vb vc vx vy : Value) (c : Cd) (m : Mm) (w : World) (hr : ReadsC w va vb vc c) (hm : ReadsM w vx vy m) (hl : m.vals.length ≤ 1048576) (hn : m.arrs.length ≤ 1048576) (hp : pre2 m.arrs m.arrs.length ≤ 1048576) :
    Calls Try.prog 77 #[.agg #[va, vb, vc], .agg #[vx, vy]] w fun e w' => ∃ ux uy us u, e = .returned (.tuple #[.agg #[ux, uy], u, .bool (runB c m)]) ∧ OwnM w' w.heap.size ux uy us (runM c m) ∧ w'.ownsRow w.heap.size 89 2 u (runE c m).length (evs (runE c m)) ∧ Below w.heap.size w w' := by
  obtain ⟨a0, c0, a1, c1, a2, c2, rfl, rfl, rfl⟩ := hr.shape
  obtain ⟨a3, c3, a4, c4, rfl, rfl⟩ := hm.shape

  have hm1 := hm.below (bal (bal (bal (bself w) (.cells #[.slice a0 c.vars.length c0, .slice a1 c.arrays.length c1, .slice a2 c.list.length c2] 35)) (.cells #[.slice a3 m.vals.length c3, .slice a4 m.arrs.length c4] 37)) (.cells #[.slice none 0 0, .slice none 0 0] 37))
  have hRAN := Lib.hid (ran_any _ _ _ _ _ c m _ (hr.below (bal (bal (bal (bself w) (.cells #[.slice a0 c.vars.length c0, .slice a1 c.arrays.length c1, .slice a2 c.list.length c2] 35)) (.cells #[.slice a3 m.vals.length c3, .slice a4 m.arrs.length c4] 37)) (.cells #[.slice none 0 0, .slice none 0 0] 37))) hm1.x hm1.y hl hn hp)
  clear hr hm hm1
  have hR0 := fun h => run_no (c := c) (m := m) h
  have hR1 := fun n h => run_yes (c := c) (m := m) (n := n) h
  cases hf : finN c m with
  | none =>
    have hR := hR0 hf; have HR := Lib.hid hR; clear hR hR1 hR0
    have hRAN2 := Lib.hid (by have h := hRAN.out; rw [hf] at h; exact h)
    clear hRAN hf
    generalize runE c m = RE at *; generalize runM c m = RM at *; generalize runB c m = RB at *
    go_enter Try.func77, Try.ntmps77
    go_wp2_with fail
    refine (hRAN2.out).mono ?_
    rintro e w1 ⟨h1, _, hb⟩
    obtain rfl := h1 (by trivial)
    clear h1
    have hsz1 := hb.size
    simp only [World.size_alloc] at hsz1
    have bx2 : w1.cell? ⟨w.heap.size, 0, none⟩ = some (.slice a0 c.vars.length c0) := kept_cell hb (cell_al (cell_al (cell_nw (by simp) (by rfl)) _) _)
    have bx3 : w1.cell? ⟨w.heap.size, 1, none⟩ = some (.slice a1 c.arrays.length c1) := kept_cell hb (cell_al (cell_al (cell_nw (by simp) (by rfl)) _) _)
    have bx4 : w1.cell? ⟨w.heap.size, 2, none⟩ = some (.slice a2 c.list.length c2) := kept_cell hb (cell_al (cell_al (cell_nw (by simp) (by rfl)) _) _)
    have bx5 : w1.cell? ⟨w.heap.size + 1, 0, none⟩ = some (.slice a3 m.vals.length c3) := kept_cell hb (cell_al (cell_nw (by simp) (by rfl)) _)
    have bx6 : w1.cell? ⟨w.heap.size + 1, 1, none⟩ = some (.slice a4 m.arrs.length c4) := kept_cell hb (cell_al (cell_nw (by simp) (by rfl)) _)
    have bx7 : w1.cell? ⟨w.heap.size + 1 + 1, 0, none⟩ = some (.slice none 0 0) := kept_cell hb (cell_nw (by simp) (by rfl))
    have bf8 : w1.frozen? ⟨w.heap.size + 1 + 1, 0, none⟩ = false := kept_froz hb (by simp) (froz_nw (by simp))
    have bx9 : w1.cell? ⟨w.heap.size + 1 + 1, 1, none⟩ = some (.slice none 0 0) := kept_cell hb (cell_nw (by simp) (by rfl))
    have bf10 : w1.frozen? ⟨w.heap.size + 1 + 1, 1, none⟩ = false := kept_froz hb (by simp) (froz_nw (by simp))
    have tot := btr (bal (bal (bal (bself w) (.cells #[.slice a0 c.vars.length c0, .slice a1 c.arrays.length c1, .slice a2 c.list.length c2] 35)) (.cells #[.slice a3 m.vals.length c3, .slice a4 m.arrs.length c4] 37)) (.cells #[.slice none 0 0, .slice none 0 0] 37)) hb
    clear hb
    clear bx2 bx3 bx4 bx5 bx6
    have lt11 := lt_of_cell bx7
    have x12 := (cell_ne (b := (w.heap.size + 1 + 1)) (j := 1) (cell_at _ (w.heap.size + 1 + 1) 0 (.slice none 0 0) bx7) (by omega) (.slice none 0 0))
    have x13 := (cell_at _ (w.heap.size + 1 + 1) 1 (.slice none 0 0) (cell_ne (b := (w.heap.size + 1 + 1)) (j := 0) bx9 (by omega) (.slice none 0 0)))
    have tt := (bst (bst tot (w.heap.size + 1 + 1) 0 (by omega) (.slice none 0 0)) (w.heap.size + 1 + 1) 1 (by omega) (.slice none 0 0))
    go_wp2
    exact bodyPost_ret (v := .tuple #[.agg #[.slice none 0 0, .slice none 0 0], .slice none 0 0, .bool false]) (by simp [results, Try.results77, go_sem, x12, x13]) rfl (by exact by rw [HR.out.1, HR.out.2.1, HR.out.2.2]; exact ⟨_, _, [], _, rfl, noMem_own _ _, World.ownsRow_nil _ _ _ _, tt⟩)
  | some n =>
    have hR := hR1 n hf; have HR := Lib.hid hR; clear hR hR1 hR0
    have hRAN2 := Lib.hid (by have h := hRAN.out; rw [hf] at h; exact h)
    clear hRAN hf
    generalize runE c m = RE at *; generalize runM c m = RM at *; generalize runB c m = RB at *
    go_enter Try.func77, Try.ntmps77
    go_wp2_with fail
    refine (hRAN2.out).mono ?_
    rintro e w1 ⟨_, h2, hb⟩
    obtain ⟨b, vr, vv, vA, us, pu, tu, rfl, _, hS, hbl, hE⟩ := h2 n rfl
    have d2 := hS.c2; have d3 := hS.c3
    obtain ⟨pv, tv, rfl⟩ := own_shape hS.own.v
    obtain ⟨pa, ta, rfl⟩ := own_shape hS.own.a.out
    have iM := hS.own.lt; have hOM := hS.own.toM; have kd := lt_of_cell d2
    clear h2 hS
    have hsz14 := hb.size
    simp only [World.size_alloc] at hsz14
    have bx15 : w1.cell? ⟨w.heap.size, 0, none⟩ = some (.slice a0 c.vars.length c0) := kept_cell hb (cell_al (cell_al (cell_nw (by simp) (by rfl)) _) _)
    have bx16 : w1.cell? ⟨w.heap.size, 1, none⟩ = some (.slice a1 c.arrays.length c1) := kept_cell hb (cell_al (cell_al (cell_nw (by simp) (by rfl)) _) _)
    have bx17 : w1.cell? ⟨w.heap.size, 2, none⟩ = some (.slice a2 c.list.length c2) := kept_cell hb (cell_al (cell_al (cell_nw (by simp) (by rfl)) _) _)
    have bx18 : w1.cell? ⟨w.heap.size + 1, 0, none⟩ = some (.slice a3 m.vals.length c3) := kept_cell hb (cell_al (cell_nw (by simp) (by rfl)) _)
    have bx19 : w1.cell? ⟨w.heap.size + 1, 1, none⟩ = some (.slice a4 m.arrs.length c4) := kept_cell hb (cell_al (cell_nw (by simp) (by rfl)) _)
    have bx20 : w1.cell? ⟨w.heap.size + 1 + 1, 0, none⟩ = some (.slice none 0 0) := kept_cell hb (cell_nw (by simp) (by rfl))
    have bf21 : w1.frozen? ⟨w.heap.size + 1 + 1, 0, none⟩ = false := kept_froz hb (by simp) (froz_nw (by simp))
    have bx22 : w1.cell? ⟨w.heap.size + 1 + 1, 1, none⟩ = some (.slice none 0 0) := kept_cell hb (cell_nw (by simp) (by rfl))
    have bf23 : w1.frozen? ⟨w.heap.size + 1 + 1, 1, none⟩ = false := kept_froz hb (by simp) (froz_nw (by simp))
    have tot := btr (bal (bal (bal (bself w) (.cells #[.slice a0 c.vars.length c0, .slice a1 c.arrays.length c1, .slice a2 c.list.length c2] 35)) (.cells #[.slice a3 m.vals.length c3, .slice a4 m.arrs.length c4] 37)) (.cells #[.slice none 0 0, .slice none 0 0] 37)) hb
    clear hb
    clear bx15 bx16 bx17 bx18 bx19
    have lt24 := lt_of_cell bx20
    have iv25 := hOM.lt
    try simp only [World.size_alloc] at iv25
    have iv26 := hE.lt
    try simp only [World.size_alloc] at iv26
    have oM := Lib.hid ((hOM.keep ((Chg.refl (fun gk => gk = (w.heap.size + 1 + 1)) _).setCell (w.heap.size + 1 + 1) 0 (.slice pv ((stN c (n + 1) (ini m)).mem.vals.length) tv) (fun _ => rfl)) (fun gq h h2 => by have := iv25 gq h; omega)).keep ((Chg.refl (fun gk => gk = (w.heap.size + 1 + 1)) _).setCell (w.heap.size + 1 + 1) 1 (.slice pa ((stN c (n + 1) (ini m)).mem.arrs.length) ta) (fun _ => rfl)) (fun gq h h2 => by have := iv25 gq h; omega)); have oE := Lib.hid (own_set (own_set hE (w.heap.size + 1 + 1) 0 (fun h => by have := iv26 _ h; omega) (.slice pv ((stN c (n + 1) (ini m)).mem.vals.length) tv)) (w.heap.size + 1 + 1) 1 (fun h => by have := iv26 _ h; omega) (.slice pa ((stN c (n + 1) (ini m)).mem.arrs.length) ta))
    have x27 := (cell_ne (b := (w.heap.size + 1 + 1)) (j := 1) (cell_at _ (w.heap.size + 1 + 1) 0 (.slice pv ((stN c (n + 1) (ini m)).mem.vals.length) tv) bx20) (by omega) (.slice pa ((stN c (n + 1) (ini m)).mem.arrs.length) ta))
    have x28 := (cell_at _ (w.heap.size + 1 + 1) 1 (.slice pa ((stN c (n + 1) (ini m)).mem.arrs.length) ta) (cell_ne (b := (w.heap.size + 1 + 1)) (j := 0) bx22 (by omega) (.slice pv ((stN c (n + 1) (ini m)).mem.vals.length) tv)))
    have tt := (bst (bst tot (w.heap.size + 1 + 1) 0 (by omega) (.slice pv ((stN c (n + 1) (ini m)).mem.vals.length) tv)) (w.heap.size + 1 + 1) 1 (by omega) (.slice pa ((stN c (n + 1) (ini m)).mem.arrs.length) ta))
    go_wp2
    exact bodyPost_ret (v := .tuple #[.agg #[.slice pv ((stN c (n + 1) (ini m)).mem.vals.length) tv, .slice pa ((stN c (n + 1) (ini m)).mem.arrs.length) ta], .slice pu ((evN c (n + 1) (ini m)).length) tu, .bool true]) (by simp [results, Try.results77, go_sem, x27, x28]) rfl (by exact by rw [HR.out.1, HR.out.2.1, HR.out.2.2]; exact ⟨_, _, us, _, rfl, oM.out.mono (by simp; omega), own_mono oE.out (by simp; omega), tt⟩)
end Go.Proofs.Ytbglogjamfdmpaa
