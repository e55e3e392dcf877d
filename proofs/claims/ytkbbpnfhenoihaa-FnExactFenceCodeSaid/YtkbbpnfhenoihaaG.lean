import Derived.Test.YtkbbpnfhenoihaaF
namespace Go.Proofs.Ytkbbpnfhenoihaa
open Go.RowKit

theorem szCache_any (v : Value) (n : Nat) (vs : List Value) (left : Int) (w : World) (hr : Reads w 1 v n vs) (h0 : 0 ≤ left) (h1 : left ≤ 1073741824) :
    Calls Try.prog 15 #[.agg #[v], .int .i64 left] w fun e w' => e = .returned (.int .i64 (if left < n then -1 else left - n)) ∧ Below w.heap.size w w' := by
  obtain ⟨va, vc, rfl⟩ := reads_shape hr
  have hb0 := bal (bself w) (.cells #[.slice va n vc] 24)
  by_cases h : left < n
  · rw [if_pos h]
    have hh := fun W hr => szIntS_any (.slice va n vc) n vs left W hr h0 h1
    simp only [if_pos h] at hh
    have HH := Lib.hid hh; clear hh h
    go_enter Try.func15, Try.ntmps15
    go_wp2_with fail
    refine (HH.out _ (hr.below hb0)).mono ?_
    rintro e w' ⟨rfl, rfl⟩
    go_wp2
    go_ret
    exact ⟨rfl, hb0⟩
  · rw [if_neg h]
    have hh := fun W hr => szIntS_any (.slice va n vc) n vs left W hr h0 h1
    simp only [if_neg h] at hh
    have HH := Lib.hid hh; clear hh
    have h2 : 0 ≤ left - n := by omega
    go_enter Try.func15, Try.ntmps15
    go_wp2_with fail
    refine (HH.out _ (hr.below hb0)).mono ?_
    rintro e w' ⟨rfl, rfl⟩
    go_wp2
    go_ret
    exact ⟨rfl, hb0⟩

theorem markCache_any (v : Value) (xs : List Int) (k : Int) (w : World) (base : Nat) (ho : w.ownsRow base 3 1 v xs.length (ints xs)) (hn : xs.length ≤ 1073741824) (h0 : 0 ≤ k) (h1 : k ≤ 1073741824) :
    Calls Try.prog 26 #[.agg #[v], .int .i64 k] w fun e w' => e = .returned (.int .i64 (k + xs.length)) ∧ w'.ownsRow base 3 1 v xs.length (ints (marks k xs.length)) ∧ Chg (fun g => v.ownBlock = some g) w w' := by
  obtain ⟨va, vc, rfl⟩ := own_shape ho
  have hb0 := bal (bself w) (.cells #[.slice va xs.length vc] 29)
  go_enter Try.func26, Try.ntmps26
  go_wp2_with fail
  refine (markIntS_any _ xs k _ base (own_below ho hb0) hn h0 h1).mono ?_
  rintro e w' ⟨rfl, ho', hc'⟩
  have hc2 := (Chg.of_below hb0).trans hc'
  clear ho hc' hb0
  go_wp2
  go_ret
  exact ⟨rfl, ho', hc2⟩

theorem heldCache_any (v : Value) (n : Nat) (k : Int) (w : World) (hr : Reads w 1 v n (ints (marks k n))) (hn : n ≤ 1073741824) (h0 : 0 ≤ k) (h1 : k ≤ 1073741824) :
    Calls Try.prog 29 #[.agg #[v], .int .i64 k] w fun e w' => e = .returned (.int .i64 (k + n)) ∧ Below w.heap.size w w' := by
  obtain ⟨va, vc, rfl⟩ := reads_shape hr
  have hb0 := bal (bself w) (.cells #[.slice va n vc] 29)
  go_enter Try.func29, Try.ntmps29
  go_wp2_with fail
  refine (heldIntS_any _ n k _ (hr.below hb0) hn h0 h1).mono ?_
  rintro e w' ⟨rfl, d, rfl⟩
  have hb1 := below_drewN hb0 d
  clear hb0
  go_wp2
  go_ret
  exact ⟨rfl, hb1⟩

end Go.Proofs.Ytkbbpnfhenoihaa
