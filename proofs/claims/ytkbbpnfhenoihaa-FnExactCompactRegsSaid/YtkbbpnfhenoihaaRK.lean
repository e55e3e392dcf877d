/-
  One register more in the order of first occurrence: the program's closure.
-/
import Derived.Test.YtkbbpnfhenoihaaCN
import Derived.Test.YtkbbpnfhenoihaaRG
namespace Go.Proofs.Ytkbbpnfhenoihaa
open Go.RowKit

theorem ordS_in {O : List Int} {r : Int} (h : O.contains r = true) : ordS O r = O := by unfold ordS; rw [if_pos h]
theorem ordS_new {O : List Int} {r : Int} (h : O.contains r = false) : ordS O r = O ++ [r] := by unfold ordS; rw [if_neg (by rw [h]; decide)]

theorem numbS_any (r : Int) (B base : Nat) (v : Value) (O : List Int) (w : World) (hc : w.cell? ⟨B, 0, none⟩ = some v) (hf : w.frozen? ⟨B, 0, none⟩ = false) (ho : w.ownsRow base 3 1 v O.length (ints O))
    (hB : ¬ v.ownBlock = some B) (hO : O.length ≤ 1048576) (hbase : base ≤ w.heap.size) :
    Calls Try.prog 144 #[.int .i64 r, .pointer (some ⟨B, 0, none⟩)] w fun e w' => e = .returned (.int .i64 r) ∧ ∃ v', w'.cell? ⟨B, 0, none⟩ = some v' ∧ w'.frozen? ⟨B, 0, none⟩ = false ∧ w'.ownsRow base 3 1 v' (ordS O r).length (ints (ordS O r)) ∧ Chg (fun q => q = B ∨ v.ownBlock = some q) w w' ∧ NewOr w v v' := by
  obtain ⟨a, c, rfl⟩ := own_shape ho
  have kB := lt_of_cell hc
  have hr := reads_of_owns ho (by omega)
  go_enter Try.func144, Try.ntmps144
  go_wp2_with fail
  refine (containsI_any _ O r _ hr).mono ?_
  rintro e w1 ⟨rfl, rfl⟩
  clear hr
  cases hcn : O.contains r with
  | true =>
    have HC := Lib.hid (ordS_in hcn)
    clear hcn
    go_wp2
    go_ret
    exact ⟨rfl, _, hc, hf, by rw [HC.out]; exact ho, Chg.refl _ _, Or.inl rfl⟩
  | false =>
    have HC := Lib.hid (ordS_new hcn)
    clear hcn
    go_wp2_with (at_builtin; refine wpList_ap tInts rfl _ _ rfl base _ O.length _ rfl ho [.int .i64 r] rfl rfl (one_ints [r]) (by omega) hbase ?_)
    intro g c' w2 ho' hC hg
    have hgB : ¬ g = B := by
      rcases hg with h | h
      · exact fun e => hB (e ▸ h)
      · omega
    have hc2 := chg_cell hC hc hB
    have hf2 := chg_froz hC kB hf hB
    have hc3 := cell_at w2 B 0 (.slice (some ⟨g, 0, none⟩) (O.length + 1) c') hc2
    have hf3 := froz_st (b := ⟨B, 0, none⟩) hf2 (.slice (some ⟨g, 0, none⟩) (O.length + 1) c')
    have ho3 := own_set ho' B 0 (fun h => hgB (Option.some.inj h)) (.slice (some ⟨g, 0, none⟩) (O.length + 1) c')
    have hC2 : Chg (fun q => q = B ∨ (Value.slice a O.length c).ownBlock = some q) w1 w2 := ⟨hC.os, hC.tape, hC.output, hC.size, fun q hq hn => hC.block q hq (fun h => hn (Or.inr h))⟩
    have hC3 := hC2.setCell B 0 (.slice (some ⟨g, 0, none⟩) (O.length + 1) c') (fun _ => Or.inl rfl)
    have hN : NewOr w1 (.slice a O.length c) (.slice (some ⟨g, 0, none⟩) (O.length + 1) c') := by
      rcases hg with h | h
      · exact Or.inl h.symm
      · exact Or.inr ⟨g, rfl, h⟩
    have HN := Lib.hid hN
    clear ho ho' hC hC2 hN hc hf hg
    go_wp2
    go_ret
    exact ⟨rfl, _, hc3, hf3, by rw [HC.out, List.length_append, ints_append]; exact ho3, hC3, HN.out⟩
end Go.Proofs.Ytkbbpnfhenoihaa
