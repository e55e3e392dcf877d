/-
 Parts of the proofs of the laws FnCheckLive, FnFinalRegs, FnLiveRegister, FnLiveRegs.
-/
import Derived.Test.YtkjedgnepnbkpaaLY
set_option maxHeartbeats 12800000
set_option maxRecDepth 100000
set_option linter.all false
namespace Go.Proofs.Ytkjedgnepnbkpaa
open Go.RowKit

theorem mk_bool14 (u : World) : (Instr.makeSlice 66 (.int .i64 14) (.int .i64 14)).run Try.prog u = .ok (.slice (some ⟨u.heap.size, 0, none⟩) 14 14) (u.alloc (.cells (madeCells #[.bool false] 14) 4)) := mk_boolF 14 (by omega) u
theorem flw_len (x : Ins) (i : Nat) : (flw x i).length ≤ 2 := by unfold flw; repeat (first | split | simp)
theorem nxt_len (x : Ins) (i : Nat) : (nxt x i).length ≤ 2 := by unfold nxt; repeat (first | split | simp)
theorem own_tab_set {w : World} {base : Nat} {e : TypeId} {g cap : Nat} {F : Nat → Bool} (ho : w.ownsRow base e 1 (.slice (some ⟨g, 0, none⟩) 14 cap) 14 (bools (tab F))) (r : Nat) (b : Bool) {G : Nat → Bool} (hG : ∀ q, q < 14 → (if q = r then b else F q) = G q) :
  (w.setCell ⟨g, r, none⟩ (.bool b)).ownsRow base e 1 (.slice (some ⟨g, 0, none⟩) 14 cap) 14 (bools (tab G)) := by
 have h := (ho.stored r (.bool b)).1
 rw [bools_set, tab_set, tab_congr hG] at h
 exact h
theorem own_tab_at {w : World} {base : Nat} {e : TypeId} {g cap : Nat} {F : Nat → Bool} (ho : w.ownsRow base e 1 (.slice (some ⟨g, 0, none⟩) 14 cap) 14 (bools (tab F))) (r : Nat) (hr : r < 14) : w.cell? ⟨g, r, none⟩ = some (.bool (F r)) := by
 rw [ho.cellAt r (by omega), bools_at _ _ (by rw [tab_len]; exact hr), tab_get]

theorem liveAfter_any (va vb vc v : Value) (c : Cd) (L : List (List Bool)) (i : Nat) (w : World) (hr : ReadsC w va vb vc c) (hv : Reads2 bools w v L) (hL : L.length = c.list.length) (hrow : ∀ k (h : k < L.length), L[k].length = 14) (hok : codeOk c = true) (hi : i < c.list.length) :
  Calls Try.prog 132 #[.agg #[va, vb, vc], .int .i64 i, v] w fun e w' => ∃ g, e = .returned (.slice (some ⟨g, 0, none⟩) 14 14) ∧ w'.ownsRow w.heap.size 4 1 (.slice (some ⟨g, 0, none⟩) 14 14) 14 (bools (aft L (flw c.list[i] i))) ∧ Below w.heap.size w w' := by
 obtain ⟨a0, c0, a1, c1, a2, c2, rfl, rfl, rfl⟩ := hr.shape
 obtain ⟨a3, c3, rfl⟩ := hv.shape
 obtain ⟨hl1, hl2⟩ := codeOk_len hok
 have hmk := fun u => mk_bool14 u
 have hbx := bal (Bs w) (.cells #[.slice a0 c.vars.length c0, .slice a1 c.arrays.length c1, .slice a2 c.list.length c2] 26)
 have hown := own_made (w.alloc (.cells #[.slice a0 c.vars.length c0, .slice a1 c.arrays.length c1, .slice a2 c.list.length c2] 26)) (.bool false) 14 4 (by unfold maxLen; omega)
 rw [← bools_replicate, tab_false] at hown
 simp only [Sa] at hown
 have hby := bal hbx (.cells (madeCells #[.bool false] 14) 4)
 have hin := fun t ht => flw_in hok hi t ht
 have HC := Lib.hid (fun W (hW : Below w.heap.size w W) => follow_any _ _ _ c i W (hr.below hW) hi (by omega) (codeOk_all hok i hi))
 have htl := flw_len c.list[i] i
 generalize flw c.list[i] i = ts at *
 have HI := Lib.hid hin
 have HV := Lib.hid hv
 have HR := Lib.hid hrow
 have HL := Lib.hid hL
 clear hr hv hin hrow hL
 go_enter Try.func132, Try.ntmps132
 go_wp2_with fail
 refine (HC.out _ hby).mono ?_
 rintro e w1 ⟨u, rfl, hts, hb⟩
 have hz1 := hb.size
 simp only [Sa] at hz1
 have ho1 := Ob hown hb
 have hb1 := btr hby hb
 obtain ⟨ua, uc, rfl⟩ := Oh hts
 have hti := hts.lt
 simp only [Sa] at hti
 clear hown hb hby hbx HC
 go_wp2_with fail
 go_loopw [17] (fun t wr => ∃ k : Nat, k ≤ ts.length ∧ t = .int .i64 k ∧ wr.ownsRow (w.heap.size + 1) 4 1 (.slice (some ⟨w.heap.size + 1, 0, none⟩) 14 14) 14 (bools (tab (aftF L (ts.take k)))) ∧ Chg (fun q => q = w.heap.size + 1) w1 wr) (fun t _ => ts.length - (intOf t).toNat)
 case atStart => exact ⟨0, Nat.zero_le _, rfl, ho1, Chg.refl _ _⟩
 case round =>
  obtain ⟨k, hk, rfl, ho, hC⟩ := hrel
  have hz2 := hC.size
  have hB := hb1.trans (hC.below w.heap.size hb1.size (fun q hq h => by omega))
  by_cases hlt : k < ts.length
  ·have ht2 := Ow hts hC (fun q hq h => by have := hti q hq; omega)
   obtain ⟨g', c', hgv⟩ := own_pos ht2 (by omega)
   simp only [Value.slice.injEq, true_and] at hgv
   obtain ⟨rfl, rfl⟩ := hgv
   have hgi := hti g' rfl
   have hcell := ht2.cellAt k (by omega)
   rw [List.getElem?_eq_getElem (by rw [ints_length]; exact hlt), ints_get] at hcell
   obtain ⟨hr0, hr1⟩ := HI.out _ (List.getElem_mem hlt)
   have hsu := fun q => aftF_succ L ts k hlt q
   generalize ts[k] = tk at *
   obtain ⟨nt, rfl⟩ : ∃ nt : Nat, tk = (nt : Int) := ⟨tk.toNat, by omega⟩
   have hnt : nt < L.length := by have := HL.out; omega
   have hba := fun r h => bit_at L nt r hnt h
   have h14 := HR.out nt hnt
   obtain ⟨bl, ol, ul, rfl, hblw, hcl, hul⟩ := HV.out.at nt hnt
   rw [h14] at hul
   replace hcl := Kc hB hcl
   generalize L[nt] = row at *
   obtain ⟨_, _, ar, cr, br, orr, rfl, hcr, har, hcellr⟩ := hul
   obtain ⟨rfl, hbr⟩ := har (by omega)
   have hbrw : ¬ br = w.heap.size + 1 := by omega
   have HG : Hid (∀ q, q < 14 → aftF L (ts.take (k + 1)) q = (aftF L (ts.take k) q || row.getD q false)) := Lib.hid (fun q hq => by rw [hsu q, hba q (by omega), List.getD_eq_getElem?_getD, List.getElem?_eq_getElem (by omega)]; rfl)
   have HS := Lib.hid (fun j hj => Kc hB (hcellr j hj))
   have H14 := Lib.hid h14
   have hq1 : (nt : Int) < (L.length : Int) := by omega
   generalize aftF L (ts.take k) = F1 at *
   generalize hF2 : aftF L (ts.take (k + 1)) = F2 at *
   have HF2 := Lib.hid hF2; clear hF2
   have HO := Lib.hid (And.intro hts hb1)
   clear hsu hba h14 hcellr har hr0 hr1 hb1 hts HI HV HR HL
   go_wp2_with fail
   go_loopw [26] (fun t wy => ∃ r : Nat, r ≤ 14 ∧ t = .int .i64 r ∧ wy.ownsRow (w.heap.size + 1) 4 1 (.slice (some ⟨w.heap.size + 1, 0, none⟩) 14 14) 14 (bools (tab (fun q => if q < r then F2 q else F1 q))) ∧ Chg (fun q => q = w.heap.size + 1) wr wy) (fun t _ => 14 - (intOf t).toNat)
   case atStart => exact ⟨0, Nat.zero_le _, rfl, by simpa using ho, Chg.refl _ _⟩
   case round =>
    obtain ⟨r, hr, rfl, hoy, hCy⟩ := hrel
    by_cases hlr : r < 14
    ·have hout := own_tab_at hoy r hlr
     simp only [Nat.lt_irrefl, if_false] at hout
     have hf := hoy.frozenAt r
     have hcr2 := HS.out r (by rw [bools_length, H14.out]; exact hlr)
     rw [bools_get] at hcr2
     have hc3 := Gc hCy hcr2 hbrw
     have hc4 := Gc hCy hcell (fun h => by omega)
     have hc5 := Gc hCy hcl (fun h => by omega)
     have hG2 := HG.out r hlr
     rw [List.getD_eq_getElem?_getD, List.getElem?_eq_getElem (by have := H14.out; omega)] at hG2
     simp only [Option.getD_some] at hG2
     generalize row[r]'(by have := H14.out; omega) = z at *
     have hst := fun b (h : b = (F1 r || z)) => own_tab_set hoy r b (G := fun q => if q < r + 1 then F2 q else F1 q) (fun q hq => by
      by_cases e : q = r
      ·subst e; rw [if_pos rfl, if_pos (by omega), hG2]; exact h
      ·rw [if_neg e]; by_cases e2 : q < r
       ·rw [if_pos e2, if_pos (by omega)]
       ·rw [if_neg e2, if_neg (by omega)])
     have hC2 := fun b => hCy.setCell (w.heap.size + 1) r (.bool b) (fun _ => rfl)
     generalize F1 r = y at *
     clear hG2 hcr2 HG HS hoy hCy hcell hcl ho hC
     cases y with
     | true =>
      have hst2 := hst true rfl
      have hC3 := hC2 true
      clear hst hC2
      go_wp2
      go_roundw
      case rel => exact ⟨r + 1, by omega, by go_num, hst2, hC3⟩
      case measure => simp [intOf]; omega
     | false =>
      have hst2 := hst z rfl
      have hC3 := hC2 z
      clear hst hC2
      go_wp2
      go_roundw
      case rel => exact ⟨r + 1, by omega, by go_num, hst2, hC3⟩
      case measure => simp [intOf]; omega
    ·have e : r = 14 := by omega
     subst e
     rw [tab_congr (g := F2) (fun q hq => if_pos hq)] at hoy
     have hC2 := hC.trans ⟨hCy.os, hCy.tape, hCy.output, hCy.size, fun q hq hn => hCy.block q hq hn⟩
     go_wp2
     go_roundw
     case rel => exact ⟨k + 1, by omega, by go_num, by rw [HF2.out]; exact hoy, hC2⟩
     case measure => simp [intOf]; omega
  ·have e : k = ts.length := by omega
   subst e
   rw [List.take_length] at ho
   go_wp2
   go_ret
   exact ⟨_, rfl, Om ho (by omega), hB⟩

theorem l12After_any (va vb vc v : Value) (c : Cd) (L : List (List Bool)) (i : Nat) (w : World) (hr : ReadsC w va vb vc c) (hv : Reads2 bools w v L) (hL : L.length = c.list.length) (hrow : ∀ k (h : k < L.length), L[k].length = 14) (hok : codeOk c = true) (hi : i < c.list.length) :
  Calls Try.prog 87 #[.agg #[va, vb, vc], v, .int .i64 i] w fun e w' => ∃ g, e = .returned (.slice (some ⟨g, 0, none⟩) 14 14) ∧ w'.ownsRow w.heap.size 4 1 (.slice (some ⟨g, 0, none⟩) 14 14) 14 (bools (aft L (nxt c.list[i] i))) ∧ Below w.heap.size w w' := by
 obtain ⟨a0, c0, a1, c1, a2, c2, rfl, rfl, rfl⟩ := hr.shape
 obtain ⟨a3, c3, rfl⟩ := hv.shape
 obtain ⟨hl1, hl2⟩ := codeOk_len hok
 have hmk := fun u => mk_bool14 u
 have hbx := bal (Bs w) (.cells #[.slice a0 c.vars.length c0, .slice a1 c.arrays.length c1, .slice a2 c.list.length c2] 26)
 have hown := own_made (w.alloc (.cells #[.slice a0 c.vars.length c0, .slice a1 c.arrays.length c1, .slice a2 c.list.length c2] 26)) (.bool false) 14 4 (by unfold maxLen; omega)
 rw [← bools_replicate, tab_false] at hown
 simp only [Sa] at hown
 have hby := bal hbx (.cells (madeCells #[.bool false] 14) 4)
 have hin := fun t ht => nxt_in hok hi t ht
 have HC := Lib.hid (fun W (hW : Below w.heap.size w W) => l8Next_any _ _ _ c i W (hr.below hW) hi (by omega))
 have htl := nxt_len c.list[i] i
 generalize nxt c.list[i] i = ts at *
 have HI := Lib.hid hin
 have HV := Lib.hid hv
 have HR := Lib.hid hrow
 have HL := Lib.hid hL
 clear hr hv hin hrow hL
 go_enter Try.func87, Try.ntmps87
 go_wp2_with fail
 refine (HC.out _ hby).mono ?_
 rintro e w1 ⟨u, rfl, hts, hb⟩
 have hz1 := hb.size
 simp only [Sa] at hz1
 have ho1 := Ob hown hb
 have hb1 := btr hby hb
 obtain ⟨ua, uc, rfl⟩ := Oh hts
 have hti := hts.lt
 simp only [Sa] at hti
 clear hown hb hby hbx HC
 go_wp2_with fail
 go_loopw [9] (fun t wr => ∃ k : Nat, k ≤ ts.length ∧ t = .int .i64 k ∧ wr.ownsRow (w.heap.size + 1) 4 1 (.slice (some ⟨w.heap.size + 1, 0, none⟩) 14 14) 14 (bools (tab (aftF L (ts.take k)))) ∧ Chg (fun q => q = w.heap.size + 1) w1 wr) (fun t _ => ts.length - (intOf t).toNat)
 case atStart => exact ⟨0, Nat.zero_le _, rfl, ho1, Chg.refl _ _⟩
 case round =>
  obtain ⟨k, hk, rfl, ho, hC⟩ := hrel
  have hz2 := hC.size
  have hB := hb1.trans (hC.below w.heap.size hb1.size (fun q hq h => by omega))
  by_cases hlt : k < ts.length
  ·have ht2 := Ow hts hC (fun q hq h => by have := hti q hq; omega)
   obtain ⟨g', c', hgv⟩ := own_pos ht2 (by omega)
   simp only [Value.slice.injEq, true_and] at hgv
   obtain ⟨rfl, rfl⟩ := hgv
   have hgi := hti g' rfl
   have hcell := ht2.cellAt k (by omega)
   rw [List.getElem?_eq_getElem (by rw [ints_length]; exact hlt), ints_get] at hcell
   obtain ⟨hr0, hr1⟩ := HI.out _ (List.getElem_mem hlt)
   have hsu := fun q => aftF_succ L ts k hlt q
   generalize ts[k] = tk at *
   obtain ⟨nt, rfl⟩ : ∃ nt : Nat, tk = (nt : Int) := ⟨tk.toNat, by omega⟩
   have hnt : nt < L.length := by have := HL.out; omega
   have hba := fun r h => bit_at L nt r hnt h
   have h14 := HR.out nt hnt
   obtain ⟨bl, ol, ul, rfl, hblw, hcl, hul⟩ := HV.out.at nt hnt
   rw [h14] at hul
   replace hcl := Kc hB hcl
   generalize L[nt] = row at *
   obtain ⟨_, _, ar, cr, br, orr, rfl, hcr, har, hcellr⟩ := hul
   obtain ⟨rfl, hbr⟩ := har (by omega)
   have hbrw : ¬ br = w.heap.size + 1 := by omega
   have HG : Hid (∀ q, q < 14 → aftF L (ts.take (k + 1)) q = (aftF L (ts.take k) q || row.getD q false)) := Lib.hid (fun q hq => by rw [hsu q, hba q (by omega), List.getD_eq_getElem?_getD, List.getElem?_eq_getElem (by omega)]; rfl)
   have HS := Lib.hid (fun j hj => Kc hB (hcellr j hj))
   have H14 := Lib.hid h14
   have hq1 : (nt : Int) < (L.length : Int) := by omega
   generalize aftF L (ts.take k) = F1 at *
   generalize hF2 : aftF L (ts.take (k + 1)) = F2 at *
   have HF2 := Lib.hid hF2; clear hF2
   have HO := Lib.hid (And.intro hts hb1)
   clear hsu hba h14 hcellr har hr0 hr1 hb1 hts HI HV HR HL
   go_wp2_with fail
   go_loopw [10] (fun t wy => ∃ r : Nat, r ≤ 14 ∧ t = .int .i64 r ∧ wy.ownsRow (w.heap.size + 1) 4 1 (.slice (some ⟨w.heap.size + 1, 0, none⟩) 14 14) 14 (bools (tab (fun q => if q < r then F2 q else F1 q))) ∧ Chg (fun q => q = w.heap.size + 1) wr wy) (fun t _ => 14 - (intOf t).toNat)
   case atStart => exact ⟨0, Nat.zero_le _, rfl, by simpa using ho, Chg.refl _ _⟩
   case round =>
    obtain ⟨r, hr, rfl, hoy, hCy⟩ := hrel
    by_cases hlr : r < 14
    ·have hout := own_tab_at hoy r hlr
     simp only [Nat.lt_irrefl, if_false] at hout
     have hf := hoy.frozenAt r
     have hcr2 := HS.out r (by rw [bools_length, H14.out]; exact hlr)
     rw [bools_get] at hcr2
     have hc3 := Gc hCy hcr2 hbrw
     have hc4 := Gc hCy hcell (fun h => by omega)
     have hc5 := Gc hCy hcl (fun h => by omega)
     have hG2 := HG.out r hlr
     rw [List.getD_eq_getElem?_getD, List.getElem?_eq_getElem (by have := H14.out; omega)] at hG2
     simp only [Option.getD_some] at hG2
     generalize row[r]'(by have := H14.out; omega) = z at *
     have hst := fun b (h : b = (F1 r || z)) => own_tab_set hoy r b (G := fun q => if q < r + 1 then F2 q else F1 q) (fun q hq => by
      by_cases e : q = r
      ·subst e; rw [if_pos rfl, if_pos (by omega), hG2]; exact h
      ·rw [if_neg e]; by_cases e2 : q < r
       ·rw [if_pos e2, if_pos (by omega)]
       ·rw [if_neg e2, if_neg (by omega)])
     have hC2 := fun b => hCy.setCell (w.heap.size + 1) r (.bool b) (fun _ => rfl)
     generalize F1 r = y at *
     clear hG2 hcr2 HG HS hoy hCy hcell hcl ho hC
     cases y with
     | true =>
      have hst2 := hst true rfl
      have hC3 := hC2 true
      clear hst hC2
      go_wp2
      go_roundw
      case rel => exact ⟨r + 1, by omega, by go_num, hst2, hC3⟩
      case measure => simp [intOf]; omega
     | false =>
      have hst2 := hst z rfl
      have hC3 := hC2 z
      clear hst hC2
      go_wp2
      go_roundw
      case rel => exact ⟨r + 1, by omega, by go_num, hst2, hC3⟩
      case measure => simp [intOf]; omega
    ·have e : r = 14 := by omega
     subst e
     rw [tab_congr (g := F2) (fun q hq => if_pos hq)] at hoy
     have hC2 := hC.trans ⟨hCy.os, hCy.tape, hCy.output, hCy.size, fun q hq hn => hCy.block q hq hn⟩
     go_wp2
     go_roundw
     case rel => exact ⟨k + 1, by omega, by go_num, by rw [HF2.out]; exact hoy, hC2⟩
     case measure => simp [intOf]; omega
  ·have e : k = ts.length := by omega
   subst e
   rw [List.take_length] at ho
   go_wp2
   go_ret
   exact ⟨_, rfl, Om ho (by omega), hB⟩
end Go.Proofs.Ytkjedgnepnbkpaa
