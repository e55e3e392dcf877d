/-
 Parts of the proofs of the laws FnCheckLive, FnCodeFenced, FnEraseCode, FnEraseSecret, FnFinalRegs, FnLiveRegister, FnLiveRegs, FnSpecPath.
-/
import Derived.Test.YtkjedgnepnbkpaaZEq1
import Derived.Test.YtkjedgnepnbkpaaZA
import Derived.Test.YtkjedgnepnbkpaaWBq2
set_option linter.all false
namespace Go.Proofs.Ytkjedgnepnbkpaa
open Go.RowKit
def DrawCMMP (w : World) (r : Ending) (w' : World) : Prop := ∃ (va vb vc vx vy ux uy : Value) (nv na nl : Nat) (m m2 : Mm), r = .returned (.tuple #[.agg #[va, vb, vc], .agg #[vx, vy], .agg #[ux, uy]]) ∧ DrawC w' w.heap.size va vb vc nv na nl ∧ (nv ≤ 1000 ∧ na ≤ 1000 ∧ nl ≤ 1000) ∧ DrM w' w.heap.size vx vy m ∧ DrM w' w.heap.size ux uy m2 ∧ Below w.heap.size w w'
end Go.Proofs.Ytkjedgnepnbkpaa
namespace Go.Proofs.Ytkjedgnepnbkpaa
open Go.RowKit
theorem eraseR_lens (c : Cd) : (eraseR c).1.vars.length ≤ 1048576 ∧ (eraseR c).1.arrays.length ≤ 1048576 ∧ (eraseR c).1.list.length ≤ 1048576 := by
 by_cases h : codeOk c = true ∧ c.list.length ≤ 385
 ·rw [eraseR_yes h]
  have h1 := declOk_len (codeOk_decl h.1)
  have h2 := eraseL_len c.list
  refine ⟨?_, ?_, ?_⟩ <;> simp only <;> omega
 rw [eraseR_no h]
 simp [noCode]
end Go.Proofs.Ytkjedgnepnbkpaa
namespace Go.Proofs.Ytkjedgnepnbkpaa
open Go.RowKit
def eraseC (c : Cd) : Cd := ⟨c.vars, c.arrays, eraseL c.list⟩
theorem erase_old {c : Cd} {k : Nat} (hk : k < c.list.length) : insAt (eraseC c) (k : Int) = eraseIns c.list.length c.list[k] := by
 unfold insAt eraseC eraseL
 simp only
 rw [Int.toNat_natCast, List.append_assoc, List.getElem?_append_left (by simpa using hk), List.getElem?_map, List.getElem?_eq_getElem hk]; rfl
theorem erase_mid (c : Cd) {j : Nat} (hj : j < 14) : insAt (eraseC c) ((c.list.length + j : Nat) : Int) = ⟨1, (j : Int), 0, 0, 0⟩ := by
 unfold insAt eraseC eraseL
 simp only
 rw [Int.toNat_natCast, List.append_assoc, List.getElem?_append_right (by simp), List.length_map, show c.list.length + j - c.list.length = j by omega, List.getElem?_append_left (by rw [eraseTail_len]; exact hj)]
 unfold eraseTail
 rw [List.getElem?_map, List.getElem?_range hj]; rfl
theorem erase_end (c : Cd) : insAt (eraseC c) ((c.list.length + 14 : Nat) : Int) = ⟨13, 0, 0, 0, 0⟩ := by
 unfold insAt eraseC eraseL
 simp only
 rw [Int.toNat_natCast, List.getElem?_append_right (by simp [eraseTail_len]), List.length_append, List.length_map, eraseTail_len, show c.list.length + 14 - (c.list.length + 14) = 0 by omega]; rfl
theorem erase_same {x : Ins} {n : Int} (h : ¬ x.op = 13) : eraseIns n x = x := by unfold eraseIns; rw [if_neg (by simpa using h)]
theorem erase_run {c : Cd} (hok : codeOk c = true) (s : Ms) (hs : MsOk c s) : ∀ n, (∀ i, i < n → ¬ opAt c s i = 13) → stN (eraseC c) n s = stN c n s ∧ evN (eraseC c) n s = evN c n s ∧ ∀ i, i < n → ¬ opAt (eraseC c) s i = 13 := by
 intro n
 induction n with
 | zero => intro _; exact ⟨rfl, rfl, fun i h => by omega⟩
 | succ n ih =>
  intro hn
  obtain ⟨h1, h2, h3⟩ := ih (fun i h => hn i (by omega))
  have hx := hn n (by omega)
  have ho := stN_ok hok hs n
  have a0 : opAt (eraseC c) s n = opAt c s n ∧ insAt (eraseC c) (stN c n s).pc = insAt c (stN c n s).pc := by
   unfold opAt at hx ⊢
   rw [h1]
   generalize stN c n s = t at *
   obtain ⟨k, b0⟩ : ∃ k : Nat, t.pc = k := ⟨t.pc.toNat, by have := ho.pc0; omega⟩
   have hk : k < c.list.length := by have := ho.pc1; omega
   have hi : insAt c (k : Int) = c.list[k] := by unfold insAt; rw [Int.toNat_natCast, List.getElem?_eq_getElem hk]; rfl
   rw [b0, hi] at hx ⊢
   rw [erase_old hk, erase_same hx]
   exact ⟨rfl, rfl⟩
  refine ⟨?_, ?_, fun i hi => ?_⟩
  ·simp only [stN]; rw [h1, a0.2]
  ·simp only [evN]; rw [h1, h2, a0.2]
  by_cases e : i = n
  ·subst e; rw [a0.1]; exact hx
  exact h3 i (by omega)
def zer (rs : List Int) : Nat → List Int
 | 0 => rs
 | k + 1 => (zer rs k).set k 0
theorem zer_len (rs : List Int) (k : Nat) : (zer rs k).length = rs.length := by
 induction k with
 | zero => rfl
 | succ k ih => simp only [zer, List.length_set]; exact ih
theorem zer_get (rs : List Int) (k : Nat) : ∀ j, j < k → j < rs.length → (zer rs k)[j]? = some 0 := by
 induction k with
 | zero => intro j h; omega
 | succ k ih =>
  intro j hj hl
  simp only [zer]
  rw [List.getElem?_set]
  by_cases e : k = j
  ·subst e; rw [if_pos rfl, if_pos (by rw [zer_len]; exact hl)]
  rw [if_neg e]; exact ih j (by omega) hl
theorem zer_all {rs : List Int} (h : rs.length = 14) : zer rs 14 = List.replicate 14 0 := by
 apply List.ext_getElem?
 intro j
 by_cases hj : j < 14
 ·rw [zer_get rs 14 j hj (by omega), List.getElem?_replicate, if_pos hj]
 rw [List.getElem?_eq_none (by rw [zer_len, h]; omega), List.getElem?_eq_none (by simp; omega)]
theorem erase_tail (c : Cd) (rs : List Int) (m : Mm) : ∀ j, j ≤ 14 → stN (eraseC c) j ⟨(c.list.length : Int), rs, m⟩ = ⟨((c.list.length + j : Nat) : Int), zer rs j, m⟩ ∧ prj (evN (eraseC c) j ⟨(c.list.length : Int), rs, m⟩) = [] ∧ (evN (eraseC c) j ⟨(c.list.length : Int), rs, m⟩).length = j ∧ ∀ i, i < j → ¬ opAt (eraseC c) ⟨(c.list.length : Int), rs, m⟩ i = 13 := by
 intro j
 induction j with
 | zero => intro _; exact ⟨by simp [stN, zer], rfl, rfl, fun i h => by omega⟩
 | succ j ih =>
  intro hj
  obtain ⟨h1, h2, h3, h4⟩ := ih (by omega)
  have hi := erase_mid c (show j < 14 by omega)
  refine ⟨?_, ?_, ?_, fun i hi2 => ?_⟩
  ·simp only [stN]
   rw [h1]
   simp only
   rw [hi]
   simp [stp, stPc, stRegs, stMem, zer]
   omega
  ·simp only [evN]
   rw [prj_app, h2, h1, prj_stEvs]
   simp only
   rw [hi]
   rfl
  ·simp only [evN]
   rw [List.length_append, h3, h1, stEvs_acc]
   simp only
   rw [hi]
   rfl
  by_cases e : i = j
  ·subst e
   unfold opAt
   rw [h1]
   simp only
   rw [hi]
   simp
  exact h4 i (by omega)
theorem erase_halt {c : Cd} (hok : codeOk c = true) (s : Ms) (hs : MsOk c s) {n : Nat} (h1 : ∀ i, i < n → ¬ opAt c s i = 13) (h2 : opAt c s n = 13) :
  (∀ i, i < n + 15 → ¬ opAt (eraseC c) s i = 13) ∧ opAt (eraseC c) s (n + 15) = 13 ∧ (stN (eraseC c) (n + 16) s).regs = List.replicate 14 0 ∧ (stN (eraseC c) (n + 16) s).mem = (stN c (n + 1) s).mem ∧ prj (evN (eraseC c) (n + 16) s) = prj (evN c (n + 1) s) ∧ (evN (eraseC c) (n + 16) s).length = (evN c (n + 1) s).length + 15 := by
 obtain ⟨g1, g2, g3⟩ := erase_run hok s hs n h1
 have ho := stN_ok hok hs n
 have j0 : stN c (n + 1) s = stN c n s := by simp only [stN]; exact stp_halt h2
 have h0 : evN c (n + 1) s = evN c n s ++ [(5, (stN c n s).pc)] := by simp only [evN]; rw [stEvs_acc, accE_halt h2]
 unfold opAt at h2
 have f0 : insAt (eraseC c) (stN c n s).pc = ⟨8, (c.list.length : Int), 0, 0, 0⟩ := by
  generalize stN c n s = t at *
  obtain ⟨k, i0⟩ : ∃ k : Nat, t.pc = k := ⟨t.pc.toNat, by have := ho.pc0; omega⟩
  have hk : k < c.list.length := by have := ho.pc1; omega
  have hi : insAt c (k : Int) = c.list[k] := by unfold insAt; rw [Int.toNat_natCast, List.getElem?_eq_getElem hk]; rfl
  rw [i0, hi] at h2
  rw [i0, erase_old hk]
  unfold eraseIns
  rw [if_pos (by simpa using h2)]
 have e0 : stN (eraseC c) (n + 1) s = ⟨(c.list.length : Int), (stN c n s).regs, (stN c n s).mem⟩ := by
  simp only [stN]; rw [g1, f0]; simp [stp, stPc, stRegs, stMem]
 have g0 : evN (eraseC c) (n + 1) s = evN c n s ++ [(5, (stN c n s).pc)] := by
  simp only [evN]; rw [g1, g2, f0]; rfl
 obtain ⟨t1, t2, t3, t4⟩ := erase_tail c (stN c n s).regs (stN c n s).mem 14 (Nat.le_refl _)
 have b0 : stN (eraseC c) (n + 1 + 14) s = ⟨((c.list.length + 14 : Nat) : Int), zer (stN c n s).regs 14, (stN c n s).mem⟩ := by rw [stN_add, e0, t1]
 have a0 : insAt (eraseC c) (stN (eraseC c) (n + 1 + 14) s).pc = ⟨13, 0, 0, 0, 0⟩ := by rw [b0]; exact erase_end c
 have d0 : stN (eraseC c) (n + 16) s = ⟨((c.list.length + 14 : Nat) : Int), zer (stN c n s).regs 14, (stN c n s).mem⟩ := by
  show stp (insAt (eraseC c) (stN (eraseC c) (n + 1 + 14) s).pc) (stN (eraseC c) (n + 1 + 14) s) = _
  rw [a0, stp_halt rfl, b0]
 have c0 : evN (eraseC c) (n + 16) s = (evN c n s ++ [(5, (stN c n s).pc)] ++ evN (eraseC c) 14 ⟨(c.list.length : Int), (stN c n s).regs, (stN c n s).mem⟩) ++ [(5, ((c.list.length + 14 : Nat) : Int))] := by
  show evN (eraseC c) (n + 1 + 14) s ++ stEvs (insAt (eraseC c) (stN (eraseC c) (n + 1 + 14) s).pc) (stN (eraseC c) (n + 1 + 14) s) = _
  rw [a0, evN_add, e0, g0, b0]; rfl
 refine ⟨fun i hi => ?_, ?_, ?_, ?_, ?_, ?_⟩
 ·by_cases e : i < n
  ·exact g3 i e
  by_cases e2 : i = n
  ·subst e2; unfold opAt; rw [g1, f0]; simp
  rw [show i = (n + 1) + (i - (n + 1)) by omega, opAt_add, e0]
  exact t4 _ (by omega)
 ·unfold opAt; rw [show n + 15 = n + 1 + 14 by omega, a0]
 ·rw [d0]; exact zer_all ho.regs
 ·rw [d0, j0]
 ·rw [c0, h0]
  simp only [prj_app, t2]
  have hz : ∀ p : Int, prj [((5 : Int), p)] = [] := fun p => rfl
  simp only [hz, List.append_nil]
 rw [c0, h0]
 simp only [List.length_append, t3, List.length_cons, List.length_nil]
theorem erase_fin {c : Cd} (hok : codeOk c = true) (hok2 : codeOk (eraseC c) = true) {m : Mm} {n : Nat} (h : finN (eraseC c) m = some n) : ∃ k, n = k + 15 ∧ finN c m = some k := by
 obtain ⟨hg, h1, h2, h3⟩ := finN_iff.1 h
 have a0 : goOk c m = true := by unfold goOk; rw [hok]; exact goOk_mem (c := eraseC c) hg
 have b0 := ini_ok a0
 by_cases hh : ∀ i, i < n + 1 → ¬ opAt c (ini m) i = 13
 ·exact absurd h3 ((erase_run hok (ini m) b0 (n + 1) hh).2.2 n (by omega))
 have c0 : ∃ k, k < n + 1 ∧ opAt c (ini m) k = 13 ∧ ∀ i, i < k → ¬ opAt c (ini m) i = 13 := by
  have d0 : ∀ q, (∀ i, i < q → ¬ opAt c (ini m) i = 13) ∨ ∃ k, k < q ∧ opAt c (ini m) k = 13 ∧ ∀ i, i < k → ¬ opAt c (ini m) i = 13 := by
   intro q
   induction q with
   | zero => exact Or.inl (fun i h => by omega)
   | succ q ih =>
    rcases ih with g | ⟨k, hk, h⟩
    ·by_cases e : opAt c (ini m) q = 13
     ·exact Or.inr ⟨q, by omega, e, g⟩
     refine Or.inl (fun i hi => ?_)
     by_cases e2 : i = q
     ·subst e2; exact e
     exact g i (by omega)
    exact Or.inr ⟨k, by omega, h⟩
  rcases d0 (n + 1) with g | g
  ·exact absurd g hh
  exact g
 obtain ⟨k, _, k2, k3⟩ := c0
 obtain ⟨e1, e2, _⟩ := erase_halt hok (ini m) b0 k3 k2
 have e := first_same h2 h3 e1 e2
 exact ⟨k, e, finN_iff.2 ⟨a0, by omega, k3, k2⟩⟩
theorem erase_regs {c : Cd} (hok : codeOk c = true) (hok2 : codeOk (eraseC c) = true) {m : Mm} : finR (eraseC c) m = (List.replicate 14 0, true) ∨ finR (eraseC c) m = ([], false) := by
 cases h : finN (eraseC c) m with
 | none => exact Or.inr (finR_no h)
 | some n =>
  obtain ⟨k, rfl, hk⟩ := erase_fin hok hok2 h
  obtain ⟨hg, _, k3, k2⟩ := finN_iff.1 hk
  obtain ⟨_, _, e3, _⟩ := erase_halt hok (ini m) (ini_ok hg) k3 k2
  rw [finR_yes h, show k + 15 + 1 = k + 16 by omega, e3]
  exact Or.inl rfl
theorem erase_ok {c : Cd} (h : codeOk c = true ∧ c.list.length ≤ 385) : codeOk (eraseC c) = true := by
 have hl := codeOk_len h.1
 have b0 : (eraseC c).list.length = c.list.length + 15 := eraseL_len c.list
 unfold codeOk
 simp only [Bool.and_eq_true]
 refine ⟨show declOk c.vars c.arrays = true from codeOk_decl h.1, decide_eq_true (by omega), List.all_eq_true.2 (fun x hx => ?_), ?_⟩
 ·rw [b0]
  have c0 : x ∈ (c.list.map (eraseIns c.list.length) ++ eraseTail 14) ++ [⟨13, 0, 0, 0, 0⟩] := hx
  rw [List.mem_append, List.mem_append] at c0
  show insOk c.vars.length c.arrays.length (c.list.length + 15) x = true
  rcases c0 with (h1 | h1) | h1
  ·obtain ⟨y, hy, rfl⟩ := List.mem_map.1 h1
   obtain ⟨k, hk, rfl⟩ := List.getElem_of_mem hy
   have a0 := codeOk_all h.1 k hk
   generalize c.list[k] = y at *
   by_cases e : y.op = 13
   ·unfold eraseIns; rw [if_pos (by simpa using e)]
    simp [insOk, wi, shp, flds, fOk]; omega
   rw [erase_same e]
   have ho := insOk_op a0
   obtain ⟨op, a, b, d, f⟩ := y
   simp only at ho
   have hc : op = 1 ∨ op = 2 ∨ op = 3 ∨ op = 4 ∨ op = 5 ∨ op = 6 ∨ op = 7 ∨ op = 8 ∨ op = 9 ∨ op = 10 ∨ op = 11 ∨ op = 12 ∨ op = 13 := by omega
   rcases hc with rfl | rfl | rfl | rfl | rfl | rfl | rfl | rfl | rfl | rfl | rfl | rfl | rfl
   all_goals
    simp [insOk, wi, shp, flds, fOk] at a0 ⊢
    first | done | omega
  ·unfold eraseTail at h1
   obtain ⟨r, hr, rfl⟩ := List.mem_map.1 h1
   have := List.mem_range.1 hr
   simp [insOk, wi, shp, flds, fOk]; omega
  rw [List.mem_singleton] at h1
  subst h1; rfl
 unfold lastOk
 rw [List.getLast?_eq_getElem?, b0]
 have : (eraseC c).list[c.list.length + 15 - 1]? = some ⟨13, 0, 0, 0, 0⟩ := by
  unfold eraseC eraseL
  simp only
  rw [List.getElem?_append_right (by simp [eraseTail_len]), List.length_append, List.length_map, eraseTail_len, show c.list.length + 15 - 1 - (c.list.length + 14) = 0 by omega]; rfl
 rw [this]; rfl
end Go.Proofs.Ytkjedgnepnbkpaa
namespace Go.Proofs.Ytkjedgnepnbkpaa
open Go.RowKit
set_option maxHeartbeats 6400000 in
set_option maxRecDepth 100000 in
theorem DrawCodeRuns_any (v : Value) (n : Nat) (vs : List Int) (w : World) (hr : Reads w 1 v n (vs.map (Value.int .u8))) (hv : ∀ x ∈ vs, 0 ≤ x ∧ x < 256) (hn : n ≤ 1048576) :
  Calls Try.prog 36 #[v] w fun r w' => DrawCMMP w r w' := by
 go_enter Try.func36, Try.ntmps36
 go_wp2_with fail
 refine (l17Open_any v n vs _ (hr.below (bal (bal (bal (Bs w) (.cells #[.slice none 0 0, .slice none 0 0, .slice none 0 0] 26)) (.cells #[.slice none 0 0, .slice none 0 0] 37)) (.cells #[.slice none 0 0, .slice none 0 0] 37))) hv hn).mono ?_
 rintro e w1 ⟨g, rfl, hR, hb⟩
 try simp only [Sa] at hR
 have x1 := hb.size
 simp only [Sa] at x1
 have k0 : Bk w1 (w.heap.size) [.slice none 0 0, .slice none 0 0, .slice none 0 0] := Bk.below (Bk.al (Bk.al (Bk.nw (by simp) rfl) (.cells #[.slice none 0 0, .slice none 0 0] 37)) (.cells #[.slice none 0 0, .slice none 0 0] 37)) hb
 have l0 : Bk w1 (w.heap.size + 1) [.slice none 0 0, .slice none 0 0] := Bk.below (Bk.al (Bk.nw (by simp) rfl) (.cells #[.slice none 0 0, .slice none 0 0] 37)) hb
 have n0 : Bk w1 (w.heap.size + 1 + 1) [.slice none 0 0, .slice none 0 0] := Bk.below (Bk.nw (by simp) rfl) hb
 have r3 := btr (bal (bal (bal (Bs w) (.cells #[.slice none 0 0, .slice none 0 0, .slice none 0 0] 26)) (.cells #[.slice none 0 0, .slice none 0 0] 37)) (.cells #[.slice none 0 0, .slice none 0 0] 37)) hb
 clear hb
 have l1 := Bk.lz k0
 have m1 := Bk.lz l0
 have n1 := Bk.lz n0
 obtain ⟨B, hB⟩ : ∃ B, w.heap.size + 1 + 1 + 1 = B := ⟨_, rfl⟩; rw [hB] at hR; have q5 : w.heap.size + 1 + 1 + 1 ≤ B := (by omega); clear hB hr hv
 have hg := hR.lt
 have hC : Chg (fun k => k = g) w w1 := Chg.of_below r3
 have k1 : ∀ q, (fun k => k = g) q → q = g := fun q h => h
 clear r3
 have f5 : w.heap.size ≤ g := by omega
 go_wp2_with fail
 refine (l8Jumps_any B g (0) _ hR (by omega)).mono ?_
 rintro e w2 ⟨t5, v5, y5, g4, e4, f4, q1, rfl, d1, o5, d5, g5, x0, m5, hc⟩
 try simp only [Sa, Ss] at d1
 obtain ⟨x4, a5, y4, b5, z4, c5, rfl, rfl, rfl⟩ := d1.shape
 replace hC := (hC).trans hc
 replace hR := x0; clear x0
 have a4 := hc.size
 replace k0 := Bk.kg k0 hc
 replace l0 := Bk.kg l0 hc
 replace n0 := Bk.kg n0 hc
 clear hc
 have b4 := d1.lt
 replace l1 := Bk.lz k0
 replace m1 := Bk.lz l0
 replace n1 := Bk.lz n0
 go_wp2_with fail
 refine (l6Mutate_of _ _ _ g4 e4 f4 _ B g (q1) _ d1 (by omega) (by omega) (by omega) (by omega) hR (by omega)).mono ?_
 rintro e w3 ⟨u5, x5, z5, w0, v0, c1, q2, rfl, p0, p5, e5, h5, x0, n5, hc⟩
 try simp only [Sa, Ss] at p0
 obtain ⟨r0, t0, s0, u0, a1, b1, rfl, rfl, rfl⟩ := p0.shape
 replace hC := (hC).trans hc
 replace hR := x0; clear x0
 have o3 := hc.size
 replace d1 := d1.keep hc (fun gq h h2 => by have := b4 gq h; have := k1 gq h2; omega)
 replace k0 := Bk.kg k0 hc
 replace l0 := Bk.kg l0 hc
 replace n0 := Bk.kg n0 hc
 clear hc
 have o0 := p0.lt
 replace l1 := Bk.lz k0
 replace m1 := Bk.lz l0
 replace n1 := Bk.lz n0
 clear d1
 go_wp2_with fail
 refine (l6Heads_any r0 s0 a1 w0 v0 c1 t0 u0 b1 _).mono ?_
 rintro e w4 ⟨rfl, hb⟩
 replace hC := ((hC.trans (Chg.of_below (bal (Bs _) _)))).trans (Chg.of_below hb)
 replace hR := (hR.below (bal (Bs _) _)).below hb
 have e1 := hb.size
 simp only [Sa] at e1
 replace p0 := (p0.below (bal (Bs _) _)).below hb
 replace k0 := Bk.below (Bk.al k0 _) hb
 replace l0 := Bk.below (Bk.al l0 _) hb
 replace n0 := Bk.below (Bk.al n0 _) hb
 have a0 : Bk w4 (w3.heap.size) [.slice r0 w0 t0, .slice s0 v0 u0, .slice a1 c1 b1] := Bk.below (Bk.nw (by simp) rfl) hb
 clear hb
 replace l1 := Bk.lz k0
 replace m1 := Bk.lz l0
 replace n1 := Bk.lz n0
 have z1 := Bk.lz a0
 go_wp2_with fail
 refine (l3Memory_any r0 s0 w0 t0 v0 u0 (.slice none 0 0) B g (q2) _ (hR.below (bal (Bs _) (.cells #[.slice r0 w0 t0, .slice s0 v0 u0, .slice none 0 0] 110))) (by omega) (by omega) (by omega)).mono ?_
 rintro e w5 ⟨ux, uy, us, m, p1, rfl, oM, x3, y0, n3, x0, k5, hc⟩
 try simp only [Sa, Ss] at oM
 obtain ⟨px, tx, py, ty, rfl, rfl⟩ := oM.shape
 have u1 : Hid (∀ r ∈ m.arrs, 3 ≤ r.length ∧ r.length ≤ 4) := Lib.hid (fun r hr => by have := n3 r hr; omega)
 clear n3
 have y3 : m.vals.length ≤ 1000 := by omega
 have z3 : m.arrs.length ≤ 1000 := by omega
 clear x3 y0
 replace hC := ((hC.trans (Chg.of_below (bal (Bs _) _)))).trans hc
 replace hR := x0; clear x0
 have f1 := hc.size
 simp only [Sa] at f1
 replace p0 := (p0.below (bal (Bs _) _)).keep hc (fun gq h h2 => by have := o0 gq h; have := k1 gq h2; omega)
 replace k0 := Bk.kg (Bk.al k0 _) hc
 replace l0 := Bk.kg (Bk.al l0 _) hc
 replace n0 := Bk.kg (Bk.al n0 _) hc
 replace a0 := Bk.kg (Bk.al a0 _) hc
 have b0 : Bk w5 (w4.heap.size) [.slice r0 w0 t0, .slice s0 v0 u0, .slice none 0 0] := Bk.kg (Bk.nw (by simp) rfl) hc
 clear hc
 have q0 := oM.lt
 try simp only [Sa] at q0
 replace l1 := Bk.lz k0
 replace m1 := Bk.lz l0
 replace n1 := Bk.lz n0
 replace z1 := Bk.lz a0
 have c4 := Bk.lz b0
 go_upto_region 5 with (fail)
 obtain ⟨w6, z0, hb⟩ := nmw (World.alloc w5 (.cells #[.slice px m.vals.length tx, .slice py m.arrs.length ty] 37))
 replace hC := ((hC.trans (Chg.of_below (bal (Bs _) _)))).trans (Chg.of_below hb)
 replace hR := (hR.below (bal (Bs _) _)).below hb
 have g1 := hb.size
 simp only [Sa] at g1
 replace p0 := (p0.below (bal (Bs _) _)).below hb
 replace oM := (oM.below (bal (Bs _) _)).below hb
 replace k0 := Bk.below (Bk.al k0 _) hb
 replace l0 := Bk.below (Bk.al l0 _) hb
 replace n0 := Bk.below (Bk.al n0 _) hb
 replace a0 := Bk.below (Bk.al a0 _) hb
 replace b0 := Bk.below (Bk.al b0 _) hb
 have m0 : Bk w6 (w5.heap.size) [.slice px m.vals.length tx, .slice py m.arrs.length ty] := Bk.below (Bk.nw (by simp) rfl) hb
 clear hb
 rw [← z0]
 clear z0
 have c0 := Bk.cell a0 0 (v := .slice r0 w0 t0) rfl
 have d0 := Bk.cell a0 1 (v := .slice s0 v0 u0) rfl
 have e0 := Bk.cell a0 2 (v := .slice a1 c1 b1) rfl
 have f0 := Bk.cell m0 0 (v := .slice px m.vals.length tx) rfl
 have g0 := Bk.cell m0 1 (v := .slice py m.arrs.length ty) rfl
 have h0 := Bk.cell b0 0 (v := .slice r0 w0 t0) rfl
 have i0 := Bk.cell b0 1 (v := .slice s0 v0 u0) rfl
 have j0 := Bk.cell b0 2 (v := .slice none 0 0) rfl
 have d4 := Bk.lz m0
 refine wp_region_noPanic ?_
 refine wp_region_held_drew (S := (fun W' => W'.cell? ⟨w3.heap.size, 0, none⟩ = some (.slice r0 w0 t0) ∧ W'.cell? ⟨w3.heap.size, 1, none⟩ = some (.slice s0 v0 u0) ∧ W'.cell? ⟨w3.heap.size, 2, none⟩ = some (.slice a1 c1 b1) ∧ W'.cell? ⟨w5.heap.size, 0, none⟩ = some (.slice px m.vals.length tx) ∧ W'.cell? ⟨w5.heap.size, 1, none⟩ = some (.slice py m.arrs.length ty) ∧ W'.cell? ⟨w4.heap.size, 0, none⟩ = some (.slice r0 w0 t0) ∧ W'.cell? ⟨w4.heap.size, 1, none⟩ = some (.slice s0 v0 u0) ∧ W'.cell? ⟨w4.heap.size, 2, none⟩ = some (.slice none 0 0))) (by kernel_rfl) ⟨Kc (Below.drew (Bs w6)) c0, Kc (Below.drew (Bs w6)) d0, Kc (Below.drew (Bs w6)) e0, Kc (Below.drew (Bs w6)) f0, Kc (Below.drew (Bs w6)) g0, Kc (Below.drew (Bs w6)) h0, Kc (Below.drew (Bs w6)) i0, Kc (Below.drew (Bs w6)) j0⟩ (fun hHeld => ?_)
 obtain ⟨w7, y1⟩ : ∃ X, X = World.drew w6 := ⟨_, rfl⟩
 rw [← y1] at hHeld ⊢
 have hb : Below w6.heap.size w6 w7 := by rw [y1]; exact Below.drew (Bs _)
 clear y1
 replace hC := (hC).trans (Chg.of_below hb)
 replace hR := hR.below hb
 have p3 := hb.size
 replace p0 := p0.below hb
 replace oM := oM.below hb
 replace c0 := Kc hb c0
 replace d0 := Kc hb d0
 replace e0 := Kc hb e0
 replace f0 := Kc hb f0
 replace g0 := Kc hb g0
 replace h0 := Kc hb h0
 replace i0 := Kc hb i0
 replace j0 := Kc hb j0
 replace k0 := Bk.below k0 hb
 replace l0 := Bk.below l0 hb
 replace n0 := Bk.below n0 hb
 replace a0 := Bk.below a0 hb
 replace b0 := Bk.below b0 hb
 replace m0 := Bk.below m0 hb
 clear hb
 refine (tq 0 20 rfl rfl ?_ ?_ (tq 1 21 rfl rfl ?_ ?_ (tq 2 22 rfl rfl ?_ ?_ (tq 3 23 rfl rfl ?_ ?_ (tq 4 24 rfl rfl ?_ ?_ ?_)))))
 iterate 5 (rotate_left; intro W' hSw; (try dsimp only at hSw); go_simp; try with_reducible rfl)
 try simp only [Ep]
 refine Rdy 5 rfl (fun K hK => ?_)
 go_simp
 obtain ⟨c, v1⟩ := RdC.of p0 (by omega) (by omega) (by omega)
 have l3 : ∀ b o cc, Value.slice r0 w0 t0 = .slice (some ⟨b, o, none⟩) c.vars.length cc → ¬ b = g := fun b o cc e => by have := o0 b (Or.inl (by rw [e]; rfl)); omega
 have m3 : ∀ b o cc, Value.slice s0 v0 u0 = .slice (some ⟨b, o, none⟩) c.arrays.length cc → ¬ b = g := fun b o cc e => by have := o0 b (Or.inr (Or.inl (by rw [e]; rfl))); omega
 refine (l3Secrets_any _ _ (.slice none 0 0) c.vars c.arrays _ _ m 1 B g (p1) _ v1.r.a v1.r.b l3 m3 (DrM.of oM (by omega) (by omega) u1.out).reads (by omega) (by omega) u1.out hR (by omega)).mono ?_
 rintro e w8 ⟨r5, s5, m2, p9, rfl, y0, i5, j5, x0, l5, hc⟩
 obtain ⟨o1, s1, r1, t1, rfl, rfl⟩ := y0.reads.shape
 clear v1 l3 m3
 replace hC := (hC).trans hc
 replace hR := x0; clear x0
 have q3 := hc.size
 replace p0 := p0.keep hc (fun gq h h2 => by have := o0 gq h; have := k1 gq h2; omega)
 replace oM := oM.keep hc (fun gq h h2 => by have := q0 gq h; have := k1 gq h2; omega)
 replace c0 := Gg hc c0
 replace d0 := Gg hc d0
 replace e0 := Gg hc e0
 replace f0 := Gg hc f0
 replace g0 := Gg hc g0
 replace h0 := Gg hc h0
 replace i0 := Gg hc i0
 replace j0 := Gg hc j0
 replace k0 := Bk.kg k0 hc
 replace l0 := Bk.kg l0 hc
 replace n0 := Bk.kg n0 hc
 replace a0 := Bk.kg a0 hc
 replace b0 := Bk.kg b0 hc
 replace m0 := Bk.kg m0 hc
 clear hc
 clear hR
 refine hK.out _ _ ⟨c0, d0, e0, f0, g0, h0, i0, j0⟩ (fun hHeld => ?_)
 clear hK K
 try simp only [Ep]
 refine Rdy 6 rfl (fun K hK => ?_)
 obtain ⟨a2, y2, b2, z2, c2, a3⟩ := Bk.f3 k0 0 1 2 rfl rfl rfl
 go_simp
 obtain ⟨w9, z0, hb⟩ := nmw (World.setCell (World.setCell (World.setCell w8 ⟨w.heap.size, 0, none⟩ (.slice r0 w0 t0)) ⟨w.heap.size, 1, none⟩ (.slice s0 v0 u0)) ⟨w.heap.size, 2, none⟩ (.slice a1 c1 b1))
 replace hC := ((((hC.setNew _ _ _ (Or.inr (by omega))).setNew _ _ _ (Or.inr (by omega))).setNew _ _ _ (Or.inr (by omega)))).trans (Chg.of_below hb)
 have h1 := hb.size
 simp only [Ss] at h1
 clear y2 a2 z2 b2 a3 c2
 replace p0 := (((p0.keep (C1 _ _ _) (fun gq h h2 => by have := o0 gq h; omega)).keep (C1 _ _ _) (fun gq h h2 => by have := o0 gq h; omega)).keep (C1 _ _ _) (fun gq h h2 => by have := o0 gq h; omega)).below hb
 replace oM := (((oM.keep (C1 _ _ _) (fun gq h h2 => by have := q0 gq h; omega)).keep (C1 _ _ _) (fun gq h h2 => by have := q0 gq h; omega)).keep (C1 _ _ _) (fun gq h h2 => by have := q0 gq h; omega)).below hb
 replace c0 := Kc hb (Nc (Nc (Nc c0 (by omega) _) (by omega) _) (by omega) _)
 replace d0 := Kc hb (Nc (Nc (Nc d0 (by omega) _) (by omega) _) (by omega) _)
 replace e0 := Kc hb (Nc (Nc (Nc e0 (by omega) _) (by omega) _) (by omega) _)
 replace f0 := Kc hb (Nc (Nc (Nc f0 (by omega) _) (by omega) _) (by omega) _)
 replace g0 := Kc hb (Nc (Nc (Nc g0 (by omega) _) (by omega) _) (by omega) _)
 replace h0 := Kc hb (Nc (Nc (Nc h0 (by omega) _) (by omega) _) (by omega) _)
 replace i0 := Kc hb (Nc (Nc (Nc i0 (by omega) _) (by omega) _) (by omega) _)
 replace j0 := Kc hb (Nc (Nc (Nc j0 (by omega) _) (by omega) _) (by omega) _)
 replace y0 := (((y0.keep (C1 _ _ _) (fun gq h h2 => by have := (fun q (h : w7.heap.size ≤ q) => h) gq h; omega)).keep (C1 _ _ _) (fun gq h h2 => by have := (fun q (h : w7.heap.size ≤ q) => h) gq h; omega)).keep (C1 _ _ _) (fun gq h h2 => by have := (fun q (h : w7.heap.size ≤ q) => h) gq h; omega)).below hb
 replace k0 : Bk w9 (w.heap.size) [.slice r0 w0 t0, .slice s0 v0 u0, .slice a1 c1 b1] := Bk.below (Bk.at (Bk.at (Bk.at k0 0 (.slice r0 w0 t0)) 1 (.slice s0 v0 u0)) 2 (.slice a1 c1 b1)) hb
 replace l0 := Bk.below (Bk.ne (Bk.ne (Bk.ne l0 (by omega) _) (by omega) _) (by omega) _) hb
 replace n0 := Bk.below (Bk.ne (Bk.ne (Bk.ne n0 (by omega) _) (by omega) _) (by omega) _) hb
 replace a0 := Bk.below (Bk.ne (Bk.ne (Bk.ne a0 (by omega) _) (by omega) _) (by omega) _) hb
 replace b0 := Bk.below (Bk.ne (Bk.ne (Bk.ne b0 (by omega) _) (by omega) _) (by omega) _) hb
 replace m0 := Bk.below (Bk.ne (Bk.ne (Bk.ne m0 (by omega) _) (by omega) _) (by omega) _) hb
 clear hb
 rw [← z0]
 clear z0
 refine hK.out _ _ ⟨c0, d0, e0, f0, g0, h0, i0, j0⟩ (fun hHeld => ?_)
 clear hK K
 try simp only [Ep]
 refine Rdy 7 rfl (fun K hK => ?_)
 obtain ⟨d2, b3, e2, c3, g2, d3⟩ := Bk.f3 k0 0 1 2 rfl rfl rfl
 obtain ⟨i2, e3, j2, g3⟩ := Bk.f2 l0 0 1 rfl rfl
 go_simp
 obtain ⟨s3, z0, hb⟩ := nmw (World.setCell (World.setCell w9 ⟨w.heap.size + 1, 0, none⟩ (.slice px m.vals.length tx)) ⟨w.heap.size + 1, 1, none⟩ (.slice py m.arrs.length ty))
 replace hC := (((hC.setNew _ _ _ (Or.inr (by omega))).setNew _ _ _ (Or.inr (by omega)))).trans (Chg.of_below hb)
 have i1 := hb.size
 simp only [Ss] at i1
 clear b3 d2 c3 e2 d3 g2 e3 i2 g3 j2
 replace p0 := ((p0.keep (C1 _ _ _) (fun gq h h2 => by have := o0 gq h; omega)).keep (C1 _ _ _) (fun gq h h2 => by have := o0 gq h; omega)).below hb
 replace oM := ((oM.keep (C1 _ _ _) (fun gq h h2 => by have := q0 gq h; omega)).keep (C1 _ _ _) (fun gq h h2 => by have := q0 gq h; omega)).below hb
 replace c0 := Kc hb (Nc (Nc c0 (by omega) _) (by omega) _)
 replace d0 := Kc hb (Nc (Nc d0 (by omega) _) (by omega) _)
 replace e0 := Kc hb (Nc (Nc e0 (by omega) _) (by omega) _)
 replace f0 := Kc hb (Nc (Nc f0 (by omega) _) (by omega) _)
 replace g0 := Kc hb (Nc (Nc g0 (by omega) _) (by omega) _)
 replace h0 := Kc hb (Nc (Nc h0 (by omega) _) (by omega) _)
 replace i0 := Kc hb (Nc (Nc i0 (by omega) _) (by omega) _)
 replace j0 := Kc hb (Nc (Nc j0 (by omega) _) (by omega) _)
 replace y0 := ((y0.keep (C1 _ _ _) (fun gq h h2 => by have := (fun q (h : w7.heap.size ≤ q) => h) gq h; omega)).keep (C1 _ _ _) (fun gq h h2 => by have := (fun q (h : w7.heap.size ≤ q) => h) gq h; omega)).below hb
 replace k0 := Bk.below (Bk.ne (Bk.ne k0 (by omega) _) (by omega) _) hb
 replace l0 : Bk s3 (w.heap.size + 1) [.slice px m.vals.length tx, .slice py m.arrs.length ty] := Bk.below (Bk.at (Bk.at l0 0 (.slice px m.vals.length tx)) 1 (.slice py m.arrs.length ty)) hb
 replace n0 := Bk.below (Bk.ne (Bk.ne n0 (by omega) _) (by omega) _) hb
 replace a0 := Bk.below (Bk.ne (Bk.ne a0 (by omega) _) (by omega) _) hb
 replace b0 := Bk.below (Bk.ne (Bk.ne b0 (by omega) _) (by omega) _) hb
 replace m0 := Bk.below (Bk.ne (Bk.ne m0 (by omega) _) (by omega) _) hb
 clear hb
 rw [← z0]
 clear z0
 refine hK.out _ _ ⟨c0, d0, e0, f0, g0, h0, i0, j0⟩ (fun hHeld => ?_)
 clear hK K
 try simp only [Ep]
 refine Rdy 8 rfl (fun K hK => ?_)
 obtain ⟨k2, h3, l2, i3⟩ := Bk.f2 l0 0 1 rfl rfl
 obtain ⟨n2, j3, o2, k3⟩ := Bk.f2 n0 0 1 rfl rfl
 go_simp
 obtain ⟨o4, z0, hb⟩ := nmw (World.setCell (World.setCell s3 ⟨w.heap.size + 1 + 1, 0, none⟩ (.slice o1 m2.vals.length s1)) ⟨w.heap.size + 1 + 1, 1, none⟩ (.slice r1 m2.arrs.length t1))
 replace hC := (((hC.setNew _ _ _ (Or.inr (by omega))).setNew _ _ _ (Or.inr (by omega)))).trans (Chg.of_below hb)
 have j1 := hb.size
 simp only [Ss] at j1
 clear h3 k2 i3 l2 j3 n2 k3 o2
 replace p0 := ((p0.keep (C1 _ _ _) (fun gq h h2 => by have := o0 gq h; omega)).keep (C1 _ _ _) (fun gq h h2 => by have := o0 gq h; omega)).below hb
 replace oM := ((oM.keep (C1 _ _ _) (fun gq h h2 => by have := q0 gq h; omega)).keep (C1 _ _ _) (fun gq h h2 => by have := q0 gq h; omega)).below hb
 replace c0 := Kc hb (Nc (Nc c0 (by omega) _) (by omega) _)
 replace d0 := Kc hb (Nc (Nc d0 (by omega) _) (by omega) _)
 replace e0 := Kc hb (Nc (Nc e0 (by omega) _) (by omega) _)
 replace f0 := Kc hb (Nc (Nc f0 (by omega) _) (by omega) _)
 replace g0 := Kc hb (Nc (Nc g0 (by omega) _) (by omega) _)
 replace h0 := Kc hb (Nc (Nc h0 (by omega) _) (by omega) _)
 replace i0 := Kc hb (Nc (Nc i0 (by omega) _) (by omega) _)
 replace j0 := Kc hb (Nc (Nc j0 (by omega) _) (by omega) _)
 replace y0 := ((y0.keep (C1 _ _ _) (fun gq h h2 => by have := (fun q (h : w7.heap.size ≤ q) => h) gq h; omega)).keep (C1 _ _ _) (fun gq h h2 => by have := (fun q (h : w7.heap.size ≤ q) => h) gq h; omega)).below hb
 replace k0 := Bk.below (Bk.ne (Bk.ne k0 (by omega) _) (by omega) _) hb
 replace l0 := Bk.below (Bk.ne (Bk.ne l0 (by omega) _) (by omega) _) hb
 replace n0 : Bk o4 (w.heap.size + 1 + 1) [.slice o1 m2.vals.length s1, .slice r1 m2.arrs.length t1] := Bk.below (Bk.at (Bk.at n0 0 (.slice o1 m2.vals.length s1)) 1 (.slice r1 m2.arrs.length t1)) hb
 replace a0 := Bk.below (Bk.ne (Bk.ne a0 (by omega) _) (by omega) _) hb
 replace b0 := Bk.below (Bk.ne (Bk.ne b0 (by omega) _) (by omega) _) hb
 replace m0 := Bk.below (Bk.ne (Bk.ne m0 (by omega) _) (by omega) _) hb
 clear hb
 rw [← z0]
 clear z0
 refine hK.out _ _ ⟨c0, d0, e0, f0, g0, h0, i0, j0⟩ (fun hHeld => ?_)
 clear hK K
 try simp only [Ep]
 refine wpAnyH_done (by kernel_rfl) ?_ _
 refine NoPanic.normal ?_
 clear hHeld
 have tC := hC
 have tb := tC.below w.heap.size (Nat.le_refl _) (fun k hk h => by have := k1 k h; omega)
 have TB := Lib.hid tb; clear tC tb hC
 have t3 := Lib.hid (DrawC.mono p0 (show w.heap.size ≤ _ by omega))
 have v3 := Lib.hid (DrM.mono (DrM.of oM (by omega) (by omega) u1.out) (show w.heap.size ≤ _ by omega))
 have u3 := Lib.hid (DrM.mono y0 (show w.heap.size ≤ _ by omega))
 clear p0 oM y0
 obtain ⟨p2, h4, r2, i4, s2, j4⟩ := Bk.f3 k0 0 1 2 rfl rfl rfl
 obtain ⟨t2, k4, u2, l4⟩ := Bk.f2 l0 0 1 rfl rfl
 obtain ⟨v2, m4, x2, n4⟩ := Bk.f2 n0 0 1 rfl rfl
 have p4 := p2
 have q4 := r2
 have r4 := s2
 have s4 := t2
 have t4 := u2
 have u4 := v2
 have v4 := x2
 have tt := True.intro
 go_wp2
 exact bodyPost_ret (v := .tuple #[.agg #[.slice r0 w0 t0, .slice s0 v0 u0, .slice a1 c1 b1], .agg #[.slice px m.vals.length tx, .slice py m.arrs.length ty], .agg #[.slice o1 m2.vals.length s1, .slice r1 m2.arrs.length t1]]) (by simp [results, Try.results36, go_sem, p4, q4, r4, s4, t4, u4, v4]) rfl (by exact by unfold DrawCMMP; exact ⟨_, _, _, _, _, _, _, _, _, _, m, m2, rfl, t3.out, ⟨by omega, by omega, by omega⟩, v3.out, u3.out, TB.out⟩)
end Go.Proofs.Ytkjedgnepnbkpaa
namespace Go.Proofs.Ytkjedgnepnbkpaa
open Go.RowKit
theorem erase_of {c D : Cd} (h : eraseR c = (D, true)) : (codeOk c = true ∧ c.list.length ≤ 385) ∧ D = eraseC c := by
 by_cases hc : codeOk c = true ∧ c.list.length ≤ 385
 ·rw [eraseR_yes hc] at h
  exact ⟨hc, (congrArg Prod.fst h).symm⟩
 rw [eraseR_no hc] at h
 cases congrArg Prod.snd h
end Go.Proofs.Ytkjedgnepnbkpaa
