/-
 Parts of the proof of the law FnSpecPath.
-/
import Derived.Test.YtkjedgnepnbkpaaRS
set_option linter.all false
namespace Go.Proofs.Ytkjedgnepnbkpaa
open Go.RowKit

/-- a machine's state at a pointer -/
structure OwnS (w : World) (base b : Nat) (vr vv va : Value) (us : List Value) (s : Ms) : Prop where
 c0 : w.cell? ⟨b, 0, none⟩ = some (.int .i64 s.pc)
 c1 : w.cell? ⟨b, 1, none⟩ = some vr
 c2 : w.cell? ⟨b, 2, none⟩ = some vv
 c3 : w.cell? ⟨b, 3, none⟩ = some va
 f0 : w.frozen? ⟨b, 0, none⟩ = false
 own : OwnMv w base vr vv va us s.regs s.mem
 ob : ¬ OwnMB vr vv va us b
theorem OwnS.keep {w w' : World} {base b : Nat} {vr vv va : Value} {us : List Value} {s : Ms} (h : OwnS w base b vr vv va us s) {S : Nat → Prop} (hc : Chg S w w') (hb : ¬ S b) (hs : ∀ q, OwnMB vr vv va us q → ¬ S q) : OwnS w' base b vr vv va us s :=
 ⟨Gc hc h.c0 hb, Gc hc h.c1 hb, Gc hc h.c2 hb, Gc hc h.c3 hb, Gf hc (Lc h.c0) h.f0 hb, h.own.keep hc hs, h.ob⟩
theorem OwnS.below {w w' : World} {base b : Nat} {vr vv va : Value} {us : List Value} {s : Ms} (h : OwnS w base b vr vv va us s) (hb : Below w.heap.size w w') : OwnS w' base b vr vv va us s := h.keep (S := fun _ => False) (Chg.of_below hb) id (fun _ _ => id)
theorem OwnS.lt {w : World} {base b : Nat} {vr vv va : Value} {us : List Value} {s : Ms} (h : OwnS w base b vr vv va us s) : b < w.heap.size := Lc h.c0
theorem memOk_parts {nv na : Nat} {m : Mm} (h : memOk nv na m = true) : m.vals.length = nv ∧ m.arrs.length = na ∧ (∀ n ∈ m.vals, 0 ≤ n ∧ n < 256) ∧ ∀ a ∈ m.arrs, a.length = 4 ∧ ∀ n ∈ a, 0 ≤ n ∧ n < 256 := by
 unfold memOk at h
 simp only [Bool.and_eq_true, decide_eq_true_eq] at h
 have hv : ∀ xs : List Int, valsOk xs = true → ∀ n ∈ xs, 0 ≤ n ∧ n < 256 := fun xs hx n hn => by
  have h1 := List.all_eq_true.1 hx n hn
  have h2 : 0 ≤ n ∧ n ≤ 255 := of_decide_eq_true h1
  omega
 refine ⟨h.1, h.2.1, hv _ h.2.2.1, fun a ha => ?_⟩
 have h1 := List.all_eq_true.1 h.2.2.2 a ha
 simp only [Bool.and_eq_true, decide_eq_true_eq] at h1
 exact ⟨h1.1, hv _ h1.2⟩
theorem own_evt (w : World) (k v : Int) : (w.alloc (.cells #[.int .i64 k, .int .i64 v] 47)).ownsRow w.heap.size 47 2 (.slice (some ⟨w.heap.size, 0, none⟩) 1 1) 1 (evs [(k, v)]) := by
 have h := World.ownsRow_lit (base := w.heap.size) (e := 47) (size := 2) w #[.int .i64 k, .int .i64 v] 1 (Nat.le_refl _) (by unfold maxLen; omega) (by simp)
 exact h

/-- what fields an instruction has -/
theorem ins_parts {nv na nl : Nat} {op a b c d : Int} (h : insOk nv na nl ⟨op, a, b, c, d⟩ = true) :
  (op = 1 → (0 ≤ a ∧ a < 14) ∧ 0 ≤ b ∧ b ≤ 255) ∧ (op = 2 → (0 ≤ a ∧ a < 14) ∧ 0 ≤ b ∧ b < nv) ∧ (op = 3 → (0 ≤ a ∧ a < nv) ∧ 0 ≤ b ∧ b < 14) ∧ (op = 4 → (0 ≤ a ∧ a < 14) ∧ (0 ≤ b ∧ b < na) ∧ 0 ≤ c ∧ c < 14)
  ∧ (op = 5 → (0 ≤ a ∧ a < na) ∧ (0 ≤ b ∧ b < 14) ∧ 0 ≤ c ∧ c < 14) ∧ (op = 6 → (0 ≤ a ∧ a < 14) ∧ (4 ≤ b ∧ b ≤ 10) ∧ (0 ≤ c ∧ c < 14) ∧ 0 ≤ d ∧ d < 14) ∧ (op = 7 → (0 ≤ a ∧ a < 14) ∧ (0 ≤ b ∧ b < 14) ∧ (0 ≤ c ∧ c < 14) ∧ 0 ≤ d ∧ d < 14)
  ∧ (op = 8 → 0 ≤ a ∧ a < nl) ∧ (op = 9 → (0 ≤ a ∧ a < 14) ∧ 0 ≤ b ∧ b < nl) ∧ (op = 10 → (0 ≤ a ∧ a < 14) ∧ 0 ≤ b ∧ b < nl) ∧ (op = 11 → 0 ≤ a ∧ a < 14) := by
 refine ⟨?_, ?_, ?_, ?_, ?_, ?_, ?_, ?_, ?_, ?_, ?_⟩
 all_goals
  intro hop
  subst hop
  unfold insOk at h
  simp [shp, flds, fOk, wi] at h
  omega

/-- in the midst of a step: the state at b, its blocks, and the events so far -/
structure StepW (S : Nat → Prop) (w W : World) (base b : Nat) (vr vv va : Value) (us : List Value) (rs : List Int) (m : Mm) (tb : Nat) (u : Value) (E : List Ev) (pc : Int) : Prop where
 c0 : W.cell? ⟨b, 0, none⟩ = some (.int .i64 pc)
 c1 : W.cell? ⟨b, 1, none⟩ = some vr
 c2 : W.cell? ⟨b, 2, none⟩ = some vv
 c3 : W.cell? ⟨b, 3, none⟩ = some va
 f0 : W.frozen? ⟨b, 0, none⟩ = false
 own : OwnMv W base vr vv va us rs m
 ob : ¬ OwnMB vr vv va us b
 ev : W.ownsRow tb 47 2 u E.length (evs E)
 eb : ∀ q, u.ownBlock = some q → ¬ q = b ∧ ¬ OwnMB vr vv va us q ∧ (S q ∨ w.heap.size ≤ q)
 sb : S b ∨ w.heap.size ≤ b
 sm : ∀ q, OwnMB vr vv va us q → S q
 chg : Chg S w W

section
variable {S : Nat → Prop} {w W W' : World} {base b tb : Nat} {vr vv va u : Value} {us : List Value} {rs : List Int} {m : Mm} {E : List Ev} {pc : Int}
theorem Chg.setNew {S : Nat → Prop} {w W : World} (h : Chg S w W) (b j : Nat) (x : Value) (hs : S b ∨ w.heap.size ≤ b) : Chg S w (W.setCell ⟨b, j, none⟩ x) := by
 refine ⟨h.os, h.tape, h.output, by simp only [Ss]; exact h.size, fun k hk hn => ?_⟩
 have hkb : k ≠ b := fun e => by
  rcases hs with hs | hs
  ·exact hn (e ▸ hs)
  ·omega
 rw [← h.block k hk hn]
 exact Below.heap_setCell _ _ _ _ (by simpa using hkb)
theorem StepW.keep (h : StepW S w W base b vr vv va us rs m tb u E pc) (hb : Below W.heap.size W W') : StepW S w W' base b vr vv va us rs m tb u E pc :=
 ⟨Kc hb h.c0, Kc hb h.c1, Kc hb h.c2, Kc hb h.c3, Kf hb (Lc h.c0) h.f0, h.own.below hb, h.ob, Ob h.ev hb, h.eb, h.sb, h.sm, h.chg.trans ((Chg.of_below hb).mono (fun _ _ => id) : Chg S W W')⟩
theorem StepW.drew (h : StepW S w W base b vr vv va us rs m tb u E pc) : StepW S w W.drew base b vr vv va us rs m tb u E pc := h.keep (Below.drew (Bs W))
theorem StepW.put (h : StepW S w W base b vr vv va us rs m tb u E pc) (g j : Nat) (x : Value) (hg : OwnMB vr vv va us g) {rs' : List Int} {m' : Mm} (ho : OwnMv (W.setCell ⟨g, j, none⟩ x) base vr vv va us rs' m') : StepW S w (W.setCell ⟨g, j, none⟩ x) base b vr vv va us rs' m' tb u E pc := by
 have hgb : ¬ b = g := fun e => h.ob (e ▸ hg)
 exact ⟨Nc h.c0 (fun e => hgb e.1) x, Nc h.c1 (fun e => hgb e.1) x, Nc h.c2 (fun e => hgb e.1) x, Nc h.c3 (fun e => hgb e.1) x, Fs h.f0 x, ho, h.ob, Oe h.ev g j (fun e => (h.eb g e).2.1 hg) x, h.eb, h.sb, h.sm, h.chg.setNew g j x (Or.inl (h.sm g hg))⟩
theorem StepW.reg {g n c : Nat} (h : StepW S w W base b (.slice (some ⟨g, 0, none⟩) n c) vv va us rs m tb u E pc) (k : Nat) (x : Int) : StepW S w (W.setCell ⟨g, k, none⟩ (.int .i64 x)) base b (.slice (some ⟨g, 0, none⟩) n c) vv va us (rs.set k x) m tb u E pc :=
 h.put g k _ (Or.inl rfl) (h.own.setReg k x)
theorem StepW.val {g n c : Nat} (h : StepW S w W base b vr (.slice (some ⟨g, 0, none⟩) n c) va us rs m tb u E pc) (k : Nat) (x : Int) : StepW S w (W.setCell ⟨g, k, none⟩ (.int .i64 x)) base b vr (.slice (some ⟨g, 0, none⟩) n c) va us rs ⟨m.vals.set k x, m.arrs⟩ tb u E pc :=
 h.put g k _ (Or.inr (Or.inl rfl)) (h.own.setVal k x)
theorem StepW.arr {i g n c : Nat} (h : StepW S w W base b vr vv va us rs m tb u E pc) (hu : us[i]? = some (.slice (some ⟨g, 0, none⟩) n c)) (k : Nat) (x : Int) : StepW S w (W.setCell ⟨g, k, none⟩ (.int .i64 x)) base b vr vv va us rs ⟨m.vals, m.arrs.set i ((gr m.arrs i).set k x)⟩ tb u E pc :=
 h.put g k _ (Or.inr (Or.inr (Or.inr ⟨i, _, hu, rfl⟩))) (h.own.setArr hu k x)
/-- behind an append of an event -/
theorem StepW.event (h : StepW S w W base b vr vv va us rs m tb u E pc) {u' : Value} {e : Ev} (ho : W'.ownsRow tb 47 2 u' (E.length + 1) (evs E ++ [.int .i64 e.1, .int .i64 e.2])) (hC : Chg (fun q => u.ownBlock = some q) W W') (hg : ∀ q, u'.ownBlock = some q → u.ownBlock = some q ∨ W.heap.size ≤ q) : StepW S w W' base b vr vv va us rs m tb u' (E ++ [e]) pc := by
 have hb : ¬ u.ownBlock = some b := fun e => (h.eb b e).1 rfl
 have hm : ∀ q, OwnMB vr vv va us q → ¬ u.ownBlock = some q := fun q hq e => (h.eb q e).2.1 hq
 have lb := Lc h.c0
 have lo := h.own.lt
 refine ⟨Gc hC h.c0 hb, Gc hC h.c1 hb, Gc hC h.c2 hb, Gc hC h.c3 hb, Gf hC lb h.f0 hb, h.own.keep hC hm, h.ob, by rw [List.length_append, evs_append]; exact ho, ?_, h.sb, h.sm, ?_⟩
 ·intro q hq
  rcases hg q hq with hq | hq
  ·exact h.eb q hq
  ·refine ⟨by omega, fun h2 => by have := lo q h2; omega, Or.inr (Nat.le_trans h.chg.size hq)⟩
 ·refine ⟨hC.os.trans h.chg.os, hC.tape.trans h.chg.tape, hC.output.trans h.chg.output, Nat.le_trans h.chg.size hC.size, fun q hq hn => ?_⟩
  have h1 := h.chg.size
  exact (hC.block q (by omega) (fun e => by
   rcases (h.eb q e).2.2 with h2 | h2
   ·exact hn h2
   ·omega)).trans (h.chg.block q hq hn)
/-- the end of a step: the counter is stored -/
theorem StepW.fin (h : StepW S w W base b vr vv va us rs m tb u E pc) (p : Int) :
  (W.setCell ⟨b, 0, none⟩ (.int .i64 p)).ownsRow tb 47 2 u E.length (evs E) ∧ OwnS (W.setCell ⟨b, 0, none⟩ (.int .i64 p)) base b vr vv va us ⟨p, rs, m⟩ ∧ Chg S w (W.setCell ⟨b, 0, none⟩ (.int .i64 p)) :=
 ⟨Oe h.ev b 0 (fun e => (h.eb b e).1 rfl) _, ⟨Tc W b 0 _ h.c0, Nc h.c1 (by simp) _, Nc h.c2 (by simp) _, Nc h.c3 (by simp) _, Fs h.f0 _, h.own.far b 0 _ h.ob, h.ob⟩, h.chg.setNew b 0 _ h.sb⟩
end
theorem gi_set (xs : List Int) (k : Nat) (h : k < xs.length) (v : Int) : gi (xs.set k v) k = v := by
 unfold gi; rw [Int.toNat_natCast, List.getElem?_set_self h]; rfl

def mov (x : Ins) (rs : List Int) (k : Int) : Int := if x.op = 8 then x.a else if x.op = 9 then (if gi rs x.a = 0 then x.b else k + 1) else if x.op = 10 then (if gi rs x.a ≠ 0 then x.b else k + 1) else if x.op = 13 then k else k + 1

set_option maxHeartbeats 3200000 in
theorem l6Move_any (op a b c d : Int) (v : Value) (rs : List Int) (k : Nat) (w : World) (hv : Reads w 1 v rs.length (ints rs)) (hk : (k : Int) ≤ 1048576) (h9 : op = 9 ∨ op = 10 → 0 ≤ a ∧ a < rs.length) :
  Calls Try.prog 128 #[.agg #[.int .i64 op, .int .i64 a, .int .i64 b, .int .i64 c, .int .i64 d], v, .int .i64 (k : Int)] w fun e w' => e = .returned (.int .i64 (mov ⟨op, a, b, c, d⟩ rs k)) ∧ Below w.heap.size w w' := by
 have hbx := bal (Bs w) (.cells #[.int .i64 op, .int .i64 a, .int .i64 b, .int .i64 c, .int .i64 d] 32)
 obtain ⟨_, hn, aa, cap, b', off, rfl, hcap, ha, hca⟩ := hv
 by_cases h8 : op = 8
 ·have HM : Hid (mov ⟨op, a, b, c, d⟩ rs k = a) := Lib.hid (by unfold mov; rw [if_pos h8])
  subst h8
  clear h9 ha hca
  go_enter Try.func128, Try.ntmps128
  go_wp2
  go_ret
  exact ⟨ret_int HM.out.symm, hbx⟩
 have e8 : (op == 8) = false := by simp [h8]
 by_cases h9' : op = 9 ∨ op = 10
 ·obtain ⟨p1, p2⟩ := h9 h9'
  obtain ⟨na, rfl⟩ : ∃ n : Nat, a = n := ⟨a.toNat, by omega⟩
  obtain ⟨rfl, hbs⟩ := ha (by omega)
  have hna : na < rs.length := by omega
  have hc := hca na (by rw [ints_length]; exact hna)
  rw [ints_get] at hc
  have hgi : gi rs na = rs[na] := by unfold gi; rw [Int.toNat_natCast, List.getElem?_eq_getElem hna]; rfl
  rw [← hgi] at hc
  have kc := Lc hc
  have hc2 := Ac hc (.cells #[.int .i64 op, .int .i64 (na : Int), .int .i64 b, .int .i64 c, .int .i64 d] 32)
  have hM : mov ⟨op, (na : Int), b, c, d⟩ rs k = if op = 9 then (if gi rs na = 0 then b else (k : Int) + 1) else (if gi rs na ≠ 0 then b else (k : Int) + 1) := by
   unfold mov; rw [if_neg h8]; simp only
   rcases h9' with rfl | rfl <;> simp
  have HM := Lib.hid hM
  generalize mov ⟨op, (na : Int), b, c, d⟩ rs k = z at *
  generalize gi rs na = y at *
  clear hM hgi hca ha h9
  rcases h9' with rfl | rfl
  ·by_cases hy : y = 0
   ·have HZ : Hid (z = b) := Lib.hid (by rw [HM.out, if_pos rfl, if_pos hy])
    subst hy
    clear HM
    go_enter Try.func128, Try.ntmps128
    go_wp2
    go_ret
    exact ⟨ret_int HZ.out.symm, hbx⟩
   ·have HZ : Hid (z = (k : Int) + 1) := Lib.hid (by rw [HM.out, if_pos rfl, if_neg hy])
    have e9 : (y == 0) = false := by simp [hy]
    clear HM hy
    go_enter Try.func128, Try.ntmps128
    go_wp2
    go_ret
    exact ⟨ret_int HZ.out.symm, hbx⟩
  ·by_cases hy : y = 0
   ·have HZ : Hid (z = (k : Int) + 1) := Lib.hid (by rw [HM.out, if_neg (by decide), if_neg (fun h => h hy)])
    subst hy
    clear HM
    go_enter Try.func128, Try.ntmps128
    go_wp2
    go_ret
    exact ⟨ret_int HZ.out.symm, hbx⟩
   ·have HZ : Hid (z = b) := Lib.hid (by rw [HM.out, if_neg (by decide), if_pos hy])
    have e9 : (y != 0) = true := by simp [hy]
    clear HM hy
    go_enter Try.func128, Try.ntmps128
    go_wp2
    go_ret
    exact ⟨ret_int HZ.out.symm, hbx⟩
 ·have e9 : (op == 9) = false := by simp; omega
  have e10 : (op == 10) = false := by simp; omega
  by_cases h13 : op = 13
  ·have HM : Hid (mov ⟨op, a, b, c, d⟩ rs k = k) := Lib.hid (by unfold mov; rw [if_neg h8, if_neg (by simp only; omega), if_neg (by simp only; omega), if_pos h13])
   subst h13
   clear h9 ha hca h9'
   go_enter Try.func128, Try.ntmps128
   go_wp2
   go_ret
   exact ⟨ret_int HM.out.symm, hbx⟩
  ·have HM : Hid (mov ⟨op, a, b, c, d⟩ rs k = (k : Int) + 1) := Lib.hid (by unfold mov; rw [if_neg h8, if_neg (by simp only; omega), if_neg (by simp only; omega), if_neg h13])
   have e13 : (op == 13) = false := by simp [h13]
   clear h9 ha hca h9' h13 h8
   go_enter Try.func128, Try.ntmps128
   go_wp2
   go_ret
   exact ⟨ret_int HM.out.symm, hbx⟩

section
variable {S : Nat → Prop} {w W : World} {base b tb : Nat} {vr vv va u : Value} {us : List Value} {rs : List Int} {m : Mm} {E : List Ev} {pc : Int}
/-- the counter is stored, and the state's value in the result's box R -/
theorem StepW.ret4 (h : StepW S w W base b vr vv va us rs m tb u E pc) (p : Int) (R : Nat) (hR : w.heap.size ≤ R) (hRm : ¬ OwnMB vr vv va us R) (hRe : ¬ u.ownBlock = some R) (x0 x1 x2 x3 : Value) :
  OwnMv (((((W.setCell ⟨b, 0, none⟩ (.int .i64 p)).setCell ⟨R, 0, none⟩ x0).setCell ⟨R, 1, none⟩ x1).setCell ⟨R, 2, none⟩ x2).setCell ⟨R, 3, none⟩ x3) base vr vv va us rs m ∧
  (((((W.setCell ⟨b, 0, none⟩ (.int .i64 p)).setCell ⟨R, 0, none⟩ x0).setCell ⟨R, 1, none⟩ x1).setCell ⟨R, 2, none⟩ x2).setCell ⟨R, 3, none⟩ x3).ownsRow tb 47 2 u E.length (evs E) ∧
  Chg S w (((((W.setCell ⟨b, 0, none⟩ (.int .i64 p)).setCell ⟨R, 0, none⟩ x0).setCell ⟨R, 1, none⟩ x1).setCell ⟨R, 2, none⟩ x2).setCell ⟨R, 3, none⟩ x3) := by
 obtain ⟨f1, f2, f3⟩ := h.fin p
 refine ⟨(((f2.own.far R 0 x0 hRm).far R 1 x1 hRm).far R 2 x2 hRm).far R 3 x3 hRm, Oe (Oe (Oe (Oe f1 R 0 hRe x0) R 1 hRe x1) R 2 hRe x2) R 3 hRe x3, ?_⟩
 exact (((f3.setNew R 0 x0 (Or.inr hR)).setNew R 1 x1 (Or.inr hR)).setNew R 2 x2 (Or.inr hR)).setNew R 3 x3 (Or.inr hR)
/-- the cells of the result's box -/
theorem cells4 {W : World} {b R : Nat} {y z0 z1 z2 z3 : Value} (hn : ¬ R = b) (h0 : W.cell? ⟨R, 0, none⟩ = some z0) (h1 : W.cell? ⟨R, 1, none⟩ = some z1) (h2 : W.cell? ⟨R, 2, none⟩ = some z2) (h3 : W.cell? ⟨R, 3, none⟩ = some z3) (x0 x1 x2 x3 : Value) :
  (((((W.setCell ⟨b, 0, none⟩ y).setCell ⟨R, 0, none⟩ x0).setCell ⟨R, 1, none⟩ x1).setCell ⟨R, 2, none⟩ x2).setCell ⟨R, 3, none⟩ x3).cell? ⟨R, 0, none⟩ = some x0 ∧
  (((((W.setCell ⟨b, 0, none⟩ y).setCell ⟨R, 0, none⟩ x0).setCell ⟨R, 1, none⟩ x1).setCell ⟨R, 2, none⟩ x2).setCell ⟨R, 3, none⟩ x3).cell? ⟨R, 1, none⟩ = some x1 ∧
  (((((W.setCell ⟨b, 0, none⟩ y).setCell ⟨R, 0, none⟩ x0).setCell ⟨R, 1, none⟩ x1).setCell ⟨R, 2, none⟩ x2).setCell ⟨R, 3, none⟩ x3).cell? ⟨R, 2, none⟩ = some x2 ∧
  (((((W.setCell ⟨b, 0, none⟩ y).setCell ⟨R, 0, none⟩ x0).setCell ⟨R, 1, none⟩ x1).setCell ⟨R, 2, none⟩ x2).setCell ⟨R, 3, none⟩ x3).cell? ⟨R, 3, none⟩ = some x3 := by
 have g0 := Nc (b := b) (j := 0) h0 (fun e => hn e.1) y
 have g1 := Nc (b := b) (j := 0) h1 (fun e => hn e.1) y
 have g2 := Nc (b := b) (j := 0) h2 (fun e => hn e.1) y
 have g3 := Nc (b := b) (j := 0) h3 (fun e => hn e.1) y
 refine ⟨?_, ?_, ?_, ?_⟩
 ·exact Nc (Nc (Nc (Tc _ R 0 x0 g0) (by simp) x1) (by simp) x2) (by simp) x3
 ·exact Nc (Nc (Tc _ R 1 x1 (Nc g1 (by simp) x0)) (by simp) x2) (by simp) x3
 ·exact Nc (Tc _ R 2 x2 (Nc (Nc g2 (by simp) x0) (by simp) x1)) (by simp) x3
 ·exact Tc _ R 3 x3 (Nc (Nc (Nc g3 (by simp) x0) (by simp) x1) (by simp) x2)
end
end Go.Proofs.Ytkjedgnepnbkpaa
