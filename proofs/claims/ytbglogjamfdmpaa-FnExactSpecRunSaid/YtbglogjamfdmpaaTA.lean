/-
  Parts of the proof of the law FnExactSpecRun.
-/
import Derived.Test.YtbglogjamfdmpaaNI
import Derived.Test.YtbglogjamfdmpaaRW
import Derived.Test.YtbglogjamfdmpaaRows
import Derived.Test.YtbglogjamfdmpaaSC
namespace Go.Proofs.Ytbglogjamfdmpaa
open Go.RowKit

def tgt (x : Ins) : Int := if x.op = 8 then x.a else if x.op = 9 ∨ x.op = 10 then x.b else -1
/-- an instruction whose target is another -/
def aim (x : Ins) (t : Int) : Ins := if x.op = 8 then { x with a := t } else if x.op = 9 ∨ x.op = 10 then { x with b := t } else x
theorem tgt_cases (x : Ins) : (x.op = 8 ∧ tgt x = x.a ∧ ∀ t, aim x t = { x with a := t }) ∨ (x.op = 9 ∧ tgt x = x.b ∧ ∀ t, aim x t = { x with b := t }) ∨ (x.op = 10 ∧ tgt x = x.b ∧ ∀ t, aim x t = { x with b := t }) ∨ ((¬ x.op = 8 ∧ ¬ x.op = 9 ∧ ¬ x.op = 10) ∧ tgt x = -1 ∧ ∀ t, aim x t = x) := by
  by_cases h8 : x.op = 8
  · refine Or.inl ⟨h8, ?_, fun t => ?_⟩
    · unfold tgt; rw [if_pos h8]
    · unfold aim; rw [if_pos h8]
  by_cases h9 : x.op = 9
  · refine Or.inr (Or.inl ⟨h9, ?_, fun t => ?_⟩)
    · unfold tgt; rw [if_neg h8, if_pos (Or.inl h9)]
    · unfold aim; rw [if_neg h8, if_pos (Or.inl h9)]
  by_cases h10 : x.op = 10
  · refine Or.inr (Or.inr (Or.inl ⟨h10, ?_, fun t => ?_⟩))
    · unfold tgt; rw [if_neg h8, if_pos (Or.inr h10)]
    · unfold aim; rw [if_neg h8, if_pos (Or.inr h10)]
  · refine Or.inr (Or.inr (Or.inr ⟨⟨h8, h9, h10⟩, ?_, fun t => ?_⟩))
    · unfold tgt; rw [if_neg h8, if_neg (by omega)]
    · unfold aim; rw [if_neg h8, if_neg (by omega)]

set_option maxHeartbeats 1600000 in
theorem target_any (x : Ins) (w : World) :
    Calls Try.prog 85 #[.agg #[.int .i64 x.op, .int .i64 x.a, .int .i64 x.b, .int .i64 x.c, .int .i64 x.d]] w fun e w' => e = .returned (.int .i64 (tgt x)) ∧ Below w.heap.size w w' := by
  have hbx := bal (bself w) (.cells #[.int .i64 x.op, .int .i64 x.a, .int .i64 x.b, .int .i64 x.c, .int .i64 x.d] 92)
  obtain ⟨op, a, b, c, d⟩ := x
  rcases tgt_cases ⟨op, a, b, c, d⟩ with ⟨h, ht, _⟩ | ⟨h, ht, _⟩ | ⟨h, ht, _⟩ | ⟨⟨h1, h2, h3⟩, ht, _⟩
  · rw [ht]
    simp only at h ⊢ hbx
    subst h
    clear ht
    go_enter Try.func85, Try.ntmps85
    go_wp2
    go_ret
    exact ⟨rfl, hbx⟩
  · rw [ht]
    simp only at h ⊢ hbx
    subst h
    clear ht
    go_enter Try.func85, Try.ntmps85
    go_wp2
    go_ret
    exact ⟨rfl, hbx⟩
  · rw [ht]
    simp only at h ⊢ hbx
    subst h
    clear ht
    go_enter Try.func85, Try.ntmps85
    go_wp2
    go_ret
    exact ⟨rfl, hbx⟩
  · rw [ht]
    simp only at h1 h2 h3 ⊢ hbx
    have e1 : (op == 8) = false := by simp [h1]
    have e2 : (op == 9) = false := by simp [h2]
    have e3 : (op == 10) = false := by simp [h3]
    clear ht h1 h2 h3
    go_enter Try.func85, Try.ntmps85
    go_wp2
    go_ret
    exact ⟨rfl, hbx⟩
end Go.Proofs.Ytbglogjamfdmpaa
namespace Go.Proofs.Ytbglogjamfdmpaa
open Go.RowKit

/-- where a wrong prediction of a branch leads -/
def othPc (x : Ins) (pc p : Int) : Int := if p = pc + 1 then x.b else pc + 1
def othS (c : Cd) (s : Ms) : Ms := ⟨othPc (insAt c s.pc) s.pc (stPc (insAt c s.pc) s), (stp (insAt c s.pc) s).regs, (stp (insAt c s.pc) s).mem⟩
def wrAt (ws : List Bool) (n : Nat) : Bool := (ws[n]?).getD false
def spX (c : Cd) (ws : List Bool) (s : Ms) (n : Nat) : List Ev := if isBr (insAt c (stN c n s).pc).op = true then (if wrAt ws (brN c n s) = true then pathE c (othS c (stN c n s)) else []) else []
/-- the events of n steps with the wrong predictions' paths -/
def spN (c : Cd) (ws : List Bool) : Nat → Ms → List Ev
  | 0, _ => []
  | n + 1, s => (spN c ws n s ++ stEvs (insAt c (stN c n s).pc) (stN c n s)) ++ spX c ws s n
theorem spX_len (c : Cd) (ws : List Bool) (s : Ms) (n : Nat) : (spX c ws s n).length ≤ 8 := by
  unfold spX
  split
  · split
    · exact pathE_len _ _
    · simp
  · simp
theorem spN_len (c : Cd) (ws : List Bool) (s : Ms) (n : Nat) : (spN c ws n s).length ≤ 10 * n := by
  induction n with
  | zero => simp [spN]
  | succ n ih =>
    have h1 := (stEvs_len (insAt c (stN c n s).pc) (stN c n s)).1
    have h2 := spX_len c ws s n
    simp only [spN, List.length_append]
    omega
theorem mem_small {c : Cd} {s : Ms} (hok : codeOk c = true) (h : MsOk c s) : s.regs.length ≤ 1048576 ∧ s.mem.vals.length ≤ 1048576 ∧ s.mem.arrs.length ≤ 1048576 ∧ pre2 s.mem.arrs s.mem.arrs.length ≤ 1048576 := by
  obtain ⟨m1, m2, _, m4⟩ := memOk_parts h.mem
  obtain ⟨d1, d2⟩ := declOk_len (codeOk_decl hok)
  refine ⟨by rw [h.regs]; omega, by omega, by omega, ?_⟩
  have hp : ∀ (rs : List (List Int)), (∀ a ∈ rs, a.length = 4) → ∀ k, k ≤ rs.length → pre2 rs k ≤ 4 * k := by
    intro rs hr k
    induction k with
    | zero => intro _; simp [pre2]
    | succ k ih =>
      intro hk
      rw [pre2_succ rs k (by omega)]
      have h1 := ih (by omega)
      have h2 := hr (rs[k]'(by omega)) (List.getElem_mem _)
      omega
  have := hp s.mem.arrs (fun a ha => (m4 a ha).1) s.mem.arrs.length (Nat.le_refl _)
  omega
theorem oth_ok {c : Cd} {s : Ms} (hok : codeOk c = true) (h : MsOk c s) (hb : isBr (insAt c s.pc).op = true) : MsOk c (othS c s) := by
  have h1 := stp_ok hok h
  have hp0 := h.pc0; have hp1 := h.pc1
  obtain ⟨k, hk⟩ : ∃ k : Nat, s.pc = k := ⟨s.pc.toNat, by omega⟩
  have hkl : k < c.list.length := by omega
  have hat : insAt c s.pc = c.list[k] := by unfold insAt; rw [hk, Int.toNat_natCast, List.getElem?_eq_getElem hkl]; rfl
  have hi := codeOk_all hok k hkl
  obtain ⟨hl, hlast⟩ := codeOk_last hok
  have hbb : (insAt c s.pc).op = 9 ∨ (insAt c s.pc).op = 10 := by
    unfold isBr at hb; simpa using hb
  have hn : s.pc + 1 < (c.list.length : Int) := by
    by_cases e : k = c.list.length - 1
    · subst e
      rw [hat] at hbb
      rcases hlast with h3 | h3 <;> rcases hbb with h4 | h4 <;> rw [h3] at h4 <;> omega
    · omega
  have hB : 0 ≤ (insAt c s.pc).b ∧ (insAt c s.pc).b < (c.list.length : Int) := by
    rw [hat] at hbb ⊢
    generalize c.list[k] = x at *
    obtain ⟨op, a, b, d, f⟩ := x
    obtain ⟨_, _, _, _, _, _, _, _, P9, P10, _⟩ := ins_parts hi
    rcases hbb with h3 | h3
    · exact (P9 h3).2
    · exact (P10 h3).2
  refine ⟨?_, ?_, h1.regs, h1.rv, h1.mem⟩
  · show 0 ≤ othPc _ _ _
    unfold othPc; split <;> omega
  · show othPc _ _ _ < _
    unfold othPc; split <;> omega
/-- the reference's way to say it -/
theorem oth_spec {c : Cd} {s : Ms} (hb : isBr (insAt c s.pc).op = true) : (if stPc (insAt c s.pc) s = (insAt c s.pc).b then s.pc + 1 else (insAt c s.pc).b) = othPc (insAt c s.pc) s.pc (stPc (insAt c s.pc) s) := by
  have hbb : (insAt c s.pc).op = 9 ∨ (insAt c s.pc).op = 10 := by
    unfold isBr at hb; simpa using hb
  have h2 : stPc (insAt c s.pc) s = s.pc + 1 ∨ stPc (insAt c s.pc) s = (insAt c s.pc).b := by
    unfold stPc
    rcases hbb with h | h <;> simp only [h] <;> simp <;> omega
  unfold othPc
  rcases h2 with h | h
  · rw [h, if_pos rfl]; split <;> omega
  · rw [h, if_pos rfl]; split <;> omega
theorem tgt_br {x : Ins} (h : isBr x.op = true) : tgt x = x.b := by
  have hbb : x.op = 9 ∨ x.op = 10 := by unfold isBr at h; simpa using h
  unfold tgt
  rcases hbb with h | h <;> simp [h]
theorem chg_then {S T : Nat → Prop} {w W W' : World} (h : Chg S w W) (k : Chg T W W') (hs : ∀ q, q < w.heap.size → T q → S q) : Chg S w W' :=
  ⟨k.os.trans h.os, k.tape.trans h.tape, k.output.trans h.output, Nat.le_trans h.size k.size, fun q hq hn => (k.block q (Nat.lt_of_lt_of_le hq h.size) (fun h2 => hn (hs q hq h2))).trans (h.block q hq hn)⟩
/-- what a wrong prediction behind a step adds -/
def srX (c : Cd) (ws : List Bool) (s : Ms) (n : Nat) : List Ev := if isBr (insAt c s.pc).op = true then (if wrAt ws n = true then pathE c (othS c s) else []) else []
theorem srX_no {c : Cd} {ws : List Bool} {s : Ms} {n : Nat} (h : isBr (insAt c s.pc).op = false) : srX c ws s n = [] := by unfold srX; rw [h]; rfl
theorem srX_right {c : Cd} {ws : List Bool} {s : Ms} {n : Nat} (h : isBr (insAt c s.pc).op = true) (h2 : wrAt ws n = false) : srX c ws s n = [] := by unfold srX; rw [h, h2]; rfl
theorem srX_wrong {c : Cd} {ws : List Bool} {s : Ms} {n : Nat} (h : isBr (insAt c s.pc).op = true) (h2 : wrAt ws n = true) : srX c ws s n = pathE c (othS c s) := by unfold srX; rw [h, h2]; rfl
theorem wr_out {ws : List Bool} {n : Nat} (h : ¬ n < ws.length) : wrAt ws n = false := by unfold wrAt; rw [List.getElem?_eq_none (by omega)]; rfl
theorem reads_wr {w : World} {aw : Option Addr} {cw n : Nat} {ws : List Bool} (h : Reads w 1 (.slice aw ws.length cw) ws.length (bools ws)) (hn : n < ws.length) : ∃ bw ow, aw = some ⟨bw, ow, none⟩ ∧ w.cell? ⟨bw, ow + n, none⟩ = some (.bool (wrAt ws n)) := by
  obtain ⟨_, _, a, cap, b, off, hv, _, ha, hc⟩ := h
  obtain ⟨rfl, _⟩ := ha (by omega)
  simp only [Value.slice.injEq, true_and] at hv
  refine ⟨b, off, hv.1, ?_⟩
  have h1 := hc n (by rw [bools_length]; exact hn)
  rw [h1, bools_get]
  unfold wrAt
  rw [List.getElem?_eq_getElem hn]; rfl
theorem own_readsS {w : World} {base : Nat} {vr vv va : Value} {us : List Value} {s : Ms} (h : OwnMv w base vr vv va us s.regs s.mem) (h0 : s.regs.length ≤ 1048576) (hl : s.mem.vals.length ≤ 1048576) (hn : s.mem.arrs.length ≤ 1048576) (hp : pre2 s.mem.arrs s.mem.arrs.length ≤ 1048576) : ReadsS w vr vv va s :=
  ⟨reads_of_owns h.r (by omega), h.toM.reads hl hn hp⟩
/-- the result of a run with wrong predictions -/
def srE (c : Cd) (m : Mm) (ws : List Bool) : List Ev := match finN c m with | some n => spN c ws (n + 1) (ini m) | none => []
theorem sr_no {c : Cd} {m : Mm} {ws : List Bool} (h : finN c m = none) : srE c m ws = [] ∧ runM c m = ⟨[], []⟩ ∧ runB c m = false := ⟨by unfold srE; rw [h], (run_no h).2⟩
theorem sr_yes {c : Cd} {m : Mm} {ws : List Bool} {n : Nat} (h : finN c m = some n) : srE c m ws = spN c ws (n + 1) (ini m) ∧ runM c m = (stN c (n + 1) (ini m)).mem ∧ runB c m = true := ⟨by unfold srE; rw [h], (run_yes h).2⟩
theorem srE_len (c : Cd) (m : Mm) (ws : List Bool) : (srE c m ws).length ≤ 200000 := by
  cases h : finN c m with
  | none => rw [(sr_no h).1]; simp
  | some n => rw [(sr_yes h).1]; have := spN_len c ws (ini m) (n + 1); have := finN_lt h; omega
end Go.Proofs.Ytbglogjamfdmpaa
