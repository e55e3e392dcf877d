/-
  Parts of the proof of the law FnExactSpecRun.
-/
import Derived.Test.YtbglogjamfdmpaaRows
import Derived.Test.YtbglogjamfdmpaaXE
import Derived.Test.YtbglogjamfdmpaaXF
namespace Go.Proofs.Ytbglogjamfdmpaa
open Go.RowKit

/-- what the closure keeps: the trace and the count, and what it reads -/
structure SI (W : World) (Bo Bc X Wb tb : Nat) (va vb vc : Value) (aw : Option Addr) (cw : Nat) (c : Cd) (ws : List Bool) (s : Ms) (n : Nat) : Prop where
  o : ∃ v, W.cell? ⟨Bo, 0, none⟩ = some v ∧ W.ownsRow tb 89 2 v (spN c ws n s).length (evs (spN c ws n s))
  of : W.frozen? ⟨Bo, 0, none⟩ = false
  c0 : W.cell? ⟨Bc, 0, none⟩ = some (.int .i64 (brN c n s))
  cf : W.frozen? ⟨Bc, 0, none⟩ = false
  x : W.cell? ⟨X, 0, none⟩ = some va ∧ W.cell? ⟨X, 1, none⟩ = some vb ∧ W.cell? ⟨X, 2, none⟩ = some vc
  w0 : W.cell? ⟨Wb, 0, none⟩ = some (.slice aw ws.length cw)
  ws : Reads W 1 (.slice aw ws.length cw) ws.length (bools ws)
theorem SI.keep {W W' : World} {Bo Bc X Wb tb : Nat} {va vb vc : Value} {aw : Option Addr} {cw : Nat} {c : Cd} {ws : List Bool} {s : Ms} {n : Nat} (h : SI W Bo Bc X Wb tb va vb vc aw cw c ws s n) {S : Nat → Prop} (hC : Chg S W W')
    (h1 : ¬ S Bo) (h2 : ¬ S Bc) (h3 : ¬ S X) (h4 : ¬ S Wb) (h5 : ∀ q, tb ≤ q → ¬ S q) (h6 : ∀ g o cc, 0 < ws.length → Value.slice aw ws.length cw = .slice (some ⟨g, o, none⟩) ws.length cc → ¬ S g) : SI W' Bo Bc X Wb tb va vb vc aw cw c ws s n := by
  obtain ⟨v, o1, o2⟩ := h.o
  exact ⟨⟨v, chg_cell hC o1 h1, own_keep o2 hC (fun q hq => h5 q (o2.lt q hq).1)⟩, chg_froz hC (lt_of_cell o1) h.of h1, chg_cell hC h.c0 h2, chg_froz hC (lt_of_cell h.c0) h.cf h2, ⟨chg_cell hC h.x.1 h3, chg_cell hC h.x.2.1 h3, chg_cell hC h.x.2.2 h3⟩, chg_cell hC h.w0 h4, h.ws.keep hC h6⟩
theorem sr1_call (args : Array Value) (W : World) : (callFunc 84 args).run Try.prog W = .ok (.enter 84 args) W := by kernel_rfl
theorem sr_step (Bo Bc X Wb b base tb cw : Nat) (aw : Option Addr) (u va vb vc vr vx vy : Value) (us : List Value) (ws : List Bool) (c : Cd) (s : Ms) (n : Nat) (W : World) (hI : SI W Bo Bc X Wb tb va vb vc aw cw c ws s n)
    (hu : W.ownsRow tb 89 2 u (stEvs (insAt c (stN c n s).pc) (stN c n s)).length (evs (stEvs (insAt c (stN c n s).pc) (stN c n s)))) (hr : ReadsC W va vb vc c) (hS : OwnS W base b vr vx vy us (stN c (n + 1) s)) (hM : MsOk c (stN c n s)) (hok : codeOk c = true) (hn : n < 20000)
    (hlow : Bo < tb ∧ Bc < tb ∧ X < tb ∧ Wb < tb ∧ b < tb ∧ tb ≤ W.heap.size) (hne : Bo ≠ Bc ∧ X ≠ Bo ∧ X ≠ Bc ∧ Wb ≠ Bo ∧ Wb ≠ Bc ∧ b ≠ Bo ∧ b ≠ Bc)
    (hRB : ∀ q, ReadB va vb vc c q → q < tb ∧ q ≠ Bo ∧ q ≠ Bc) (hMB : ∀ q, OwnMB vr vx vy us q → q < tb ∧ q ≠ Bo ∧ q ≠ Bc) (hbw : ∀ g o cc, 0 < ws.length → Value.slice aw ws.length cw = .slice (some ⟨g, o, none⟩) ws.length cc → g < tb ∧ g ≠ Bo ∧ g ≠ Bc) :
    Calls Try.prog 84 #[.int .i64 (stN c n s).pc, u, .pointer (some ⟨Bo, 0, none⟩), .pointer (some ⟨X, 0, none⟩), .pointer (some ⟨Bc, 0, none⟩), .pointer (some ⟨Wb, 0, none⟩), .pointer (some ⟨b, 0, none⟩)] W fun e W' => e = .returned (.tuple #[]) ∧ SI W' Bo Bc X Wb tb va vb vc aw cw c ws s (n + 1) ∧ Chg (fun q => (q = Bo ∨ q = Bc) ∨ tb ≤ q) W W' := by
  obtain ⟨k, hk⟩ : ∃ k : Nat, (stN c n s).pc = k := ⟨(stN c n s).pc.toNat, by have := hM.pc0; omega⟩
  obtain ⟨v, o1, o2⟩ := hI.o
  have l1 := spN_len c ws s n
  have l2 := (stEvs_len (insAt c (stN c n s).pc) (stN c n s)).1
  have l3 := brN_le c s n
  obtain ⟨n1, n2, n3, n4, n5, n6, n7⟩ := hne
  obtain ⟨g1, g2, g3, g4, g5, g6⟩ := hlow
  have h := sr1_any Bo Bc X Wb b base tb cw k (brN c n s) aw v u va vb vc vr vx vy us (spN c ws n s) (stEvs (insAt c (stN c n s).pc) (stN c n s)) ws c (stN c n s) W o1 hI.of o2 (reads_of_owns hu (by omega)) hI.x hr hI.c0 hI.cf hI.w0 hI.ws hS hM hk hok (by omega) (by omega) ⟨g1, g2, g3, g4, g5, g6⟩ ⟨n1, n2, n3, n4, n5, n6, n7⟩ hRB hMB hbw
  rw [← hk] at h
  refine h.mono ?_
  rintro e W' ⟨he, v', c1, c2, c3, c4, c5, hC⟩
  refine ⟨he, ⟨⟨v', c1, c3⟩, c2, ?_, c5, ⟨chg_cell hC hI.x.1 ?_, chg_cell hC hI.x.2.1 ?_, chg_cell hC hI.x.2.2 ?_⟩, chg_cell hC hI.w0 ?_, hI.ws.keep hC ?_⟩, hC.mono (fun q _ h => by rcases h with h | h | h; exact Or.inl (Or.inl h); exact Or.inl (Or.inr h); exact Or.inr h)⟩
  · rw [brN_succ]; exact c4
  · rintro (h | h | h) <;> omega
  · rintro (h | h | h) <;> omega
  · rintro (h | h | h) <;> omega
  · rintro (h | h | h) <;> omega
  · intro g o cc h0 hv h
    have := hbw g o cc h0 hv
    rcases h with h | h | h <;> omega

set_option maxHeartbeats 12800000 in
set_option maxRecDepth 100000 in
theorem iSpecRun_any (va vb vc vx vy : Value) (c : Cd) (m : Mm) (w : World) (hr : ReadsC w va vb vc c) (hm : ReadsM w vx vy m) (hl : m.vals.length ≤ 1048576) (hn : m.arrs.length ≤ 1048576) (hp : pre2 m.arrs m.arrs.length ≤ 1048576) (aw : Option Addr) (cw : Nat) (ws : List Bool) (hws : Reads w 1 (.slice aw ws.length cw) ws.length (bools ws)) :
    Calls Try.prog 33 #[.agg #[va, vb, vc], .agg #[vx, vy], .slice aw ws.length cw] w fun e w' => ∃ ux uy us u, e = .returned (.tuple #[.agg #[ux, uy], u, .bool (runB c m)]) ∧ OwnM w' w.heap.size ux uy us (runM c m) ∧ w'.ownsRow w.heap.size 89 2 u (srE c m ws).length (evs (srE c m ws)) ∧ Below w.heap.size w w' := by
  obtain ⟨a0, c0, a1, c1, a2, c2, rfl, rfl, rfl⟩ := hr.shape
  obtain ⟨a3, c3, a4, c4, rfl, rfl⟩ := hm.shape
  have ivr := hr.lt
  have hww : ∀ g o cc, 0 < ws.length → Value.slice aw ws.length cw = .slice (some ⟨g, o, none⟩) ws.length cc → g < w.heap.size := fun g o cc h h2 => reads_lt hws g o cc h h2
  have HWW := Lib.hid hww; clear hww
  have HR := Lib.hid (fun W (hW : Below w.heap.size w W) => hr.below hW)
  have HWS := Lib.hid (fun W (hW : Below w.heap.size w W) => hws.below hW)
  have HST := Lib.hid (fun W (hW : Below w.heap.size w W) => iStart_any _ _ _ _ _ c m W (hr.below hW) (hm.below hW).x (hm.below hW).y hl hn hp)
  have HIV := Lib.hid ivr
  clear hr hm hl hn hp hws ivr
  cases hg : goOk c m with
  | false =>
    have HF := Lib.hid (sr_no (ws := ws) (finN_no hg))
    have HST2 := Lib.hid (fun W hW => by have h := HST.out W hW; rw [hg] at h; exact h)
    clear HST hg HR HWS HWW HIV
    generalize srE c m ws = RE at *; generalize runM c m = RM at *; generalize runB c m = RB at *
    go_enter Try.func33, Try.ntmps33
    go_wp2_with fail
    refine (HST2.out _ (bal (bal (bal (bal (bself w) (.cells #[.slice a0 c.vars.length c0, .slice a1 c.arrays.length c1, .slice a2 c.list.length c2] 35)) (.cells #[.slice a3 m.vals.length c3, .slice a4 m.arrs.length c4] 37)) (.cells #[.slice aw ws.length cw] 57)) (.cells #[.slice none 0 0, .slice none 0 0] 37))).mono ?_
    rintro e w1 ⟨p0, n0', t0, p1, n1', t1, p2, n2', t2, rfl, hO, hb⟩
    have hsz1 := hb.size
    simp only [World.size_alloc] at hsz1
    have bx2 : w1.cell? ⟨w.heap.size, 0, none⟩ = some (.slice a0 c.vars.length c0) := kept_cell hb (cell_al (cell_al (cell_al (cell_nw (by simp) (by rfl)) _) _) _)
    have bx3 : w1.cell? ⟨w.heap.size, 1, none⟩ = some (.slice a1 c.arrays.length c1) := kept_cell hb (cell_al (cell_al (cell_al (cell_nw (by simp) (by rfl)) _) _) _)
    have bx4 : w1.cell? ⟨w.heap.size, 2, none⟩ = some (.slice a2 c.list.length c2) := kept_cell hb (cell_al (cell_al (cell_al (cell_nw (by simp) (by rfl)) _) _) _)
    have bx5 : w1.cell? ⟨w.heap.size + 1, 0, none⟩ = some (.slice a3 m.vals.length c3) := kept_cell hb (cell_al (cell_al (cell_nw (by simp) (by rfl)) _) _)
    have bx6 : w1.cell? ⟨w.heap.size + 1, 1, none⟩ = some (.slice a4 m.arrs.length c4) := kept_cell hb (cell_al (cell_al (cell_nw (by simp) (by rfl)) _) _)
    have bx7 : w1.cell? ⟨w.heap.size + 1 + 1, 0, none⟩ = some (.slice aw ws.length cw) := kept_cell hb (cell_al (cell_nw (by simp) (by rfl)) _)
    have bx8 : w1.cell? ⟨w.heap.size + 1 + 1 + 1, 0, none⟩ = some (.slice none 0 0) := kept_cell hb (cell_nw (by simp) (by rfl))
    have bf9 : w1.frozen? ⟨w.heap.size + 1 + 1 + 1, 0, none⟩ = false := kept_froz hb (by simp <;> omega) (froz_nw (by simp))
    have bx10 : w1.cell? ⟨w.heap.size + 1 + 1 + 1, 1, none⟩ = some (.slice none 0 0) := kept_cell hb (cell_nw (by simp) (by rfl))
    have bf11 : w1.frozen? ⟨w.heap.size + 1 + 1 + 1, 1, none⟩ = false := kept_froz hb (by simp <;> omega) (froz_nw (by simp))
    have tot := btr (bal (bal (bal (bal (bself w) (.cells #[.slice a0 c.vars.length c0, .slice a1 c.arrays.length c1, .slice a2 c.list.length c2] 35)) (.cells #[.slice a3 m.vals.length c3, .slice a4 m.arrs.length c4] 37)) (.cells #[.slice aw ws.length cw] 57)) (.cells #[.slice none 0 0, .slice none 0 0] 37)) hb
    clear hb
    clear bx5 bx6
    have lt12 := lt_of_cell bx2
    have lt13 := lt_of_cell bx7
    have lt14 := lt_of_cell bx8
    have x15 := (cell_al (cell_ne (b := (w.heap.size + 1 + 1 + 1)) (j := 1) (cell_at _ (w.heap.size + 1 + 1 + 1) 0 (.slice none 0 0) bx8) (by omega) (.slice none 0 0)) (.cells #[.int .i64 0, .slice p0 (n0') t0, .slice p1 (n1') t1, .slice p2 (n2') t2] 49))
    have x16 := (cell_al (cell_at _ (w.heap.size + 1 + 1 + 1) 1 (.slice none 0 0) (cell_ne (b := (w.heap.size + 1 + 1 + 1)) (j := 0) bx10 (by omega) (.slice none 0 0))) (.cells #[.int .i64 0, .slice p0 (n0') t0, .slice p1 (n1') t1, .slice p2 (n2') t2] 49))
    have tt := (bal (bst (bst tot (w.heap.size + 1 + 1 + 1) 0 (by omega) (.slice none 0 0)) (w.heap.size + 1 + 1 + 1) 1 (by omega) (.slice none 0 0)) (.cells #[.int .i64 0, .slice p0 (n0') t0, .slice p1 (n1') t1, .slice p2 (n2') t2] 49))
    go_wp2
    exact bodyPost_ret (v := .tuple #[.agg #[.slice none 0 0, .slice none 0 0], .slice none 0 0, .bool false]) (by simp [results, Try.results33, go_sem, x15, x16]) rfl (by exact by rw [HF.out.1, HF.out.2.1, HF.out.2.2]; exact ⟨_, _, [], _, rfl, noMem_own _ _, World.ownsRow_nil _ _ _ _, tt⟩)
  | true =>
    have HST2 := Lib.hid (fun W hW => by have h := HST.out W hW; rw [hg] at h; exact h)
    have HY := Lib.hid (fun n (h : runR c (ini m) = some n) => sr_yes (ws := ws) ((finN_yes hg).trans h))
    have HN := Lib.hid (fun (h : runR c (ini m) = none) => sr_no (ws := ws) ((finN_yes hg).trans h))
    have HMS := Lib.hid (ini_ok hg); have HOK := Lib.hid (goOk_code hg)
    clear HST hg
    generalize srE c m ws = RE at *; generalize runM c m = RM at *; generalize runB c m = RB at *
    have HIR : Hid ((ini m).regs = reg0 ∧ (ini m).mem = m ∧ (ini m).pc = 0) := Lib.hid ⟨rfl, rfl, rfl⟩
    generalize ini m = s at *
    go_enter Try.func33, Try.ntmps33
    go_upto_region 1 with (fail)
    obtain ⟨w1, hnw⟩ : ∃ X, X = (World.alloc (World.alloc (World.alloc (World.alloc w (.cells #[.slice a0 c.vars.length c0, .slice a1 c.arrays.length c1, .slice a2 c.list.length c2] 35)) (.cells #[.slice a3 m.vals.length c3, .slice a4 m.arrs.length c4] 37)) (.cells #[.slice aw ws.length cw] 57)) (.cells #[.slice none 0 0, .slice none 0 0] 37)) := ⟨_, rfl⟩
    have hb : Below (World.alloc (World.alloc (World.alloc (World.alloc w (.cells #[.slice a0 c.vars.length c0, .slice a1 c.arrays.length c1, .slice a2 c.list.length c2] 35)) (.cells #[.slice a3 m.vals.length c3, .slice a4 m.arrs.length c4] 37)) (.cells #[.slice aw ws.length cw] 57)) (.cells #[.slice none 0 0, .slice none 0 0] 37)).heap.size (World.alloc (World.alloc (World.alloc (World.alloc w (.cells #[.slice a0 c.vars.length c0, .slice a1 c.arrays.length c1, .slice a2 c.list.length c2] 35)) (.cells #[.slice a3 m.vals.length c3, .slice a4 m.arrs.length c4] 37)) (.cells #[.slice aw ws.length cw] 57)) (.cells #[.slice none 0 0, .slice none 0 0] 37)) w1 := by rw [hnw]; exact bself _
    have hsz17 := hb.size
    simp only [World.size_alloc] at hsz17
    have bx18 : w1.cell? ⟨w.heap.size, 0, none⟩ = some (.slice a0 c.vars.length c0) := kept_cell hb (cell_al (cell_al (cell_al (cell_nw (by simp) (by rfl)) _) _) _)
    have bx19 : w1.cell? ⟨w.heap.size, 1, none⟩ = some (.slice a1 c.arrays.length c1) := kept_cell hb (cell_al (cell_al (cell_al (cell_nw (by simp) (by rfl)) _) _) _)
    have bx20 : w1.cell? ⟨w.heap.size, 2, none⟩ = some (.slice a2 c.list.length c2) := kept_cell hb (cell_al (cell_al (cell_al (cell_nw (by simp) (by rfl)) _) _) _)
    have bx21 : w1.cell? ⟨w.heap.size + 1, 0, none⟩ = some (.slice a3 m.vals.length c3) := kept_cell hb (cell_al (cell_al (cell_nw (by simp) (by rfl)) _) _)
    have bx22 : w1.cell? ⟨w.heap.size + 1, 1, none⟩ = some (.slice a4 m.arrs.length c4) := kept_cell hb (cell_al (cell_al (cell_nw (by simp) (by rfl)) _) _)
    have bx23 : w1.cell? ⟨w.heap.size + 1 + 1, 0, none⟩ = some (.slice aw ws.length cw) := kept_cell hb (cell_al (cell_nw (by simp) (by rfl)) _)
    have bx24 : w1.cell? ⟨w.heap.size + 1 + 1 + 1, 0, none⟩ = some (.slice none 0 0) := kept_cell hb (cell_nw (by simp) (by rfl))
    have bf25 : w1.frozen? ⟨w.heap.size + 1 + 1 + 1, 0, none⟩ = false := kept_froz hb (by simp <;> omega) (froz_nw (by simp))
    have bx26 : w1.cell? ⟨w.heap.size + 1 + 1 + 1, 1, none⟩ = some (.slice none 0 0) := kept_cell hb (cell_nw (by simp) (by rfl))
    have bf27 : w1.frozen? ⟨w.heap.size + 1 + 1 + 1, 1, none⟩ = false := kept_froz hb (by simp <;> omega) (froz_nw (by simp))
    have tot := btr (bal (bal (bal (bal (bself w) (.cells #[.slice a0 c.vars.length c0, .slice a1 c.arrays.length c1, .slice a2 c.list.length c2] 35)) (.cells #[.slice a3 m.vals.length c3, .slice a4 m.arrs.length c4] 37)) (.cells #[.slice aw ws.length cw] 57)) (.cells #[.slice none 0 0, .slice none 0 0] 37)) hb
    clear hb
    rw [← hnw]
    clear hnw
    have lt28 := lt_of_cell bx18
    have lt29 := lt_of_cell bx21
    have lt30 := lt_of_cell bx23
    have lt31 := lt_of_cell bx24
    go_wp2_with fail
    refine (HST2.out _ tot).mono ?_
    rintro e w2 ⟨p0, n0', t0, p1, n1', t1, p2, n2', t2, rfl, hO, hb⟩
    obtain ⟨us, OM⟩ := hO (by trivial)
    have hsz32 := hb.size
    replace bf25 := kept_froz hb (lt_of_cell bx24) bf25
    replace bf27 := kept_froz hb (lt_of_cell bx26) bf27
    replace bx18 : w2.cell? ⟨w.heap.size, 0, none⟩ = some (.slice a0 c.vars.length c0) := kept_cell hb bx18
    replace bx19 : w2.cell? ⟨w.heap.size, 1, none⟩ = some (.slice a1 c.arrays.length c1) := kept_cell hb bx19
    replace bx20 : w2.cell? ⟨w.heap.size, 2, none⟩ = some (.slice a2 c.list.length c2) := kept_cell hb bx20
    replace bx21 : w2.cell? ⟨w.heap.size + 1, 0, none⟩ = some (.slice a3 m.vals.length c3) := kept_cell hb bx21
    replace bx22 : w2.cell? ⟨w.heap.size + 1, 1, none⟩ = some (.slice a4 m.arrs.length c4) := kept_cell hb bx22
    replace bx23 : w2.cell? ⟨w.heap.size + 1 + 1, 0, none⟩ = some (.slice aw ws.length cw) := kept_cell hb bx23
    replace bx24 : w2.cell? ⟨w.heap.size + 1 + 1 + 1, 0, none⟩ = some (.slice none 0 0) := kept_cell hb bx24
    replace bx26 : w2.cell? ⟨w.heap.size + 1 + 1 + 1, 1, none⟩ = some (.slice none 0 0) := kept_cell hb bx26
    replace tot := btr tot hb
    clear hb
    clear bx21 bx22
    clear lt28 lt29 lt30 lt31
    have lt33 := lt_of_cell bx18
    have lt34 := lt_of_cell bx23
    have lt35 := lt_of_cell bx24
    have iM := OM.lt
    go_upto_region 6 with (fail)
    obtain ⟨w3, hnw⟩ : ∃ X, X = (World.alloc (World.alloc (World.alloc w2 (.cells #[.int .i64 0, .slice p0 (n0') t0, .slice p1 (n1') t1, .slice p2 (n2') t2] 49)) (.cells #[.slice none 0 0] 45)) (.cells #[.int .i64 0] 3)) := ⟨_, rfl⟩
    have hb : Below (World.alloc (World.alloc (World.alloc w2 (.cells #[.int .i64 0, .slice p0 (n0') t0, .slice p1 (n1') t1, .slice p2 (n2') t2] 49)) (.cells #[.slice none 0 0] 45)) (.cells #[.int .i64 0] 3)).heap.size (World.alloc (World.alloc (World.alloc w2 (.cells #[.int .i64 0, .slice p0 (n0') t0, .slice p1 (n1') t1, .slice p2 (n2') t2] 49)) (.cells #[.slice none 0 0] 45)) (.cells #[.int .i64 0] 3)) w3 := by rw [hnw]; exact bself _
    have hsz36 := hb.size
    simp only [World.size_alloc] at hsz36
    replace bf25 := kept_froz hb (lt_of_cell (cell_al (cell_al (cell_al bx24 (.cells #[.int .i64 0, .slice p0 (n0') t0, .slice p1 (n1') t1, .slice p2 (n2') t2] 49)) (.cells #[.slice none 0 0] 45)) (.cells #[.int .i64 0] 3))) (froz_al (lt_of_cell (cell_al (cell_al bx24 (.cells #[.int .i64 0, .slice p0 (n0') t0, .slice p1 (n1') t1, .slice p2 (n2') t2] 49)) (.cells #[.slice none 0 0] 45))) (froz_al (lt_of_cell (cell_al bx24 (.cells #[.int .i64 0, .slice p0 (n0') t0, .slice p1 (n1') t1, .slice p2 (n2') t2] 49))) (froz_al (lt_of_cell bx24) bf25 (.cells #[.int .i64 0, .slice p0 (n0') t0, .slice p1 (n1') t1, .slice p2 (n2') t2] 49)) (.cells #[.slice none 0 0] 45)) (.cells #[.int .i64 0] 3))
    replace bf27 := kept_froz hb (lt_of_cell (cell_al (cell_al (cell_al bx26 (.cells #[.int .i64 0, .slice p0 (n0') t0, .slice p1 (n1') t1, .slice p2 (n2') t2] 49)) (.cells #[.slice none 0 0] 45)) (.cells #[.int .i64 0] 3))) (froz_al (lt_of_cell (cell_al (cell_al bx26 (.cells #[.int .i64 0, .slice p0 (n0') t0, .slice p1 (n1') t1, .slice p2 (n2') t2] 49)) (.cells #[.slice none 0 0] 45))) (froz_al (lt_of_cell (cell_al bx26 (.cells #[.int .i64 0, .slice p0 (n0') t0, .slice p1 (n1') t1, .slice p2 (n2') t2] 49))) (froz_al (lt_of_cell bx26) bf27 (.cells #[.int .i64 0, .slice p0 (n0') t0, .slice p1 (n1') t1, .slice p2 (n2') t2] 49)) (.cells #[.slice none 0 0] 45)) (.cells #[.int .i64 0] 3))
    replace bx18 : w3.cell? ⟨w.heap.size, 0, none⟩ = some (.slice a0 c.vars.length c0) := kept_cell hb (cell_al (cell_al (cell_al bx18 (.cells #[.int .i64 0, .slice p0 (n0') t0, .slice p1 (n1') t1, .slice p2 (n2') t2] 49)) (.cells #[.slice none 0 0] 45)) (.cells #[.int .i64 0] 3))
    replace bx19 : w3.cell? ⟨w.heap.size, 1, none⟩ = some (.slice a1 c.arrays.length c1) := kept_cell hb (cell_al (cell_al (cell_al bx19 (.cells #[.int .i64 0, .slice p0 (n0') t0, .slice p1 (n1') t1, .slice p2 (n2') t2] 49)) (.cells #[.slice none 0 0] 45)) (.cells #[.int .i64 0] 3))
    replace bx20 : w3.cell? ⟨w.heap.size, 2, none⟩ = some (.slice a2 c.list.length c2) := kept_cell hb (cell_al (cell_al (cell_al bx20 (.cells #[.int .i64 0, .slice p0 (n0') t0, .slice p1 (n1') t1, .slice p2 (n2') t2] 49)) (.cells #[.slice none 0 0] 45)) (.cells #[.int .i64 0] 3))
    replace bx23 : w3.cell? ⟨w.heap.size + 1 + 1, 0, none⟩ = some (.slice aw ws.length cw) := kept_cell hb (cell_al (cell_al (cell_al bx23 (.cells #[.int .i64 0, .slice p0 (n0') t0, .slice p1 (n1') t1, .slice p2 (n2') t2] 49)) (.cells #[.slice none 0 0] 45)) (.cells #[.int .i64 0] 3))
    replace bx24 : w3.cell? ⟨w.heap.size + 1 + 1 + 1, 0, none⟩ = some (.slice none 0 0) := kept_cell hb (cell_al (cell_al (cell_al bx24 (.cells #[.int .i64 0, .slice p0 (n0') t0, .slice p1 (n1') t1, .slice p2 (n2') t2] 49)) (.cells #[.slice none 0 0] 45)) (.cells #[.int .i64 0] 3))
    replace bx26 : w3.cell? ⟨w.heap.size + 1 + 1 + 1, 1, none⟩ = some (.slice none 0 0) := kept_cell hb (cell_al (cell_al (cell_al bx26 (.cells #[.int .i64 0, .slice p0 (n0') t0, .slice p1 (n1') t1, .slice p2 (n2') t2] 49)) (.cells #[.slice none 0 0] 45)) (.cells #[.int .i64 0] 3))
    replace OM := (((OM.below (bal (bself _) (.cells #[.int .i64 0, .slice p0 (n0') t0, .slice p1 (n1') t1, .slice p2 (n2') t2] 49))).below (bal (bself _) (.cells #[.slice none 0 0] 45))).below (bal (bself _) (.cells #[.int .i64 0] 3))).below hb
    have bx37 : w3.cell? ⟨w2.heap.size, 0, none⟩ = some (.int .i64 0) := kept_cell hb (cell_al (cell_al (cell_nw (by simp) (by rfl)) _) _)
    have bf38 : w3.frozen? ⟨w2.heap.size, 0, none⟩ = false := kept_froz hb (by simp <;> omega) (froz_al (by simp <;> omega) (froz_al (by simp <;> omega) (froz_nw (by simp)) _) _)
    have bx39 : w3.cell? ⟨w2.heap.size, 1, none⟩ = some (.slice p0 (n0') t0) := kept_cell hb (cell_al (cell_al (cell_nw (by simp) (by rfl)) _) _)
    have bf40 : w3.frozen? ⟨w2.heap.size, 1, none⟩ = false := kept_froz hb (by simp <;> omega) (froz_al (by simp <;> omega) (froz_al (by simp <;> omega) (froz_nw (by simp)) _) _)
    have bx41 : w3.cell? ⟨w2.heap.size, 2, none⟩ = some (.slice p1 (n1') t1) := kept_cell hb (cell_al (cell_al (cell_nw (by simp) (by rfl)) _) _)
    have bf42 : w3.frozen? ⟨w2.heap.size, 2, none⟩ = false := kept_froz hb (by simp <;> omega) (froz_al (by simp <;> omega) (froz_al (by simp <;> omega) (froz_nw (by simp)) _) _)
    have bx43 : w3.cell? ⟨w2.heap.size, 3, none⟩ = some (.slice p2 (n2') t2) := kept_cell hb (cell_al (cell_al (cell_nw (by simp) (by rfl)) _) _)
    have bf44 : w3.frozen? ⟨w2.heap.size, 3, none⟩ = false := kept_froz hb (by simp <;> omega) (froz_al (by simp <;> omega) (froz_al (by simp <;> omega) (froz_nw (by simp)) _) _)
    have bx45 : w3.cell? ⟨w2.heap.size + 1, 0, none⟩ = some (.slice none 0 0) := kept_cell hb (cell_al (cell_nw (by simp) (by rfl)) _)
    have bf46 : w3.frozen? ⟨w2.heap.size + 1, 0, none⟩ = false := kept_froz hb (by simp <;> omega) (froz_al (by simp <;> omega) (froz_nw (by simp)) _)
    have bx47 : w3.cell? ⟨w2.heap.size + 1 + 1, 0, none⟩ = some (.int .i64 0) := kept_cell hb (cell_nw (by simp) (by rfl))
    have bf48 : w3.frozen? ⟨w2.heap.size + 1 + 1, 0, none⟩ = false := kept_froz hb (by simp <;> omega) (froz_nw (by simp))
    replace tot := btr (bal (bal (bal tot (.cells #[.int .i64 0, .slice p0 (n0') t0, .slice p1 (n1') t1, .slice p2 (n2') t2] 49)) (.cells #[.slice none 0 0] 45)) (.cells #[.int .i64 0] 3)) hb
    clear hb
    rw [← hnw]
    clear hnw
    clear lt33 lt34 lt35
    have lt49 := lt_of_cell bx18
    have lt50 := lt_of_cell bx23
    have lt51 := lt_of_cell bx24
    have lt52 := lt_of_cell bx37
    have lt53 := lt_of_cell bx45
    have lt54 := lt_of_cell bx47
    have hS : OwnS w3 w1.heap.size (w2.heap.size) (.slice p0 n0' t0) (.slice p1 n1' t1) (.slice p2 n2' t2) us s := ⟨by rw [HIR.out.2.2]; exact bx37, bx39, bx41, bx43, bf38, by rw [HIR.out.1, HIR.out.2.1]; exact OM, fun h => by have := iM _ h; omega⟩
    have iM2 : ∀ q, OwnMB (.slice p0 n0' t0) (.slice p1 n1' t1) (.slice p2 n2' t2) us q → w1.heap.size ≤ q ∧ q < w2.heap.size := iM
    have rc := HR.out _ tot; have rw := HWS.out _ tot
    have hI0 : SI w3 (w2.heap.size + 1) (w2.heap.size + 1 + 1) (w.heap.size) (w.heap.size + 1 + 1) (w3.heap.size + 1) (.slice a0 c.vars.length c0) (.slice a1 c.arrays.length c1) (.slice a2 c.list.length c2) aw cw c ws s 0 := ⟨⟨_, bx45, World.ownsRow_nil _ _ _ _⟩, bf46, bx47, bf48, ⟨bx18, bx19, bx20⟩, bx23, rw⟩
    have hsz1 : w2.heap.size ≤ w3.heap.size := by omega
    have hEX := execute2_any 84 #[.pointer (some ⟨w2.heap.size + 1, 0, none⟩), .pointer (some ⟨w.heap.size, 0, none⟩), .pointer (some ⟨w2.heap.size + 1 + 1, 0, none⟩), .pointer (some ⟨(w.heap.size + 1 + 1), 0, none⟩), .pointer (some ⟨w2.heap.size, 0, none⟩)] (fun n W => SI W (w2.heap.size + 1) (w2.heap.size + 1 + 1) (w.heap.size) (w.heap.size + 1 + 1) (w3.heap.size + 1) (.slice a0 c.vars.length c0) (.slice a1 c.arrays.length c1) (.slice a2 c.list.length c2) aw cw c ws s n) (fun q => q = w2.heap.size + 1 ∨ q = w2.heap.size + 1 + 1) (w2.heap.size) w1.heap.size _ _ _ _ _ _ us c s w3 sr1_call rc hS HMS.out HOK.out (by rintro (h | h) <;> omega) (fun q h h2 => by have := iM2 q h; rcases h2 with h2 | h2 <;> omega) (fun q h => by rcases h with h | h <;> omega)
      (fun q hq => by have h0 := HIV.out q hq; exact ⟨by omega, fun h => by have := iM2 q h; omega, by rintro (h | h) <;> omega⟩) hI0
      (fun n W W' hI hC => hI.keep hC (by rintro (h | h); omega; (have := iM2 _ h; omega)) (by rintro (h | h); omega; (have := iM2 _ h; omega)) (by rintro (h | h); omega; (have := iM2 _ h; omega)) (by rintro (h | h); omega; (have := iM2 _ h; omega)) (fun q hq h => by rcases h with h | h; omega; (have := iM2 _ h; omega)) (fun gg oo cc h0 hv h => by have h1 := HWW.out gg oo cc h0 hv; rcases h with h | h; omega; (have := iM2 _ h; omega)))
      (fun n W u hn hI hN hE hSn hrn hus => sr_step (w2.heap.size + 1) (w2.heap.size + 1 + 1) (w.heap.size) (w.heap.size + 1 + 1) (w2.heap.size) w1.heap.size (w3.heap.size + 1) cw aw u _ _ _ _ _ _ us ws c s n W hI hE hrn hSn (stN_ok HOK.out HMS.out n) HOK.out hn ⟨by omega, by omega, by omega, by omega, by omega, hN⟩ ⟨by omega, by omega, by omega, by omega, by omega, by omega, by omega⟩ (fun q hq => by have h0 := HIV.out q hq; omega) (fun q hq => by have h0 := iM2 q hq; omega) (fun gg oo cc h0 hv => by have h1 := HWW.out gg oo cc h0 hv; omega))
    have HEX := Lib.hid hEX
    have iE : ∀ q, (q = w2.heap.size ∨ OwnMB (.slice p0 n0' t0) (.slice p1 n1' t1) (.slice p2 n2' t2) us q ∨ (q = w2.heap.size + 1 ∨ q = w2.heap.size + 1 + 1)) → w1.heap.size ≤ q := fun q h => by rcases h with h | h | h | h; omega; (have := iM2 q h; omega); omega; omega
    clear hEX hS hI0 rc rw iM
    clear OM bx37 bf38 bx39 bf40 bx41 bf42 bx43 bf44 bx45 bf46 bx47 bf48
    clear lt49 lt50 lt51 lt52 lt53 lt54
    have lt55 := lt_of_cell bx18
    have lt56 := lt_of_cell bx23
    have lt57 := lt_of_cell bx24
    go_wp2_with fail
    refine (HEX.out).mono ?_
    rintro e w4 ⟨rfl, hNN, hC⟩
    have hsz58 := hC.size
    replace bf25 := chg_froz hC (lt_of_cell bx24) bf25 (fun h => by have := iE _ h; omega)
    replace bf27 := chg_froz hC (lt_of_cell bx26) bf27 (fun h => by have := iE _ h; omega)
    replace bx18 : w4.cell? ⟨w.heap.size, 0, none⟩ = some (.slice a0 c.vars.length c0) := chg_cell hC bx18 (fun h => by have := iE _ h; omega)
    replace bx19 : w4.cell? ⟨w.heap.size, 1, none⟩ = some (.slice a1 c.arrays.length c1) := chg_cell hC bx19 (fun h => by have := iE _ h; omega)
    replace bx20 : w4.cell? ⟨w.heap.size, 2, none⟩ = some (.slice a2 c.list.length c2) := chg_cell hC bx20 (fun h => by have := iE _ h; omega)
    replace bx23 : w4.cell? ⟨w.heap.size + 1 + 1, 0, none⟩ = some (.slice aw ws.length cw) := chg_cell hC bx23 (fun h => by have := iE _ h; omega)
    replace bx24 : w4.cell? ⟨w.heap.size + 1 + 1 + 1, 0, none⟩ = some (.slice none 0 0) := chg_cell hC bx24 (fun h => by have := iE _ h; omega)
    replace bx26 : w4.cell? ⟨w.heap.size + 1 + 1 + 1, 1, none⟩ = some (.slice none 0 0) := chg_cell hC bx26 (fun h => by have := iE _ h; omega)
    replace tot := tot.trans (hC.below w.heap.size (by have := tot.size; omega) (fun gq hgq h => by have := iE gq h; omega))
    clear hC
    clear lt55 lt56 lt57
    have lt59 := lt_of_cell bx18
    have lt60 := lt_of_cell bx23
    have lt61 := lt_of_cell bx24
    cases hR : runR c s with
    | none =>
      have HRR := Lib.hid (HN.out hR)
      clear hNN hR HEX
      have x62 := (cell_ne (b := (w.heap.size + 1 + 1 + 1)) (j := 1) (cell_at _ (w.heap.size + 1 + 1 + 1) 0 (.slice none 0 0) bx24) (by omega) (.slice none 0 0))
      have x63 := (cell_at _ (w.heap.size + 1 + 1 + 1) 1 (.slice none 0 0) (cell_ne (b := (w.heap.size + 1 + 1 + 1)) (j := 0) bx26 (by omega) (.slice none 0 0)))
      have tt := (bst (bst tot (w.heap.size + 1 + 1 + 1) 0 (by omega) (.slice none 0 0)) (w.heap.size + 1 + 1 + 1) 1 (by omega) (.slice none 0 0))
      go_wp2
      exact bodyPost_ret (v := .tuple #[.agg #[.slice none 0 0, .slice none 0 0], .slice none 0 0, .bool false]) (by simp [results, Try.results33, go_sem, x62, x63]) rfl (by exact by rw [HRR.out.1, HRR.out.2.1, HRR.out.2.2]; exact ⟨_, _, [], _, rfl, noMem_own _ _, World.ownsRow_nil _ _ _ _, tt⟩)
    | some n =>
      have HRR := Lib.hid (HY.out n hR)
      obtain ⟨_, hS5, hI5⟩ := hNN n hR
      obtain ⟨v, g0, oE⟩ := hI5.o
      have d2 := hS5.c2; have d3 := hS5.c3; have oM := hS5.own.toM
      obtain ⟨pv, tv, rfl⟩ := own_shape oE
      have e1 : Value.slice p1 n1' t1 = .slice p1 (stN c (n + 1) s).mem.vals.length t1 := by obtain ⟨pq, tq, hq⟩ := own_shape oM.x; simp only [Value.slice.injEq] at hq ⊢; exact ⟨trivial, hq.2.1, trivial⟩
      have e2 : Value.slice p2 n2' t2 = .slice p2 (stN c (n + 1) s).mem.arrs.length t2 := by obtain ⟨pq, tq, hq⟩ := own_shape oM.y.out; simp only [Value.slice.injEq] at hq ⊢; exact ⟨trivial, hq.2.1, trivial⟩
      rw [e1] at d2 oM; rw [e2] at d3 oM
      have iO := oM.lt; have iT := oE.lt
      clear hNN hR HEX hS5 hI5 e1 e2
      clear lt59 lt60 lt61
      have lt64 := lt_of_cell bx18
      have lt65 := lt_of_cell bx23
      have lt66 := lt_of_cell bx24
      have lt67 := lt_of_cell d2
      have lt68 := lt_of_cell g0
      go_upto_region 9 with (fail)
      clear lt64 lt65 lt66 lt67 lt68
      have lt69 := lt_of_cell bx18
      have lt70 := lt_of_cell bx23
      have lt71 := lt_of_cell bx24
      have lt72 := lt_of_cell d2
      have lt73 := lt_of_cell g0
      refine wp_region_noPanic ?_
      refine wp_region_held_drew (S := (fun W' => W'.cell? ⟨w2.heap.size, 2, none⟩ = some (.slice p1 ((stN c (n + 1) s).mem.vals.length) t1) ∧ W'.cell? ⟨w2.heap.size, 3, none⟩ = some (.slice p2 ((stN c (n + 1) s).mem.arrs.length) t2) ∧ W'.cell? ⟨w2.heap.size + 1, 0, none⟩ = some (.slice pv ((spN c ws (n + 1) s).length) tv))) (by kernel_rfl) ⟨kept_cell (Below.drew (bself w4)) d2, kept_cell (Below.drew (bself w4)) d3, kept_cell (Below.drew (bself w4)) g0⟩ (fun hHeld => ?_)
      obtain ⟨w5, hwd⟩ : ∃ X, X = World.drew w4 := ⟨_, rfl⟩
      rw [← hwd] at hHeld ⊢
      have hb : Below w4.heap.size w4 w5 := by rw [hwd]; exact Below.drew (bself _)
      clear hwd
      have hsz74 := hb.size
      replace bf25 := kept_froz hb (lt_of_cell bx24) bf25
      replace bf27 := kept_froz hb (lt_of_cell bx26) bf27
      replace bx18 : w5.cell? ⟨w.heap.size, 0, none⟩ = some (.slice a0 c.vars.length c0) := kept_cell hb bx18
      replace bx19 : w5.cell? ⟨w.heap.size, 1, none⟩ = some (.slice a1 c.arrays.length c1) := kept_cell hb bx19
      replace bx20 : w5.cell? ⟨w.heap.size, 2, none⟩ = some (.slice a2 c.list.length c2) := kept_cell hb bx20
      replace bx23 : w5.cell? ⟨w.heap.size + 1 + 1, 0, none⟩ = some (.slice aw ws.length cw) := kept_cell hb bx23
      replace bx24 : w5.cell? ⟨w.heap.size + 1 + 1 + 1, 0, none⟩ = some (.slice none 0 0) := kept_cell hb bx24
      replace bx26 : w5.cell? ⟨w.heap.size + 1 + 1 + 1, 1, none⟩ = some (.slice none 0 0) := kept_cell hb bx26
      replace d2 : w5.cell? ⟨w2.heap.size, 2, none⟩ = some (.slice p1 ((stN c (n + 1) s).mem.vals.length) t1) := kept_cell hb d2
      replace d3 : w5.cell? ⟨w2.heap.size, 3, none⟩ = some (.slice p2 ((stN c (n + 1) s).mem.arrs.length) t2) := kept_cell hb d3
      replace g0 : w5.cell? ⟨w2.heap.size + 1, 0, none⟩ = some (.slice pv ((spN c ws (n + 1) s).length) tv) := kept_cell hb g0
      replace oM := oM.below hb
      replace oE := own_below oE hb
      replace tot := btr tot hb
      clear hb
      clear lt69 lt70 lt71 lt72 lt73
      have lt75 := lt_of_cell bx18
      have lt76 := lt_of_cell bx23
      have lt77 := lt_of_cell bx24
      have lt78 := lt_of_cell d2
      have lt79 := lt_of_cell g0
      refine take_d (i := 0) (d := 28) (v := ?_) rfl rfl (by kernel_rfl) (by kernel_rfl) (by kernel_rfl) (fun _ _ _ h => h) (Or.inl ⟨by rfl, ?_⟩) (by assumption) ?_
      rotate_left
      · intro W' hSw; (try dsimp only at hSw); obtain ⟨s0, s1, s2⟩ := hSw; go_simp; try with_reducible rfl
      try simp only [Act.put, List.setIfInBounds_toArray, List.set]
      refine take_d (i := 1) (d := 29) (v := ?_) rfl rfl (by kernel_rfl) (by kernel_rfl) (by kernel_rfl) (fun _ _ _ h => h) (Or.inl ⟨by rfl, ?_⟩) (by assumption) ?_
      rotate_left
      · intro W' hSw; (try dsimp only at hSw); obtain ⟨s0, s1, s2⟩ := hSw; go_simp; try with_reducible rfl
      try simp only [Act.put, List.setIfInBounds_toArray, List.set]
      refine take_d (i := 2) (d := 30) (v := ?_) rfl rfl (by kernel_rfl) (by kernel_rfl) (by kernel_rfl) (fun _ _ _ h => h) (Or.inl ⟨by rfl, ?_⟩) (by assumption) ?_
      rotate_left
      · intro W' hSw; (try dsimp only at hSw); obtain ⟨s0, s1, s2⟩ := hSw; go_simp; try with_reducible rfl
      try simp only [Act.put, List.setIfInBounds_toArray, List.set]
      refine wpAnyH_ready (rs := [3]) (by kernel_rfl) (by simp) ?_
      refine AllReadyH.cons rfl (fun K hK => ?_) AllReadyH.nil
      go_simp
      obtain ⟨w6, hnw⟩ : ∃ X, X = (World.setCell (World.setCell w5 ⟨w.heap.size + 1 + 1 + 1, 0, none⟩ (.slice p1 ((stN c (n + 1) s).mem.vals.length) t1)) ⟨w.heap.size + 1 + 1 + 1, 1, none⟩ (.slice p2 ((stN c (n + 1) s).mem.arrs.length) t2)) := ⟨_, rfl⟩
      have hb : Below (World.setCell (World.setCell w5 ⟨w.heap.size + 1 + 1 + 1, 0, none⟩ (.slice p1 ((stN c (n + 1) s).mem.vals.length) t1)) ⟨w.heap.size + 1 + 1 + 1, 1, none⟩ (.slice p2 ((stN c (n + 1) s).mem.arrs.length) t2)).heap.size (World.setCell (World.setCell w5 ⟨w.heap.size + 1 + 1 + 1, 0, none⟩ (.slice p1 ((stN c (n + 1) s).mem.vals.length) t1)) ⟨w.heap.size + 1 + 1 + 1, 1, none⟩ (.slice p2 ((stN c (n + 1) s).mem.arrs.length) t2)) w6 := by rw [hnw]; exact bself _
      have hsz80 := hb.size
      simp only [World.size_setCell] at hsz80
      replace bf25 := kept_froz hb (lt_of_cell (cell_ne (b := (w.heap.size + 1 + 1 + 1)) (j := 1) (cell_at _ (w.heap.size + 1 + 1 + 1) 0 (.slice p1 ((stN c (n + 1) s).mem.vals.length) t1) bx24) (by omega) (.slice p2 ((stN c (n + 1) s).mem.arrs.length) t2))) (froz_st (b := ⟨(w.heap.size + 1 + 1 + 1), 1, none⟩) (froz_st (b := ⟨(w.heap.size + 1 + 1 + 1), 0, none⟩) bf25 (.slice p1 ((stN c (n + 1) s).mem.vals.length) t1)) (.slice p2 ((stN c (n + 1) s).mem.arrs.length) t2))
      replace bf27 := kept_froz hb (lt_of_cell (cell_at _ (w.heap.size + 1 + 1 + 1) 1 (.slice p2 ((stN c (n + 1) s).mem.arrs.length) t2) (cell_ne (b := (w.heap.size + 1 + 1 + 1)) (j := 0) bx26 (by omega) (.slice p1 ((stN c (n + 1) s).mem.vals.length) t1)))) (froz_st (b := ⟨(w.heap.size + 1 + 1 + 1), 1, none⟩) (froz_st (b := ⟨(w.heap.size + 1 + 1 + 1), 0, none⟩) bf27 (.slice p1 ((stN c (n + 1) s).mem.vals.length) t1)) (.slice p2 ((stN c (n + 1) s).mem.arrs.length) t2))
      replace bx18 : w6.cell? ⟨w.heap.size, 0, none⟩ = some (.slice a0 c.vars.length c0) := kept_cell hb (cell_ne (b := (w.heap.size + 1 + 1 + 1)) (j := 1) (cell_ne (b := (w.heap.size + 1 + 1 + 1)) (j := 0) bx18 (by omega) (.slice p1 ((stN c (n + 1) s).mem.vals.length) t1)) (by omega) (.slice p2 ((stN c (n + 1) s).mem.arrs.length) t2))
      replace bx19 : w6.cell? ⟨w.heap.size, 1, none⟩ = some (.slice a1 c.arrays.length c1) := kept_cell hb (cell_ne (b := (w.heap.size + 1 + 1 + 1)) (j := 1) (cell_ne (b := (w.heap.size + 1 + 1 + 1)) (j := 0) bx19 (by omega) (.slice p1 ((stN c (n + 1) s).mem.vals.length) t1)) (by omega) (.slice p2 ((stN c (n + 1) s).mem.arrs.length) t2))
      replace bx20 : w6.cell? ⟨w.heap.size, 2, none⟩ = some (.slice a2 c.list.length c2) := kept_cell hb (cell_ne (b := (w.heap.size + 1 + 1 + 1)) (j := 1) (cell_ne (b := (w.heap.size + 1 + 1 + 1)) (j := 0) bx20 (by omega) (.slice p1 ((stN c (n + 1) s).mem.vals.length) t1)) (by omega) (.slice p2 ((stN c (n + 1) s).mem.arrs.length) t2))
      replace bx23 : w6.cell? ⟨w.heap.size + 1 + 1, 0, none⟩ = some (.slice aw ws.length cw) := kept_cell hb (cell_ne (b := (w.heap.size + 1 + 1 + 1)) (j := 1) (cell_ne (b := (w.heap.size + 1 + 1 + 1)) (j := 0) bx23 (by omega) (.slice p1 ((stN c (n + 1) s).mem.vals.length) t1)) (by omega) (.slice p2 ((stN c (n + 1) s).mem.arrs.length) t2))
      replace bx24 : w6.cell? ⟨w.heap.size + 1 + 1 + 1, 0, none⟩ = some (.slice p1 ((stN c (n + 1) s).mem.vals.length) t1) := kept_cell hb (cell_ne (b := (w.heap.size + 1 + 1 + 1)) (j := 1) (cell_at _ (w.heap.size + 1 + 1 + 1) 0 (.slice p1 ((stN c (n + 1) s).mem.vals.length) t1) bx24) (by omega) (.slice p2 ((stN c (n + 1) s).mem.arrs.length) t2))
      replace bx26 : w6.cell? ⟨w.heap.size + 1 + 1 + 1, 1, none⟩ = some (.slice p2 ((stN c (n + 1) s).mem.arrs.length) t2) := kept_cell hb (cell_at _ (w.heap.size + 1 + 1 + 1) 1 (.slice p2 ((stN c (n + 1) s).mem.arrs.length) t2) (cell_ne (b := (w.heap.size + 1 + 1 + 1)) (j := 0) bx26 (by omega) (.slice p1 ((stN c (n + 1) s).mem.vals.length) t1)))
      replace d2 : w6.cell? ⟨w2.heap.size, 2, none⟩ = some (.slice p1 ((stN c (n + 1) s).mem.vals.length) t1) := kept_cell hb (cell_ne (b := (w.heap.size + 1 + 1 + 1)) (j := 1) (cell_ne (b := (w.heap.size + 1 + 1 + 1)) (j := 0) d2 (by omega) (.slice p1 ((stN c (n + 1) s).mem.vals.length) t1)) (by omega) (.slice p2 ((stN c (n + 1) s).mem.arrs.length) t2))
      replace d3 : w6.cell? ⟨w2.heap.size, 3, none⟩ = some (.slice p2 ((stN c (n + 1) s).mem.arrs.length) t2) := kept_cell hb (cell_ne (b := (w.heap.size + 1 + 1 + 1)) (j := 1) (cell_ne (b := (w.heap.size + 1 + 1 + 1)) (j := 0) d3 (by omega) (.slice p1 ((stN c (n + 1) s).mem.vals.length) t1)) (by omega) (.slice p2 ((stN c (n + 1) s).mem.arrs.length) t2))
      replace g0 : w6.cell? ⟨w2.heap.size + 1, 0, none⟩ = some (.slice pv ((spN c ws (n + 1) s).length) tv) := kept_cell hb (cell_ne (b := (w.heap.size + 1 + 1 + 1)) (j := 1) (cell_ne (b := (w.heap.size + 1 + 1 + 1)) (j := 0) g0 (by omega) (.slice p1 ((stN c (n + 1) s).mem.vals.length) t1)) (by omega) (.slice p2 ((stN c (n + 1) s).mem.arrs.length) t2))
      replace oM := ((oM.keep ((Chg.refl (fun gk => gk = (w.heap.size + 1 + 1 + 1)) _).setCell (w.heap.size + 1 + 1 + 1) 0 (.slice p1 ((stN c (n + 1) s).mem.vals.length) t1) (fun _ => rfl)) (fun gq h h2 => by have := iO gq h; omega)).keep ((Chg.refl (fun gk => gk = (w.heap.size + 1 + 1 + 1)) _).setCell (w.heap.size + 1 + 1 + 1) 1 (.slice p2 ((stN c (n + 1) s).mem.arrs.length) t2) (fun _ => rfl)) (fun gq h h2 => by have := iO gq h; omega)).below hb
      replace oE := own_below (own_set (own_set oE (w.heap.size + 1 + 1 + 1) 0 (fun h => by have := iT _ h; omega) (.slice p1 ((stN c (n + 1) s).mem.vals.length) t1)) (w.heap.size + 1 + 1 + 1) 1 (fun h => by have := iT _ h; omega) (.slice p2 ((stN c (n + 1) s).mem.arrs.length) t2)) hb
      replace tot := btr (bst (bst tot (w.heap.size + 1 + 1 + 1) 0 (by omega) (.slice p1 ((stN c (n + 1) s).mem.vals.length) t1)) (w.heap.size + 1 + 1 + 1) 1 (by omega) (.slice p2 ((stN c (n + 1) s).mem.arrs.length) t2)) hb
      clear hb
      rw [← hnw]
      clear hnw
      clear lt75 lt76 lt77 lt78 lt79
      have lt81 := lt_of_cell bx18
      have lt82 := lt_of_cell bx23
      have lt83 := lt_of_cell bx24
      have lt84 := lt_of_cell d2
      have lt85 := lt_of_cell g0
      refine hK.out _ _ ⟨d2, d3, g0⟩ (fun hHeld => ?_)
      clear hK K
      try simp only [Act.put, List.setIfInBounds_toArray, List.set]
      refine take_d (i := 4) (d := 7) (v := ?_) rfl rfl (by kernel_rfl) (by kernel_rfl) (by kernel_rfl) (fun _ _ _ h => h) (Or.inl ⟨by rfl, ?_⟩) (by assumption) ?_
      rotate_left
      · intro W' hSw; (try dsimp only at hSw); obtain ⟨s0, s1, s2⟩ := hSw; go_simp; try with_reducible rfl
      try simp only [Act.put, List.setIfInBounds_toArray, List.set]
      refine take_d (i := 5) (d := 8) (v := ?_) rfl rfl (by kernel_rfl) (by kernel_rfl) (by kernel_rfl) (fun _ _ _ h => h) (Or.inl ⟨by rfl, ?_⟩) (by assumption) ?_
      rotate_left
      · intro W' hSw; (try dsimp only at hSw); obtain ⟨s0, s1, s2⟩ := hSw; go_simp; try with_reducible rfl
      try simp only [Act.put, List.setIfInBounds_toArray, List.set]
      refine wpAnyH_done (by kernel_rfl) ?_ _
      refine NoPanic.normal ?_
      clear hHeld
      have OMF := Lib.hid oM; have OEF := Lib.hid oE
      clear oM oE
      have x86 := bx24
      have x87 := bx26
      have tt := tot
      go_wp2
      exact bodyPost_ret (v := .tuple #[.agg #[.slice p1 ((stN c (n + 1) s).mem.vals.length) t1, .slice p2 ((stN c (n + 1) s).mem.arrs.length) t2], .slice pv ((spN c ws (n + 1) s).length) tv, .bool true]) (by simp [results, Try.results33, go_sem, x86, x87]) rfl (by exact by rw [HRR.out.1, HRR.out.2.1, HRR.out.2.2]; exact ⟨_, _, us, _, rfl, OMF.out.mono (by omega), own_mono OEF.out (by omega), tt⟩)
end Go.Proofs.Ytbglogjamfdmpaa
