/-
 Parts of the proofs of the laws FnCheckLive, FnFinalRegs, FnLiveRegister, FnLiveRegs.
-/
import Derived.Test.YtkjedgnepnbkpaaUH
set_option linter.all false
namespace Go.Proofs.Ytkjedgnepnbkpaa
open Go.RowKit

theorem info_expr : (Try.prog.info? 161).map (fun i => (i.zero, i.size, i.bytes)) = some (some (.agg #[.int .i64 0, .int .i64 0, .slice none 0 0]), 3, 40) := by kernel_rfl
theorem tExprs : SliceT Try.prog 159 161 (.agg #[.int .i64 0, .int .i64 0, .slice none 0 0]) 3 40 := ⟨Try.underlying159, info_expr, rfl, by omega, by omega⟩
/-- the kids of an expression that is being built: the row rs, at a slice of its own v, and what they are; all lies above block b8 -/
structure KidsAt (W : World) (b8 d : Nat) (v : Value) (rs : List En) (l : List Ex) : Prop where
 len : rs.length = l.length
 own : W.ownsRow (b8 + 1) 161 3 v l.length (rows enc rs)
 kid : ∀ j (h : j < rs.length) (h' : j < l.length), ExAt W (fun q => b8 < q ∧ ¬ v.ownBlock = some q) d rs[j] l[j]
 thin : ∀ x ∈ l, Thin d x
theorem KidsAt.keep {W W' : World} {b8 d : Nat} {v : Value} {rs : List En} {l : List Ex} (h : KidsAt W b8 d v rs l) {S : Nat → Prop} (hc : Chg S W W') (hS : ∀ q, b8 < q → ¬ S q) : KidsAt W' b8 d v rs l :=
 ⟨h.len, Ow h.own hc (fun q hq => hS q (by have := h.own.lt q hq; omega)), fun j h1 h2 => ExAt.keep hc (fun q hq _ => hS q hq.1) (fun _ hq _ => hq) (Nat.le_refl _) (h.kid j h1 h2), h.thin⟩
theorem KidsAt.below {W W' : World} {b8 d : Nat} {v : Value} {rs : List En} {l : List Ex} (h : KidsAt W b8 d v rs l) (hb : Below W.heap.size W W') : KidsAt W' b8 d v rs l :=
 ⟨h.len, Ob h.own hb, fun j h1 h2 => (h.kid j h1 h2).below hb, h.thin⟩
theorem KidsAt.nil {W : World} {b8 d : Nat} : KidsAt W b8 d (.slice none 0 0) [] [] := ⟨rfl, World.ownsRow_nil _ _ _ _, fun j h => by simp at h, fun x h => by cases h⟩
/-- one more kid is appended -/
theorem KidsAt.push {W W' : World} {b8 d : Nat} {v v' : Value} {rs : List En} {l : List Ex} {n : En} {e : Ex} {b1 : Nat} (h : KidsAt W b8 d v rs l) (ho : W'.ownsRow (b8 + 1) 161 3 v' (l.length + 1) (rows enc rs ++ enc n)) (hc : Chg (fun k => v.ownBlock = some k) W W') (hN : NewOr W v v')
  (hn : ExAt W (fun q => b1 ≤ q) d n e) (ht : Thin d e) (h8 : b8 < b1) (hv : ∀ q, v.ownBlock = some q → q < b1) : KidsAt W' b8 d v' (rs ++ [n]) (l ++ [e]) := by
 have hA : ∀ q, q < W.heap.size → ¬ v.ownBlock = some q → ¬ v'.ownBlock = some q := fun q hq h1 h2 => by
  rcases hN with e1 | ⟨g, e1, e2⟩
  ·exact h1 (e1 ▸ h2)
  ·rw [e1] at h2; have := Option.some.inj h2; omega
 refine ⟨by simp [h.len], ?_, rows_push h.len (fun j h1 h2 => ?_) ?_, fun x hx => ?_⟩
 ·rw [rows_append, rows_one, List.length_append]; exact ho
 ·exact ExAt.keep hc (fun q hq _ => hq.2) (fun q hq hlt => ⟨hq.1, hA q hlt hq.2⟩) (Nat.le_refl _) (h.kid j h1 h2)
 ·exact ExAt.keep hc (fun q (hq : b1 ≤ q) _ h1 => by have := hv q h1; omega) (fun q (hq : b1 ≤ q) hlt => ⟨by omega, hA q hlt (fun h1 => by have := hv q h1; omega)⟩) (Nat.le_refl _) hn
 ·rcases List.mem_append.1 hx with h1 | h1
  ·exact h.thin x h1
  ·rw [List.mem_singleton.1 h1]; exact ht
theorem KidsAt.node {W : World} {b8 d : Nat} {a : Option Addr} {c : Nat} {rs : List En} {l : List Ex} (h : KidsAt W b8 d (.slice a l.length c) rs l) (hl : l.length ≤ 3) (k v : Int) : ExAt W (fun q => b8 < q) (d + 1) ⟨k, v, a, l.length, c⟩ (.mk k v l) ∧ Thin (d + 1) (.mk k v l) :=
 ⟨⟨rfl, rfl, RowOf.of_own h.len h.own (show l.length ≤ _ by omega) (fun q hq _ => hq) (fun j h1 h2 => ExAt.keep (S := fun _ => False) (Chg.refl _ _) (fun _ _ _ => id) (fun q hq _ => hq.1) (Nat.le_refl _) (h.kid j h1 h2))⟩, hl, h.thin⟩
theorem drawn_kinds {kd : Int} (h : kd ∈ [4, 10, 8, 9, 3, 6, 7, 5, 11]) : kd = 3 ∨ ((kd == 3) = false ∧ ∃ ar : Nat, arity kd = ar ∧ 1 ≤ ar ∧ ar ≤ 3) := by
 simp only [List.mem_cons, List.not_mem_nil, or_false] at h
 rcases h with rfl | rfl | rfl | rfl | rfl | rfl | rfl | rfl | rfl
 ·exact Or.inr ⟨rfl, 2, rfl, by omega, by omega⟩
 ·exact Or.inr ⟨rfl, 2, rfl, by omega, by omega⟩
 ·exact Or.inr ⟨rfl, 2, rfl, by omega, by omega⟩
 ·exact Or.inr ⟨rfl, 2, rfl, by omega, by omega⟩
 ·exact Or.inl rfl
 ·exact Or.inr ⟨rfl, 2, rfl, by omega, by omega⟩
 ·exact Or.inr ⟨rfl, 2, rfl, by omega, by omega⟩
 ·exact Or.inr ⟨rfl, 2, rfl, by omega, by omega⟩
 ·exact Or.inr ⟨rfl, 3, rfl, by omega, by omega⟩
theorem dcost_le {d : Nat} (h : d ≤ 4) : dcost d ≤ 10000 ∧ 8 ≤ dcost d := by
 have : d = 0 ∨ d = 1 ∨ d = 2 ∨ d = 3 ∨ d = 4 := by omega
 rcases this with rfl | rfl | rfl | rfl | rfl <;> decide

set_option maxHeartbeats 6400000 in
set_option maxRecDepth 100000 in
theorem l2Draw_any (pv pa : Option Addr) (nv cv na ca : Nat) (vb : Value) (B g : Nat) (hnv : 1 ≤ nv) (hnb : nv ≤ 1000 ∧ na ≤ 1000) : ∀ (d p : Nat) (w : World), d ≤ 4 → Rnd w B g p → p + dcost d ≤ 1000000000 →
  Calls Try.prog 172 #[.pointer (some ⟨g, 0, none⟩), .agg #[.slice pv nv cv, .slice pa na ca, vb], .int .i64 d] w fun r w' => ∃ (n : En) (e : Ex) (p' : Nat), r = .returned (.agg #[.int .i64 n.k, .int .i64 n.v, .slice n.p n.n n.c]) ∧ ExAt w' (fun q => w.heap.size ≤ q) (d + 1) n e ∧ Thin (d + 1) e ∧ Rnd w' B g p' ∧ p' ≤ p + dcost d ∧ Chg (fun q => q = g) w w' := by
 intro d
 induction d with
 | zero =>
  intro p w hd hR hp
  have hdc : dcost 0 = 8 := rfl
  have hdcl := dcost_le hd
  have hg := hR.lt
  have hC : Chg (fun k => k = g) w w := Chg.refl _ _
  have ird : ∀ q, (fun k => k = g) q → q = g := fun q h => h
  go_enter Try.func172, Try.ntmps172
  go_wp2_with fail
  refine (l2DrawAtom_any pv pa nv cv na ca vb B g (p) _ ((hR.below (bal (Bs _) (.cells #[.slice pv nv cv, .slice pa na ca, vb] 110))).below (bal (Bs _) (.cells #[.int .i64 0, .int .i64 0, .slice none 0 0] 161))) (by omega) hnv hnb).mono ?_
  rintro e w1 ⟨k, v, p1, rfl, hRn, hp1, hc⟩
  replace hC := (((hC.trans (Chg.of_below (bal (Bs _) _))).trans (Chg.of_below (bal (Bs _) _)))).trans hc
  replace hR := hRn; clear hRn
  have hsz1 := hc.size
  simp only [Sa] at hsz1
  have bk2 : Bk w1 (w.heap.size) [.slice pv nv cv, .slice pa na ca, vb] := Bk.keep (Bk.al (Bk.nw (by simp) rfl) (.cells #[.int .i64 0, .int .i64 0, .slice none 0 0] 161)) hc (fun h => by have := ird _ h; omega)
  have bk3 : Bk w1 (w.heap.size + 1) [.int .i64 0, .int .i64 0, .slice none 0 0] := Bk.keep (Bk.nw (by simp) rfl) hc (fun h => by have := ird _ h; omega)
  clear hc
  have lt4 := Bk.lz bk2
  have lt5 := Bk.lz bk3
  have tC := (((hC.setNew (w.heap.size + 1) (0) (.int .i64 k) (Or.inr (by omega))).setNew (w.heap.size + 1) (1) (.int .i64 v) (Or.inr (by omega))).setNew (w.heap.size + 1) (2) (.slice none 0 0) (Or.inr (by omega))); have tR := (((hR.keep (C1 (w.heap.size + 1) (0) (.int .i64 k)) (by omega) (fun _ _ => by omega)).keep (C1 (w.heap.size + 1) (1) (.int .i64 v)) (by omega) (fun _ _ => by omega)).keep (C1 (w.heap.size + 1) (2) (.slice none 0 0)) (by omega) (fun _ _ => by omega))
  obtain ⟨tc6, tf7⟩ := Bk.cf bk3 0 rfl
  obtain ⟨tc8, tf9⟩ := Bk.cf bk3 1 rfl
  obtain ⟨tc10, tf11⟩ := Bk.cf bk3 2 rfl
  have x12 := (Nc (b := (w.heap.size + 1)) (j := 2) (Nc (b := (w.heap.size + 1)) (j := 1) (Tc _ (w.heap.size + 1) 0 (.int .i64 k) tc6) (by omega) (.int .i64 v)) (by omega) (.slice none 0 0))
  have x13 := (Nc (b := (w.heap.size + 1)) (j := 2) (Tc _ (w.heap.size + 1) 1 (.int .i64 v) (Nc (b := (w.heap.size + 1)) (j := 0) tc8 (by omega) (.int .i64 k))) (by omega) (.slice none 0 0))
  have x14 := (Tc _ (w.heap.size + 1) 2 (.slice none 0 0) (Nc (b := (w.heap.size + 1)) (j := 1) (Nc (b := (w.heap.size + 1)) (j := 0) tc10 (by omega) (.int .i64 k)) (by omega) (.int .i64 v)))
  have tt := True.intro
  go_wp2
  exact bodyPost_ret (v := .agg #[.int .i64 k, .int .i64 v, .slice none 0 0]) (by simp [results, Try.results172, go_sem, x12, x13, x14]) rfl (by exact ⟨⟨k, v, none, 0, 0⟩, .mk k v [], _, rfl, ExAt.leaf k v, ⟨by simp [Ex.kids], fun x hx => by simp [Ex.kids] at hx⟩, tR, by omega, tC⟩)
 | succ d IH =>
  intro p w hd hR hp
  have hdc : dcost (d + 1) = 8 + 3 * dcost d := rfl
  have hdcl := dcost_le (d := d) (by omega)
  have H8 : Hid (8 ≤ dcost (d + 1)) := Lib.hid (by omega)
  have HCO := Lib.hid hdc; clear hdc
  by_cases hd1 : d = 0
  ·subst hd1
   have H81 : Hid (8 ≤ dcost 1) := Lib.hid (by decide)
   have hp9 : p + 2 ≤ 1000000000 := by have := H8.out; omega
   have hg := hR.lt
   have hC : Chg (fun k => k = g) w w := Chg.refl _ _
   have ird : ∀ q, (fun k => k = g) q → q = g := fun q h => h
   go_enter Try.func172, Try.ntmps172
   go_wp2_with fail
   refine (l2DrawAtom_any pv pa nv cv na ca vb B g (p) _ ((hR.below (bal (Bs _) (.cells #[.slice pv nv cv, .slice pa na ca, vb] 110))).below (bal (Bs _) (.cells #[.int .i64 0, .int .i64 0, .slice none 0 0] 161))) (by omega) hnv hnb).mono ?_
   rintro e w1 ⟨k, v, p1, rfl, hRn, hp1, hc⟩
   replace hC := (((hC.trans (Chg.of_below (bal (Bs _) _))).trans (Chg.of_below (bal (Bs _) _)))).trans hc
   replace hR := hRn; clear hRn
   have hsz1 := hc.size
   simp only [Sa] at hsz1
   have bk2 : Bk w1 (w.heap.size) [.slice pv nv cv, .slice pa na ca, vb] := Bk.keep (Bk.al (Bk.nw (by simp) rfl) (.cells #[.int .i64 0, .int .i64 0, .slice none 0 0] 161)) hc (fun h => by have := ird _ h; omega)
   have bk3 : Bk w1 (w.heap.size + 1) [.int .i64 0, .int .i64 0, .slice none 0 0] := Bk.keep (Bk.nw (by simp) rfl) hc (fun h => by have := ird _ h; omega)
   clear hc
   have lt4 := Bk.lz bk2
   have lt5 := Bk.lz bk3
   have tC := (((hC.setNew (w.heap.size + 1) (0) (.int .i64 k) (Or.inr (by omega))).setNew (w.heap.size + 1) (1) (.int .i64 v) (Or.inr (by omega))).setNew (w.heap.size + 1) (2) (.slice none 0 0) (Or.inr (by omega))); have tR := (((hR.keep (C1 (w.heap.size + 1) (0) (.int .i64 k)) (by omega) (fun _ _ => by omega)).keep (C1 (w.heap.size + 1) (1) (.int .i64 v)) (by omega) (fun _ _ => by omega)).keep (C1 (w.heap.size + 1) (2) (.slice none 0 0)) (by omega) (fun _ _ => by omega))
   obtain ⟨tc6, tf7⟩ := Bk.cf bk3 0 rfl
   obtain ⟨tc8, tf9⟩ := Bk.cf bk3 1 rfl
   obtain ⟨tc10, tf11⟩ := Bk.cf bk3 2 rfl
   have x12 := (Nc (b := (w.heap.size + 1)) (j := 2) (Nc (b := (w.heap.size + 1)) (j := 1) (Tc _ (w.heap.size + 1) 0 (.int .i64 k) tc6) (by omega) (.int .i64 v)) (by omega) (.slice none 0 0))
   have x13 := (Nc (b := (w.heap.size + 1)) (j := 2) (Tc _ (w.heap.size + 1) 1 (.int .i64 v) (Nc (b := (w.heap.size + 1)) (j := 0) tc8 (by omega) (.int .i64 k))) (by omega) (.slice none 0 0))
   have x14 := (Tc _ (w.heap.size + 1) 2 (.slice none 0 0) (Nc (b := (w.heap.size + 1)) (j := 1) (Nc (b := (w.heap.size + 1)) (j := 0) tc10 (by omega) (.int .i64 k)) (by omega) (.int .i64 v)))
   have tt := True.intro
   go_wp2
   exact bodyPost_ret (v := .agg #[.int .i64 k, .int .i64 v, .slice none 0 0]) (by simp [results, Try.results172, go_sem, x12, x13, x14]) rfl (by exact ⟨⟨k, v, none, 0, 0⟩, .mk k v [], _, rfl, ExAt.leaf k v, ⟨by simp [Ex.kids], fun x hx => by simp [Ex.kids] at hx⟩, tR, by have := H81.out; omega, tC⟩)
  ·have q1 : decide ((d : Int) + 1 < 2) = false := decide_eq_false (by omega)
   have q2 : (2 : Int) ≤ (d : Int) + 1 := by omega

   have hg := hR.lt
   have hC : Chg (fun k => k = g) w w := Chg.refl _ _
   have ird : ∀ q, (fun k => k = g) q → q = g := fun q h => h
   go_enter Try.func172, Try.ntmps172
   go_wp2_with fail
   refine (pick_any _ _ B g (p) ((hR.below (bal (Bs _) (.cells #[.slice pv nv cv, .slice pa na ca, vb] 110))).below (bal (Bs _) (.cells #[.int .i64 0, .int .i64 0, .slice none 0 0] 161))) (by omega) (by omega) (by omega)).mono ?_
   rintro e w1 ⟨r, r0, r1, rfl, hRn, hc⟩
   replace hC := (((hC.trans (Chg.of_below (bal (Bs _) _))).trans (Chg.of_below (bal (Bs _) _)))).trans hc
   replace hR := hRn; clear hRn
   have hsz1 := hc.size
   simp only [Sa] at hsz1
   have bk2 : Bk w1 (w.heap.size) [.slice pv nv cv, .slice pa na ca, vb] := Bk.keep (Bk.al (Bk.nw (by simp) rfl) (.cells #[.int .i64 0, .int .i64 0, .slice none 0 0] 161)) hc (fun h => by have := ird _ h; omega)
   have bk3 : Bk w1 (w.heap.size + 1) [.int .i64 0, .int .i64 0, .slice none 0 0] := Bk.keep (Bk.nw (by simp) rfl) hc (fun h => by have := ird _ h; omega)
   clear hc
   have lt4 := Bk.lz bk2
   have lt5 := Bk.lz bk3
   by_cases h0 : r = 0
   ·subst h0
    have hp9 : p + 1 + 2 ≤ 1000000000 := by have := HCO.out; omega
    obtain ⟨tc6, tf7⟩ := Bk.cf bk2 0 rfl
    obtain ⟨tc8, tf9⟩ := Bk.cf bk2 1 rfl
    obtain ⟨tc10, tf11⟩ := Bk.cf bk2 2 rfl
    go_wp2_with fail
    refine (l2DrawAtom_any pv pa nv cv na ca vb B g (p + 1) _ hR (by omega) hnv hnb).mono ?_
    rintro e w2 ⟨k, v, p1, rfl, hRn, hp1, hc⟩
    replace hC := (hC).trans hc
    replace hR := hRn; clear hRn
    have hsz12 := hc.size
    clear tf7 tc6 tf9 tc8 tf11 tc10
    replace bk2 := Bk.keep bk2 hc (fun h => by have := ird _ h; omega)
    replace bk3 := Bk.keep bk3 hc (fun h => by have := ird _ h; omega)
    clear hc
    replace lt4 := Bk.lz bk2
    replace lt5 := Bk.lz bk3
    have tC := (((hC.setNew (w.heap.size + 1) (0) (.int .i64 k) (Or.inr (by omega))).setNew (w.heap.size + 1) (1) (.int .i64 v) (Or.inr (by omega))).setNew (w.heap.size + 1) (2) (.slice none 0 0) (Or.inr (by omega))); have tR := (((hR.keep (C1 (w.heap.size + 1) (0) (.int .i64 k)) (by omega) (fun _ _ => by omega)).keep (C1 (w.heap.size + 1) (1) (.int .i64 v)) (by omega) (fun _ _ => by omega)).keep (C1 (w.heap.size + 1) (2) (.slice none 0 0)) (by omega) (fun _ _ => by omega))
    obtain ⟨tc13, tf14⟩ := Bk.cf bk3 0 rfl
    obtain ⟨tc15, tf16⟩ := Bk.cf bk3 1 rfl
    obtain ⟨tc17, tf18⟩ := Bk.cf bk3 2 rfl
    have x19 := (Nc (b := (w.heap.size + 1)) (j := 2) (Nc (b := (w.heap.size + 1)) (j := 1) (Tc _ (w.heap.size + 1) 0 (.int .i64 k) tc13) (by omega) (.int .i64 v)) (by omega) (.slice none 0 0))
    have x20 := (Nc (b := (w.heap.size + 1)) (j := 2) (Tc _ (w.heap.size + 1) 1 (.int .i64 v) (Nc (b := (w.heap.size + 1)) (j := 0) tc15 (by omega) (.int .i64 k))) (by omega) (.slice none 0 0))
    have x21 := (Tc _ (w.heap.size + 1) 2 (.slice none 0 0) (Nc (b := (w.heap.size + 1)) (j := 1) (Nc (b := (w.heap.size + 1)) (j := 0) tc17 (by omega) (.int .i64 k)) (by omega) (.int .i64 v)))
    have tt := True.intro
    go_wp2
    exact bodyPost_ret (v := .agg #[.int .i64 k, .int .i64 v, .slice none 0 0]) (by simp [results, Try.results172, go_sem, x19, x20, x21]) rfl (by exact ⟨⟨k, v, none, 0, 0⟩, .mk k v [], _, rfl, ExAt.leaf k v, ⟨by simp [Ex.kids], fun x hx => by simp [Ex.kids] at hx⟩, tR, by have := HCO.out; omega, tC⟩)
   ·have q0 : (r == 0) = false := by simpa using h0
    have hp9 : p + 8 ≤ 1000000000 := by have := HCO.out; omega
    go_wp2_with fail
    refine (num_any _ [4, 10, 8, 9, 3, 6, 7, 5, 11] _ B g (p + 1) (hR.below (bal (Bs _) (.cells #[.int .i64 4, .int .i64 10, .int .i64 8, .int .i64 9, .int .i64 3, .int .i64 6, .int .i64 7, .int .i64 5, .int .i64 11] 3))) (Ro (World.ownsRow_lit (base := (w1).heap.size) (e := 3) (size := 1) (w1) #[.int .i64 4, .int .i64 10, .int .i64 8, .int .i64 9, .int .i64 3, .int .i64 6, .int .i64 7, .int .i64 5, .int .i64 11] 9 (Nat.le_refl _) (by unfold maxLen; omega) (by simp)) (by simp)) (fun b o c hb => by simp at hb; omega) (by simp) (by simp) (by omega)).mono ?_
    rintro e w2 ⟨kd, kdm, rfl, hRn, hc⟩
    replace hC := ((hC.trans (Chg.of_below (bal (Bs _) _)))).trans hc
    replace hR := hRn; clear hRn
    have hsz23 := hc.size
    simp only [Sa] at hsz23
    replace bk2 := Bk.keep (Bk.al bk2 _) hc (fun h => by have := ird _ h; omega)
    replace bk3 := Bk.keep (Bk.al bk3 _) hc (fun h => by have := ird _ h; omega)
    have bk24 : Bk w2 (w1.heap.size) [.int .i64 4, .int .i64 10, .int .i64 8, .int .i64 9, .int .i64 3, .int .i64 6, .int .i64 7, .int .i64 5, .int .i64 11] := Bk.keep (Bk.nw (by simp) rfl) hc (fun h => by have := ird _ h; omega)
    clear hc
    clear bk24
    replace lt4 := Bk.lz bk2
    replace lt5 := Bk.lz bk3
    rcases drawn_kinds kdm with rfl | ⟨q3, ar, har, ha1, ha3⟩
    ·clear kdm
     by_cases hna : na = 0
     ·have q4 : ((na : Int) == 0) = true := by simp [hna]
      clear hna
      obtain ⟨tc25, tf26⟩ := Bk.cf bk2 0 rfl
      obtain ⟨tc27, tf28⟩ := Bk.cf bk2 1 rfl
      obtain ⟨tc29, tf30⟩ := Bk.cf bk2 2 rfl
      go_wp2_with fail
      refine (l2DrawAtom_any pv pa nv cv na ca vb B g (p + 1 + 1) _ hR (by omega) hnv hnb).mono ?_
      rintro e w3 ⟨k, v, p1, rfl, hRn, hp1, hc⟩
      replace hC := (hC).trans hc
      replace hR := hRn; clear hRn
      have hsz31 := hc.size
      clear tf26 tc25 tf28 tc27 tf30 tc29
      replace bk2 := Bk.keep bk2 hc (fun h => by have := ird _ h; omega)
      replace bk3 := Bk.keep bk3 hc (fun h => by have := ird _ h; omega)
      clear hc
      replace lt4 := Bk.lz bk2
      replace lt5 := Bk.lz bk3
      have tC := (((hC.setNew (w.heap.size + 1) (0) (.int .i64 k) (Or.inr (by omega))).setNew (w.heap.size + 1) (1) (.int .i64 v) (Or.inr (by omega))).setNew (w.heap.size + 1) (2) (.slice none 0 0) (Or.inr (by omega))); have tR := (((hR.keep (C1 (w.heap.size + 1) (0) (.int .i64 k)) (by omega) (fun _ _ => by omega)).keep (C1 (w.heap.size + 1) (1) (.int .i64 v)) (by omega) (fun _ _ => by omega)).keep (C1 (w.heap.size + 1) (2) (.slice none 0 0)) (by omega) (fun _ _ => by omega))
      obtain ⟨tc32, tf33⟩ := Bk.cf bk3 0 rfl
      obtain ⟨tc34, tf35⟩ := Bk.cf bk3 1 rfl
      obtain ⟨tc36, tf37⟩ := Bk.cf bk3 2 rfl
      have x38 := (Nc (b := (w.heap.size + 1)) (j := 2) (Nc (b := (w.heap.size + 1)) (j := 1) (Tc _ (w.heap.size + 1) 0 (.int .i64 k) tc32) (by omega) (.int .i64 v)) (by omega) (.slice none 0 0))
      have x39 := (Nc (b := (w.heap.size + 1)) (j := 2) (Tc _ (w.heap.size + 1) 1 (.int .i64 v) (Nc (b := (w.heap.size + 1)) (j := 0) tc34 (by omega) (.int .i64 k))) (by omega) (.slice none 0 0))
      have x40 := (Tc _ (w.heap.size + 1) 2 (.slice none 0 0) (Nc (b := (w.heap.size + 1)) (j := 1) (Nc (b := (w.heap.size + 1)) (j := 0) tc36 (by omega) (.int .i64 k)) (by omega) (.int .i64 v)))
      have tt := True.intro
      go_wp2
      exact bodyPost_ret (v := .agg #[.int .i64 k, .int .i64 v, .slice none 0 0]) (by simp [results, Try.results172, go_sem, x38, x39, x40]) rfl (by exact ⟨⟨k, v, none, 0, 0⟩, .mk k v [], _, rfl, ExAt.leaf k v, ⟨by simp [Ex.kids], fun x hx => by simp [Ex.kids] at hx⟩, tR, by have := HCO.out; omega, tC⟩)
     ·have q4 : ((na : Int) == 0) = false := by simp; omega
      obtain ⟨tc41, tf42⟩ := Bk.cf bk2 1 rfl
      go_upto_region 7 with (fail)
      replace lt4 := Bk.lz bk2
      replace lt5 := Bk.lz bk3
      clear tf42 tc41
      obtain ⟨tc43, tf44⟩ := Bk.cf bk2 1 rfl
      obtain ⟨tc45, tf46⟩ := Bk.cf bk2 0 rfl
      obtain ⟨tc47, tf48⟩ := Bk.cf bk2 2 rfl
      refine wp_region_noPanic ?_
      refine wp_region_held_drew (S := (fun W' => W'.cell? ⟨w.heap.size, 1, none⟩ = some (.slice pa na ca) ∧ W'.cell? ⟨w.heap.size, 0, none⟩ = some (.slice pv nv cv) ∧ W'.cell? ⟨w.heap.size, 2, none⟩ = some (vb))) (by kernel_rfl) ⟨Kc (Below.drew (Bs w2)) tc43, Kc (Below.drew (Bs w2)) tc45, Kc (Below.drew (Bs w2)) tc47⟩ (fun hHeld => ?_)
      obtain ⟨w3, hwd⟩ : ∃ X, X = World.drew w2 := ⟨_, rfl⟩
      rw [← hwd] at hHeld ⊢
      have hb : Below w2.heap.size w2 w3 := by rw [hwd]; exact Below.drew (Bs _)
      clear hwd
      replace hC := (hC).trans (Chg.of_below hb)
      replace hR := hR.below hb
      have hsz49 := hb.size
      replace tf44 := Kf hb (Lc tc43) tf44
      replace tf46 := Kf hb (Lc tc45) tf46
      replace tf48 := Kf hb (Lc tc47) tf48
      replace tc43 := Kc hb tc43
      replace tc45 := Kc hb tc45
      replace tc47 := Kc hb tc47
      replace bk2 := Bk.below bk2 hb
      replace bk3 := Bk.below bk3 hb
      clear hb
      replace lt4 := Bk.lz bk2
      replace lt5 := Bk.lz bk3
      refine (tq 0 32 rfl rfl ?_ ?_ (tq 1 33 rfl rfl ?_ ?_ (tq 2 34 rfl rfl ?_ ?_ (tq 3 35 rfl rfl ?_ ?_ (tq 4 36 rfl rfl ?_ ?_ (tq 6 38 rfl rfl ?_ ?_ (tq 7 39 rfl rfl ?_ ?_ ?_)))))))
      iterate 7 (rotate_left; intro W' hSw; (try dsimp only at hSw); go_simp; try with_reducible rfl)
      try simp only [Act.put, sb, List.set]
      refine Rdy 5 rfl (fun K hK => ?_)
      go_simp
      refine (pick_any _ _ B g (p + 1 + 1) hR (by omega) (by omega) (by omega)).mono ?_
      rintro e w4 ⟨i, i0, i1, rfl, hRn, hc⟩
      replace hC := (hC).trans hc
      replace hR := hRn; clear hRn
      have hsz50 := hc.size
      replace tf44 := Gf hc (Lc tc43) tf44 (fun h => by have := ird _ h; omega)
      replace tf46 := Gf hc (Lc tc45) tf46 (fun h => by have := ird _ h; omega)
      replace tf48 := Gf hc (Lc tc47) tf48 (fun h => by have := ird _ h; omega)
      replace tc43 := Gc hc tc43 (fun h => by have := ird _ h; omega)
      replace tc45 := Gc hc tc45 (fun h => by have := ird _ h; omega)
      replace tc47 := Gc hc tc47 (fun h => by have := ird _ h; omega)
      replace bk2 := Bk.keep bk2 hc (fun h => by have := ird _ h; omega)
      replace bk3 := Bk.keep bk3 hc (fun h => by have := ird _ h; omega)
      clear hc
      replace lt4 := Bk.lz bk2
      replace lt5 := Bk.lz bk3
      refine hK.out _ _ ⟨tc43, tc45, tc47⟩ (fun hHeld => ?_)
      clear hK K
      try simp only [Act.put, sb, List.set]
      refine Rdy 8 rfl (fun K hK => ?_)
      go_simp
      refine (l2DrawAtom_any pv pa nv cv na ca vb B g (p + 1 + 1 + 1) _ hR (by omega) hnv hnb).mono ?_
      rintro e w5 ⟨k, kv, p1, rfl, hRn, hp1, hc⟩
      replace hC := (hC).trans hc
      replace hR := hRn; clear hRn
      have hsz51 := hc.size
      replace tf44 := Gf hc (Lc tc43) tf44 (fun h => by have := ird _ h; omega)
      replace tf46 := Gf hc (Lc tc45) tf46 (fun h => by have := ird _ h; omega)
      replace tf48 := Gf hc (Lc tc47) tf48 (fun h => by have := ird _ h; omega)
      replace tc43 := Gc hc tc43 (fun h => by have := ird _ h; omega)
      replace tc45 := Gc hc tc45 (fun h => by have := ird _ h; omega)
      replace tc47 := Gc hc tc47 (fun h => by have := ird _ h; omega)
      replace bk2 := Bk.keep bk2 hc (fun h => by have := ird _ h; omega)
      replace bk3 := Bk.keep bk3 hc (fun h => by have := ird _ h; omega)
      clear hc
      replace lt4 := Bk.lz bk2
      replace lt5 := Bk.lz bk3
      refine hK.out _ _ ⟨tc43, tc45, tc47⟩ (fun hHeld => ?_)
      clear hK K
      try simp only [Act.put, sb, List.set]
      refine Rdy 9 rfl (fun K hK => ?_)
      go_simp
      obtain ⟨w6, hnw, hb⟩ := nmw (World.alloc w5 (.cells #[.int .i64 k, .int .i64 kv, .slice none 0 0] 161))
      replace hC := ((hC.trans (Chg.of_below (bal (Bs _) _)))).trans (Chg.of_below hb)
      replace hR := (hR.below (bal (Bs _) _)).below hb
      have ol52 := Ob (World.ownsRow_lit (base := (w5).heap.size) (e := 161) (size := 3) (w5) #[.int .i64 k, .int .i64 kv, .slice none 0 0] 1 (Nat.le_refl _) (by unfold maxLen; omega) (by simp)) hb
      try simp only [Sa, Ss] at ol52
      have hsz53 := hb.size
      simp only [Sa] at hsz53
      replace tf44 := Kf hb (Lc (Ac tc43 _)) (Fa (Lc tc43) tf44 _)
      replace tf46 := Kf hb (Lc (Ac tc45 _)) (Fa (Lc tc45) tf46 _)
      replace tf48 := Kf hb (Lc (Ac tc47 _)) (Fa (Lc tc47) tf48 _)
      replace tc43 := Kc hb (Ac tc43 _)
      replace tc45 := Kc hb (Ac tc45 _)
      replace tc47 := Kc hb (Ac tc47 _)
      replace bk2 := Bk.below (Bk.al bk2 _) hb
      replace bk3 := Bk.below (Bk.al bk3 _) hb
      have bk54 : Bk w6 (w5.heap.size) [.int .i64 k, .int .i64 kv, .slice none 0 0] := Bk.below (Bk.nw (by simp) rfl) hb
      clear hb
      have iv55 := ol52.lt
      try simp only [Sa] at iv55
      rw [← hnw]
      clear hnw
      replace lt4 := Bk.lz bk2
      replace lt5 := Bk.lz bk3
      have lt56 := Bk.lz bk54
      refine hK.out _ _ ⟨tc43, tc45, tc47⟩ (fun hHeld => ?_)
      clear hK K
      try simp only [Act.put, sb, List.set]
      refine (tq 10 42 rfl rfl (.agg #[.int .i64 3, .int .i64 i, .slice (some ⟨w5.heap.size, 0, none⟩) 1 1]) (fun W' _ => by kernel_rfl) ?_)
      try simp only [Act.put, sb, List.set]
      refine Rdy 11 rfl (fun K hK => ?_)
      obtain ⟨tc57, tf58⟩ := Bk.cf bk3 0 rfl
      obtain ⟨tc59, tf60⟩ := Bk.cf bk3 1 rfl
      obtain ⟨tc61, tf62⟩ := Bk.cf bk3 2 rfl
      go_simp
      obtain ⟨w7, hnw, hb⟩ := nmw (World.setCell (World.setCell (World.setCell w6 ⟨w.heap.size + 1, 0, none⟩ (.int .i64 3)) ⟨w.heap.size + 1, 1, none⟩ (.int .i64 i)) ⟨w.heap.size + 1, 2, none⟩ (.slice (some ⟨w5.heap.size, 0, none⟩) 1 1))
      replace hC := ((((hC.setNew _ _ _ (Or.inr (by omega))).setNew _ _ _ (Or.inr (by omega))).setNew _ _ _ (Or.inr (by omega)))).trans (Chg.of_below hb)
      replace hR := (((hR.keep (C1 _ _ _) (by omega) (fun _ _ => by omega)).keep (C1 _ _ _) (by omega) (fun _ _ => by omega)).keep (C1 _ _ _) (by omega) (fun _ _ => by omega)).below hb
      have hsz63 := hb.size
      simp only [Ss] at hsz63
      clear tf58 tc57 tf60 tc59 tf62 tc61
      replace tf44 := Kf hb (Lc (Nc (Nc (Nc tc43 (by omega) _) (by omega) _) (by omega) _)) (Fs (Fs (Fs tf44 _) _) _)
      replace tf46 := Kf hb (Lc (Nc (Nc (Nc tc45 (by omega) _) (by omega) _) (by omega) _)) (Fs (Fs (Fs tf46 _) _) _)
      replace tf48 := Kf hb (Lc (Nc (Nc (Nc tc47 (by omega) _) (by omega) _) (by omega) _)) (Fs (Fs (Fs tf48 _) _) _)
      replace tc43 := Kc hb (Nc (Nc (Nc tc43 (by omega) _) (by omega) _) (by omega) _)
      replace tc45 := Kc hb (Nc (Nc (Nc tc45 (by omega) _) (by omega) _) (by omega) _)
      replace tc47 := Kc hb (Nc (Nc (Nc tc47 (by omega) _) (by omega) _) (by omega) _)
      replace ol52 := Ob (Oe (Oe (Oe ol52 _ _ (fun h => by have := iv55 _ h; omega) _) _ _ (fun h => by have := iv55 _ h; omega) _) _ _ (fun h => by have := iv55 _ h; omega) _) hb
      replace bk2 := Bk.below (Bk.ne (Bk.ne (Bk.ne bk2 (by omega) _) (by omega) _) (by omega) _) hb
      replace bk3 : Bk w7 (w.heap.size + 1) [.int .i64 3, .int .i64 i, .slice (some ⟨w5.heap.size, 0, none⟩) 1 1] := Bk.below (Bk.at (Bk.at (Bk.at bk3 0 (.int .i64 3)) 1 (.int .i64 i)) 2 (.slice (some ⟨w5.heap.size, 0, none⟩) 1 1)) hb
      replace bk54 := Bk.below (Bk.ne (Bk.ne (Bk.ne bk54 (by omega) _) (by omega) _) (by omega) _) hb
      clear hb
      rw [← hnw]
      clear hnw
      replace lt4 := Bk.lz bk2
      replace lt5 := Bk.lz bk3
      replace lt56 := Bk.lz bk54
      refine hK.out _ _ ⟨tc43, tc45, tc47⟩ (fun hHeld => ?_)
      clear hK K
      try simp only [Act.put, sb, List.set]
      refine wpAnyH_done (by kernel_rfl) ?_ _
      refine NoPanic.normal ?_
      clear hHeld
      have hT := Lib.hid (KidsAt.node (W := w7) (b8 := w.heap.size) (d := d + 1) (rs := [⟨k, kv, none, 0, 0⟩]) (l := [.mk k kv []]) (a := some ⟨w5.heap.size, 0, none⟩) (c := 1) ⟨rfl, Om ol52 (by omega), fun j h1 h2 => by (have hj : j = 0 := by simp at h1; omega); subst hj; exact ExAt.leaf k kv, fun x hx => by rw [List.mem_singleton.1 hx]; exact ⟨by simp [Ex.kids], fun x hx => by simp [Ex.kids] at hx⟩⟩ (by simp) 3 i)
      have tC := hC; have tR := hR
      obtain ⟨tc64, tf65⟩ := Bk.cf bk3 0 rfl
      obtain ⟨tc66, tf67⟩ := Bk.cf bk3 1 rfl
      obtain ⟨tc68, tf69⟩ := Bk.cf bk3 2 rfl
      have x70 := tc64
      have x71 := tc66
      have x72 := tc68
      have tt := True.intro
      go_wp2
      exact bodyPost_ret (v := .agg #[.int .i64 3, .int .i64 i, .slice (some ⟨w5.heap.size, 0, none⟩) 1 1]) (by simp [results, Try.results172, go_sem, x70, x71, x72]) rfl (by exact ⟨⟨3, i, some ⟨w5.heap.size, 0, none⟩, 1, 1⟩, .mk 3 i [.mk k kv []], _, rfl, ExAt.keep (S := fun _ => False) (Chg.of_below (Bs _)) (fun _ _ _ => id) (fun q (hq : w.heap.size < q) _ => by show w.heap.size ≤ q; omega) (by omega) hT.out.1, Thin.mono (by omega) hT.out.2, tR, by have := HCO.out; omega, tC⟩)
    ·have HAR := Lib.hid har; clear har kdm h0 q0
     go_wp2_with fail
     refine (l2Arity_any _ _).mono ?_
     rintro e w3 ⟨rfl, hww⟩
     rw [HAR.out]
     have hb : Below ((World.alloc w2 (.cells #[.int .i64 kd, .int .i64 0, .slice none 0 0] 161))).heap.size ((World.alloc w2 (.cells #[.int .i64 kd, .int .i64 0, .slice none 0 0] 161))) w3 := by rw [hww]; exact Bs _
     clear hww
     replace hC := ((hC.trans (Chg.of_below (bal (Bs _) _)))).trans (Chg.of_below hb)
     replace hR := (hR.below (bal (Bs _) _)).below hb
     have hsz73 := hb.size
     simp only [Sa] at hsz73
     replace bk2 := Bk.below (Bk.al bk2 _) hb
     replace bk3 := Bk.below (Bk.al bk3 _) hb
     have bk74 : Bk w3 (w2.heap.size) [.int .i64 kd, .int .i64 0, .slice none 0 0] := Bk.below (Bk.nw (by simp) rfl) hb
     clear hb
     replace lt4 := Bk.lz bk2
     replace lt5 := Bk.lz bk3
     have lt75 := Bk.lz bk74
     obtain ⟨tc76, tf77⟩ := Bk.cf bk74 0 rfl
     obtain ⟨tc78, tf79⟩ := Bk.cf bk74 1 rfl
     obtain ⟨tc80, tf81⟩ := Bk.cf bk74 2 rfl
     obtain ⟨tc82, tf83⟩ := Bk.cf bk2 0 rfl
     obtain ⟨tc84, tf85⟩ := Bk.cf bk2 1 rfl
     obtain ⟨tc86, tf87⟩ := Bk.cf bk2 2 rfl
     obtain ⟨tc88, tf89⟩ := Bk.cf bk3 0 rfl
     obtain ⟨tc90, tf91⟩ := Bk.cf bk3 1 rfl
     obtain ⟨tc92, tf93⟩ := Bk.cf bk3 2 rfl
     have HL0 := Lib.hid (show _ ∧ _ ∧ _ ∧ _ ∧ _ ∧ _ ∧ _ ∧ _ ∧ _ ∧ _ ∧ _ ∧ _ ∧ _ from ⟨tc76, tc78, tc80, tf81, tc82, tc84, tc86, tc88, tc90, tc92, tf89, tf91, tf93⟩)
     have hsz8 : w.heap.size ≤ w2.heap.size ∧ w2.heap.size < w3.heap.size ∧ w.heap.size ≤ w.heap.size + 1 ∧ w.heap.size + 1 < w2.heap.size := by omega
     have HI0 : Hid (let wr := w3; ∃ i, i = Value.int .i64 (ar : Nat) ∧ (∃ (k : Nat) (rs : List En) (l : List Ex) (a : Option Addr) (c pk : Nat), k ≤ ar ∧ i = .int .i64 ((ar : Int) - k) ∧ l.length = k ∧ KidsAt wr w2.heap.size (d + 1) (.slice a k c) rs l ∧ wr.cell? ⟨w2.heap.size, 0, none⟩ = some (.int .i64 kd) ∧ wr.cell? ⟨w2.heap.size, 1, none⟩ = some (.int .i64 0) ∧ wr.cell? ⟨w2.heap.size, 2, none⟩ = some (.slice a k c) ∧ wr.frozen? ⟨w2.heap.size, 2, none⟩ = false ∧ wr.cell? ⟨w.heap.size, 0, none⟩ = some (.slice pv nv cv) ∧ wr.cell? ⟨w.heap.size, 1, none⟩ = some (.slice pa na ca) ∧ wr.cell? ⟨w.heap.size, 2, none⟩ = some (vb) ∧ wr.cell? ⟨w.heap.size + 1, 0, none⟩ = some (.int .i64 0) ∧ wr.cell? ⟨w.heap.size + 1, 1, none⟩ = some (.int .i64 0) ∧ wr.cell? ⟨w.heap.size + 1, 2, none⟩ = some (.slice none 0 0) ∧ wr.frozen? ⟨w.heap.size + 1, 0, none⟩ = false ∧ wr.frozen? ⟨w.heap.size + 1, 1, none⟩ = false ∧ wr.frozen? ⟨w.heap.size + 1, 2, none⟩ = false ∧ Rnd wr B g pk ∧ pk ≤ p + 2 + k * dcost d ∧ Chg (fun q => q = g) w wr ∧ wr.heap.size ≤ wr.heap.size)) := Lib.hid ⟨_, rfl, 0, [], [], none, 0, p + 1 + 1, by omega, by simp, rfl, KidsAt.nil, tc76, tc78, tc80, tf81, tc82, tc84, tc86, tc88, tc90, tc92, tf89, tf91, tf93, hR, by omega, hC, Nat.le_refl _⟩
     clear HL0 hR hC bk2 bk3 bk74 tc76 tf77 tc78 tf79 tc80 tf81 tc82 tf83 tc84 tf85 tc86 tf87 tc88 tf89 tc90 tf91 tc92 tf93 lt4 lt5 lt75
     go_wp2_with fail
     go_loopw [9] (fun i wr => ∃ (k : Nat) (rs : List En) (l : List Ex) (a : Option Addr) (c pk : Nat), k ≤ ar ∧ i = .int .i64 ((ar : Int) - k) ∧ l.length = k ∧ KidsAt wr w2.heap.size (d + 1) (.slice a k c) rs l ∧ wr.cell? ⟨w2.heap.size, 0, none⟩ = some (.int .i64 kd) ∧ wr.cell? ⟨w2.heap.size, 1, none⟩ = some (.int .i64 0) ∧ wr.cell? ⟨w2.heap.size, 2, none⟩ = some (.slice a k c) ∧ wr.frozen? ⟨w2.heap.size, 2, none⟩ = false ∧ wr.cell? ⟨w.heap.size, 0, none⟩ = some (.slice pv nv cv) ∧ wr.cell? ⟨w.heap.size, 1, none⟩ = some (.slice pa na ca) ∧ wr.cell? ⟨w.heap.size, 2, none⟩ = some (vb) ∧ wr.cell? ⟨w.heap.size + 1, 0, none⟩ = some (.int .i64 0) ∧ wr.cell? ⟨w.heap.size + 1, 1, none⟩ = some (.int .i64 0) ∧ wr.cell? ⟨w.heap.size + 1, 2, none⟩ = some (.slice none 0 0) ∧ wr.frozen? ⟨w.heap.size + 1, 0, none⟩ = false ∧ wr.frozen? ⟨w.heap.size + 1, 1, none⟩ = false ∧ wr.frozen? ⟨w.heap.size + 1, 2, none⟩ = false ∧ Rnd wr B g pk ∧ pk ≤ p + 2 + k * dcost d ∧ Chg (fun q => q = g) w wr ∧ wr.heap.size ≤ wr.heap.size) (fun i _ => (intOf i).toNat)
     case atStart => obtain ⟨i, hi, h⟩ := HI0.out; rw [hi] at h; exact h
     case round =>
      obtain ⟨k, rs, l, a, c, pk, hk, rfl, hlk, hKA, d0, d1, d2, df, c0, c1, c2, s0, s1, s2, sf0, sf1, sf2, hR, hpk, hC, hzr⟩ := hrel
      clear HI0
      have k8 := Lc d0
      have k4 := Lc c0
      have k6 := Lc s0
      have hKO := hKA.own.lt
      by_cases hlt : k < ar
      ·have qi : (0 : Int) < (ar : Int) - k := by omega
       have hkd : k * dcost d ≤ 2 * dcost d := Nat.mul_le_mul_right _ (by omega)
       have hpb : pk + dcost d ≤ 1000000000 := by have := HCO.out; omega
       have HWD : Hid (IntKind.i64.wrap (d : Int) = d) := Lib.hid (IntWalk.i64_in _ (by omega))
       have HLK := Lib.hid hlk
       clear hlk
       have hKOr : ∀ q, (Value.slice a k c).ownBlock = some q → q < wr.heap.size := fun q hq => (hKA.own.lt q hq).2
       go_upto_region 12 with (fail)
       have lt94 := Lc d0
       have lt95 := Lc c0
       have lt96 := Lc s0
       refine wp_region_noPanic ?_
       refine wp_region_held_drew (S := (fun W' => W'.cell? ⟨w.heap.size, 0, none⟩ = some (.slice pv nv cv) ∧ W'.cell? ⟨w.heap.size, 1, none⟩ = some (.slice pa na ca) ∧ W'.cell? ⟨w.heap.size, 2, none⟩ = some (vb))) (by kernel_rfl) ⟨Kc (Below.drew (Bs wr)) c0, Kc (Below.drew (Bs wr)) c1, Kc (Below.drew (Bs wr)) c2⟩ (fun hHeld => ?_)
       obtain ⟨w4, hwd⟩ : ∃ X, X = World.drew wr := ⟨_, rfl⟩
       rw [← hwd] at hHeld ⊢
       have hb : Below wr.heap.size wr w4 := by rw [hwd]; exact Below.drew (Bs _)
       clear hwd
       have hKA9 := hKA.below hb
       replace hC := (hC).trans (Chg.of_below hb)
       replace hR := hR.below hb
       have hsz97 := hb.size
       replace df := Kf hb (Lc d2) df
       replace sf0 := Kf hb (Lc s0) sf0
       replace sf1 := Kf hb (Lc s1) sf1
       replace sf2 := Kf hb (Lc s2) sf2
       replace d0 := Kc hb d0
       replace d1 := Kc hb d1
       replace d2 := Kc hb d2
       replace c0 := Kc hb c0
       replace c1 := Kc hb c1
       replace c2 := Kc hb c2
       replace s0 := Kc hb s0
       replace s1 := Kc hb s1
       replace s2 := Kc hb s2
       clear hb
       clear hKA; have hKA := hKA9; clear hKA9
       replace lt94 := Lc d0
       replace lt95 := Lc c0
       replace lt96 := Lc s0
       refine (tq 0 51 rfl rfl ?_ ?_ (tq 2 53 rfl rfl ?_ ?_ (tq 3 54 rfl rfl ?_ ?_ (tq 4 55 rfl rfl ?_ ?_ (tq 5 56 rfl rfl ?_ ?_ ?_)))))
       iterate 5 (rotate_left; intro W' hSw; (try dsimp only at hSw); go_simp; try with_reducible rfl)
       try simp only [Act.put, sb, List.set]
       refine wpAnyH_ready (rs := [1, 6]) (by kernel_rfl) (by simp) ?_
       refine AllReadyH.cons rfl (fun K hK => ?_) ?_
       ·-- 1
        go_simp
        replace lt94 := Lc d0
        replace lt95 := Lc c0
        replace lt96 := Lc s0
        refine hK.out _ _ ⟨c0, c1, c2⟩ (fun hHeld => ?_)
        clear hK K
        try simp only [Act.put, sb, List.set]
        refine Rdy 6 rfl (fun K hK => ?_)
        go_simp
        rw [HWD.out]
        refine (IH pk _ (by omega) hR hpb).mono ?_
        rintro e w5 ⟨n, e, p1, rfl, hE, hTh, hRn, hp1, hc⟩
        have hKA9 := hKA.keep hc (fun q hq (h : q = g) => by omega)
        replace hC := (hC).trans hc
        replace hR := hRn; clear hRn
        have hsz98 := hc.size
        replace df := Gf hc (Lc d2) df (fun h => by have := ird _ h; omega)
        replace sf0 := Gf hc (Lc s0) sf0 (fun h => by have := ird _ h; omega)
        replace sf1 := Gf hc (Lc s1) sf1 (fun h => by have := ird _ h; omega)
        replace sf2 := Gf hc (Lc s2) sf2 (fun h => by have := ird _ h; omega)
        replace d0 := Gc hc d0 (fun h => by have := ird _ h; omega)
        replace d1 := Gc hc d1 (fun h => by have := ird _ h; omega)
        replace d2 := Gc hc d2 (fun h => by have := ird _ h; omega)
        replace c0 := Gc hc c0 (fun h => by have := ird _ h; omega)
        replace c1 := Gc hc c1 (fun h => by have := ird _ h; omega)
        replace c2 := Gc hc c2 (fun h => by have := ird _ h; omega)
        replace s0 := Gc hc s0 (fun h => by have := ird _ h; omega)
        replace s1 := Gc hc s1 (fun h => by have := ird _ h; omega)
        replace s2 := Gc hc s2 (fun h => by have := ird _ h; omega)
        clear hc
        clear hKA; have hKA := hKA9; clear hKA9
        replace lt94 := Lc d0
        replace lt95 := Lc c0
        replace lt96 := Lc s0
        refine hK.out _ _ ⟨c0, c1, c2⟩ (fun hHeld => ?_)
        clear hK K
        try simp only [Act.put, sb, List.set]
        refine Rdy 7 rfl (fun K hK => ?_)
        go_simp
        obtain ⟨w6, hnw, hb⟩ := nmw (World.alloc w5 (.cells #[.int .i64 n.k, .int .i64 n.v, .slice n.p n.n n.c] 161))
        have hKA9 := (hKA.below (bal (Bs _) (.cells #[.int .i64 n.k, .int .i64 n.v, .slice n.p n.n n.c] 161))).below hb
        replace hC := ((hC.trans (Chg.of_below (bal (Bs _) _)))).trans (Chg.of_below hb)
        replace hR := (hR.below (bal (Bs _) _)).below hb
        have ol99 := Ob (World.ownsRow_lit (base := (w5).heap.size) (e := 161) (size := 3) (w5) #[.int .i64 n.k, .int .i64 n.v, .slice n.p n.n n.c] 1 (Nat.le_refl _) (by unfold maxLen; omega) (by simp)) hb
        try simp only [Sa, Ss] at ol99
        replace hE := ((hE.below (bal (Bs _) _)).below hb)
        have hsz100 := hb.size
        simp only [Sa] at hsz100
        replace df := Kf hb (Lc (Ac d2 _)) (Fa (Lc d2) df _)
        replace sf0 := Kf hb (Lc (Ac s0 _)) (Fa (Lc s0) sf0 _)
        replace sf1 := Kf hb (Lc (Ac s1 _)) (Fa (Lc s1) sf1 _)
        replace sf2 := Kf hb (Lc (Ac s2 _)) (Fa (Lc s2) sf2 _)
        replace d0 := Kc hb (Ac d0 _)
        replace d1 := Kc hb (Ac d1 _)
        replace d2 := Kc hb (Ac d2 _)
        replace c0 := Kc hb (Ac c0 _)
        replace c1 := Kc hb (Ac c1 _)
        replace c2 := Kc hb (Ac c2 _)
        replace s0 := Kc hb (Ac s0 _)
        replace s1 := Kc hb (Ac s1 _)
        replace s2 := Kc hb (Ac s2 _)
        have bk101 : Bk w6 (w5.heap.size) [.int .i64 n.k, .int .i64 n.v, .slice n.p n.n n.c] := Bk.below (Bk.nw (by simp) rfl) hb
        clear hb
        have iv102 := ol99.lt
        try simp only [Sa] at iv102
        clear hKA; have hKA := hKA9; clear hKA9
        rw [← hnw]
        clear hnw
        replace lt94 := Lc d0
        replace lt95 := Lc c0
        replace lt96 := Lc s0
        have lt103 := Bk.lz bk101
        refine hK.out _ _ ⟨c0, c1, c2⟩ (fun hHeld => ?_)
        clear hK K
        try simp only [Act.put, sb, List.set]
        refine Rdy 8 rfl (fun K hK => ?_)
        have hKO := hKA.own.lt
        have iK : ∀ q, (Value.slice a k c).ownBlock = some q → w.heap.size ≤ q ∧ w2.heap.size < q ∧ q < w4.heap.size := fun q hq => by have h1 := hKOr q hq; have h2 := hKO q hq; omega
        have hKO3 : w6.ownsRow (w2.heap.size + 1) 161 3 (.slice a k c) k (rows enc rs) := by have h := hKA.own; rw [HLK.out] at h; exact h
        refine step_aps tExprs rfl _ _ rfl (w2.heap.size + 1) _ k (rows enc rs) rfl hKO3 _ 1 (enc n) rfl (Ro ol99 (by simp)) (one_enc n) (by omega) (by omega) ?_
        intro vA w7 oA hc hNw _
        obtain ⟨pA, tA, rfl⟩ := Oh oA
        have hKA9 := KidsAt.push hKA (by rw [HLK.out]; exact oA) hc hNw hE hTh (by omega) (fun q hq => by have := hKOr q hq; omega)
        replace hC := chg_app hC hc (fun q hq h => by have := iK q h; omega)
        replace hR := hR.keep hc (fun h => by have := iK _ h; omega) (fun k hk h => by have := iK _ h; omega)
        replace hE := ExAt.keep hc (fun q (hq : w4.heap.size ≤ q) _ h => by have := iK q h; omega) (fun _ h _ => h) (Nat.le_refl _) hE
        have hsz104 := hc.size
        replace df := Gf hc (Lc d2) df (fun h => by have := iK _ h; omega)
        replace sf0 := Gf hc (Lc s0) sf0 (fun h => by have := iK _ h; omega)
        replace sf1 := Gf hc (Lc s1) sf1 (fun h => by have := iK _ h; omega)
        replace sf2 := Gf hc (Lc s2) sf2 (fun h => by have := iK _ h; omega)
        replace d0 := Gc hc d0 (fun h => by have := iK _ h; omega)
        replace d1 := Gc hc d1 (fun h => by have := iK _ h; omega)
        replace d2 := Gc hc d2 (fun h => by have := iK _ h; omega)
        replace c0 := Gc hc c0 (fun h => by have := iK _ h; omega)
        replace c1 := Gc hc c1 (fun h => by have := iK _ h; omega)
        replace c2 := Gc hc c2 (fun h => by have := iK _ h; omega)
        replace s0 := Gc hc s0 (fun h => by have := iK _ h; omega)
        replace s1 := Gc hc s1 (fun h => by have := iK _ h; omega)
        replace s2 := Gc hc s2 (fun h => by have := iK _ h; omega)
        replace ol99 := Ow ol99 hc (fun gq h h2 => by have := iv102 gq h; have := iK gq h2; omega)
        replace bk101 := Bk.keep bk101 hc (fun h => by have := iK _ h; omega)
        clear hc
        clear hKA; have hKA := hKA9; clear hKA9
        clear hNw oA hKO3 iK hKO
        replace lt94 := Lc d0
        replace lt95 := Lc c0
        replace lt96 := Lc s0
        replace lt103 := Bk.lz bk101
        refine hK.out _ _ ⟨c0, c1, c2⟩ (fun hHeld => ?_)
        clear hK K
        try simp only [Act.put, sb, List.set]
        refine (tq 9 60 rfl rfl ?_ ?_ ?_)
        (rotate_left; intro W' hSw; (try dsimp only at hSw); go_simp; try with_reducible rfl)
        try simp only [Act.put, sb, List.set]
        refine Rdy 10 rfl (fun K hK => ?_)
        go_simp
        obtain ⟨w8, hnw, hb⟩ := nmw (World.setCell w7 ⟨w2.heap.size, 2, none⟩ (.slice pA (k + 1) tA))
        have hKA9 := (hKA.keep (C1 (w2.heap.size) 2 (.slice pA (k + 1) tA)) (fun q hq (h : q = (w2.heap.size)) => by omega)).below hb
        replace hC := ((hC.setNew _ _ _ (Or.inr (by omega)))).trans (Chg.of_below hb)
        replace hR := (hR.keep (C1 _ _ _) (by omega) (fun _ _ => by omega)).below hb
        have hsz105 := hb.size
        simp only [Ss] at hsz105
        replace df := Kf hb (Lc (Tc _ (w2.heap.size) 2 (.slice pA (k + 1) tA) d2)) (Fs df _)
        replace sf0 := Kf hb (Lc (Nc s0 (by omega) _)) (Fs sf0 _)
        replace sf1 := Kf hb (Lc (Nc s1 (by omega) _)) (Fs sf1 _)
        replace sf2 := Kf hb (Lc (Nc s2 (by omega) _)) (Fs sf2 _)
        replace d0 := Kc hb (Nc d0 (by omega) _)
        replace d1 := Kc hb (Nc d1 (by omega) _)
        replace d2 : w8.cell? ⟨w2.heap.size, 2, none⟩ = some (.slice pA (k + 1) tA) := Kc hb (Tc _ (w2.heap.size) 2 (.slice pA (k + 1) tA) d2)
        replace c0 := Kc hb (Nc c0 (by omega) _)
        replace c1 := Kc hb (Nc c1 (by omega) _)
        replace c2 := Kc hb (Nc c2 (by omega) _)
        replace s0 := Kc hb (Nc s0 (by omega) _)
        replace s1 := Kc hb (Nc s1 (by omega) _)
        replace s2 := Kc hb (Nc s2 (by omega) _)
        replace ol99 := Ob (Oe ol99 _ _ (fun h => by have := iv102 _ h; omega) _) hb
        replace bk101 := Bk.below (Bk.ne bk101 (by omega) _) hb
        clear hb
        clear hKA; have hKA := hKA9; clear hKA9
        rw [← hnw]
        clear hnw
        replace lt94 := Lc d0
        replace lt95 := Lc c0
        replace lt96 := Lc s0
        replace lt103 := Bk.lz bk101
        refine hK.out _ _ ⟨c0, c1, c2⟩ (fun hHeld => ?_)
        clear hK K
        try simp only [Act.put, sb, List.set]
        refine wpAnyH_done (by kernel_rfl) ?_ _
        refine NoPanic.normal ?_
        clear hHeld
        have hla : (l ++ [e]).length = k + 1 := by rw [List.length_append, HLK.out]; rfl
        have HLA := Lib.hid hla; clear hla
        have hmul : (k + 1) * dcost d = k * dcost d + dcost d := Nat.succ_mul _ _
        have HMU := Lib.hid hmul; clear hmul
        have HKA := Lib.hid hKA; clear hKA
        have HH := Lib.hid (And.intro hR hC); clear hR hC
        go_wp2
        go_roundw
        case rel => exact ⟨k + 1, rs ++ [n], l ++ [e], pA, tA, p1, by omega, by congr 1; omega, HLA.out, HKA.out, d0, d1, d2, df, c0, c1, c2, s0, s1, s2, sf0, sf1, sf2, HH.out.1, by have := HMU.out; omega, HH.out.2, by omega⟩
        case measure => simp [intOf]; omega
       refine AllReadyH.cons rfl (fun K hK => ?_) AllReadyH.nil
       go_simp
       rw [HWD.out]
       refine (IH pk _ (by omega) hR hpb).mono ?_
       rintro e w5 ⟨n, e, p1, rfl, hE, hTh, hRn, hp1, hc⟩
       have hKA9 := hKA.keep hc (fun q hq (h : q = g) => by omega)
       replace hC := (hC).trans hc
       replace hR := hRn; clear hRn
       have hsz106 := hc.size
       replace df := Gf hc (Lc d2) df (fun h => by have := ird _ h; omega)
       replace sf0 := Gf hc (Lc s0) sf0 (fun h => by have := ird _ h; omega)
       replace sf1 := Gf hc (Lc s1) sf1 (fun h => by have := ird _ h; omega)
       replace sf2 := Gf hc (Lc s2) sf2 (fun h => by have := ird _ h; omega)
       replace d0 := Gc hc d0 (fun h => by have := ird _ h; omega)
       replace d1 := Gc hc d1 (fun h => by have := ird _ h; omega)
       replace d2 := Gc hc d2 (fun h => by have := ird _ h; omega)
       replace c0 := Gc hc c0 (fun h => by have := ird _ h; omega)
       replace c1 := Gc hc c1 (fun h => by have := ird _ h; omega)
       replace c2 := Gc hc c2 (fun h => by have := ird _ h; omega)
       replace s0 := Gc hc s0 (fun h => by have := ird _ h; omega)
       replace s1 := Gc hc s1 (fun h => by have := ird _ h; omega)
       replace s2 := Gc hc s2 (fun h => by have := ird _ h; omega)
       clear hc
       clear hKA; have hKA := hKA9; clear hKA9
       replace lt94 := Lc d0
       replace lt95 := Lc c0
       replace lt96 := Lc s0
       refine hK.out _ _ ⟨c0, c1, c2⟩ (fun hHeld => ?_)
       clear hK K
       try simp only [Act.put, sb, List.set]
       refine wpAnyH_ready (rs := [1, 7]) (by kernel_rfl) (by simp) ?_
       refine AllReadyH.cons rfl (fun K hK => ?_) ?_
       ·-- 1
        go_simp
        replace lt94 := Lc d0
        replace lt95 := Lc c0
        replace lt96 := Lc s0
        refine hK.out _ _ ⟨c0, c1, c2⟩ (fun hHeld => ?_)
        clear hK K
        try simp only [Act.put, sb, List.set]
        refine Rdy 7 rfl (fun K hK => ?_)
        go_simp
        obtain ⟨w6, hnw, hb⟩ := nmw (World.alloc w5 (.cells #[.int .i64 n.k, .int .i64 n.v, .slice n.p n.n n.c] 161))
        have hKA9 := (hKA.below (bal (Bs _) (.cells #[.int .i64 n.k, .int .i64 n.v, .slice n.p n.n n.c] 161))).below hb
        replace hC := ((hC.trans (Chg.of_below (bal (Bs _) _)))).trans (Chg.of_below hb)
        replace hR := (hR.below (bal (Bs _) _)).below hb
        have ol107 := Ob (World.ownsRow_lit (base := (w5).heap.size) (e := 161) (size := 3) (w5) #[.int .i64 n.k, .int .i64 n.v, .slice n.p n.n n.c] 1 (Nat.le_refl _) (by unfold maxLen; omega) (by simp)) hb
        try simp only [Sa, Ss] at ol107
        replace hE := ((hE.below (bal (Bs _) _)).below hb)
        have hsz108 := hb.size
        simp only [Sa] at hsz108
        replace df := Kf hb (Lc (Ac d2 _)) (Fa (Lc d2) df _)
        replace sf0 := Kf hb (Lc (Ac s0 _)) (Fa (Lc s0) sf0 _)
        replace sf1 := Kf hb (Lc (Ac s1 _)) (Fa (Lc s1) sf1 _)
        replace sf2 := Kf hb (Lc (Ac s2 _)) (Fa (Lc s2) sf2 _)
        replace d0 := Kc hb (Ac d0 _)
        replace d1 := Kc hb (Ac d1 _)
        replace d2 := Kc hb (Ac d2 _)
        replace c0 := Kc hb (Ac c0 _)
        replace c1 := Kc hb (Ac c1 _)
        replace c2 := Kc hb (Ac c2 _)
        replace s0 := Kc hb (Ac s0 _)
        replace s1 := Kc hb (Ac s1 _)
        replace s2 := Kc hb (Ac s2 _)
        have bk109 : Bk w6 (w5.heap.size) [.int .i64 n.k, .int .i64 n.v, .slice n.p n.n n.c] := Bk.below (Bk.nw (by simp) rfl) hb
        clear hb
        have iv110 := ol107.lt
        try simp only [Sa] at iv110
        clear hKA; have hKA := hKA9; clear hKA9
        rw [← hnw]
        clear hnw
        replace lt94 := Lc d0
        replace lt95 := Lc c0
        replace lt96 := Lc s0
        have lt111 := Bk.lz bk109
        refine hK.out _ _ ⟨c0, c1, c2⟩ (fun hHeld => ?_)
        clear hK K
        try simp only [Act.put, sb, List.set]
        refine Rdy 8 rfl (fun K hK => ?_)
        have hKO := hKA.own.lt
        have iK : ∀ q, (Value.slice a k c).ownBlock = some q → w.heap.size ≤ q ∧ w2.heap.size < q ∧ q < w4.heap.size := fun q hq => by have h1 := hKOr q hq; have h2 := hKO q hq; omega
        have hKO3 : w6.ownsRow (w2.heap.size + 1) 161 3 (.slice a k c) k (rows enc rs) := by have h := hKA.own; rw [HLK.out] at h; exact h
        refine step_aps tExprs rfl _ _ rfl (w2.heap.size + 1) _ k (rows enc rs) rfl hKO3 _ 1 (enc n) rfl (Ro ol107 (by simp)) (one_enc n) (by omega) (by omega) ?_
        intro vA w7 oA hc hNw _
        obtain ⟨pA, tA, rfl⟩ := Oh oA
        have hKA9 := KidsAt.push hKA (by rw [HLK.out]; exact oA) hc hNw hE hTh (by omega) (fun q hq => by have := hKOr q hq; omega)
        replace hC := chg_app hC hc (fun q hq h => by have := iK q h; omega)
        replace hR := hR.keep hc (fun h => by have := iK _ h; omega) (fun k hk h => by have := iK _ h; omega)
        replace hE := ExAt.keep hc (fun q (hq : w4.heap.size ≤ q) _ h => by have := iK q h; omega) (fun _ h _ => h) (Nat.le_refl _) hE
        have hsz112 := hc.size
        replace df := Gf hc (Lc d2) df (fun h => by have := iK _ h; omega)
        replace sf0 := Gf hc (Lc s0) sf0 (fun h => by have := iK _ h; omega)
        replace sf1 := Gf hc (Lc s1) sf1 (fun h => by have := iK _ h; omega)
        replace sf2 := Gf hc (Lc s2) sf2 (fun h => by have := iK _ h; omega)
        replace d0 := Gc hc d0 (fun h => by have := iK _ h; omega)
        replace d1 := Gc hc d1 (fun h => by have := iK _ h; omega)
        replace d2 := Gc hc d2 (fun h => by have := iK _ h; omega)
        replace c0 := Gc hc c0 (fun h => by have := iK _ h; omega)
        replace c1 := Gc hc c1 (fun h => by have := iK _ h; omega)
        replace c2 := Gc hc c2 (fun h => by have := iK _ h; omega)
        replace s0 := Gc hc s0 (fun h => by have := iK _ h; omega)
        replace s1 := Gc hc s1 (fun h => by have := iK _ h; omega)
        replace s2 := Gc hc s2 (fun h => by have := iK _ h; omega)
        replace ol107 := Ow ol107 hc (fun gq h h2 => by have := iv110 gq h; have := iK gq h2; omega)
        replace bk109 := Bk.keep bk109 hc (fun h => by have := iK _ h; omega)
        clear hc
        clear hKA; have hKA := hKA9; clear hKA9
        clear hNw oA hKO3 iK hKO
        replace lt94 := Lc d0
        replace lt95 := Lc c0
        replace lt96 := Lc s0
        replace lt111 := Bk.lz bk109
        refine hK.out _ _ ⟨c0, c1, c2⟩ (fun hHeld => ?_)
        clear hK K
        try simp only [Act.put, sb, List.set]
        refine (tq 9 60 rfl rfl ?_ ?_ ?_)
        (rotate_left; intro W' hSw; (try dsimp only at hSw); go_simp; try with_reducible rfl)
        try simp only [Act.put, sb, List.set]
        refine Rdy 10 rfl (fun K hK => ?_)
        go_simp
        obtain ⟨w8, hnw, hb⟩ := nmw (World.setCell w7 ⟨w2.heap.size, 2, none⟩ (.slice pA (k + 1) tA))
        have hKA9 := (hKA.keep (C1 (w2.heap.size) 2 (.slice pA (k + 1) tA)) (fun q hq (h : q = (w2.heap.size)) => by omega)).below hb
        replace hC := ((hC.setNew _ _ _ (Or.inr (by omega)))).trans (Chg.of_below hb)
        replace hR := (hR.keep (C1 _ _ _) (by omega) (fun _ _ => by omega)).below hb
        have hsz113 := hb.size
        simp only [Ss] at hsz113
        replace df := Kf hb (Lc (Tc _ (w2.heap.size) 2 (.slice pA (k + 1) tA) d2)) (Fs df _)
        replace sf0 := Kf hb (Lc (Nc s0 (by omega) _)) (Fs sf0 _)
        replace sf1 := Kf hb (Lc (Nc s1 (by omega) _)) (Fs sf1 _)
        replace sf2 := Kf hb (Lc (Nc s2 (by omega) _)) (Fs sf2 _)
        replace d0 := Kc hb (Nc d0 (by omega) _)
        replace d1 := Kc hb (Nc d1 (by omega) _)
        replace d2 : w8.cell? ⟨w2.heap.size, 2, none⟩ = some (.slice pA (k + 1) tA) := Kc hb (Tc _ (w2.heap.size) 2 (.slice pA (k + 1) tA) d2)
        replace c0 := Kc hb (Nc c0 (by omega) _)
        replace c1 := Kc hb (Nc c1 (by omega) _)
        replace c2 := Kc hb (Nc c2 (by omega) _)
        replace s0 := Kc hb (Nc s0 (by omega) _)
        replace s1 := Kc hb (Nc s1 (by omega) _)
        replace s2 := Kc hb (Nc s2 (by omega) _)
        replace ol107 := Ob (Oe ol107 _ _ (fun h => by have := iv110 _ h; omega) _) hb
        replace bk109 := Bk.below (Bk.ne bk109 (by omega) _) hb
        clear hb
        clear hKA; have hKA := hKA9; clear hKA9
        rw [← hnw]
        clear hnw
        replace lt94 := Lc d0
        replace lt95 := Lc c0
        replace lt96 := Lc s0
        replace lt111 := Bk.lz bk109
        refine hK.out _ _ ⟨c0, c1, c2⟩ (fun hHeld => ?_)
        clear hK K
        try simp only [Act.put, sb, List.set]
        refine wpAnyH_done (by kernel_rfl) ?_ _
        refine NoPanic.normal ?_
        clear hHeld
        have hla : (l ++ [e]).length = k + 1 := by rw [List.length_append, HLK.out]; rfl
        have HLA := Lib.hid hla; clear hla
        have hmul : (k + 1) * dcost d = k * dcost d + dcost d := Nat.succ_mul _ _
        have HMU := Lib.hid hmul; clear hmul
        have HKA := Lib.hid hKA; clear hKA
        have HH := Lib.hid (And.intro hR hC); clear hR hC
        go_wp2
        go_roundw
        case rel => exact ⟨k + 1, rs ++ [n], l ++ [e], pA, tA, p1, by omega, by congr 1; omega, HLA.out, HKA.out, d0, d1, d2, df, c0, c1, c2, s0, s1, s2, sf0, sf1, sf2, HH.out.1, by have := HMU.out; omega, HH.out.2, by omega⟩
        case measure => simp [intOf]; omega
       refine AllReadyH.cons rfl (fun K hK => ?_) AllReadyH.nil
       go_simp
       obtain ⟨w6, hnw, hb⟩ := nmw (World.alloc w5 (.cells #[.int .i64 n.k, .int .i64 n.v, .slice n.p n.n n.c] 161))
       have hKA9 := (hKA.below (bal (Bs _) (.cells #[.int .i64 n.k, .int .i64 n.v, .slice n.p n.n n.c] 161))).below hb
       replace hC := ((hC.trans (Chg.of_below (bal (Bs _) _)))).trans (Chg.of_below hb)
       replace hR := (hR.below (bal (Bs _) _)).below hb
       have ol114 := Ob (World.ownsRow_lit (base := (w5).heap.size) (e := 161) (size := 3) (w5) #[.int .i64 n.k, .int .i64 n.v, .slice n.p n.n n.c] 1 (Nat.le_refl _) (by unfold maxLen; omega) (by simp)) hb
       try simp only [Sa, Ss] at ol114
       replace hE := ((hE.below (bal (Bs _) _)).below hb)
       have hsz115 := hb.size
       simp only [Sa] at hsz115
       replace df := Kf hb (Lc (Ac d2 _)) (Fa (Lc d2) df _)
       replace sf0 := Kf hb (Lc (Ac s0 _)) (Fa (Lc s0) sf0 _)
       replace sf1 := Kf hb (Lc (Ac s1 _)) (Fa (Lc s1) sf1 _)
       replace sf2 := Kf hb (Lc (Ac s2 _)) (Fa (Lc s2) sf2 _)
       replace d0 := Kc hb (Ac d0 _)
       replace d1 := Kc hb (Ac d1 _)
       replace d2 := Kc hb (Ac d2 _)
       replace c0 := Kc hb (Ac c0 _)
       replace c1 := Kc hb (Ac c1 _)
       replace c2 := Kc hb (Ac c2 _)
       replace s0 := Kc hb (Ac s0 _)
       replace s1 := Kc hb (Ac s1 _)
       replace s2 := Kc hb (Ac s2 _)
       have bk116 : Bk w6 (w5.heap.size) [.int .i64 n.k, .int .i64 n.v, .slice n.p n.n n.c] := Bk.below (Bk.nw (by simp) rfl) hb
       clear hb
       have iv117 := ol114.lt
       try simp only [Sa] at iv117
       clear hKA; have hKA := hKA9; clear hKA9
       rw [← hnw]
       clear hnw
       replace lt94 := Lc d0
       replace lt95 := Lc c0
       replace lt96 := Lc s0
       have lt118 := Bk.lz bk116
       refine hK.out _ _ ⟨c0, c1, c2⟩ (fun hHeld => ?_)
       clear hK K
       try simp only [Act.put, sb, List.set]
       refine Rdy 1 rfl (fun K hK => ?_)
       go_simp
       replace lt94 := Lc d0
       replace lt95 := Lc c0
       replace lt96 := Lc s0
       replace lt118 := Bk.lz bk116
       refine hK.out _ _ ⟨c0, c1, c2⟩ (fun hHeld => ?_)
       clear hK K
       try simp only [Act.put, sb, List.set]
       refine Rdy 8 rfl (fun K hK => ?_)
       have hKO := hKA.own.lt
       have iK : ∀ q, (Value.slice a k c).ownBlock = some q → w.heap.size ≤ q ∧ w2.heap.size < q ∧ q < w4.heap.size := fun q hq => by have h1 := hKOr q hq; have h2 := hKO q hq; omega
       have hKO3 : w6.ownsRow (w2.heap.size + 1) 161 3 (.slice a k c) k (rows enc rs) := by have h := hKA.own; rw [HLK.out] at h; exact h
       refine step_aps tExprs rfl _ _ rfl (w2.heap.size + 1) _ k (rows enc rs) rfl hKO3 _ 1 (enc n) rfl (Ro ol114 (by simp)) (one_enc n) (by omega) (by omega) ?_
       intro vA w7 oA hc hNw _
       obtain ⟨pA, tA, rfl⟩ := Oh oA
       have hKA9 := KidsAt.push hKA (by rw [HLK.out]; exact oA) hc hNw hE hTh (by omega) (fun q hq => by have := hKOr q hq; omega)
       replace hC := chg_app hC hc (fun q hq h => by have := iK q h; omega)
       replace hR := hR.keep hc (fun h => by have := iK _ h; omega) (fun k hk h => by have := iK _ h; omega)
       replace hE := ExAt.keep hc (fun q (hq : w4.heap.size ≤ q) _ h => by have := iK q h; omega) (fun _ h _ => h) (Nat.le_refl _) hE
       have hsz119 := hc.size
       replace df := Gf hc (Lc d2) df (fun h => by have := iK _ h; omega)
       replace sf0 := Gf hc (Lc s0) sf0 (fun h => by have := iK _ h; omega)
       replace sf1 := Gf hc (Lc s1) sf1 (fun h => by have := iK _ h; omega)
       replace sf2 := Gf hc (Lc s2) sf2 (fun h => by have := iK _ h; omega)
       replace d0 := Gc hc d0 (fun h => by have := iK _ h; omega)
       replace d1 := Gc hc d1 (fun h => by have := iK _ h; omega)
       replace d2 := Gc hc d2 (fun h => by have := iK _ h; omega)
       replace c0 := Gc hc c0 (fun h => by have := iK _ h; omega)
       replace c1 := Gc hc c1 (fun h => by have := iK _ h; omega)
       replace c2 := Gc hc c2 (fun h => by have := iK _ h; omega)
       replace s0 := Gc hc s0 (fun h => by have := iK _ h; omega)
       replace s1 := Gc hc s1 (fun h => by have := iK _ h; omega)
       replace s2 := Gc hc s2 (fun h => by have := iK _ h; omega)
       replace ol114 := Ow ol114 hc (fun gq h h2 => by have := iv117 gq h; have := iK gq h2; omega)
       replace bk116 := Bk.keep bk116 hc (fun h => by have := iK _ h; omega)
       clear hc
       clear hKA; have hKA := hKA9; clear hKA9
       clear hNw oA hKO3 iK hKO
       replace lt94 := Lc d0
       replace lt95 := Lc c0
       replace lt96 := Lc s0
       replace lt118 := Bk.lz bk116
       refine hK.out _ _ ⟨c0, c1, c2⟩ (fun hHeld => ?_)
       clear hK K
       try simp only [Act.put, sb, List.set]
       refine (tq 9 60 rfl rfl ?_ ?_ ?_)
       (rotate_left; intro W' hSw; (try dsimp only at hSw); go_simp; try with_reducible rfl)
       try simp only [Act.put, sb, List.set]
       refine Rdy 10 rfl (fun K hK => ?_)
       go_simp
       obtain ⟨w8, hnw, hb⟩ := nmw (World.setCell w7 ⟨w2.heap.size, 2, none⟩ (.slice pA (k + 1) tA))
       have hKA9 := (hKA.keep (C1 (w2.heap.size) 2 (.slice pA (k + 1) tA)) (fun q hq (h : q = (w2.heap.size)) => by omega)).below hb
       replace hC := ((hC.setNew _ _ _ (Or.inr (by omega)))).trans (Chg.of_below hb)
       replace hR := (hR.keep (C1 _ _ _) (by omega) (fun _ _ => by omega)).below hb
       have hsz120 := hb.size
       simp only [Ss] at hsz120
       replace df := Kf hb (Lc (Tc _ (w2.heap.size) 2 (.slice pA (k + 1) tA) d2)) (Fs df _)
       replace sf0 := Kf hb (Lc (Nc s0 (by omega) _)) (Fs sf0 _)
       replace sf1 := Kf hb (Lc (Nc s1 (by omega) _)) (Fs sf1 _)
       replace sf2 := Kf hb (Lc (Nc s2 (by omega) _)) (Fs sf2 _)
       replace d0 := Kc hb (Nc d0 (by omega) _)
       replace d1 := Kc hb (Nc d1 (by omega) _)
       replace d2 : w8.cell? ⟨w2.heap.size, 2, none⟩ = some (.slice pA (k + 1) tA) := Kc hb (Tc _ (w2.heap.size) 2 (.slice pA (k + 1) tA) d2)
       replace c0 := Kc hb (Nc c0 (by omega) _)
       replace c1 := Kc hb (Nc c1 (by omega) _)
       replace c2 := Kc hb (Nc c2 (by omega) _)
       replace s0 := Kc hb (Nc s0 (by omega) _)
       replace s1 := Kc hb (Nc s1 (by omega) _)
       replace s2 := Kc hb (Nc s2 (by omega) _)
       replace ol114 := Ob (Oe ol114 _ _ (fun h => by have := iv117 _ h; omega) _) hb
       replace bk116 := Bk.below (Bk.ne bk116 (by omega) _) hb
       clear hb
       clear hKA; have hKA := hKA9; clear hKA9
       rw [← hnw]
       clear hnw
       replace lt94 := Lc d0
       replace lt95 := Lc c0
       replace lt96 := Lc s0
       replace lt118 := Bk.lz bk116
       refine hK.out _ _ ⟨c0, c1, c2⟩ (fun hHeld => ?_)
       clear hK K
       try simp only [Act.put, sb, List.set]
       refine wpAnyH_done (by kernel_rfl) ?_ _
       refine NoPanic.normal ?_
       clear hHeld
       have hla : (l ++ [e]).length = k + 1 := by rw [List.length_append, HLK.out]; rfl
       have HLA := Lib.hid hla; clear hla
       have hmul : (k + 1) * dcost d = k * dcost d + dcost d := Nat.succ_mul _ _
       have HMU := Lib.hid hmul; clear hmul
       have HKA := Lib.hid hKA; clear hKA
       have HH := Lib.hid (And.intro hR hC); clear hR hC
       go_wp2
       go_roundw
       case rel => exact ⟨k + 1, rs ++ [n], l ++ [e], pA, tA, p1, by omega, by congr 1; omega, HLA.out, HKA.out, d0, d1, d2, df, c0, c1, c2, s0, s1, s2, sf0, sf1, sf2, HH.out.1, by have := HMU.out; omega, HH.out.2, by omega⟩
       case measure => simp [intOf]; omega
      ·have hke : k = ar := by omega
       subst hke
       subst hlk
       have HNO := Lib.hid (KidsAt.node hKA (by omega) kd 0)
       clear hKA
       have lt121 := Lc d0
       have lt122 := Lc c0
       have lt123 := Lc s0
       have tE := Lib.hid (ExAt.keep (C1 (w.heap.size + 1) 2 (.slice a l.length c)) (fun q (hq : w2.heap.size < q) _ (h : q = (w.heap.size + 1)) => by omega) (fun _ h _ => h) (Nat.le_refl _) (ExAt.keep (C1 (w.heap.size + 1) 1 (.int .i64 0)) (fun q (hq : w2.heap.size < q) _ (h : q = (w.heap.size + 1)) => by omega) (fun _ h _ => h) (Nat.le_refl _) (ExAt.keep (C1 (w.heap.size + 1) 0 (.int .i64 kd)) (fun q (hq : w2.heap.size < q) _ (h : q = (w.heap.size + 1)) => by omega) (fun _ h _ => h) (Nat.le_refl _) HNO.out.1)))
       have tC := (((hC.setNew (w.heap.size + 1) (0) (.int .i64 kd) (Or.inr (by omega))).setNew (w.heap.size + 1) (1) (.int .i64 0) (Or.inr (by omega))).setNew (w.heap.size + 1) (2) (.slice a l.length c) (Or.inr (by omega))); have tR := (((hR.keep (C1 (w.heap.size + 1) (0) (.int .i64 kd)) (by omega) (fun _ _ => by omega)).keep (C1 (w.heap.size + 1) (1) (.int .i64 0)) (by omega) (fun _ _ => by omega)).keep (C1 (w.heap.size + 1) (2) (.slice a l.length c)) (by omega) (fun _ _ => by omega))
       have x124 := (Nc (b := (w.heap.size + 1)) (j := 2) (Nc (b := (w.heap.size + 1)) (j := 1) (Tc _ (w.heap.size + 1) 0 (.int .i64 kd) s0) (by omega) (.int .i64 0)) (by omega) (.slice a l.length c))
       have x125 := (Nc (b := (w.heap.size + 1)) (j := 2) (Tc _ (w.heap.size + 1) 1 (.int .i64 0) (Nc (b := (w.heap.size + 1)) (j := 0) s1 (by omega) (.int .i64 kd))) (by omega) (.slice a l.length c))
       have x126 := (Tc _ (w.heap.size + 1) 2 (.slice a l.length c) (Nc (b := (w.heap.size + 1)) (j := 1) (Nc (b := (w.heap.size + 1)) (j := 0) s2 (by omega) (.int .i64 kd)) (by omega) (.int .i64 0)))
       have tt := True.intro
       go_wp2
       exact bodyPost_ret (v := .agg #[.int .i64 kd, .int .i64 0, .slice a l.length c]) (by simp [results, Try.results172, go_sem, x124, x125, x126]) rfl (by exact ⟨⟨kd, 0, a, l.length, c⟩, .mk kd 0 l, _, rfl, ExAt.keep (S := fun _ => False) (Chg.refl _ _) (fun _ _ _ => id) (fun q (hq : w2.heap.size < q) _ => by show w.heap.size ≤ q; omega) (by omega) tE.out, Thin.mono (by omega) HNO.out.2, tR, by have := HCO.out; have : l.length * dcost d ≤ 3 * dcost d := Nat.mul_le_mul_right _ (by omega); omega, tC⟩)
end Go.Proofs.Ytkjedgnepnbkpaa
