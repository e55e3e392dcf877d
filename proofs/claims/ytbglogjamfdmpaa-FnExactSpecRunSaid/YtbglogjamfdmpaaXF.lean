/-
  Parts of the proof of the law FnExactSpecRun.
-/
import Derived.Test.YtbglogjamfdmpaaNA
import Derived.Test.YtbglogjamfdmpaaRows
import Derived.Test.YtbglogjamfdmpaaTA
namespace Go.Proofs.Ytbglogjamfdmpaa
open Go.RowKit

set_option maxHeartbeats 12800000 in
set_option maxRecDepth 100000 in
theorem sr1_any (Bo Bc X Wb b base tb cw k n : Nat) (aw : Option Addr) (v u va vb vc vr vx vy : Value) (us : List Value) (E U : List Ev) (ws : List Bool) (c : Cd) (s : Ms) (w : World)
    (hBo : w.cell? ⟨Bo, 0, none⟩ = some v) (hBf : w.frozen? ⟨Bo, 0, none⟩ = false) (ho : w.ownsRow tb 89 2 v E.length (evs E)) (hu : Reads w 2 u U.length (evs U))
    (hX : w.cell? ⟨X, 0, none⟩ = some va ∧ w.cell? ⟨X, 1, none⟩ = some vb ∧ w.cell? ⟨X, 2, none⟩ = some vc) (hr : ReadsC w va vb vc c)
    (hBc : w.cell? ⟨Bc, 0, none⟩ = some (.int .i64 n)) (hCf : w.frozen? ⟨Bc, 0, none⟩ = false)
    (hWb : w.cell? ⟨Wb, 0, none⟩ = some (.slice aw ws.length cw)) (hws : Reads w 1 (.slice aw ws.length cw) ws.length (bools ws))
    (hS : OwnS w base b vr vx vy us (stp (insAt c s.pc) s)) (hM : MsOk c s) (hk : s.pc = k) (hok : codeOk c = true)
    (hlen : E.length + U.length ≤ 1000000) (hn : n ≤ 1000000) (hlow : Bo < tb ∧ Bc < tb ∧ X < tb ∧ Wb < tb ∧ b < tb ∧ tb ≤ w.heap.size) (hne : Bo ≠ Bc ∧ X ≠ Bo ∧ X ≠ Bc ∧ Wb ≠ Bo ∧ Wb ≠ Bc ∧ b ≠ Bo ∧ b ≠ Bc)
    (hRB : ∀ q, ReadB va vb vc c q → q < tb ∧ q ≠ Bo ∧ q ≠ Bc) (hMB : ∀ q, OwnMB vr vx vy us q → q < tb ∧ q ≠ Bo ∧ q ≠ Bc) (hbw : ∀ g o cc, 0 < ws.length → Value.slice aw ws.length cw = .slice (some ⟨g, o, none⟩) ws.length cc → g < tb ∧ g ≠ Bo ∧ g ≠ Bc) :
    Calls Try.prog 84 #[.int .i64 (k : Int), u, .pointer (some ⟨Bo, 0, none⟩), .pointer (some ⟨X, 0, none⟩), .pointer (some ⟨Bc, 0, none⟩), .pointer (some ⟨Wb, 0, none⟩), .pointer (some ⟨b, 0, none⟩)] w fun e w' => e = .returned (.tuple #[]) ∧ ∃ v', w'.cell? ⟨Bo, 0, none⟩ = some v' ∧ w'.frozen? ⟨Bo, 0, none⟩ = false ∧
      w'.ownsRow tb 89 2 v' ((E ++ U) ++ srX c ws s n).length (evs ((E ++ U) ++ srX c ws s n)) ∧ w'.cell? ⟨Bc, 0, none⟩ = some (.int .i64 ((n : Int) + brI (isBr (insAt c s.pc).op))) ∧ w'.frozen? ⟨Bc, 0, none⟩ = false ∧ Chg (fun q => q = Bo ∨ q = Bc ∨ tb ≤ q) w w' := by
  obtain ⟨a0, c0, a1, c1, a2, c2, rfl, rfl, rfl⟩ := hr.shape
  obtain ⟨av, cv, rfl⟩ := own_shape ho
  obtain ⟨au, cu, rfl⟩ := reads_shape hu
  obtain ⟨hX0, hX1, hX2⟩ := hX
  obtain ⟨lBo, lBc, lX, lW, lb, ltb⟩ := hlow
  obtain ⟨n1, n2, n3, n4, n5, n6, n7⟩ := hne
  obtain ⟨a5, c5, rfl⟩ := own_shape hS.own.r
  obtain ⟨a3, c3, rfl⟩ := own_shape hS.own.v
  obtain ⟨a4, c4, rfl⟩ := own_shape hS.own.a.out
  have hkl : k < c.list.length := by have := hM.pc1; omega
  have hat : insAt c s.pc = c.list[k] := by unfold insAt; rw [hk, Int.toNat_natCast, List.getElem?_eq_getElem hkl]; rfl
  have hrl := hr.l
  obtain ⟨_, hcn, aa, cap, b0, off, hv, hcap, ha, hca⟩ := hrl
  simp only [Value.slice.injEq, true_and] at hv
  obtain ⟨rfl, rfl⟩ := hv
  obtain ⟨rfl, hbs⟩ := ha (by omega)
  obtain ⟨e0, e1, e2, e3, e4⟩ := reads_Instr hca k hkl
  have hb0 := hRB b0 (Or.inr (Or.inr ⟨off, c2, by omega, rfl⟩))
  have hqk : (k : Int) < (c.list.length : Int) := by omega
  have HBR := Lib.hid (fun (h : isBr (insAt c s.pc).op = true) => oth_ok hok hM h)
  have HTG := Lib.hid (fun (h : isBr (insAt c s.pc).op = true) => tgt_br h)
  have HSM := Lib.hid (fun (h : isBr (insAt c s.pc).op = true) => mem_small hok (oth_ok hok hM h))
  have HX0 : Hid (∀ h : isBr (insAt c s.pc).op = false, srX c ws s n = []) := Lib.hid (fun h => srX_no h)
  have HX1 : Hid (∀ h : isBr (insAt c s.pc).op = true, wrAt ws n = false → srX c ws s n = []) := Lib.hid (fun h h2 => srX_right h h2)
  have HX2 : Hid (∀ h : isBr (insAt c s.pc).op = true, wrAt ws n = true → srX c ws s n = pathE c (othS c s)) := Lib.hid (fun h h2 => srX_wrong h h2)
  have HPL := Lib.hid (pathE_len c (othS c s))
  have HOP : Hid ((othS c s).pc = othPc (insAt c s.pc) s.pc (stPc (insAt c s.pc) s)) := Lib.hid rfl
  have hs0 := hS.c0; have hs1 := hS.c1; have hs2 := hS.c2; have hs3 := hS.c3
  have hOM : OwnMv w base (.slice a5 (othS c s).regs.length c5) (.slice a3 (othS c s).mem.vals.length c3) (.slice a4 (othS c s).mem.arrs.length c4) us (othS c s).regs (othS c s).mem := hS.own
  have hMB2 : ∀ q, OwnMB (.slice a5 (othS c s).regs.length c5) (.slice a3 (othS c s).mem.vals.length c3) (.slice a4 (othS c s).mem.arrs.length c4) us q → q < tb ∧ q ≠ Bo ∧ q ≠ Bc := hMB
  have hs0' : w.cell? ⟨b, 0, none⟩ = some (.int .i64 (stPc (insAt c s.pc) s)) := hs0
  have hs1' : w.cell? ⟨b, 1, none⟩ = some (.slice a5 (othS c s).regs.length c5) := hs1
  have hs2' : w.cell? ⟨b, 2, none⟩ = some (.slice a3 (othS c s).mem.vals.length c3) := hs2
  have hs3' : w.cell? ⟨b, 3, none⟩ = some (.slice a4 (othS c s).mem.arrs.length c4) := hs3
  clear hs0 hs1 hs2 hs3 hS hMB hM ha hca
  rw [hat] at *
  rw [hk] at *
  generalize srX c ws s n = XS at *
  generalize stPc c.list[k] s = p at *
  generalize othS c s = os at *
  clear hat hk s
  generalize c.list[k] = x at *
  have io : ∀ q, (Value.slice av E.length cv).ownBlock = some q → tb ≤ q ∧ q < w.heap.size := ho.lt
  have hCh : Chg (fun q => q = Bo ∨ q = Bc ∨ tb ≤ q) w w := Chg.refl _ _
  have hww : ∀ g o cc, 0 < ws.length → Value.slice aw ws.length cw = .slice (some ⟨g, o, none⟩) ws.length cc → g < w.heap.size := fun g o cc h h2 => reads_lt hws g o cc h h2

  go_enter Try.func84, Try.ntmps84
  go_wp2_with (at_builtin; refine wpList_aps tEvs rfl _ _ rfl (tb) _ E.length (evs E) rfl ho _ U.length (evs U) rfl (hu) (one_evs U) (by omega) (by omega) ?_)
  intro vA w1 oA1 hc hNw _
  obtain ⟨pA1, tA1, rfl⟩ := own_shape oA1
  replace hCh := chg_then hCh hc (fun q _ h => Or.inr (Or.inr (io q h).1))
  have hsz2 := hc.size
  replace hBf := chg_froz hc (lt_of_cell hBo) hBf (fun h => by have := io _ h; omega)
  replace hCf := chg_froz hc (lt_of_cell hBc) hCf (fun h => by have := io _ h; omega)
  replace hBo : w1.cell? ⟨Bo, 0, none⟩ = some (.slice av E.length cv) := chg_cell hc hBo (fun h => by have := io _ h; omega)
  replace hX0 : w1.cell? ⟨X, 0, none⟩ = some (.slice a0 c.vars.length c0) := chg_cell hc hX0 (fun h => by have := io _ h; omega)
  replace hX1 : w1.cell? ⟨X, 1, none⟩ = some (.slice a1 c.arrays.length c1) := chg_cell hc hX1 (fun h => by have := io _ h; omega)
  replace hX2 : w1.cell? ⟨X, 2, none⟩ = some (.slice (some ⟨b0, off, none⟩) c.list.length c2) := chg_cell hc hX2 (fun h => by have := io _ h; omega)
  replace hBc : w1.cell? ⟨Bc, 0, none⟩ = some (.int .i64 n) := chg_cell hc hBc (fun h => by have := io _ h; omega)
  replace hWb : w1.cell? ⟨Wb, 0, none⟩ = some (.slice aw ws.length cw) := chg_cell hc hWb (fun h => by have := io _ h; omega)
  replace hs0' : w1.cell? ⟨b, 0, none⟩ = some (.int .i64 p) := chg_cell hc hs0' (fun h => by have := io _ h; omega)
  replace hs1' : w1.cell? ⟨b, 1, none⟩ = some (.slice a5 os.regs.length c5) := chg_cell hc hs1' (fun h => by have := io _ h; omega)
  replace hs2' : w1.cell? ⟨b, 2, none⟩ = some (.slice a3 os.mem.vals.length c3) := chg_cell hc hs2' (fun h => by have := io _ h; omega)
  replace hs3' : w1.cell? ⟨b, 3, none⟩ = some (.slice a4 os.mem.arrs.length c4) := chg_cell hc hs3' (fun h => by have := io _ h; omega)
  replace e0 : w1.cell? ⟨b0, off + k * 5, none⟩ = some (.int .i64 x.op) := chg_cell hc e0 (fun h => by have := io _ h; omega)
  replace e1 : w1.cell? ⟨b0, off + k * 5 + 1, none⟩ = some (.int .i64 x.a) := chg_cell hc e1 (fun h => by have := io _ h; omega)
  replace e2 : w1.cell? ⟨b0, off + k * 5 + 2, none⟩ = some (.int .i64 x.b) := chg_cell hc e2 (fun h => by have := io _ h; omega)
  replace e3 : w1.cell? ⟨b0, off + k * 5 + 3, none⟩ = some (.int .i64 x.c) := chg_cell hc e3 (fun h => by have := io _ h; omega)
  replace e4 : w1.cell? ⟨b0, off + k * 5 + 4, none⟩ = some (.int .i64 x.d) := chg_cell hc e4 (fun h => by have := io _ h; omega)
  replace hr := hr.keep hc (fun gq h h2 => by have := hRB gq h; have := io gq h2; omega)
  replace hOM := hOM.keep hc (fun gq h h2 => by have := hMB2 gq h; have := io gq h2; omega)
  replace hws := hws.keep hc (fun b _ _ h0 h h2 => by have := hbw b _ _ h0 h; have := io b h2; omega)
  clear hc
  have iv3 := oA1.lt
  clear hNw ho
  go_upto_region 1 with (fail)
  obtain ⟨w2, hnw⟩ : ∃ X, X = (World.setCell w1 ⟨Bo, 0, none⟩ (.slice pA1 (E.length + U.length) tA1)) := ⟨_, rfl⟩
  have hb : Below (World.setCell w1 ⟨Bo, 0, none⟩ (.slice pA1 (E.length + U.length) tA1)).heap.size (World.setCell w1 ⟨Bo, 0, none⟩ (.slice pA1 (E.length + U.length) tA1)) w2 := by rw [hnw]; exact bself _
  have hsz4 := hb.size
  simp only [World.size_setCell] at hsz4
  replace hBf := kept_froz hb (lt_of_cell (cell_at _ (Bo) 0 (.slice pA1 (E.length + U.length) tA1) hBo)) (froz_st (b := ⟨(Bo), 0, none⟩) hBf (.slice pA1 (E.length + U.length) tA1))
  replace hCf := kept_froz hb (lt_of_cell (cell_ne (b := (Bo)) (j := 0) hBc (by omega) (.slice pA1 (E.length + U.length) tA1))) (froz_st (b := ⟨(Bo), 0, none⟩) hCf (.slice pA1 (E.length + U.length) tA1))
  replace hBo : w2.cell? ⟨Bo, 0, none⟩ = some (.slice pA1 (E.length + U.length) tA1) := kept_cell hb (cell_at _ (Bo) 0 (.slice pA1 (E.length + U.length) tA1) hBo)
  replace hX0 : w2.cell? ⟨X, 0, none⟩ = some (.slice a0 c.vars.length c0) := kept_cell hb (cell_ne (b := (Bo)) (j := 0) hX0 (by omega) (.slice pA1 (E.length + U.length) tA1))
  replace hX1 : w2.cell? ⟨X, 1, none⟩ = some (.slice a1 c.arrays.length c1) := kept_cell hb (cell_ne (b := (Bo)) (j := 0) hX1 (by omega) (.slice pA1 (E.length + U.length) tA1))
  replace hX2 : w2.cell? ⟨X, 2, none⟩ = some (.slice (some ⟨b0, off, none⟩) c.list.length c2) := kept_cell hb (cell_ne (b := (Bo)) (j := 0) hX2 (by omega) (.slice pA1 (E.length + U.length) tA1))
  replace hBc : w2.cell? ⟨Bc, 0, none⟩ = some (.int .i64 n) := kept_cell hb (cell_ne (b := (Bo)) (j := 0) hBc (by omega) (.slice pA1 (E.length + U.length) tA1))
  replace hWb : w2.cell? ⟨Wb, 0, none⟩ = some (.slice aw ws.length cw) := kept_cell hb (cell_ne (b := (Bo)) (j := 0) hWb (by omega) (.slice pA1 (E.length + U.length) tA1))
  replace hs0' : w2.cell? ⟨b, 0, none⟩ = some (.int .i64 p) := kept_cell hb (cell_ne (b := (Bo)) (j := 0) hs0' (by omega) (.slice pA1 (E.length + U.length) tA1))
  replace hs1' : w2.cell? ⟨b, 1, none⟩ = some (.slice a5 os.regs.length c5) := kept_cell hb (cell_ne (b := (Bo)) (j := 0) hs1' (by omega) (.slice pA1 (E.length + U.length) tA1))
  replace hs2' : w2.cell? ⟨b, 2, none⟩ = some (.slice a3 os.mem.vals.length c3) := kept_cell hb (cell_ne (b := (Bo)) (j := 0) hs2' (by omega) (.slice pA1 (E.length + U.length) tA1))
  replace hs3' : w2.cell? ⟨b, 3, none⟩ = some (.slice a4 os.mem.arrs.length c4) := kept_cell hb (cell_ne (b := (Bo)) (j := 0) hs3' (by omega) (.slice pA1 (E.length + U.length) tA1))
  replace e0 : w2.cell? ⟨b0, off + k * 5, none⟩ = some (.int .i64 x.op) := kept_cell hb (cell_ne (b := (Bo)) (j := 0) e0 (by omega) (.slice pA1 (E.length + U.length) tA1))
  replace e1 : w2.cell? ⟨b0, off + k * 5 + 1, none⟩ = some (.int .i64 x.a) := kept_cell hb (cell_ne (b := (Bo)) (j := 0) e1 (by omega) (.slice pA1 (E.length + U.length) tA1))
  replace e2 : w2.cell? ⟨b0, off + k * 5 + 2, none⟩ = some (.int .i64 x.b) := kept_cell hb (cell_ne (b := (Bo)) (j := 0) e2 (by omega) (.slice pA1 (E.length + U.length) tA1))
  replace e3 : w2.cell? ⟨b0, off + k * 5 + 3, none⟩ = some (.int .i64 x.c) := kept_cell hb (cell_ne (b := (Bo)) (j := 0) e3 (by omega) (.slice pA1 (E.length + U.length) tA1))
  replace e4 : w2.cell? ⟨b0, off + k * 5 + 4, none⟩ = some (.int .i64 x.d) := kept_cell hb (cell_ne (b := (Bo)) (j := 0) e4 (by omega) (.slice pA1 (E.length + U.length) tA1))
  replace hr := (hr.keep ((Chg.refl (fun gk => gk = (Bo)) _).setCell (Bo) 0 (.slice pA1 (E.length + U.length) tA1) (fun _ => rfl)) (fun gq h h2 => by have := hRB gq h; omega)).below hb
  replace hOM := (hOM.keep ((Chg.refl (fun gk => gk = (Bo)) _).setCell (Bo) 0 (.slice pA1 (E.length + U.length) tA1) (fun _ => rfl)) (fun gq h h2 => by have := hMB2 gq h; omega)).below hb
  replace hws := (hws.keep ((Chg.refl (fun gk => gk = (Bo)) _).setCell (Bo) 0 (.slice pA1 (E.length + U.length) tA1) (fun _ => rfl)) (fun b _ _ h0 h h2 => by have := hbw b _ _ h0 h; omega)).below hb
  replace hCh := (hCh.setCell (Bo) 0 (.slice pA1 (E.length + U.length) tA1) (fun _ => (by first | exact Or.inl rfl | exact Or.inr (Or.inl rfl) | (refine Or.inr (Or.inr ?_); omega)))).trans (Chg.of_below hb)
  replace oA1 := own_below (own_set oA1 (Bo) 0 (fun h => by have := iv3 _ h; omega) (.slice pA1 (E.length + U.length) tA1)) hb
  clear hb
  rw [← hnw]
  clear hnw
  have lt5 := lt_of_cell hBo
  have lt6 := lt_of_cell hX0
  have lt7 := lt_of_cell hBc
  have lt8 := lt_of_cell hWb
  have lt9 := lt_of_cell hs0'
  have lt10 := lt_of_cell e0
  have ivA := oA1.lt
  have HR3 := Lib.hid (fun W (hW : Below w2.heap.size w2 W) => hr.below hW); have HO3 := Lib.hid (fun W (hW : Below w2.heap.size w2 W) => hOM.below hW)
  clear hr hOM
  go_wp2_with fail
  refine (isBranch_any _ _ _ _ _ _).mono ?_
  rintro e w3 ⟨rfl, hb⟩
  have hsz11 := hb.size
  simp only [World.size_alloc] at hsz11
  replace hBf := kept_froz hb (lt_of_cell (cell_al hBo (.cells #[.int .i64 x.op, .int .i64 x.a, .int .i64 x.b, .int .i64 x.c, .int .i64 x.d] 92))) (froz_al (lt_of_cell hBo) hBf (.cells #[.int .i64 x.op, .int .i64 x.a, .int .i64 x.b, .int .i64 x.c, .int .i64 x.d] 92))
  replace hCf := kept_froz hb (lt_of_cell (cell_al hBc (.cells #[.int .i64 x.op, .int .i64 x.a, .int .i64 x.b, .int .i64 x.c, .int .i64 x.d] 92))) (froz_al (lt_of_cell hBc) hCf (.cells #[.int .i64 x.op, .int .i64 x.a, .int .i64 x.b, .int .i64 x.c, .int .i64 x.d] 92))
  replace hBo : w3.cell? ⟨Bo, 0, none⟩ = some (.slice pA1 (E.length + U.length) tA1) := kept_cell hb (cell_al hBo (.cells #[.int .i64 x.op, .int .i64 x.a, .int .i64 x.b, .int .i64 x.c, .int .i64 x.d] 92))
  replace hX0 : w3.cell? ⟨X, 0, none⟩ = some (.slice a0 c.vars.length c0) := kept_cell hb (cell_al hX0 (.cells #[.int .i64 x.op, .int .i64 x.a, .int .i64 x.b, .int .i64 x.c, .int .i64 x.d] 92))
  replace hX1 : w3.cell? ⟨X, 1, none⟩ = some (.slice a1 c.arrays.length c1) := kept_cell hb (cell_al hX1 (.cells #[.int .i64 x.op, .int .i64 x.a, .int .i64 x.b, .int .i64 x.c, .int .i64 x.d] 92))
  replace hX2 : w3.cell? ⟨X, 2, none⟩ = some (.slice (some ⟨b0, off, none⟩) c.list.length c2) := kept_cell hb (cell_al hX2 (.cells #[.int .i64 x.op, .int .i64 x.a, .int .i64 x.b, .int .i64 x.c, .int .i64 x.d] 92))
  replace hBc : w3.cell? ⟨Bc, 0, none⟩ = some (.int .i64 n) := kept_cell hb (cell_al hBc (.cells #[.int .i64 x.op, .int .i64 x.a, .int .i64 x.b, .int .i64 x.c, .int .i64 x.d] 92))
  replace hWb : w3.cell? ⟨Wb, 0, none⟩ = some (.slice aw ws.length cw) := kept_cell hb (cell_al hWb (.cells #[.int .i64 x.op, .int .i64 x.a, .int .i64 x.b, .int .i64 x.c, .int .i64 x.d] 92))
  replace hs0' : w3.cell? ⟨b, 0, none⟩ = some (.int .i64 p) := kept_cell hb (cell_al hs0' (.cells #[.int .i64 x.op, .int .i64 x.a, .int .i64 x.b, .int .i64 x.c, .int .i64 x.d] 92))
  replace hs1' : w3.cell? ⟨b, 1, none⟩ = some (.slice a5 os.regs.length c5) := kept_cell hb (cell_al hs1' (.cells #[.int .i64 x.op, .int .i64 x.a, .int .i64 x.b, .int .i64 x.c, .int .i64 x.d] 92))
  replace hs2' : w3.cell? ⟨b, 2, none⟩ = some (.slice a3 os.mem.vals.length c3) := kept_cell hb (cell_al hs2' (.cells #[.int .i64 x.op, .int .i64 x.a, .int .i64 x.b, .int .i64 x.c, .int .i64 x.d] 92))
  replace hs3' : w3.cell? ⟨b, 3, none⟩ = some (.slice a4 os.mem.arrs.length c4) := kept_cell hb (cell_al hs3' (.cells #[.int .i64 x.op, .int .i64 x.a, .int .i64 x.b, .int .i64 x.c, .int .i64 x.d] 92))
  replace e0 : w3.cell? ⟨b0, off + k * 5, none⟩ = some (.int .i64 x.op) := kept_cell hb (cell_al e0 (.cells #[.int .i64 x.op, .int .i64 x.a, .int .i64 x.b, .int .i64 x.c, .int .i64 x.d] 92))
  replace e1 : w3.cell? ⟨b0, off + k * 5 + 1, none⟩ = some (.int .i64 x.a) := kept_cell hb (cell_al e1 (.cells #[.int .i64 x.op, .int .i64 x.a, .int .i64 x.b, .int .i64 x.c, .int .i64 x.d] 92))
  replace e2 : w3.cell? ⟨b0, off + k * 5 + 2, none⟩ = some (.int .i64 x.b) := kept_cell hb (cell_al e2 (.cells #[.int .i64 x.op, .int .i64 x.a, .int .i64 x.b, .int .i64 x.c, .int .i64 x.d] 92))
  replace e3 : w3.cell? ⟨b0, off + k * 5 + 3, none⟩ = some (.int .i64 x.c) := kept_cell hb (cell_al e3 (.cells #[.int .i64 x.op, .int .i64 x.a, .int .i64 x.b, .int .i64 x.c, .int .i64 x.d] 92))
  replace e4 : w3.cell? ⟨b0, off + k * 5 + 4, none⟩ = some (.int .i64 x.d) := kept_cell hb (cell_al e4 (.cells #[.int .i64 x.op, .int .i64 x.a, .int .i64 x.b, .int .i64 x.c, .int .i64 x.d] 92))
  replace hws := (hws.below (bal (bself _) (.cells #[.int .i64 x.op, .int .i64 x.a, .int .i64 x.b, .int .i64 x.c, .int .i64 x.d] 92))).below hb
  replace hCh := (hCh.trans (Chg.of_below (bal (bself _) (.cells #[.int .i64 x.op, .int .i64 x.a, .int .i64 x.b, .int .i64 x.c, .int .i64 x.d] 92)))).trans (Chg.of_below hb)
  replace oA1 := own_below (own_below oA1 (bal (bself _) (.cells #[.int .i64 x.op, .int .i64 x.a, .int .i64 x.b, .int .i64 x.c, .int .i64 x.d] 92))) hb
  have bx12 : w3.cell? ⟨w2.heap.size, 0, none⟩ = some (.int .i64 x.op) := kept_cell hb (cell_nw (by simp) (by rfl))
  have bf13 : w3.frozen? ⟨w2.heap.size, 0, none⟩ = false := kept_froz hb (by simp) (froz_nw (by simp))
  have bx14 : w3.cell? ⟨w2.heap.size, 1, none⟩ = some (.int .i64 x.a) := kept_cell hb (cell_nw (by simp) (by rfl))
  have bf15 : w3.frozen? ⟨w2.heap.size, 1, none⟩ = false := kept_froz hb (by simp) (froz_nw (by simp))
  have bx16 : w3.cell? ⟨w2.heap.size, 2, none⟩ = some (.int .i64 x.b) := kept_cell hb (cell_nw (by simp) (by rfl))
  have bf17 : w3.frozen? ⟨w2.heap.size, 2, none⟩ = false := kept_froz hb (by simp) (froz_nw (by simp))
  have bx18 : w3.cell? ⟨w2.heap.size, 3, none⟩ = some (.int .i64 x.c) := kept_cell hb (cell_nw (by simp) (by rfl))
  have bf19 : w3.frozen? ⟨w2.heap.size, 3, none⟩ = false := kept_froz hb (by simp) (froz_nw (by simp))
  have bx20 : w3.cell? ⟨w2.heap.size, 4, none⟩ = some (.int .i64 x.d) := kept_cell hb (cell_nw (by simp) (by rfl))
  have bf21 : w3.frozen? ⟨w2.heap.size, 4, none⟩ = false := kept_froz hb (by simp) (froz_nw (by simp))
  have tot := btr (bal (bself w2) (.cells #[.int .i64 x.op, .int .i64 x.a, .int .i64 x.b, .int .i64 x.c, .int .i64 x.d] 92)) hb
  clear hb
  clear lt5 lt6 lt7 lt8 lt9 lt10
  have lt22 := lt_of_cell hBo
  have lt23 := lt_of_cell hX0
  have lt24 := lt_of_cell hBc
  have lt25 := lt_of_cell hWb
  have lt26 := lt_of_cell hs0'
  have lt27 := lt_of_cell e0
  have lt28 := lt_of_cell bx12
  have hc400 := (codeOk_len hok).2
  cases hbr : isBr x.op with
  | false =>
    have HXE := Lib.hid (HX0.out hbr)
    have HBI : Hid ((n : Int) + brI (isBr x.op) = n) := Lib.hid (by rw [hbr]; unfold brI; simp)
    clear HX0 HX1 HX2 HBR HTG HSM hbr
    have f1 := hBo
    have f2 := hBf
    have f3 := oA1
    have f4 := hBc
    have f5 := hCf
    have f6 := hCh
    have HF := Lib.hid (And.intro f1 (And.intro f2 (And.intro f3 (And.intro f4 (And.intro f5 f6)))))
    clear f1 f2 f3 f4 f5 f6 hCh oA1
    go_wp2
    exact bodyPost_ret (v := .tuple #[]) (by simp [results, Try.results84, go_sem]) rfl (by exact ⟨rfl, _, HF.out.1, HF.out.2.1, by rw [HXE.out]; have h := HF.out.2.2.1; rw [List.append_nil, List.length_append, evs_append]; exact h, by rw [HBI.out]; exact HF.out.2.2.2.1, HF.out.2.2.2.2.1, HF.out.2.2.2.2.2⟩)
  | true =>
    have HBI : Hid ((n : Int) + brI (isBr x.op) = (n : Int) + 1) := Lib.hid (by rw [hbr]; unfold brI; simp)
    have HB1 := Lib.hid (HBR.out hbr); have HT1 := Lib.hid (HTG.out hbr); have HS1 := Lib.hid (HSM.out hbr); have HX1' := Lib.hid (HX1.out hbr); have HX2' := Lib.hid (HX2.out hbr)
    clear HX0 HX1 HX2 HBR HTG HSM hbr
    by_cases hlt : n < ws.length
    · obtain ⟨bw, ow, rfl, hwn2⟩ := reads_wr hws hlt
      have hbwl := lt_of_cell hwn2
      have hbwt := hbw bw ow cw (by omega) rfl
      clear hbw hww
      have hlq : (n : Int) < (ws.length : Int) := by omega
      clear hws
      clear hlt
      cases hw : wrAt ws n with
      | false =>
        rw [hw] at hwn2
        have HXE := Lib.hid (HX1'.out hw)
        clear HX1' HX2' hw
        clear lt22 lt23 lt24 lt25 lt26 lt27 lt28
        have lt29 := lt_of_cell hBo
        have lt30 := lt_of_cell hX0
        have lt31 := lt_of_cell hBc
        have lt32 := lt_of_cell hWb
        have lt33 := lt_of_cell hs0'
        have lt34 := lt_of_cell e0
        have lt35 := lt_of_cell bx12
        have lt36 := lt_of_cell hwn2
        have f1 := (cell_ne (b := (Bc)) (j := 0) hBo (by omega) (.int .i64 ((n : Int) + 1)))
        have f2 := (froz_st (b := ⟨(Bc), 0, none⟩) hBf (.int .i64 ((n : Int) + 1)))
        have f3 := (own_set oA1 (Bc) 0 (fun h => by have := ivA _ h; omega) (.int .i64 ((n : Int) + 1)))
        have f4 := (cell_at _ (Bc) 0 (.int .i64 ((n : Int) + 1)) hBc)
        have f5 := (froz_st (b := ⟨(Bc), 0, none⟩) hCf (.int .i64 ((n : Int) + 1)))
        have f6 := (hCh.setCell (Bc) 0 (.int .i64 ((n : Int) + 1)) (fun _ => (by first | exact Or.inl rfl | exact Or.inr (Or.inl rfl) | (refine Or.inr (Or.inr ?_); omega))))
        have HF := Lib.hid (And.intro f1 (And.intro f2 (And.intro f3 (And.intro f4 (And.intro f5 f6)))))
        clear f1 f2 f3 f4 f5 f6 hCh oA1
        go_wp2
        go_end0
        exact ⟨rfl, _, HF.out.1, HF.out.2.1, by rw [HXE.out]; have h := HF.out.2.2.1; rw [List.append_nil, List.length_append, evs_append]; exact h, by rw [HBI.out]; exact HF.out.2.2.2.1, HF.out.2.2.2.2.1, HF.out.2.2.2.2.2⟩
      | true =>
        rw [hw] at hwn2
        have HXE := Lib.hid (HX2'.out hw)
        clear HX1' HX2' hw
        clear lt22 lt23 lt24 lt25 lt26 lt27 lt28
        have lt37 := lt_of_cell hBo
        have lt38 := lt_of_cell hX0
        have lt39 := lt_of_cell hBc
        have lt40 := lt_of_cell hWb
        have lt41 := lt_of_cell hs0'
        have lt42 := lt_of_cell e0
        have lt43 := lt_of_cell bx12
        have lt44 := lt_of_cell hwn2
        by_cases hp : p = (k : Int) + 1
        · skip
          have HPC : Hid (os.pc = tgt x) := Lib.hid (by rw [HOP.out, HT1.out]; unfold othPc; rw [if_pos hp])
          have hpq : (p == (k : Int) + 1) = true := by simp [hp]
          clear hp
          have HIP := Lib.hid (fun W (hW : Below w2.heap.size w2 W) => by have h := iPath_any _ _ _ _ _ _ c os W (HR3.out W hW) (own_readsS (HO3.out W hW) HS1.out.1 HS1.out.2.1 HS1.out.2.2.1 HS1.out.2.2.2) HS1.out.1 HS1.out.2.1 HS1.out.2.2.1 HS1.out.2.2.2 HB1.out hok; rw [HPC.out] at h; exact h)
          go_wp2_with fail
          refine (target_any x _).mono ?_
          rintro e w4 ⟨rfl, hb⟩
          have hsz45 := hb.size
          simp only [World.size_alloc] at hsz45
          replace hBf := kept_froz hb (lt_of_cell (cell_al hBo (.cells #[.int .i64 ((k : Int) + 1), .slice a5 os.regs.length c5, .slice a3 os.mem.vals.length c3, .slice a4 os.mem.arrs.length c4] 49))) (froz_al (lt_of_cell hBo) hBf (.cells #[.int .i64 ((k : Int) + 1), .slice a5 os.regs.length c5, .slice a3 os.mem.vals.length c3, .slice a4 os.mem.arrs.length c4] 49))
          replace hCf := kept_froz hb (lt_of_cell (cell_al hBc (.cells #[.int .i64 ((k : Int) + 1), .slice a5 os.regs.length c5, .slice a3 os.mem.vals.length c3, .slice a4 os.mem.arrs.length c4] 49))) (froz_al (lt_of_cell hBc) hCf (.cells #[.int .i64 ((k : Int) + 1), .slice a5 os.regs.length c5, .slice a3 os.mem.vals.length c3, .slice a4 os.mem.arrs.length c4] 49))
          replace bf13 := kept_froz hb (lt_of_cell (cell_al bx12 (.cells #[.int .i64 ((k : Int) + 1), .slice a5 os.regs.length c5, .slice a3 os.mem.vals.length c3, .slice a4 os.mem.arrs.length c4] 49))) (froz_al (lt_of_cell bx12) bf13 (.cells #[.int .i64 ((k : Int) + 1), .slice a5 os.regs.length c5, .slice a3 os.mem.vals.length c3, .slice a4 os.mem.arrs.length c4] 49))
          replace bf15 := kept_froz hb (lt_of_cell (cell_al bx14 (.cells #[.int .i64 ((k : Int) + 1), .slice a5 os.regs.length c5, .slice a3 os.mem.vals.length c3, .slice a4 os.mem.arrs.length c4] 49))) (froz_al (lt_of_cell bx14) bf15 (.cells #[.int .i64 ((k : Int) + 1), .slice a5 os.regs.length c5, .slice a3 os.mem.vals.length c3, .slice a4 os.mem.arrs.length c4] 49))
          replace bf17 := kept_froz hb (lt_of_cell (cell_al bx16 (.cells #[.int .i64 ((k : Int) + 1), .slice a5 os.regs.length c5, .slice a3 os.mem.vals.length c3, .slice a4 os.mem.arrs.length c4] 49))) (froz_al (lt_of_cell bx16) bf17 (.cells #[.int .i64 ((k : Int) + 1), .slice a5 os.regs.length c5, .slice a3 os.mem.vals.length c3, .slice a4 os.mem.arrs.length c4] 49))
          replace bf19 := kept_froz hb (lt_of_cell (cell_al bx18 (.cells #[.int .i64 ((k : Int) + 1), .slice a5 os.regs.length c5, .slice a3 os.mem.vals.length c3, .slice a4 os.mem.arrs.length c4] 49))) (froz_al (lt_of_cell bx18) bf19 (.cells #[.int .i64 ((k : Int) + 1), .slice a5 os.regs.length c5, .slice a3 os.mem.vals.length c3, .slice a4 os.mem.arrs.length c4] 49))
          replace bf21 := kept_froz hb (lt_of_cell (cell_al bx20 (.cells #[.int .i64 ((k : Int) + 1), .slice a5 os.regs.length c5, .slice a3 os.mem.vals.length c3, .slice a4 os.mem.arrs.length c4] 49))) (froz_al (lt_of_cell bx20) bf21 (.cells #[.int .i64 ((k : Int) + 1), .slice a5 os.regs.length c5, .slice a3 os.mem.vals.length c3, .slice a4 os.mem.arrs.length c4] 49))
          replace hBo : w4.cell? ⟨Bo, 0, none⟩ = some (.slice pA1 (E.length + U.length) tA1) := kept_cell hb (cell_al hBo (.cells #[.int .i64 ((k : Int) + 1), .slice a5 os.regs.length c5, .slice a3 os.mem.vals.length c3, .slice a4 os.mem.arrs.length c4] 49))
          replace hX0 : w4.cell? ⟨X, 0, none⟩ = some (.slice a0 c.vars.length c0) := kept_cell hb (cell_al hX0 (.cells #[.int .i64 ((k : Int) + 1), .slice a5 os.regs.length c5, .slice a3 os.mem.vals.length c3, .slice a4 os.mem.arrs.length c4] 49))
          replace hX1 : w4.cell? ⟨X, 1, none⟩ = some (.slice a1 c.arrays.length c1) := kept_cell hb (cell_al hX1 (.cells #[.int .i64 ((k : Int) + 1), .slice a5 os.regs.length c5, .slice a3 os.mem.vals.length c3, .slice a4 os.mem.arrs.length c4] 49))
          replace hX2 : w4.cell? ⟨X, 2, none⟩ = some (.slice (some ⟨b0, off, none⟩) c.list.length c2) := kept_cell hb (cell_al hX2 (.cells #[.int .i64 ((k : Int) + 1), .slice a5 os.regs.length c5, .slice a3 os.mem.vals.length c3, .slice a4 os.mem.arrs.length c4] 49))
          replace hBc : w4.cell? ⟨Bc, 0, none⟩ = some (.int .i64 n) := kept_cell hb (cell_al hBc (.cells #[.int .i64 ((k : Int) + 1), .slice a5 os.regs.length c5, .slice a3 os.mem.vals.length c3, .slice a4 os.mem.arrs.length c4] 49))
          replace hWb : w4.cell? ⟨Wb, 0, none⟩ = some (.slice (some ⟨bw, ow, none⟩) ws.length cw) := kept_cell hb (cell_al hWb (.cells #[.int .i64 ((k : Int) + 1), .slice a5 os.regs.length c5, .slice a3 os.mem.vals.length c3, .slice a4 os.mem.arrs.length c4] 49))
          replace hs0' : w4.cell? ⟨b, 0, none⟩ = some (.int .i64 p) := kept_cell hb (cell_al hs0' (.cells #[.int .i64 ((k : Int) + 1), .slice a5 os.regs.length c5, .slice a3 os.mem.vals.length c3, .slice a4 os.mem.arrs.length c4] 49))
          replace hs1' : w4.cell? ⟨b, 1, none⟩ = some (.slice a5 os.regs.length c5) := kept_cell hb (cell_al hs1' (.cells #[.int .i64 ((k : Int) + 1), .slice a5 os.regs.length c5, .slice a3 os.mem.vals.length c3, .slice a4 os.mem.arrs.length c4] 49))
          replace hs2' : w4.cell? ⟨b, 2, none⟩ = some (.slice a3 os.mem.vals.length c3) := kept_cell hb (cell_al hs2' (.cells #[.int .i64 ((k : Int) + 1), .slice a5 os.regs.length c5, .slice a3 os.mem.vals.length c3, .slice a4 os.mem.arrs.length c4] 49))
          replace hs3' : w4.cell? ⟨b, 3, none⟩ = some (.slice a4 os.mem.arrs.length c4) := kept_cell hb (cell_al hs3' (.cells #[.int .i64 ((k : Int) + 1), .slice a5 os.regs.length c5, .slice a3 os.mem.vals.length c3, .slice a4 os.mem.arrs.length c4] 49))
          replace e0 : w4.cell? ⟨b0, off + k * 5, none⟩ = some (.int .i64 x.op) := kept_cell hb (cell_al e0 (.cells #[.int .i64 ((k : Int) + 1), .slice a5 os.regs.length c5, .slice a3 os.mem.vals.length c3, .slice a4 os.mem.arrs.length c4] 49))
          replace e1 : w4.cell? ⟨b0, off + k * 5 + 1, none⟩ = some (.int .i64 x.a) := kept_cell hb (cell_al e1 (.cells #[.int .i64 ((k : Int) + 1), .slice a5 os.regs.length c5, .slice a3 os.mem.vals.length c3, .slice a4 os.mem.arrs.length c4] 49))
          replace e2 : w4.cell? ⟨b0, off + k * 5 + 2, none⟩ = some (.int .i64 x.b) := kept_cell hb (cell_al e2 (.cells #[.int .i64 ((k : Int) + 1), .slice a5 os.regs.length c5, .slice a3 os.mem.vals.length c3, .slice a4 os.mem.arrs.length c4] 49))
          replace e3 : w4.cell? ⟨b0, off + k * 5 + 3, none⟩ = some (.int .i64 x.c) := kept_cell hb (cell_al e3 (.cells #[.int .i64 ((k : Int) + 1), .slice a5 os.regs.length c5, .slice a3 os.mem.vals.length c3, .slice a4 os.mem.arrs.length c4] 49))
          replace e4 : w4.cell? ⟨b0, off + k * 5 + 4, none⟩ = some (.int .i64 x.d) := kept_cell hb (cell_al e4 (.cells #[.int .i64 ((k : Int) + 1), .slice a5 os.regs.length c5, .slice a3 os.mem.vals.length c3, .slice a4 os.mem.arrs.length c4] 49))
          replace hCh := (hCh.trans (Chg.of_below (bal (bself _) (.cells #[.int .i64 ((k : Int) + 1), .slice a5 os.regs.length c5, .slice a3 os.mem.vals.length c3, .slice a4 os.mem.arrs.length c4] 49)))).trans (Chg.of_below hb)
          replace oA1 := own_below (own_below oA1 (bal (bself _) (.cells #[.int .i64 ((k : Int) + 1), .slice a5 os.regs.length c5, .slice a3 os.mem.vals.length c3, .slice a4 os.mem.arrs.length c4] 49))) hb
          replace bx12 : w4.cell? ⟨w2.heap.size, 0, none⟩ = some (.int .i64 x.op) := kept_cell hb (cell_al bx12 (.cells #[.int .i64 ((k : Int) + 1), .slice a5 os.regs.length c5, .slice a3 os.mem.vals.length c3, .slice a4 os.mem.arrs.length c4] 49))
          replace bx14 : w4.cell? ⟨w2.heap.size, 1, none⟩ = some (.int .i64 x.a) := kept_cell hb (cell_al bx14 (.cells #[.int .i64 ((k : Int) + 1), .slice a5 os.regs.length c5, .slice a3 os.mem.vals.length c3, .slice a4 os.mem.arrs.length c4] 49))
          replace bx16 : w4.cell? ⟨w2.heap.size, 2, none⟩ = some (.int .i64 x.b) := kept_cell hb (cell_al bx16 (.cells #[.int .i64 ((k : Int) + 1), .slice a5 os.regs.length c5, .slice a3 os.mem.vals.length c3, .slice a4 os.mem.arrs.length c4] 49))
          replace bx18 : w4.cell? ⟨w2.heap.size, 3, none⟩ = some (.int .i64 x.c) := kept_cell hb (cell_al bx18 (.cells #[.int .i64 ((k : Int) + 1), .slice a5 os.regs.length c5, .slice a3 os.mem.vals.length c3, .slice a4 os.mem.arrs.length c4] 49))
          replace bx20 : w4.cell? ⟨w2.heap.size, 4, none⟩ = some (.int .i64 x.d) := kept_cell hb (cell_al bx20 (.cells #[.int .i64 ((k : Int) + 1), .slice a5 os.regs.length c5, .slice a3 os.mem.vals.length c3, .slice a4 os.mem.arrs.length c4] 49))
          replace hwn2 : w4.cell? ⟨bw, ow + n, none⟩ = some (.bool true) := kept_cell hb (cell_al hwn2 (.cells #[.int .i64 ((k : Int) + 1), .slice a5 os.regs.length c5, .slice a3 os.mem.vals.length c3, .slice a4 os.mem.arrs.length c4] 49))
          have bx46 : w4.cell? ⟨w3.heap.size, 0, none⟩ = some (.int .i64 ((k : Int) + 1)) := kept_cell hb (cell_nw (by simp) (by rfl))
          have bf47 : w4.frozen? ⟨w3.heap.size, 0, none⟩ = false := kept_froz hb (by simp) (froz_nw (by simp))
          have bx48 : w4.cell? ⟨w3.heap.size, 1, none⟩ = some (.slice a5 os.regs.length c5) := kept_cell hb (cell_nw (by simp) (by rfl))
          have bf49 : w4.frozen? ⟨w3.heap.size, 1, none⟩ = false := kept_froz hb (by simp) (froz_nw (by simp))
          have bx50 : w4.cell? ⟨w3.heap.size, 2, none⟩ = some (.slice a3 os.mem.vals.length c3) := kept_cell hb (cell_nw (by simp) (by rfl))
          have bf51 : w4.frozen? ⟨w3.heap.size, 2, none⟩ = false := kept_froz hb (by simp) (froz_nw (by simp))
          have bx52 : w4.cell? ⟨w3.heap.size, 3, none⟩ = some (.slice a4 os.mem.arrs.length c4) := kept_cell hb (cell_nw (by simp) (by rfl))
          have bf53 : w4.frozen? ⟨w3.heap.size, 3, none⟩ = false := kept_froz hb (by simp) (froz_nw (by simp))
          replace tot := btr (bal tot (.cells #[.int .i64 ((k : Int) + 1), .slice a5 os.regs.length c5, .slice a3 os.mem.vals.length c3, .slice a4 os.mem.arrs.length c4] 49)) hb
          clear hb
          clear bx12 bf13 bx14 bf15 bx16 bf17 bx18 bf19 bx20 bf21
          clear lt37 lt38 lt39 lt40 lt41 lt42 lt43 lt44
          have lt54 := lt_of_cell hBo
          have lt55 := lt_of_cell hX0
          have lt56 := lt_of_cell hBc
          have lt57 := lt_of_cell hWb
          have lt58 := lt_of_cell hs0'
          have lt59 := lt_of_cell e0
          have lt60 := lt_of_cell hwn2
          have lt61 := lt_of_cell bx46
          have hpl := HPL.out
          go_upto_region 8 with (fail)
          obtain ⟨w5, hnw⟩ : ∃ X, X = (World.setCell w4 ⟨w3.heap.size, 0, none⟩ (.int .i64 (tgt x))) := ⟨_, rfl⟩
          have hb : Below (World.setCell w4 ⟨w3.heap.size, 0, none⟩ (.int .i64 (tgt x))).heap.size (World.setCell w4 ⟨w3.heap.size, 0, none⟩ (.int .i64 (tgt x))) w5 := by rw [hnw]; exact bself _
          have hsz62 := hb.size
          simp only [World.size_setCell] at hsz62
          replace hBf := kept_froz hb (lt_of_cell (cell_ne (b := (w3.heap.size)) (j := 0) hBo (by omega) (.int .i64 (tgt x)))) (froz_st (b := ⟨(w3.heap.size), 0, none⟩) hBf (.int .i64 (tgt x)))
          replace hCf := kept_froz hb (lt_of_cell (cell_ne (b := (w3.heap.size)) (j := 0) hBc (by omega) (.int .i64 (tgt x)))) (froz_st (b := ⟨(w3.heap.size), 0, none⟩) hCf (.int .i64 (tgt x)))
          replace bf47 := kept_froz hb (lt_of_cell (cell_at _ (w3.heap.size) 0 (.int .i64 (tgt x)) bx46)) (froz_st (b := ⟨(w3.heap.size), 0, none⟩) bf47 (.int .i64 (tgt x)))
          replace bf49 := kept_froz hb (lt_of_cell (cell_ne (b := (w3.heap.size)) (j := 0) bx48 (by omega) (.int .i64 (tgt x)))) (froz_st (b := ⟨(w3.heap.size), 0, none⟩) bf49 (.int .i64 (tgt x)))
          replace bf51 := kept_froz hb (lt_of_cell (cell_ne (b := (w3.heap.size)) (j := 0) bx50 (by omega) (.int .i64 (tgt x)))) (froz_st (b := ⟨(w3.heap.size), 0, none⟩) bf51 (.int .i64 (tgt x)))
          replace bf53 := kept_froz hb (lt_of_cell (cell_ne (b := (w3.heap.size)) (j := 0) bx52 (by omega) (.int .i64 (tgt x)))) (froz_st (b := ⟨(w3.heap.size), 0, none⟩) bf53 (.int .i64 (tgt x)))
          replace hBo : w5.cell? ⟨Bo, 0, none⟩ = some (.slice pA1 (E.length + U.length) tA1) := kept_cell hb (cell_ne (b := (w3.heap.size)) (j := 0) hBo (by omega) (.int .i64 (tgt x)))
          replace hX0 : w5.cell? ⟨X, 0, none⟩ = some (.slice a0 c.vars.length c0) := kept_cell hb (cell_ne (b := (w3.heap.size)) (j := 0) hX0 (by omega) (.int .i64 (tgt x)))
          replace hX1 : w5.cell? ⟨X, 1, none⟩ = some (.slice a1 c.arrays.length c1) := kept_cell hb (cell_ne (b := (w3.heap.size)) (j := 0) hX1 (by omega) (.int .i64 (tgt x)))
          replace hX2 : w5.cell? ⟨X, 2, none⟩ = some (.slice (some ⟨b0, off, none⟩) c.list.length c2) := kept_cell hb (cell_ne (b := (w3.heap.size)) (j := 0) hX2 (by omega) (.int .i64 (tgt x)))
          replace hBc : w5.cell? ⟨Bc, 0, none⟩ = some (.int .i64 n) := kept_cell hb (cell_ne (b := (w3.heap.size)) (j := 0) hBc (by omega) (.int .i64 (tgt x)))
          replace hWb : w5.cell? ⟨Wb, 0, none⟩ = some (.slice (some ⟨bw, ow, none⟩) ws.length cw) := kept_cell hb (cell_ne (b := (w3.heap.size)) (j := 0) hWb (by omega) (.int .i64 (tgt x)))
          replace hs0' : w5.cell? ⟨b, 0, none⟩ = some (.int .i64 p) := kept_cell hb (cell_ne (b := (w3.heap.size)) (j := 0) hs0' (by omega) (.int .i64 (tgt x)))
          replace hs1' : w5.cell? ⟨b, 1, none⟩ = some (.slice a5 os.regs.length c5) := kept_cell hb (cell_ne (b := (w3.heap.size)) (j := 0) hs1' (by omega) (.int .i64 (tgt x)))
          replace hs2' : w5.cell? ⟨b, 2, none⟩ = some (.slice a3 os.mem.vals.length c3) := kept_cell hb (cell_ne (b := (w3.heap.size)) (j := 0) hs2' (by omega) (.int .i64 (tgt x)))
          replace hs3' : w5.cell? ⟨b, 3, none⟩ = some (.slice a4 os.mem.arrs.length c4) := kept_cell hb (cell_ne (b := (w3.heap.size)) (j := 0) hs3' (by omega) (.int .i64 (tgt x)))
          replace e0 : w5.cell? ⟨b0, off + k * 5, none⟩ = some (.int .i64 x.op) := kept_cell hb (cell_ne (b := (w3.heap.size)) (j := 0) e0 (by omega) (.int .i64 (tgt x)))
          replace e1 : w5.cell? ⟨b0, off + k * 5 + 1, none⟩ = some (.int .i64 x.a) := kept_cell hb (cell_ne (b := (w3.heap.size)) (j := 0) e1 (by omega) (.int .i64 (tgt x)))
          replace e2 : w5.cell? ⟨b0, off + k * 5 + 2, none⟩ = some (.int .i64 x.b) := kept_cell hb (cell_ne (b := (w3.heap.size)) (j := 0) e2 (by omega) (.int .i64 (tgt x)))
          replace e3 : w5.cell? ⟨b0, off + k * 5 + 3, none⟩ = some (.int .i64 x.c) := kept_cell hb (cell_ne (b := (w3.heap.size)) (j := 0) e3 (by omega) (.int .i64 (tgt x)))
          replace e4 : w5.cell? ⟨b0, off + k * 5 + 4, none⟩ = some (.int .i64 x.d) := kept_cell hb (cell_ne (b := (w3.heap.size)) (j := 0) e4 (by omega) (.int .i64 (tgt x)))
          replace hCh := (hCh.setCell (w3.heap.size) 0 (.int .i64 (tgt x)) (fun _ => (by first | exact Or.inl rfl | exact Or.inr (Or.inl rfl) | (refine Or.inr (Or.inr ?_); omega)))).trans (Chg.of_below hb)
          replace oA1 := own_below (own_set oA1 (w3.heap.size) 0 (fun h => by have := ivA _ h; omega) (.int .i64 (tgt x))) hb
          replace hwn2 : w5.cell? ⟨bw, ow + n, none⟩ = some (.bool true) := kept_cell hb (cell_ne (b := (w3.heap.size)) (j := 0) hwn2 (by omega) (.int .i64 (tgt x)))
          replace bx46 : w5.cell? ⟨w3.heap.size, 0, none⟩ = some (.int .i64 (tgt x)) := kept_cell hb (cell_at _ (w3.heap.size) 0 (.int .i64 (tgt x)) bx46)
          replace bx48 : w5.cell? ⟨w3.heap.size, 1, none⟩ = some (.slice a5 os.regs.length c5) := kept_cell hb (cell_ne (b := (w3.heap.size)) (j := 0) bx48 (by omega) (.int .i64 (tgt x)))
          replace bx50 : w5.cell? ⟨w3.heap.size, 2, none⟩ = some (.slice a3 os.mem.vals.length c3) := kept_cell hb (cell_ne (b := (w3.heap.size)) (j := 0) bx50 (by omega) (.int .i64 (tgt x)))
          replace bx52 : w5.cell? ⟨w3.heap.size, 3, none⟩ = some (.slice a4 os.mem.arrs.length c4) := kept_cell hb (cell_ne (b := (w3.heap.size)) (j := 0) bx52 (by omega) (.int .i64 (tgt x)))
          replace tot := btr (bst tot (w3.heap.size) 0 (by omega) (.int .i64 (tgt x))) hb
          clear hb
          rw [← hnw]
          clear hnw
          clear lt54 lt55 lt56 lt57 lt58 lt59 lt60 lt61
          have lt63 := lt_of_cell hBo
          have lt64 := lt_of_cell hX0
          have lt65 := lt_of_cell hBc
          have lt66 := lt_of_cell hWb
          have lt67 := lt_of_cell hs0'
          have lt68 := lt_of_cell e0
          have lt69 := lt_of_cell hwn2
          have lt70 := lt_of_cell bx46
          refine wp_region_noPanic ?_
          refine wp_region_held_drew (S := (fun W' => W'.cell? ⟨X, 0, none⟩ = some (.slice a0 c.vars.length c0) ∧ W'.cell? ⟨X, 1, none⟩ = some (.slice a1 c.arrays.length c1) ∧ W'.cell? ⟨X, 2, none⟩ = some (.slice (some ⟨b0, off, none⟩) c.list.length c2) ∧ W'.cell? ⟨w3.heap.size, 0, none⟩ = some (.int .i64 (tgt x)) ∧ W'.cell? ⟨w3.heap.size, 1, none⟩ = some (.slice a5 os.regs.length c5) ∧ W'.cell? ⟨w3.heap.size, 2, none⟩ = some (.slice a3 os.mem.vals.length c3) ∧ W'.cell? ⟨w3.heap.size, 3, none⟩ = some (.slice a4 os.mem.arrs.length c4))) (by kernel_rfl) ⟨kept_cell (Below.drew (bself w5)) hX0, kept_cell (Below.drew (bself w5)) hX1, kept_cell (Below.drew (bself w5)) hX2, kept_cell (Below.drew (bself w5)) bx46, kept_cell (Below.drew (bself w5)) bx48, kept_cell (Below.drew (bself w5)) bx50, kept_cell (Below.drew (bself w5)) bx52⟩ (fun hHeld => ?_)
          obtain ⟨w6, hwd⟩ : ∃ X, X = World.drew w5 := ⟨_, rfl⟩
          rw [← hwd] at hHeld ⊢
          have hb : Below w5.heap.size w5 w6 := by rw [hwd]; exact Below.drew (bself _)
          clear hwd
          have hsz71 := hb.size
          replace hBf := kept_froz hb (lt_of_cell hBo) hBf
          replace hCf := kept_froz hb (lt_of_cell hBc) hCf
          replace bf47 := kept_froz hb (lt_of_cell bx46) bf47
          replace bf49 := kept_froz hb (lt_of_cell bx48) bf49
          replace bf51 := kept_froz hb (lt_of_cell bx50) bf51
          replace bf53 := kept_froz hb (lt_of_cell bx52) bf53
          replace hBo : w6.cell? ⟨Bo, 0, none⟩ = some (.slice pA1 (E.length + U.length) tA1) := kept_cell hb hBo
          replace hX0 : w6.cell? ⟨X, 0, none⟩ = some (.slice a0 c.vars.length c0) := kept_cell hb hX0
          replace hX1 : w6.cell? ⟨X, 1, none⟩ = some (.slice a1 c.arrays.length c1) := kept_cell hb hX1
          replace hX2 : w6.cell? ⟨X, 2, none⟩ = some (.slice (some ⟨b0, off, none⟩) c.list.length c2) := kept_cell hb hX2
          replace hBc : w6.cell? ⟨Bc, 0, none⟩ = some (.int .i64 n) := kept_cell hb hBc
          replace hWb : w6.cell? ⟨Wb, 0, none⟩ = some (.slice (some ⟨bw, ow, none⟩) ws.length cw) := kept_cell hb hWb
          replace hs0' : w6.cell? ⟨b, 0, none⟩ = some (.int .i64 p) := kept_cell hb hs0'
          replace hs1' : w6.cell? ⟨b, 1, none⟩ = some (.slice a5 os.regs.length c5) := kept_cell hb hs1'
          replace hs2' : w6.cell? ⟨b, 2, none⟩ = some (.slice a3 os.mem.vals.length c3) := kept_cell hb hs2'
          replace hs3' : w6.cell? ⟨b, 3, none⟩ = some (.slice a4 os.mem.arrs.length c4) := kept_cell hb hs3'
          replace e0 : w6.cell? ⟨b0, off + k * 5, none⟩ = some (.int .i64 x.op) := kept_cell hb e0
          replace e1 : w6.cell? ⟨b0, off + k * 5 + 1, none⟩ = some (.int .i64 x.a) := kept_cell hb e1
          replace e2 : w6.cell? ⟨b0, off + k * 5 + 2, none⟩ = some (.int .i64 x.b) := kept_cell hb e2
          replace e3 : w6.cell? ⟨b0, off + k * 5 + 3, none⟩ = some (.int .i64 x.c) := kept_cell hb e3
          replace e4 : w6.cell? ⟨b0, off + k * 5 + 4, none⟩ = some (.int .i64 x.d) := kept_cell hb e4
          replace hCh := hCh.trans (Chg.of_below hb)
          replace oA1 := own_below oA1 hb
          replace hwn2 : w6.cell? ⟨bw, ow + n, none⟩ = some (.bool true) := kept_cell hb hwn2
          replace bx46 : w6.cell? ⟨w3.heap.size, 0, none⟩ = some (.int .i64 (tgt x)) := kept_cell hb bx46
          replace bx48 : w6.cell? ⟨w3.heap.size, 1, none⟩ = some (.slice a5 os.regs.length c5) := kept_cell hb bx48
          replace bx50 : w6.cell? ⟨w3.heap.size, 2, none⟩ = some (.slice a3 os.mem.vals.length c3) := kept_cell hb bx50
          replace bx52 : w6.cell? ⟨w3.heap.size, 3, none⟩ = some (.slice a4 os.mem.arrs.length c4) := kept_cell hb bx52
          replace tot := btr tot hb
          clear hb
          clear lt63 lt64 lt65 lt66 lt67 lt68 lt69 lt70
          have lt72 := lt_of_cell hBo
          have lt73 := lt_of_cell hX0
          have lt74 := lt_of_cell hBc
          have lt75 := lt_of_cell hWb
          have lt76 := lt_of_cell hs0'
          have lt77 := lt_of_cell e0
          have lt78 := lt_of_cell hwn2
          have lt79 := lt_of_cell bx46
          refine take_d (i := 1) (d := 45) (v := ?_) rfl rfl (by kernel_rfl) (by kernel_rfl) (by kernel_rfl) (fun _ _ _ h => h) (Or.inl ⟨by rfl, ?_⟩) (by assumption) ?_
          rotate_left
          · intro W' hSw; (try dsimp only at hSw); obtain ⟨s0, s1, s2, s3, s4, s5, s6⟩ := hSw; go_simp; try with_reducible rfl
          try simp only [Act.put, List.setIfInBounds_toArray, List.set]
          refine take_d (i := 2) (d := 46) (v := ?_) rfl rfl (by kernel_rfl) (by kernel_rfl) (by kernel_rfl) (fun _ _ _ h => h) (Or.inl ⟨by rfl, ?_⟩) (by assumption) ?_
          rotate_left
          · intro W' hSw; (try dsimp only at hSw); obtain ⟨s0, s1, s2, s3, s4, s5, s6⟩ := hSw; go_simp; try with_reducible rfl
          try simp only [Act.put, List.setIfInBounds_toArray, List.set]
          refine wpAnyH_ready (rs := [0, 3]) (by kernel_rfl) (by simp) ?_
          refine AllReadyH.cons rfl (fun K hK => ?_) ?_
          · -- 0
            go_simp
            clear lt72 lt73 lt74 lt75 lt76 lt77 lt78 lt79
            have lt80 := lt_of_cell hBo
            have lt81 := lt_of_cell hX0
            have lt82 := lt_of_cell hBc
            have lt83 := lt_of_cell hWb
            have lt84 := lt_of_cell hs0'
            have lt85 := lt_of_cell e0
            have lt86 := lt_of_cell hwn2
            have lt87 := lt_of_cell bx46
            refine hK.out _ _ ⟨hX0, hX1, hX2, bx46, bx48, bx50, bx52⟩ (fun hHeld => ?_)
            clear hK K
            try simp only [Act.put, List.setIfInBounds_toArray, List.set]
            refine wpAnyH_ready (rs := [3]) (by kernel_rfl) (by simp) ?_
            refine AllReadyH.cons rfl (fun K hK => ?_) AllReadyH.nil
            go_simp
            refine (HIP.out _ tot).mono ?_
            rintro e w7 ⟨u2, rfl, oP, hb⟩
            obtain ⟨pP, tP, rfl⟩ := own_shape oP
            have hsz88 := hb.size
            replace hBf := kept_froz hb (lt_of_cell hBo) hBf
            replace hCf := kept_froz hb (lt_of_cell hBc) hCf
            replace bf47 := kept_froz hb (lt_of_cell bx46) bf47
            replace bf49 := kept_froz hb (lt_of_cell bx48) bf49
            replace bf51 := kept_froz hb (lt_of_cell bx50) bf51
            replace bf53 := kept_froz hb (lt_of_cell bx52) bf53
            replace hBo : w7.cell? ⟨Bo, 0, none⟩ = some (.slice pA1 (E.length + U.length) tA1) := kept_cell hb hBo
            replace hX0 : w7.cell? ⟨X, 0, none⟩ = some (.slice a0 c.vars.length c0) := kept_cell hb hX0
            replace hX1 : w7.cell? ⟨X, 1, none⟩ = some (.slice a1 c.arrays.length c1) := kept_cell hb hX1
            replace hX2 : w7.cell? ⟨X, 2, none⟩ = some (.slice (some ⟨b0, off, none⟩) c.list.length c2) := kept_cell hb hX2
            replace hBc : w7.cell? ⟨Bc, 0, none⟩ = some (.int .i64 n) := kept_cell hb hBc
            replace hWb : w7.cell? ⟨Wb, 0, none⟩ = some (.slice (some ⟨bw, ow, none⟩) ws.length cw) := kept_cell hb hWb
            replace hs0' : w7.cell? ⟨b, 0, none⟩ = some (.int .i64 p) := kept_cell hb hs0'
            replace hs1' : w7.cell? ⟨b, 1, none⟩ = some (.slice a5 os.regs.length c5) := kept_cell hb hs1'
            replace hs2' : w7.cell? ⟨b, 2, none⟩ = some (.slice a3 os.mem.vals.length c3) := kept_cell hb hs2'
            replace hs3' : w7.cell? ⟨b, 3, none⟩ = some (.slice a4 os.mem.arrs.length c4) := kept_cell hb hs3'
            replace e0 : w7.cell? ⟨b0, off + k * 5, none⟩ = some (.int .i64 x.op) := kept_cell hb e0
            replace e1 : w7.cell? ⟨b0, off + k * 5 + 1, none⟩ = some (.int .i64 x.a) := kept_cell hb e1
            replace e2 : w7.cell? ⟨b0, off + k * 5 + 2, none⟩ = some (.int .i64 x.b) := kept_cell hb e2
            replace e3 : w7.cell? ⟨b0, off + k * 5 + 3, none⟩ = some (.int .i64 x.c) := kept_cell hb e3
            replace e4 : w7.cell? ⟨b0, off + k * 5 + 4, none⟩ = some (.int .i64 x.d) := kept_cell hb e4
            replace hCh := hCh.trans (Chg.of_below hb)
            replace oA1 := own_below oA1 hb
            replace hwn2 : w7.cell? ⟨bw, ow + n, none⟩ = some (.bool true) := kept_cell hb hwn2
            replace bx46 : w7.cell? ⟨w3.heap.size, 0, none⟩ = some (.int .i64 (tgt x)) := kept_cell hb bx46
            replace bx48 : w7.cell? ⟨w3.heap.size, 1, none⟩ = some (.slice a5 os.regs.length c5) := kept_cell hb bx48
            replace bx50 : w7.cell? ⟨w3.heap.size, 2, none⟩ = some (.slice a3 os.mem.vals.length c3) := kept_cell hb bx50
            replace bx52 : w7.cell? ⟨w3.heap.size, 3, none⟩ = some (.slice a4 os.mem.arrs.length c4) := kept_cell hb bx52
            replace tot := btr tot hb
            clear hb
            have iv89 := oP.lt
            clear lt80 lt81 lt82 lt83 lt84 lt85 lt86 lt87
            have lt90 := lt_of_cell hBo
            have lt91 := lt_of_cell hX0
            have lt92 := lt_of_cell hBc
            have lt93 := lt_of_cell hWb
            have lt94 := lt_of_cell hs0'
            have lt95 := lt_of_cell e0
            have lt96 := lt_of_cell hwn2
            have lt97 := lt_of_cell bx46
            refine hK.out _ _ ⟨hX0, hX1, hX2, bx46, bx48, bx50, bx52⟩ (fun hHeld => ?_)
            clear hK K
            try simp only [Act.put, List.setIfInBounds_toArray, List.set]
            refine wpAnyH_ready (rs := [4]) (by kernel_rfl) (by simp) ?_
            refine AllReadyH.cons rfl (fun K hK => ?_) AllReadyH.nil
            refine step_aps tEvs rfl _ _ rfl (tb) _ (E.length + U.length) (evs E ++ evs U) rfl oA1 _ ((pathE c os).length) (evs (pathE c os)) rfl ((reads_of_owns oP (by have := HPL.out; omega))) (one_evs (pathE c os)) (by omega) (by omega) ?_
            intro vA w8 oA98 hc hNw _
            obtain ⟨pA98, tA98, rfl⟩ := own_shape oA98
            replace hCh := chg_then hCh hc (fun q _ h => Or.inr (Or.inr (ivA q h).1))
            have hsz99 := hc.size
            replace hBf := chg_froz hc (lt_of_cell hBo) hBf (fun h => by have := ivA _ h; omega)
            replace hCf := chg_froz hc (lt_of_cell hBc) hCf (fun h => by have := ivA _ h; omega)
            replace bf47 := chg_froz hc (lt_of_cell bx46) bf47 (fun h => by have := ivA _ h; omega)
            replace bf49 := chg_froz hc (lt_of_cell bx48) bf49 (fun h => by have := ivA _ h; omega)
            replace bf51 := chg_froz hc (lt_of_cell bx50) bf51 (fun h => by have := ivA _ h; omega)
            replace bf53 := chg_froz hc (lt_of_cell bx52) bf53 (fun h => by have := ivA _ h; omega)
            replace hBo : w8.cell? ⟨Bo, 0, none⟩ = some (.slice pA1 (E.length + U.length) tA1) := chg_cell hc hBo (fun h => by have := ivA _ h; omega)
            replace hX0 : w8.cell? ⟨X, 0, none⟩ = some (.slice a0 c.vars.length c0) := chg_cell hc hX0 (fun h => by have := ivA _ h; omega)
            replace hX1 : w8.cell? ⟨X, 1, none⟩ = some (.slice a1 c.arrays.length c1) := chg_cell hc hX1 (fun h => by have := ivA _ h; omega)
            replace hX2 : w8.cell? ⟨X, 2, none⟩ = some (.slice (some ⟨b0, off, none⟩) c.list.length c2) := chg_cell hc hX2 (fun h => by have := ivA _ h; omega)
            replace hBc : w8.cell? ⟨Bc, 0, none⟩ = some (.int .i64 n) := chg_cell hc hBc (fun h => by have := ivA _ h; omega)
            replace hWb : w8.cell? ⟨Wb, 0, none⟩ = some (.slice (some ⟨bw, ow, none⟩) ws.length cw) := chg_cell hc hWb (fun h => by have := ivA _ h; omega)
            replace hs0' : w8.cell? ⟨b, 0, none⟩ = some (.int .i64 p) := chg_cell hc hs0' (fun h => by have := ivA _ h; omega)
            replace hs1' : w8.cell? ⟨b, 1, none⟩ = some (.slice a5 os.regs.length c5) := chg_cell hc hs1' (fun h => by have := ivA _ h; omega)
            replace hs2' : w8.cell? ⟨b, 2, none⟩ = some (.slice a3 os.mem.vals.length c3) := chg_cell hc hs2' (fun h => by have := ivA _ h; omega)
            replace hs3' : w8.cell? ⟨b, 3, none⟩ = some (.slice a4 os.mem.arrs.length c4) := chg_cell hc hs3' (fun h => by have := ivA _ h; omega)
            replace e0 : w8.cell? ⟨b0, off + k * 5, none⟩ = some (.int .i64 x.op) := chg_cell hc e0 (fun h => by have := ivA _ h; omega)
            replace e1 : w8.cell? ⟨b0, off + k * 5 + 1, none⟩ = some (.int .i64 x.a) := chg_cell hc e1 (fun h => by have := ivA _ h; omega)
            replace e2 : w8.cell? ⟨b0, off + k * 5 + 2, none⟩ = some (.int .i64 x.b) := chg_cell hc e2 (fun h => by have := ivA _ h; omega)
            replace e3 : w8.cell? ⟨b0, off + k * 5 + 3, none⟩ = some (.int .i64 x.c) := chg_cell hc e3 (fun h => by have := ivA _ h; omega)
            replace e4 : w8.cell? ⟨b0, off + k * 5 + 4, none⟩ = some (.int .i64 x.d) := chg_cell hc e4 (fun h => by have := ivA _ h; omega)
            replace hwn2 : w8.cell? ⟨bw, ow + n, none⟩ = some (.bool true) := chg_cell hc hwn2 (fun h => by have := ivA _ h; omega)
            replace bx46 : w8.cell? ⟨w3.heap.size, 0, none⟩ = some (.int .i64 (tgt x)) := chg_cell hc bx46 (fun h => by have := ivA _ h; omega)
            replace bx48 : w8.cell? ⟨w3.heap.size, 1, none⟩ = some (.slice a5 os.regs.length c5) := chg_cell hc bx48 (fun h => by have := ivA _ h; omega)
            replace bx50 : w8.cell? ⟨w3.heap.size, 2, none⟩ = some (.slice a3 os.mem.vals.length c3) := chg_cell hc bx50 (fun h => by have := ivA _ h; omega)
            replace bx52 : w8.cell? ⟨w3.heap.size, 3, none⟩ = some (.slice a4 os.mem.arrs.length c4) := chg_cell hc bx52 (fun h => by have := ivA _ h; omega)
            replace oP := own_keep oP hc (fun gq h h2 => by have := iv89 gq h; have := ivA gq h2; omega)
            clear hc
            have iv100 := oA98.lt
            clear hNw oA1
            clear lt90 lt91 lt92 lt93 lt94 lt95 lt96 lt97
            have lt101 := lt_of_cell hBo
            have lt102 := lt_of_cell hX0
            have lt103 := lt_of_cell hBc
            have lt104 := lt_of_cell hWb
            have lt105 := lt_of_cell hs0'
            have lt106 := lt_of_cell e0
            have lt107 := lt_of_cell hwn2
            have lt108 := lt_of_cell bx46
            refine hK.out _ _ ⟨hX0, hX1, hX2, bx46, bx48, bx50, bx52⟩ (fun hHeld => ?_)
            clear hK K
            try simp only [Act.put, List.setIfInBounds_toArray, List.set]
            refine wpAnyH_ready (rs := [5]) (by kernel_rfl) (by simp) ?_
            refine AllReadyH.cons rfl (fun K hK => ?_) AllReadyH.nil
            go_simp
            obtain ⟨w9, hnw⟩ : ∃ X, X = (World.setCell w8 ⟨Bo, 0, none⟩ (.slice pA98 (E.length + U.length + (pathE c os).length) tA98)) := ⟨_, rfl⟩
            have hb : Below (World.setCell w8 ⟨Bo, 0, none⟩ (.slice pA98 (E.length + U.length + (pathE c os).length) tA98)).heap.size (World.setCell w8 ⟨Bo, 0, none⟩ (.slice pA98 (E.length + U.length + (pathE c os).length) tA98)) w9 := by rw [hnw]; exact bself _
            have hsz109 := hb.size
            simp only [World.size_setCell] at hsz109
            replace hBf := kept_froz hb (lt_of_cell (cell_at _ (Bo) 0 (.slice pA98 (E.length + U.length + (pathE c os).length) tA98) hBo)) (froz_st (b := ⟨(Bo), 0, none⟩) hBf (.slice pA98 (E.length + U.length + (pathE c os).length) tA98))
            replace hCf := kept_froz hb (lt_of_cell (cell_ne (b := (Bo)) (j := 0) hBc (by omega) (.slice pA98 (E.length + U.length + (pathE c os).length) tA98))) (froz_st (b := ⟨(Bo), 0, none⟩) hCf (.slice pA98 (E.length + U.length + (pathE c os).length) tA98))
            replace bf47 := kept_froz hb (lt_of_cell (cell_ne (b := (Bo)) (j := 0) bx46 (by omega) (.slice pA98 (E.length + U.length + (pathE c os).length) tA98))) (froz_st (b := ⟨(Bo), 0, none⟩) bf47 (.slice pA98 (E.length + U.length + (pathE c os).length) tA98))
            replace bf49 := kept_froz hb (lt_of_cell (cell_ne (b := (Bo)) (j := 0) bx48 (by omega) (.slice pA98 (E.length + U.length + (pathE c os).length) tA98))) (froz_st (b := ⟨(Bo), 0, none⟩) bf49 (.slice pA98 (E.length + U.length + (pathE c os).length) tA98))
            replace bf51 := kept_froz hb (lt_of_cell (cell_ne (b := (Bo)) (j := 0) bx50 (by omega) (.slice pA98 (E.length + U.length + (pathE c os).length) tA98))) (froz_st (b := ⟨(Bo), 0, none⟩) bf51 (.slice pA98 (E.length + U.length + (pathE c os).length) tA98))
            replace bf53 := kept_froz hb (lt_of_cell (cell_ne (b := (Bo)) (j := 0) bx52 (by omega) (.slice pA98 (E.length + U.length + (pathE c os).length) tA98))) (froz_st (b := ⟨(Bo), 0, none⟩) bf53 (.slice pA98 (E.length + U.length + (pathE c os).length) tA98))
            replace hBo : w9.cell? ⟨Bo, 0, none⟩ = some (.slice pA98 (E.length + U.length + (pathE c os).length) tA98) := kept_cell hb (cell_at _ (Bo) 0 (.slice pA98 (E.length + U.length + (pathE c os).length) tA98) hBo)
            replace hX0 : w9.cell? ⟨X, 0, none⟩ = some (.slice a0 c.vars.length c0) := kept_cell hb (cell_ne (b := (Bo)) (j := 0) hX0 (by omega) (.slice pA98 (E.length + U.length + (pathE c os).length) tA98))
            replace hX1 : w9.cell? ⟨X, 1, none⟩ = some (.slice a1 c.arrays.length c1) := kept_cell hb (cell_ne (b := (Bo)) (j := 0) hX1 (by omega) (.slice pA98 (E.length + U.length + (pathE c os).length) tA98))
            replace hX2 : w9.cell? ⟨X, 2, none⟩ = some (.slice (some ⟨b0, off, none⟩) c.list.length c2) := kept_cell hb (cell_ne (b := (Bo)) (j := 0) hX2 (by omega) (.slice pA98 (E.length + U.length + (pathE c os).length) tA98))
            replace hBc : w9.cell? ⟨Bc, 0, none⟩ = some (.int .i64 n) := kept_cell hb (cell_ne (b := (Bo)) (j := 0) hBc (by omega) (.slice pA98 (E.length + U.length + (pathE c os).length) tA98))
            replace hWb : w9.cell? ⟨Wb, 0, none⟩ = some (.slice (some ⟨bw, ow, none⟩) ws.length cw) := kept_cell hb (cell_ne (b := (Bo)) (j := 0) hWb (by omega) (.slice pA98 (E.length + U.length + (pathE c os).length) tA98))
            replace hs0' : w9.cell? ⟨b, 0, none⟩ = some (.int .i64 p) := kept_cell hb (cell_ne (b := (Bo)) (j := 0) hs0' (by omega) (.slice pA98 (E.length + U.length + (pathE c os).length) tA98))
            replace hs1' : w9.cell? ⟨b, 1, none⟩ = some (.slice a5 os.regs.length c5) := kept_cell hb (cell_ne (b := (Bo)) (j := 0) hs1' (by omega) (.slice pA98 (E.length + U.length + (pathE c os).length) tA98))
            replace hs2' : w9.cell? ⟨b, 2, none⟩ = some (.slice a3 os.mem.vals.length c3) := kept_cell hb (cell_ne (b := (Bo)) (j := 0) hs2' (by omega) (.slice pA98 (E.length + U.length + (pathE c os).length) tA98))
            replace hs3' : w9.cell? ⟨b, 3, none⟩ = some (.slice a4 os.mem.arrs.length c4) := kept_cell hb (cell_ne (b := (Bo)) (j := 0) hs3' (by omega) (.slice pA98 (E.length + U.length + (pathE c os).length) tA98))
            replace e0 : w9.cell? ⟨b0, off + k * 5, none⟩ = some (.int .i64 x.op) := kept_cell hb (cell_ne (b := (Bo)) (j := 0) e0 (by omega) (.slice pA98 (E.length + U.length + (pathE c os).length) tA98))
            replace e1 : w9.cell? ⟨b0, off + k * 5 + 1, none⟩ = some (.int .i64 x.a) := kept_cell hb (cell_ne (b := (Bo)) (j := 0) e1 (by omega) (.slice pA98 (E.length + U.length + (pathE c os).length) tA98))
            replace e2 : w9.cell? ⟨b0, off + k * 5 + 2, none⟩ = some (.int .i64 x.b) := kept_cell hb (cell_ne (b := (Bo)) (j := 0) e2 (by omega) (.slice pA98 (E.length + U.length + (pathE c os).length) tA98))
            replace e3 : w9.cell? ⟨b0, off + k * 5 + 3, none⟩ = some (.int .i64 x.c) := kept_cell hb (cell_ne (b := (Bo)) (j := 0) e3 (by omega) (.slice pA98 (E.length + U.length + (pathE c os).length) tA98))
            replace e4 : w9.cell? ⟨b0, off + k * 5 + 4, none⟩ = some (.int .i64 x.d) := kept_cell hb (cell_ne (b := (Bo)) (j := 0) e4 (by omega) (.slice pA98 (E.length + U.length + (pathE c os).length) tA98))
            replace hCh := (hCh.setCell (Bo) 0 (.slice pA98 (E.length + U.length + (pathE c os).length) tA98) (fun _ => (by first | exact Or.inl rfl | exact Or.inr (Or.inl rfl) | (refine Or.inr (Or.inr ?_); omega)))).trans (Chg.of_below hb)
            replace hwn2 : w9.cell? ⟨bw, ow + n, none⟩ = some (.bool true) := kept_cell hb (cell_ne (b := (Bo)) (j := 0) hwn2 (by omega) (.slice pA98 (E.length + U.length + (pathE c os).length) tA98))
            replace bx46 : w9.cell? ⟨w3.heap.size, 0, none⟩ = some (.int .i64 (tgt x)) := kept_cell hb (cell_ne (b := (Bo)) (j := 0) bx46 (by omega) (.slice pA98 (E.length + U.length + (pathE c os).length) tA98))
            replace bx48 : w9.cell? ⟨w3.heap.size, 1, none⟩ = some (.slice a5 os.regs.length c5) := kept_cell hb (cell_ne (b := (Bo)) (j := 0) bx48 (by omega) (.slice pA98 (E.length + U.length + (pathE c os).length) tA98))
            replace bx50 : w9.cell? ⟨w3.heap.size, 2, none⟩ = some (.slice a3 os.mem.vals.length c3) := kept_cell hb (cell_ne (b := (Bo)) (j := 0) bx50 (by omega) (.slice pA98 (E.length + U.length + (pathE c os).length) tA98))
            replace bx52 : w9.cell? ⟨w3.heap.size, 3, none⟩ = some (.slice a4 os.mem.arrs.length c4) := kept_cell hb (cell_ne (b := (Bo)) (j := 0) bx52 (by omega) (.slice pA98 (E.length + U.length + (pathE c os).length) tA98))
            replace oP := own_below (own_set oP (Bo) 0 (fun h => by have := iv89 _ h; omega) (.slice pA98 (E.length + U.length + (pathE c os).length) tA98)) hb
            replace oA98 := own_below (own_set oA98 (Bo) 0 (fun h => by have := iv100 _ h; omega) (.slice pA98 (E.length + U.length + (pathE c os).length) tA98)) hb
            clear hb
            rw [← hnw]
            clear hnw
            clear lt101 lt102 lt103 lt104 lt105 lt106 lt107 lt108
            have lt110 := lt_of_cell hBo
            have lt111 := lt_of_cell hX0
            have lt112 := lt_of_cell hBc
            have lt113 := lt_of_cell hWb
            have lt114 := lt_of_cell hs0'
            have lt115 := lt_of_cell e0
            have lt116 := lt_of_cell hwn2
            have lt117 := lt_of_cell bx46
            refine hK.out _ _ ⟨hX0, hX1, hX2, bx46, bx48, bx50, bx52⟩ (fun hHeld => ?_)
            clear hK K
            try simp only [Act.put, List.setIfInBounds_toArray, List.set]
            refine wpAnyH_done (by kernel_rfl) ?_ _
            refine NoPanic.normal ?_
            clear hHeld
            have f1 := (cell_ne (b := (Bc)) (j := 0) hBo (by omega) (.int .i64 ((n : Int) + 1)))
            have f2 := (froz_st (b := ⟨(Bc), 0, none⟩) hBf (.int .i64 ((n : Int) + 1)))
            have f3 := (own_set oA98 (Bc) 0 (fun h => by have := iv100 _ h; omega) (.int .i64 ((n : Int) + 1)))
            have f4 := (cell_at _ (Bc) 0 (.int .i64 ((n : Int) + 1)) hBc)
            have f5 := (froz_st (b := ⟨(Bc), 0, none⟩) hCf (.int .i64 ((n : Int) + 1)))
            have f6 := (hCh.setCell (Bc) 0 (.int .i64 ((n : Int) + 1)) (fun _ => (by first | exact Or.inl rfl | exact Or.inr (Or.inl rfl) | (refine Or.inr (Or.inr ?_); omega))))
            have HF := Lib.hid (And.intro f1 (And.intro f2 (And.intro f3 (And.intro f4 (And.intro f5 f6)))))
            clear f1 f2 f3 f4 f5 f6 hCh oP oA98
            go_wp2
            go_end0
            exact ⟨rfl, _, HF.out.1, HF.out.2.1, by rw [HXE.out]; have h := HF.out.2.2.1; rw [List.length_append, List.length_append, evs_append, evs_append]; exact h, by rw [HBI.out]; exact HF.out.2.2.2.1, HF.out.2.2.2.2.1, HF.out.2.2.2.2.2⟩
          refine AllReadyH.cons rfl (fun K hK => ?_) AllReadyH.nil
          go_simp
          refine (HIP.out _ tot).mono ?_
          rintro e w7 ⟨u2, rfl, oP, hb⟩
          obtain ⟨pP, tP, rfl⟩ := own_shape oP
          have hsz118 := hb.size
          replace hBf := kept_froz hb (lt_of_cell hBo) hBf
          replace hCf := kept_froz hb (lt_of_cell hBc) hCf
          replace bf47 := kept_froz hb (lt_of_cell bx46) bf47
          replace bf49 := kept_froz hb (lt_of_cell bx48) bf49
          replace bf51 := kept_froz hb (lt_of_cell bx50) bf51
          replace bf53 := kept_froz hb (lt_of_cell bx52) bf53
          replace hBo : w7.cell? ⟨Bo, 0, none⟩ = some (.slice pA1 (E.length + U.length) tA1) := kept_cell hb hBo
          replace hX0 : w7.cell? ⟨X, 0, none⟩ = some (.slice a0 c.vars.length c0) := kept_cell hb hX0
          replace hX1 : w7.cell? ⟨X, 1, none⟩ = some (.slice a1 c.arrays.length c1) := kept_cell hb hX1
          replace hX2 : w7.cell? ⟨X, 2, none⟩ = some (.slice (some ⟨b0, off, none⟩) c.list.length c2) := kept_cell hb hX2
          replace hBc : w7.cell? ⟨Bc, 0, none⟩ = some (.int .i64 n) := kept_cell hb hBc
          replace hWb : w7.cell? ⟨Wb, 0, none⟩ = some (.slice (some ⟨bw, ow, none⟩) ws.length cw) := kept_cell hb hWb
          replace hs0' : w7.cell? ⟨b, 0, none⟩ = some (.int .i64 p) := kept_cell hb hs0'
          replace hs1' : w7.cell? ⟨b, 1, none⟩ = some (.slice a5 os.regs.length c5) := kept_cell hb hs1'
          replace hs2' : w7.cell? ⟨b, 2, none⟩ = some (.slice a3 os.mem.vals.length c3) := kept_cell hb hs2'
          replace hs3' : w7.cell? ⟨b, 3, none⟩ = some (.slice a4 os.mem.arrs.length c4) := kept_cell hb hs3'
          replace e0 : w7.cell? ⟨b0, off + k * 5, none⟩ = some (.int .i64 x.op) := kept_cell hb e0
          replace e1 : w7.cell? ⟨b0, off + k * 5 + 1, none⟩ = some (.int .i64 x.a) := kept_cell hb e1
          replace e2 : w7.cell? ⟨b0, off + k * 5 + 2, none⟩ = some (.int .i64 x.b) := kept_cell hb e2
          replace e3 : w7.cell? ⟨b0, off + k * 5 + 3, none⟩ = some (.int .i64 x.c) := kept_cell hb e3
          replace e4 : w7.cell? ⟨b0, off + k * 5 + 4, none⟩ = some (.int .i64 x.d) := kept_cell hb e4
          replace hCh := hCh.trans (Chg.of_below hb)
          replace oA1 := own_below oA1 hb
          replace hwn2 : w7.cell? ⟨bw, ow + n, none⟩ = some (.bool true) := kept_cell hb hwn2
          replace bx46 : w7.cell? ⟨w3.heap.size, 0, none⟩ = some (.int .i64 (tgt x)) := kept_cell hb bx46
          replace bx48 : w7.cell? ⟨w3.heap.size, 1, none⟩ = some (.slice a5 os.regs.length c5) := kept_cell hb bx48
          replace bx50 : w7.cell? ⟨w3.heap.size, 2, none⟩ = some (.slice a3 os.mem.vals.length c3) := kept_cell hb bx50
          replace bx52 : w7.cell? ⟨w3.heap.size, 3, none⟩ = some (.slice a4 os.mem.arrs.length c4) := kept_cell hb bx52
          replace tot := btr tot hb
          clear hb
          have iv119 := oP.lt
          clear lt72 lt73 lt74 lt75 lt76 lt77 lt78 lt79
          have lt120 := lt_of_cell hBo
          have lt121 := lt_of_cell hX0
          have lt122 := lt_of_cell hBc
          have lt123 := lt_of_cell hWb
          have lt124 := lt_of_cell hs0'
          have lt125 := lt_of_cell e0
          have lt126 := lt_of_cell hwn2
          have lt127 := lt_of_cell bx46
          refine hK.out _ _ ⟨hX0, hX1, hX2, bx46, bx48, bx50, bx52⟩ (fun hHeld => ?_)
          clear hK K
          try simp only [Act.put, List.setIfInBounds_toArray, List.set]
          refine wpAnyH_ready (rs := [0]) (by kernel_rfl) (by simp) ?_
          refine AllReadyH.cons rfl (fun K hK => ?_) AllReadyH.nil
          go_simp
          clear lt120 lt121 lt122 lt123 lt124 lt125 lt126 lt127
          have lt128 := lt_of_cell hBo
          have lt129 := lt_of_cell hX0
          have lt130 := lt_of_cell hBc
          have lt131 := lt_of_cell hWb
          have lt132 := lt_of_cell hs0'
          have lt133 := lt_of_cell e0
          have lt134 := lt_of_cell hwn2
          have lt135 := lt_of_cell bx46
          refine hK.out _ _ ⟨hX0, hX1, hX2, bx46, bx48, bx50, bx52⟩ (fun hHeld => ?_)
          clear hK K
          try simp only [Act.put, List.setIfInBounds_toArray, List.set]
          refine wpAnyH_ready (rs := [4]) (by kernel_rfl) (by simp) ?_
          refine AllReadyH.cons rfl (fun K hK => ?_) AllReadyH.nil
          refine step_aps tEvs rfl _ _ rfl (tb) _ (E.length + U.length) (evs E ++ evs U) rfl oA1 _ ((pathE c os).length) (evs (pathE c os)) rfl ((reads_of_owns oP (by have := HPL.out; omega))) (one_evs (pathE c os)) (by omega) (by omega) ?_
          intro vA w8 oA136 hc hNw _
          obtain ⟨pA136, tA136, rfl⟩ := own_shape oA136
          replace hCh := chg_then hCh hc (fun q _ h => Or.inr (Or.inr (ivA q h).1))
          have hsz137 := hc.size
          replace hBf := chg_froz hc (lt_of_cell hBo) hBf (fun h => by have := ivA _ h; omega)
          replace hCf := chg_froz hc (lt_of_cell hBc) hCf (fun h => by have := ivA _ h; omega)
          replace bf47 := chg_froz hc (lt_of_cell bx46) bf47 (fun h => by have := ivA _ h; omega)
          replace bf49 := chg_froz hc (lt_of_cell bx48) bf49 (fun h => by have := ivA _ h; omega)
          replace bf51 := chg_froz hc (lt_of_cell bx50) bf51 (fun h => by have := ivA _ h; omega)
          replace bf53 := chg_froz hc (lt_of_cell bx52) bf53 (fun h => by have := ivA _ h; omega)
          replace hBo : w8.cell? ⟨Bo, 0, none⟩ = some (.slice pA1 (E.length + U.length) tA1) := chg_cell hc hBo (fun h => by have := ivA _ h; omega)
          replace hX0 : w8.cell? ⟨X, 0, none⟩ = some (.slice a0 c.vars.length c0) := chg_cell hc hX0 (fun h => by have := ivA _ h; omega)
          replace hX1 : w8.cell? ⟨X, 1, none⟩ = some (.slice a1 c.arrays.length c1) := chg_cell hc hX1 (fun h => by have := ivA _ h; omega)
          replace hX2 : w8.cell? ⟨X, 2, none⟩ = some (.slice (some ⟨b0, off, none⟩) c.list.length c2) := chg_cell hc hX2 (fun h => by have := ivA _ h; omega)
          replace hBc : w8.cell? ⟨Bc, 0, none⟩ = some (.int .i64 n) := chg_cell hc hBc (fun h => by have := ivA _ h; omega)
          replace hWb : w8.cell? ⟨Wb, 0, none⟩ = some (.slice (some ⟨bw, ow, none⟩) ws.length cw) := chg_cell hc hWb (fun h => by have := ivA _ h; omega)
          replace hs0' : w8.cell? ⟨b, 0, none⟩ = some (.int .i64 p) := chg_cell hc hs0' (fun h => by have := ivA _ h; omega)
          replace hs1' : w8.cell? ⟨b, 1, none⟩ = some (.slice a5 os.regs.length c5) := chg_cell hc hs1' (fun h => by have := ivA _ h; omega)
          replace hs2' : w8.cell? ⟨b, 2, none⟩ = some (.slice a3 os.mem.vals.length c3) := chg_cell hc hs2' (fun h => by have := ivA _ h; omega)
          replace hs3' : w8.cell? ⟨b, 3, none⟩ = some (.slice a4 os.mem.arrs.length c4) := chg_cell hc hs3' (fun h => by have := ivA _ h; omega)
          replace e0 : w8.cell? ⟨b0, off + k * 5, none⟩ = some (.int .i64 x.op) := chg_cell hc e0 (fun h => by have := ivA _ h; omega)
          replace e1 : w8.cell? ⟨b0, off + k * 5 + 1, none⟩ = some (.int .i64 x.a) := chg_cell hc e1 (fun h => by have := ivA _ h; omega)
          replace e2 : w8.cell? ⟨b0, off + k * 5 + 2, none⟩ = some (.int .i64 x.b) := chg_cell hc e2 (fun h => by have := ivA _ h; omega)
          replace e3 : w8.cell? ⟨b0, off + k * 5 + 3, none⟩ = some (.int .i64 x.c) := chg_cell hc e3 (fun h => by have := ivA _ h; omega)
          replace e4 : w8.cell? ⟨b0, off + k * 5 + 4, none⟩ = some (.int .i64 x.d) := chg_cell hc e4 (fun h => by have := ivA _ h; omega)
          replace hwn2 : w8.cell? ⟨bw, ow + n, none⟩ = some (.bool true) := chg_cell hc hwn2 (fun h => by have := ivA _ h; omega)
          replace bx46 : w8.cell? ⟨w3.heap.size, 0, none⟩ = some (.int .i64 (tgt x)) := chg_cell hc bx46 (fun h => by have := ivA _ h; omega)
          replace bx48 : w8.cell? ⟨w3.heap.size, 1, none⟩ = some (.slice a5 os.regs.length c5) := chg_cell hc bx48 (fun h => by have := ivA _ h; omega)
          replace bx50 : w8.cell? ⟨w3.heap.size, 2, none⟩ = some (.slice a3 os.mem.vals.length c3) := chg_cell hc bx50 (fun h => by have := ivA _ h; omega)
          replace bx52 : w8.cell? ⟨w3.heap.size, 3, none⟩ = some (.slice a4 os.mem.arrs.length c4) := chg_cell hc bx52 (fun h => by have := ivA _ h; omega)
          replace oP := own_keep oP hc (fun gq h h2 => by have := iv119 gq h; have := ivA gq h2; omega)
          clear hc
          have iv138 := oA136.lt
          clear hNw oA1
          clear lt128 lt129 lt130 lt131 lt132 lt133 lt134 lt135
          have lt139 := lt_of_cell hBo
          have lt140 := lt_of_cell hX0
          have lt141 := lt_of_cell hBc
          have lt142 := lt_of_cell hWb
          have lt143 := lt_of_cell hs0'
          have lt144 := lt_of_cell e0
          have lt145 := lt_of_cell hwn2
          have lt146 := lt_of_cell bx46
          refine hK.out _ _ ⟨hX0, hX1, hX2, bx46, bx48, bx50, bx52⟩ (fun hHeld => ?_)
          clear hK K
          try simp only [Act.put, List.setIfInBounds_toArray, List.set]
          refine wpAnyH_ready (rs := [5]) (by kernel_rfl) (by simp) ?_
          refine AllReadyH.cons rfl (fun K hK => ?_) AllReadyH.nil
          go_simp
          obtain ⟨w9, hnw⟩ : ∃ X, X = (World.setCell w8 ⟨Bo, 0, none⟩ (.slice pA136 (E.length + U.length + (pathE c os).length) tA136)) := ⟨_, rfl⟩
          have hb : Below (World.setCell w8 ⟨Bo, 0, none⟩ (.slice pA136 (E.length + U.length + (pathE c os).length) tA136)).heap.size (World.setCell w8 ⟨Bo, 0, none⟩ (.slice pA136 (E.length + U.length + (pathE c os).length) tA136)) w9 := by rw [hnw]; exact bself _
          have hsz147 := hb.size
          simp only [World.size_setCell] at hsz147
          replace hBf := kept_froz hb (lt_of_cell (cell_at _ (Bo) 0 (.slice pA136 (E.length + U.length + (pathE c os).length) tA136) hBo)) (froz_st (b := ⟨(Bo), 0, none⟩) hBf (.slice pA136 (E.length + U.length + (pathE c os).length) tA136))
          replace hCf := kept_froz hb (lt_of_cell (cell_ne (b := (Bo)) (j := 0) hBc (by omega) (.slice pA136 (E.length + U.length + (pathE c os).length) tA136))) (froz_st (b := ⟨(Bo), 0, none⟩) hCf (.slice pA136 (E.length + U.length + (pathE c os).length) tA136))
          replace bf47 := kept_froz hb (lt_of_cell (cell_ne (b := (Bo)) (j := 0) bx46 (by omega) (.slice pA136 (E.length + U.length + (pathE c os).length) tA136))) (froz_st (b := ⟨(Bo), 0, none⟩) bf47 (.slice pA136 (E.length + U.length + (pathE c os).length) tA136))
          replace bf49 := kept_froz hb (lt_of_cell (cell_ne (b := (Bo)) (j := 0) bx48 (by omega) (.slice pA136 (E.length + U.length + (pathE c os).length) tA136))) (froz_st (b := ⟨(Bo), 0, none⟩) bf49 (.slice pA136 (E.length + U.length + (pathE c os).length) tA136))
          replace bf51 := kept_froz hb (lt_of_cell (cell_ne (b := (Bo)) (j := 0) bx50 (by omega) (.slice pA136 (E.length + U.length + (pathE c os).length) tA136))) (froz_st (b := ⟨(Bo), 0, none⟩) bf51 (.slice pA136 (E.length + U.length + (pathE c os).length) tA136))
          replace bf53 := kept_froz hb (lt_of_cell (cell_ne (b := (Bo)) (j := 0) bx52 (by omega) (.slice pA136 (E.length + U.length + (pathE c os).length) tA136))) (froz_st (b := ⟨(Bo), 0, none⟩) bf53 (.slice pA136 (E.length + U.length + (pathE c os).length) tA136))
          replace hBo : w9.cell? ⟨Bo, 0, none⟩ = some (.slice pA136 (E.length + U.length + (pathE c os).length) tA136) := kept_cell hb (cell_at _ (Bo) 0 (.slice pA136 (E.length + U.length + (pathE c os).length) tA136) hBo)
          replace hX0 : w9.cell? ⟨X, 0, none⟩ = some (.slice a0 c.vars.length c0) := kept_cell hb (cell_ne (b := (Bo)) (j := 0) hX0 (by omega) (.slice pA136 (E.length + U.length + (pathE c os).length) tA136))
          replace hX1 : w9.cell? ⟨X, 1, none⟩ = some (.slice a1 c.arrays.length c1) := kept_cell hb (cell_ne (b := (Bo)) (j := 0) hX1 (by omega) (.slice pA136 (E.length + U.length + (pathE c os).length) tA136))
          replace hX2 : w9.cell? ⟨X, 2, none⟩ = some (.slice (some ⟨b0, off, none⟩) c.list.length c2) := kept_cell hb (cell_ne (b := (Bo)) (j := 0) hX2 (by omega) (.slice pA136 (E.length + U.length + (pathE c os).length) tA136))
          replace hBc : w9.cell? ⟨Bc, 0, none⟩ = some (.int .i64 n) := kept_cell hb (cell_ne (b := (Bo)) (j := 0) hBc (by omega) (.slice pA136 (E.length + U.length + (pathE c os).length) tA136))
          replace hWb : w9.cell? ⟨Wb, 0, none⟩ = some (.slice (some ⟨bw, ow, none⟩) ws.length cw) := kept_cell hb (cell_ne (b := (Bo)) (j := 0) hWb (by omega) (.slice pA136 (E.length + U.length + (pathE c os).length) tA136))
          replace hs0' : w9.cell? ⟨b, 0, none⟩ = some (.int .i64 p) := kept_cell hb (cell_ne (b := (Bo)) (j := 0) hs0' (by omega) (.slice pA136 (E.length + U.length + (pathE c os).length) tA136))
          replace hs1' : w9.cell? ⟨b, 1, none⟩ = some (.slice a5 os.regs.length c5) := kept_cell hb (cell_ne (b := (Bo)) (j := 0) hs1' (by omega) (.slice pA136 (E.length + U.length + (pathE c os).length) tA136))
          replace hs2' : w9.cell? ⟨b, 2, none⟩ = some (.slice a3 os.mem.vals.length c3) := kept_cell hb (cell_ne (b := (Bo)) (j := 0) hs2' (by omega) (.slice pA136 (E.length + U.length + (pathE c os).length) tA136))
          replace hs3' : w9.cell? ⟨b, 3, none⟩ = some (.slice a4 os.mem.arrs.length c4) := kept_cell hb (cell_ne (b := (Bo)) (j := 0) hs3' (by omega) (.slice pA136 (E.length + U.length + (pathE c os).length) tA136))
          replace e0 : w9.cell? ⟨b0, off + k * 5, none⟩ = some (.int .i64 x.op) := kept_cell hb (cell_ne (b := (Bo)) (j := 0) e0 (by omega) (.slice pA136 (E.length + U.length + (pathE c os).length) tA136))
          replace e1 : w9.cell? ⟨b0, off + k * 5 + 1, none⟩ = some (.int .i64 x.a) := kept_cell hb (cell_ne (b := (Bo)) (j := 0) e1 (by omega) (.slice pA136 (E.length + U.length + (pathE c os).length) tA136))
          replace e2 : w9.cell? ⟨b0, off + k * 5 + 2, none⟩ = some (.int .i64 x.b) := kept_cell hb (cell_ne (b := (Bo)) (j := 0) e2 (by omega) (.slice pA136 (E.length + U.length + (pathE c os).length) tA136))
          replace e3 : w9.cell? ⟨b0, off + k * 5 + 3, none⟩ = some (.int .i64 x.c) := kept_cell hb (cell_ne (b := (Bo)) (j := 0) e3 (by omega) (.slice pA136 (E.length + U.length + (pathE c os).length) tA136))
          replace e4 : w9.cell? ⟨b0, off + k * 5 + 4, none⟩ = some (.int .i64 x.d) := kept_cell hb (cell_ne (b := (Bo)) (j := 0) e4 (by omega) (.slice pA136 (E.length + U.length + (pathE c os).length) tA136))
          replace hCh := (hCh.setCell (Bo) 0 (.slice pA136 (E.length + U.length + (pathE c os).length) tA136) (fun _ => (by first | exact Or.inl rfl | exact Or.inr (Or.inl rfl) | (refine Or.inr (Or.inr ?_); omega)))).trans (Chg.of_below hb)
          replace hwn2 : w9.cell? ⟨bw, ow + n, none⟩ = some (.bool true) := kept_cell hb (cell_ne (b := (Bo)) (j := 0) hwn2 (by omega) (.slice pA136 (E.length + U.length + (pathE c os).length) tA136))
          replace bx46 : w9.cell? ⟨w3.heap.size, 0, none⟩ = some (.int .i64 (tgt x)) := kept_cell hb (cell_ne (b := (Bo)) (j := 0) bx46 (by omega) (.slice pA136 (E.length + U.length + (pathE c os).length) tA136))
          replace bx48 : w9.cell? ⟨w3.heap.size, 1, none⟩ = some (.slice a5 os.regs.length c5) := kept_cell hb (cell_ne (b := (Bo)) (j := 0) bx48 (by omega) (.slice pA136 (E.length + U.length + (pathE c os).length) tA136))
          replace bx50 : w9.cell? ⟨w3.heap.size, 2, none⟩ = some (.slice a3 os.mem.vals.length c3) := kept_cell hb (cell_ne (b := (Bo)) (j := 0) bx50 (by omega) (.slice pA136 (E.length + U.length + (pathE c os).length) tA136))
          replace bx52 : w9.cell? ⟨w3.heap.size, 3, none⟩ = some (.slice a4 os.mem.arrs.length c4) := kept_cell hb (cell_ne (b := (Bo)) (j := 0) bx52 (by omega) (.slice pA136 (E.length + U.length + (pathE c os).length) tA136))
          replace oP := own_below (own_set oP (Bo) 0 (fun h => by have := iv119 _ h; omega) (.slice pA136 (E.length + U.length + (pathE c os).length) tA136)) hb
          replace oA136 := own_below (own_set oA136 (Bo) 0 (fun h => by have := iv138 _ h; omega) (.slice pA136 (E.length + U.length + (pathE c os).length) tA136)) hb
          clear hb
          rw [← hnw]
          clear hnw
          clear lt139 lt140 lt141 lt142 lt143 lt144 lt145 lt146
          have lt148 := lt_of_cell hBo
          have lt149 := lt_of_cell hX0
          have lt150 := lt_of_cell hBc
          have lt151 := lt_of_cell hWb
          have lt152 := lt_of_cell hs0'
          have lt153 := lt_of_cell e0
          have lt154 := lt_of_cell hwn2
          have lt155 := lt_of_cell bx46
          refine hK.out _ _ ⟨hX0, hX1, hX2, bx46, bx48, bx50, bx52⟩ (fun hHeld => ?_)
          clear hK K
          try simp only [Act.put, List.setIfInBounds_toArray, List.set]
          refine wpAnyH_done (by kernel_rfl) ?_ _
          refine NoPanic.normal ?_
          clear hHeld
          have f1 := (cell_ne (b := (Bc)) (j := 0) hBo (by omega) (.int .i64 ((n : Int) + 1)))
          have f2 := (froz_st (b := ⟨(Bc), 0, none⟩) hBf (.int .i64 ((n : Int) + 1)))
          have f3 := (own_set oA136 (Bc) 0 (fun h => by have := iv138 _ h; omega) (.int .i64 ((n : Int) + 1)))
          have f4 := (cell_at _ (Bc) 0 (.int .i64 ((n : Int) + 1)) hBc)
          have f5 := (froz_st (b := ⟨(Bc), 0, none⟩) hCf (.int .i64 ((n : Int) + 1)))
          have f6 := (hCh.setCell (Bc) 0 (.int .i64 ((n : Int) + 1)) (fun _ => (by first | exact Or.inl rfl | exact Or.inr (Or.inl rfl) | (refine Or.inr (Or.inr ?_); omega))))
          have HF := Lib.hid (And.intro f1 (And.intro f2 (And.intro f3 (And.intro f4 (And.intro f5 f6)))))
          clear f1 f2 f3 f4 f5 f6 hCh oP oA136
          go_wp2
          go_end0
          exact ⟨rfl, _, HF.out.1, HF.out.2.1, by rw [HXE.out]; have h := HF.out.2.2.1; rw [List.length_append, List.length_append, evs_append, evs_append]; exact h, by rw [HBI.out]; exact HF.out.2.2.2.1, HF.out.2.2.2.2.1, HF.out.2.2.2.2.2⟩
        · skip
          have HPC : Hid (os.pc = (k : Int) + 1) := Lib.hid (by rw [HOP.out]; unfold othPc; rw [if_neg hp])
          have hpq : (p == (k : Int) + 1) = false := by simp [hp]
          clear hp
          have HIP := Lib.hid (fun W (hW : Below w2.heap.size w2 W) => by have h := iPath_any _ _ _ _ _ _ c os W (HR3.out W hW) (own_readsS (HO3.out W hW) HS1.out.1 HS1.out.2.1 HS1.out.2.2.1 HS1.out.2.2.2) HS1.out.1 HS1.out.2.1 HS1.out.2.2.1 HS1.out.2.2.2 HB1.out hok; rw [HPC.out] at h; exact h)
          have hpl := HPL.out
          go_upto_region 8 with (fail)
          obtain ⟨w4, hnw⟩ : ∃ X, X = (World.alloc w3 (.cells #[.int .i64 ((k : Int) + 1), .slice a5 os.regs.length c5, .slice a3 os.mem.vals.length c3, .slice a4 os.mem.arrs.length c4] 49)) := ⟨_, rfl⟩
          have hb : Below (World.alloc w3 (.cells #[.int .i64 ((k : Int) + 1), .slice a5 os.regs.length c5, .slice a3 os.mem.vals.length c3, .slice a4 os.mem.arrs.length c4] 49)).heap.size (World.alloc w3 (.cells #[.int .i64 ((k : Int) + 1), .slice a5 os.regs.length c5, .slice a3 os.mem.vals.length c3, .slice a4 os.mem.arrs.length c4] 49)) w4 := by rw [hnw]; exact bself _
          have hsz156 := hb.size
          simp only [World.size_alloc] at hsz156
          replace hBf := kept_froz hb (lt_of_cell (cell_al hBo (.cells #[.int .i64 ((k : Int) + 1), .slice a5 os.regs.length c5, .slice a3 os.mem.vals.length c3, .slice a4 os.mem.arrs.length c4] 49))) (froz_al (lt_of_cell hBo) hBf (.cells #[.int .i64 ((k : Int) + 1), .slice a5 os.regs.length c5, .slice a3 os.mem.vals.length c3, .slice a4 os.mem.arrs.length c4] 49))
          replace hCf := kept_froz hb (lt_of_cell (cell_al hBc (.cells #[.int .i64 ((k : Int) + 1), .slice a5 os.regs.length c5, .slice a3 os.mem.vals.length c3, .slice a4 os.mem.arrs.length c4] 49))) (froz_al (lt_of_cell hBc) hCf (.cells #[.int .i64 ((k : Int) + 1), .slice a5 os.regs.length c5, .slice a3 os.mem.vals.length c3, .slice a4 os.mem.arrs.length c4] 49))
          replace bf13 := kept_froz hb (lt_of_cell (cell_al bx12 (.cells #[.int .i64 ((k : Int) + 1), .slice a5 os.regs.length c5, .slice a3 os.mem.vals.length c3, .slice a4 os.mem.arrs.length c4] 49))) (froz_al (lt_of_cell bx12) bf13 (.cells #[.int .i64 ((k : Int) + 1), .slice a5 os.regs.length c5, .slice a3 os.mem.vals.length c3, .slice a4 os.mem.arrs.length c4] 49))
          replace bf15 := kept_froz hb (lt_of_cell (cell_al bx14 (.cells #[.int .i64 ((k : Int) + 1), .slice a5 os.regs.length c5, .slice a3 os.mem.vals.length c3, .slice a4 os.mem.arrs.length c4] 49))) (froz_al (lt_of_cell bx14) bf15 (.cells #[.int .i64 ((k : Int) + 1), .slice a5 os.regs.length c5, .slice a3 os.mem.vals.length c3, .slice a4 os.mem.arrs.length c4] 49))
          replace bf17 := kept_froz hb (lt_of_cell (cell_al bx16 (.cells #[.int .i64 ((k : Int) + 1), .slice a5 os.regs.length c5, .slice a3 os.mem.vals.length c3, .slice a4 os.mem.arrs.length c4] 49))) (froz_al (lt_of_cell bx16) bf17 (.cells #[.int .i64 ((k : Int) + 1), .slice a5 os.regs.length c5, .slice a3 os.mem.vals.length c3, .slice a4 os.mem.arrs.length c4] 49))
          replace bf19 := kept_froz hb (lt_of_cell (cell_al bx18 (.cells #[.int .i64 ((k : Int) + 1), .slice a5 os.regs.length c5, .slice a3 os.mem.vals.length c3, .slice a4 os.mem.arrs.length c4] 49))) (froz_al (lt_of_cell bx18) bf19 (.cells #[.int .i64 ((k : Int) + 1), .slice a5 os.regs.length c5, .slice a3 os.mem.vals.length c3, .slice a4 os.mem.arrs.length c4] 49))
          replace bf21 := kept_froz hb (lt_of_cell (cell_al bx20 (.cells #[.int .i64 ((k : Int) + 1), .slice a5 os.regs.length c5, .slice a3 os.mem.vals.length c3, .slice a4 os.mem.arrs.length c4] 49))) (froz_al (lt_of_cell bx20) bf21 (.cells #[.int .i64 ((k : Int) + 1), .slice a5 os.regs.length c5, .slice a3 os.mem.vals.length c3, .slice a4 os.mem.arrs.length c4] 49))
          replace hBo : w4.cell? ⟨Bo, 0, none⟩ = some (.slice pA1 (E.length + U.length) tA1) := kept_cell hb (cell_al hBo (.cells #[.int .i64 ((k : Int) + 1), .slice a5 os.regs.length c5, .slice a3 os.mem.vals.length c3, .slice a4 os.mem.arrs.length c4] 49))
          replace hX0 : w4.cell? ⟨X, 0, none⟩ = some (.slice a0 c.vars.length c0) := kept_cell hb (cell_al hX0 (.cells #[.int .i64 ((k : Int) + 1), .slice a5 os.regs.length c5, .slice a3 os.mem.vals.length c3, .slice a4 os.mem.arrs.length c4] 49))
          replace hX1 : w4.cell? ⟨X, 1, none⟩ = some (.slice a1 c.arrays.length c1) := kept_cell hb (cell_al hX1 (.cells #[.int .i64 ((k : Int) + 1), .slice a5 os.regs.length c5, .slice a3 os.mem.vals.length c3, .slice a4 os.mem.arrs.length c4] 49))
          replace hX2 : w4.cell? ⟨X, 2, none⟩ = some (.slice (some ⟨b0, off, none⟩) c.list.length c2) := kept_cell hb (cell_al hX2 (.cells #[.int .i64 ((k : Int) + 1), .slice a5 os.regs.length c5, .slice a3 os.mem.vals.length c3, .slice a4 os.mem.arrs.length c4] 49))
          replace hBc : w4.cell? ⟨Bc, 0, none⟩ = some (.int .i64 n) := kept_cell hb (cell_al hBc (.cells #[.int .i64 ((k : Int) + 1), .slice a5 os.regs.length c5, .slice a3 os.mem.vals.length c3, .slice a4 os.mem.arrs.length c4] 49))
          replace hWb : w4.cell? ⟨Wb, 0, none⟩ = some (.slice (some ⟨bw, ow, none⟩) ws.length cw) := kept_cell hb (cell_al hWb (.cells #[.int .i64 ((k : Int) + 1), .slice a5 os.regs.length c5, .slice a3 os.mem.vals.length c3, .slice a4 os.mem.arrs.length c4] 49))
          replace hs0' : w4.cell? ⟨b, 0, none⟩ = some (.int .i64 p) := kept_cell hb (cell_al hs0' (.cells #[.int .i64 ((k : Int) + 1), .slice a5 os.regs.length c5, .slice a3 os.mem.vals.length c3, .slice a4 os.mem.arrs.length c4] 49))
          replace hs1' : w4.cell? ⟨b, 1, none⟩ = some (.slice a5 os.regs.length c5) := kept_cell hb (cell_al hs1' (.cells #[.int .i64 ((k : Int) + 1), .slice a5 os.regs.length c5, .slice a3 os.mem.vals.length c3, .slice a4 os.mem.arrs.length c4] 49))
          replace hs2' : w4.cell? ⟨b, 2, none⟩ = some (.slice a3 os.mem.vals.length c3) := kept_cell hb (cell_al hs2' (.cells #[.int .i64 ((k : Int) + 1), .slice a5 os.regs.length c5, .slice a3 os.mem.vals.length c3, .slice a4 os.mem.arrs.length c4] 49))
          replace hs3' : w4.cell? ⟨b, 3, none⟩ = some (.slice a4 os.mem.arrs.length c4) := kept_cell hb (cell_al hs3' (.cells #[.int .i64 ((k : Int) + 1), .slice a5 os.regs.length c5, .slice a3 os.mem.vals.length c3, .slice a4 os.mem.arrs.length c4] 49))
          replace e0 : w4.cell? ⟨b0, off + k * 5, none⟩ = some (.int .i64 x.op) := kept_cell hb (cell_al e0 (.cells #[.int .i64 ((k : Int) + 1), .slice a5 os.regs.length c5, .slice a3 os.mem.vals.length c3, .slice a4 os.mem.arrs.length c4] 49))
          replace e1 : w4.cell? ⟨b0, off + k * 5 + 1, none⟩ = some (.int .i64 x.a) := kept_cell hb (cell_al e1 (.cells #[.int .i64 ((k : Int) + 1), .slice a5 os.regs.length c5, .slice a3 os.mem.vals.length c3, .slice a4 os.mem.arrs.length c4] 49))
          replace e2 : w4.cell? ⟨b0, off + k * 5 + 2, none⟩ = some (.int .i64 x.b) := kept_cell hb (cell_al e2 (.cells #[.int .i64 ((k : Int) + 1), .slice a5 os.regs.length c5, .slice a3 os.mem.vals.length c3, .slice a4 os.mem.arrs.length c4] 49))
          replace e3 : w4.cell? ⟨b0, off + k * 5 + 3, none⟩ = some (.int .i64 x.c) := kept_cell hb (cell_al e3 (.cells #[.int .i64 ((k : Int) + 1), .slice a5 os.regs.length c5, .slice a3 os.mem.vals.length c3, .slice a4 os.mem.arrs.length c4] 49))
          replace e4 : w4.cell? ⟨b0, off + k * 5 + 4, none⟩ = some (.int .i64 x.d) := kept_cell hb (cell_al e4 (.cells #[.int .i64 ((k : Int) + 1), .slice a5 os.regs.length c5, .slice a3 os.mem.vals.length c3, .slice a4 os.mem.arrs.length c4] 49))
          replace hCh := (hCh.trans (Chg.of_below (bal (bself _) (.cells #[.int .i64 ((k : Int) + 1), .slice a5 os.regs.length c5, .slice a3 os.mem.vals.length c3, .slice a4 os.mem.arrs.length c4] 49)))).trans (Chg.of_below hb)
          replace oA1 := own_below (own_below oA1 (bal (bself _) (.cells #[.int .i64 ((k : Int) + 1), .slice a5 os.regs.length c5, .slice a3 os.mem.vals.length c3, .slice a4 os.mem.arrs.length c4] 49))) hb
          replace bx12 : w4.cell? ⟨w2.heap.size, 0, none⟩ = some (.int .i64 x.op) := kept_cell hb (cell_al bx12 (.cells #[.int .i64 ((k : Int) + 1), .slice a5 os.regs.length c5, .slice a3 os.mem.vals.length c3, .slice a4 os.mem.arrs.length c4] 49))
          replace bx14 : w4.cell? ⟨w2.heap.size, 1, none⟩ = some (.int .i64 x.a) := kept_cell hb (cell_al bx14 (.cells #[.int .i64 ((k : Int) + 1), .slice a5 os.regs.length c5, .slice a3 os.mem.vals.length c3, .slice a4 os.mem.arrs.length c4] 49))
          replace bx16 : w4.cell? ⟨w2.heap.size, 2, none⟩ = some (.int .i64 x.b) := kept_cell hb (cell_al bx16 (.cells #[.int .i64 ((k : Int) + 1), .slice a5 os.regs.length c5, .slice a3 os.mem.vals.length c3, .slice a4 os.mem.arrs.length c4] 49))
          replace bx18 : w4.cell? ⟨w2.heap.size, 3, none⟩ = some (.int .i64 x.c) := kept_cell hb (cell_al bx18 (.cells #[.int .i64 ((k : Int) + 1), .slice a5 os.regs.length c5, .slice a3 os.mem.vals.length c3, .slice a4 os.mem.arrs.length c4] 49))
          replace bx20 : w4.cell? ⟨w2.heap.size, 4, none⟩ = some (.int .i64 x.d) := kept_cell hb (cell_al bx20 (.cells #[.int .i64 ((k : Int) + 1), .slice a5 os.regs.length c5, .slice a3 os.mem.vals.length c3, .slice a4 os.mem.arrs.length c4] 49))
          replace hwn2 : w4.cell? ⟨bw, ow + n, none⟩ = some (.bool true) := kept_cell hb (cell_al hwn2 (.cells #[.int .i64 ((k : Int) + 1), .slice a5 os.regs.length c5, .slice a3 os.mem.vals.length c3, .slice a4 os.mem.arrs.length c4] 49))
          have bx157 : w4.cell? ⟨w3.heap.size, 0, none⟩ = some (.int .i64 ((k : Int) + 1)) := kept_cell hb (cell_nw (by simp) (by rfl))
          have bf158 : w4.frozen? ⟨w3.heap.size, 0, none⟩ = false := kept_froz hb (by simp) (froz_nw (by simp))
          have bx159 : w4.cell? ⟨w3.heap.size, 1, none⟩ = some (.slice a5 os.regs.length c5) := kept_cell hb (cell_nw (by simp) (by rfl))
          have bf160 : w4.frozen? ⟨w3.heap.size, 1, none⟩ = false := kept_froz hb (by simp) (froz_nw (by simp))
          have bx161 : w4.cell? ⟨w3.heap.size, 2, none⟩ = some (.slice a3 os.mem.vals.length c3) := kept_cell hb (cell_nw (by simp) (by rfl))
          have bf162 : w4.frozen? ⟨w3.heap.size, 2, none⟩ = false := kept_froz hb (by simp) (froz_nw (by simp))
          have bx163 : w4.cell? ⟨w3.heap.size, 3, none⟩ = some (.slice a4 os.mem.arrs.length c4) := kept_cell hb (cell_nw (by simp) (by rfl))
          have bf164 : w4.frozen? ⟨w3.heap.size, 3, none⟩ = false := kept_froz hb (by simp) (froz_nw (by simp))
          replace tot := btr (bal tot (.cells #[.int .i64 ((k : Int) + 1), .slice a5 os.regs.length c5, .slice a3 os.mem.vals.length c3, .slice a4 os.mem.arrs.length c4] 49)) hb
          clear hb
          rw [← hnw]
          clear hnw
          clear lt37 lt38 lt39 lt40 lt41 lt42 lt43 lt44
          have lt165 := lt_of_cell hBo
          have lt166 := lt_of_cell hX0
          have lt167 := lt_of_cell hBc
          have lt168 := lt_of_cell hWb
          have lt169 := lt_of_cell hs0'
          have lt170 := lt_of_cell e0
          have lt171 := lt_of_cell bx12
          have lt172 := lt_of_cell hwn2
          have lt173 := lt_of_cell bx157
          refine wp_region_noPanic ?_
          refine wp_region_held_drew (S := (fun W' => W'.cell? ⟨X, 0, none⟩ = some (.slice a0 c.vars.length c0) ∧ W'.cell? ⟨X, 1, none⟩ = some (.slice a1 c.arrays.length c1) ∧ W'.cell? ⟨X, 2, none⟩ = some (.slice (some ⟨b0, off, none⟩) c.list.length c2) ∧ W'.cell? ⟨w3.heap.size, 0, none⟩ = some (.int .i64 ((k : Int) + 1)) ∧ W'.cell? ⟨w3.heap.size, 1, none⟩ = some (.slice a5 os.regs.length c5) ∧ W'.cell? ⟨w3.heap.size, 2, none⟩ = some (.slice a3 os.mem.vals.length c3) ∧ W'.cell? ⟨w3.heap.size, 3, none⟩ = some (.slice a4 os.mem.arrs.length c4))) (by kernel_rfl) ⟨kept_cell (Below.drew (bself w4)) hX0, kept_cell (Below.drew (bself w4)) hX1, kept_cell (Below.drew (bself w4)) hX2, kept_cell (Below.drew (bself w4)) bx157, kept_cell (Below.drew (bself w4)) bx159, kept_cell (Below.drew (bself w4)) bx161, kept_cell (Below.drew (bself w4)) bx163⟩ (fun hHeld => ?_)
          obtain ⟨w5, hwd⟩ : ∃ X, X = World.drew w4 := ⟨_, rfl⟩
          rw [← hwd] at hHeld ⊢
          have hb : Below w4.heap.size w4 w5 := by rw [hwd]; exact Below.drew (bself _)
          clear hwd
          have hsz174 := hb.size
          replace hBf := kept_froz hb (lt_of_cell hBo) hBf
          replace hCf := kept_froz hb (lt_of_cell hBc) hCf
          replace bf13 := kept_froz hb (lt_of_cell bx12) bf13
          replace bf15 := kept_froz hb (lt_of_cell bx14) bf15
          replace bf17 := kept_froz hb (lt_of_cell bx16) bf17
          replace bf19 := kept_froz hb (lt_of_cell bx18) bf19
          replace bf21 := kept_froz hb (lt_of_cell bx20) bf21
          replace bf158 := kept_froz hb (lt_of_cell bx157) bf158
          replace bf160 := kept_froz hb (lt_of_cell bx159) bf160
          replace bf162 := kept_froz hb (lt_of_cell bx161) bf162
          replace bf164 := kept_froz hb (lt_of_cell bx163) bf164
          replace hBo : w5.cell? ⟨Bo, 0, none⟩ = some (.slice pA1 (E.length + U.length) tA1) := kept_cell hb hBo
          replace hX0 : w5.cell? ⟨X, 0, none⟩ = some (.slice a0 c.vars.length c0) := kept_cell hb hX0
          replace hX1 : w5.cell? ⟨X, 1, none⟩ = some (.slice a1 c.arrays.length c1) := kept_cell hb hX1
          replace hX2 : w5.cell? ⟨X, 2, none⟩ = some (.slice (some ⟨b0, off, none⟩) c.list.length c2) := kept_cell hb hX2
          replace hBc : w5.cell? ⟨Bc, 0, none⟩ = some (.int .i64 n) := kept_cell hb hBc
          replace hWb : w5.cell? ⟨Wb, 0, none⟩ = some (.slice (some ⟨bw, ow, none⟩) ws.length cw) := kept_cell hb hWb
          replace hs0' : w5.cell? ⟨b, 0, none⟩ = some (.int .i64 p) := kept_cell hb hs0'
          replace hs1' : w5.cell? ⟨b, 1, none⟩ = some (.slice a5 os.regs.length c5) := kept_cell hb hs1'
          replace hs2' : w5.cell? ⟨b, 2, none⟩ = some (.slice a3 os.mem.vals.length c3) := kept_cell hb hs2'
          replace hs3' : w5.cell? ⟨b, 3, none⟩ = some (.slice a4 os.mem.arrs.length c4) := kept_cell hb hs3'
          replace e0 : w5.cell? ⟨b0, off + k * 5, none⟩ = some (.int .i64 x.op) := kept_cell hb e0
          replace e1 : w5.cell? ⟨b0, off + k * 5 + 1, none⟩ = some (.int .i64 x.a) := kept_cell hb e1
          replace e2 : w5.cell? ⟨b0, off + k * 5 + 2, none⟩ = some (.int .i64 x.b) := kept_cell hb e2
          replace e3 : w5.cell? ⟨b0, off + k * 5 + 3, none⟩ = some (.int .i64 x.c) := kept_cell hb e3
          replace e4 : w5.cell? ⟨b0, off + k * 5 + 4, none⟩ = some (.int .i64 x.d) := kept_cell hb e4
          replace hCh := hCh.trans (Chg.of_below hb)
          replace oA1 := own_below oA1 hb
          replace bx12 : w5.cell? ⟨w2.heap.size, 0, none⟩ = some (.int .i64 x.op) := kept_cell hb bx12
          replace bx14 : w5.cell? ⟨w2.heap.size, 1, none⟩ = some (.int .i64 x.a) := kept_cell hb bx14
          replace bx16 : w5.cell? ⟨w2.heap.size, 2, none⟩ = some (.int .i64 x.b) := kept_cell hb bx16
          replace bx18 : w5.cell? ⟨w2.heap.size, 3, none⟩ = some (.int .i64 x.c) := kept_cell hb bx18
          replace bx20 : w5.cell? ⟨w2.heap.size, 4, none⟩ = some (.int .i64 x.d) := kept_cell hb bx20
          replace hwn2 : w5.cell? ⟨bw, ow + n, none⟩ = some (.bool true) := kept_cell hb hwn2
          replace bx157 : w5.cell? ⟨w3.heap.size, 0, none⟩ = some (.int .i64 ((k : Int) + 1)) := kept_cell hb bx157
          replace bx159 : w5.cell? ⟨w3.heap.size, 1, none⟩ = some (.slice a5 os.regs.length c5) := kept_cell hb bx159
          replace bx161 : w5.cell? ⟨w3.heap.size, 2, none⟩ = some (.slice a3 os.mem.vals.length c3) := kept_cell hb bx161
          replace bx163 : w5.cell? ⟨w3.heap.size, 3, none⟩ = some (.slice a4 os.mem.arrs.length c4) := kept_cell hb bx163
          replace tot := btr tot hb
          clear hb
          clear lt165 lt166 lt167 lt168 lt169 lt170 lt171 lt172 lt173
          have lt175 := lt_of_cell hBo
          have lt176 := lt_of_cell hX0
          have lt177 := lt_of_cell hBc
          have lt178 := lt_of_cell hWb
          have lt179 := lt_of_cell hs0'
          have lt180 := lt_of_cell e0
          have lt181 := lt_of_cell bx12
          have lt182 := lt_of_cell hwn2
          have lt183 := lt_of_cell bx157
          refine take_d (i := 1) (d := 45) (v := ?_) rfl rfl (by kernel_rfl) (by kernel_rfl) (by kernel_rfl) (fun _ _ _ h => h) (Or.inl ⟨by rfl, ?_⟩) (by assumption) ?_
          rotate_left
          · intro W' hSw; (try dsimp only at hSw); obtain ⟨s0, s1, s2, s3, s4, s5, s6⟩ := hSw; go_simp; try with_reducible rfl
          try simp only [Act.put, List.setIfInBounds_toArray, List.set]
          refine take_d (i := 2) (d := 46) (v := ?_) rfl rfl (by kernel_rfl) (by kernel_rfl) (by kernel_rfl) (fun _ _ _ h => h) (Or.inl ⟨by rfl, ?_⟩) (by assumption) ?_
          rotate_left
          · intro W' hSw; (try dsimp only at hSw); obtain ⟨s0, s1, s2, s3, s4, s5, s6⟩ := hSw; go_simp; try with_reducible rfl
          try simp only [Act.put, List.setIfInBounds_toArray, List.set]
          refine wpAnyH_ready (rs := [0, 3]) (by kernel_rfl) (by simp) ?_
          refine AllReadyH.cons rfl (fun K hK => ?_) ?_
          · -- 0
            go_simp
            clear lt175 lt176 lt177 lt178 lt179 lt180 lt181 lt182 lt183
            have lt184 := lt_of_cell hBo
            have lt185 := lt_of_cell hX0
            have lt186 := lt_of_cell hBc
            have lt187 := lt_of_cell hWb
            have lt188 := lt_of_cell hs0'
            have lt189 := lt_of_cell e0
            have lt190 := lt_of_cell bx12
            have lt191 := lt_of_cell hwn2
            have lt192 := lt_of_cell bx157
            refine hK.out _ _ ⟨hX0, hX1, hX2, bx157, bx159, bx161, bx163⟩ (fun hHeld => ?_)
            clear hK K
            try simp only [Act.put, List.setIfInBounds_toArray, List.set]
            refine wpAnyH_ready (rs := [3]) (by kernel_rfl) (by simp) ?_
            refine AllReadyH.cons rfl (fun K hK => ?_) AllReadyH.nil
            go_simp
            refine (HIP.out _ tot).mono ?_
            rintro e w6 ⟨u2, rfl, oP, hb⟩
            obtain ⟨pP, tP, rfl⟩ := own_shape oP
            have hsz193 := hb.size
            replace hBf := kept_froz hb (lt_of_cell hBo) hBf
            replace hCf := kept_froz hb (lt_of_cell hBc) hCf
            replace bf13 := kept_froz hb (lt_of_cell bx12) bf13
            replace bf15 := kept_froz hb (lt_of_cell bx14) bf15
            replace bf17 := kept_froz hb (lt_of_cell bx16) bf17
            replace bf19 := kept_froz hb (lt_of_cell bx18) bf19
            replace bf21 := kept_froz hb (lt_of_cell bx20) bf21
            replace bf158 := kept_froz hb (lt_of_cell bx157) bf158
            replace bf160 := kept_froz hb (lt_of_cell bx159) bf160
            replace bf162 := kept_froz hb (lt_of_cell bx161) bf162
            replace bf164 := kept_froz hb (lt_of_cell bx163) bf164
            replace hBo : w6.cell? ⟨Bo, 0, none⟩ = some (.slice pA1 (E.length + U.length) tA1) := kept_cell hb hBo
            replace hX0 : w6.cell? ⟨X, 0, none⟩ = some (.slice a0 c.vars.length c0) := kept_cell hb hX0
            replace hX1 : w6.cell? ⟨X, 1, none⟩ = some (.slice a1 c.arrays.length c1) := kept_cell hb hX1
            replace hX2 : w6.cell? ⟨X, 2, none⟩ = some (.slice (some ⟨b0, off, none⟩) c.list.length c2) := kept_cell hb hX2
            replace hBc : w6.cell? ⟨Bc, 0, none⟩ = some (.int .i64 n) := kept_cell hb hBc
            replace hWb : w6.cell? ⟨Wb, 0, none⟩ = some (.slice (some ⟨bw, ow, none⟩) ws.length cw) := kept_cell hb hWb
            replace hs0' : w6.cell? ⟨b, 0, none⟩ = some (.int .i64 p) := kept_cell hb hs0'
            replace hs1' : w6.cell? ⟨b, 1, none⟩ = some (.slice a5 os.regs.length c5) := kept_cell hb hs1'
            replace hs2' : w6.cell? ⟨b, 2, none⟩ = some (.slice a3 os.mem.vals.length c3) := kept_cell hb hs2'
            replace hs3' : w6.cell? ⟨b, 3, none⟩ = some (.slice a4 os.mem.arrs.length c4) := kept_cell hb hs3'
            replace e0 : w6.cell? ⟨b0, off + k * 5, none⟩ = some (.int .i64 x.op) := kept_cell hb e0
            replace e1 : w6.cell? ⟨b0, off + k * 5 + 1, none⟩ = some (.int .i64 x.a) := kept_cell hb e1
            replace e2 : w6.cell? ⟨b0, off + k * 5 + 2, none⟩ = some (.int .i64 x.b) := kept_cell hb e2
            replace e3 : w6.cell? ⟨b0, off + k * 5 + 3, none⟩ = some (.int .i64 x.c) := kept_cell hb e3
            replace e4 : w6.cell? ⟨b0, off + k * 5 + 4, none⟩ = some (.int .i64 x.d) := kept_cell hb e4
            replace hCh := hCh.trans (Chg.of_below hb)
            replace oA1 := own_below oA1 hb
            replace bx12 : w6.cell? ⟨w2.heap.size, 0, none⟩ = some (.int .i64 x.op) := kept_cell hb bx12
            replace bx14 : w6.cell? ⟨w2.heap.size, 1, none⟩ = some (.int .i64 x.a) := kept_cell hb bx14
            replace bx16 : w6.cell? ⟨w2.heap.size, 2, none⟩ = some (.int .i64 x.b) := kept_cell hb bx16
            replace bx18 : w6.cell? ⟨w2.heap.size, 3, none⟩ = some (.int .i64 x.c) := kept_cell hb bx18
            replace bx20 : w6.cell? ⟨w2.heap.size, 4, none⟩ = some (.int .i64 x.d) := kept_cell hb bx20
            replace hwn2 : w6.cell? ⟨bw, ow + n, none⟩ = some (.bool true) := kept_cell hb hwn2
            replace bx157 : w6.cell? ⟨w3.heap.size, 0, none⟩ = some (.int .i64 ((k : Int) + 1)) := kept_cell hb bx157
            replace bx159 : w6.cell? ⟨w3.heap.size, 1, none⟩ = some (.slice a5 os.regs.length c5) := kept_cell hb bx159
            replace bx161 : w6.cell? ⟨w3.heap.size, 2, none⟩ = some (.slice a3 os.mem.vals.length c3) := kept_cell hb bx161
            replace bx163 : w6.cell? ⟨w3.heap.size, 3, none⟩ = some (.slice a4 os.mem.arrs.length c4) := kept_cell hb bx163
            replace tot := btr tot hb
            clear hb
            have iv194 := oP.lt
            clear lt184 lt185 lt186 lt187 lt188 lt189 lt190 lt191 lt192
            have lt195 := lt_of_cell hBo
            have lt196 := lt_of_cell hX0
            have lt197 := lt_of_cell hBc
            have lt198 := lt_of_cell hWb
            have lt199 := lt_of_cell hs0'
            have lt200 := lt_of_cell e0
            have lt201 := lt_of_cell bx12
            have lt202 := lt_of_cell hwn2
            have lt203 := lt_of_cell bx157
            refine hK.out _ _ ⟨hX0, hX1, hX2, bx157, bx159, bx161, bx163⟩ (fun hHeld => ?_)
            clear hK K
            try simp only [Act.put, List.setIfInBounds_toArray, List.set]
            refine wpAnyH_ready (rs := [4]) (by kernel_rfl) (by simp) ?_
            refine AllReadyH.cons rfl (fun K hK => ?_) AllReadyH.nil
            refine step_aps tEvs rfl _ _ rfl (tb) _ (E.length + U.length) (evs E ++ evs U) rfl oA1 _ ((pathE c os).length) (evs (pathE c os)) rfl ((reads_of_owns oP (by have := HPL.out; omega))) (one_evs (pathE c os)) (by omega) (by omega) ?_
            intro vA w7 oA204 hc hNw _
            obtain ⟨pA204, tA204, rfl⟩ := own_shape oA204
            replace hCh := chg_then hCh hc (fun q _ h => Or.inr (Or.inr (ivA q h).1))
            have hsz205 := hc.size
            replace hBf := chg_froz hc (lt_of_cell hBo) hBf (fun h => by have := ivA _ h; omega)
            replace hCf := chg_froz hc (lt_of_cell hBc) hCf (fun h => by have := ivA _ h; omega)
            replace bf13 := chg_froz hc (lt_of_cell bx12) bf13 (fun h => by have := ivA _ h; omega)
            replace bf15 := chg_froz hc (lt_of_cell bx14) bf15 (fun h => by have := ivA _ h; omega)
            replace bf17 := chg_froz hc (lt_of_cell bx16) bf17 (fun h => by have := ivA _ h; omega)
            replace bf19 := chg_froz hc (lt_of_cell bx18) bf19 (fun h => by have := ivA _ h; omega)
            replace bf21 := chg_froz hc (lt_of_cell bx20) bf21 (fun h => by have := ivA _ h; omega)
            replace bf158 := chg_froz hc (lt_of_cell bx157) bf158 (fun h => by have := ivA _ h; omega)
            replace bf160 := chg_froz hc (lt_of_cell bx159) bf160 (fun h => by have := ivA _ h; omega)
            replace bf162 := chg_froz hc (lt_of_cell bx161) bf162 (fun h => by have := ivA _ h; omega)
            replace bf164 := chg_froz hc (lt_of_cell bx163) bf164 (fun h => by have := ivA _ h; omega)
            replace hBo : w7.cell? ⟨Bo, 0, none⟩ = some (.slice pA1 (E.length + U.length) tA1) := chg_cell hc hBo (fun h => by have := ivA _ h; omega)
            replace hX0 : w7.cell? ⟨X, 0, none⟩ = some (.slice a0 c.vars.length c0) := chg_cell hc hX0 (fun h => by have := ivA _ h; omega)
            replace hX1 : w7.cell? ⟨X, 1, none⟩ = some (.slice a1 c.arrays.length c1) := chg_cell hc hX1 (fun h => by have := ivA _ h; omega)
            replace hX2 : w7.cell? ⟨X, 2, none⟩ = some (.slice (some ⟨b0, off, none⟩) c.list.length c2) := chg_cell hc hX2 (fun h => by have := ivA _ h; omega)
            replace hBc : w7.cell? ⟨Bc, 0, none⟩ = some (.int .i64 n) := chg_cell hc hBc (fun h => by have := ivA _ h; omega)
            replace hWb : w7.cell? ⟨Wb, 0, none⟩ = some (.slice (some ⟨bw, ow, none⟩) ws.length cw) := chg_cell hc hWb (fun h => by have := ivA _ h; omega)
            replace hs0' : w7.cell? ⟨b, 0, none⟩ = some (.int .i64 p) := chg_cell hc hs0' (fun h => by have := ivA _ h; omega)
            replace hs1' : w7.cell? ⟨b, 1, none⟩ = some (.slice a5 os.regs.length c5) := chg_cell hc hs1' (fun h => by have := ivA _ h; omega)
            replace hs2' : w7.cell? ⟨b, 2, none⟩ = some (.slice a3 os.mem.vals.length c3) := chg_cell hc hs2' (fun h => by have := ivA _ h; omega)
            replace hs3' : w7.cell? ⟨b, 3, none⟩ = some (.slice a4 os.mem.arrs.length c4) := chg_cell hc hs3' (fun h => by have := ivA _ h; omega)
            replace e0 : w7.cell? ⟨b0, off + k * 5, none⟩ = some (.int .i64 x.op) := chg_cell hc e0 (fun h => by have := ivA _ h; omega)
            replace e1 : w7.cell? ⟨b0, off + k * 5 + 1, none⟩ = some (.int .i64 x.a) := chg_cell hc e1 (fun h => by have := ivA _ h; omega)
            replace e2 : w7.cell? ⟨b0, off + k * 5 + 2, none⟩ = some (.int .i64 x.b) := chg_cell hc e2 (fun h => by have := ivA _ h; omega)
            replace e3 : w7.cell? ⟨b0, off + k * 5 + 3, none⟩ = some (.int .i64 x.c) := chg_cell hc e3 (fun h => by have := ivA _ h; omega)
            replace e4 : w7.cell? ⟨b0, off + k * 5 + 4, none⟩ = some (.int .i64 x.d) := chg_cell hc e4 (fun h => by have := ivA _ h; omega)
            replace bx12 : w7.cell? ⟨w2.heap.size, 0, none⟩ = some (.int .i64 x.op) := chg_cell hc bx12 (fun h => by have := ivA _ h; omega)
            replace bx14 : w7.cell? ⟨w2.heap.size, 1, none⟩ = some (.int .i64 x.a) := chg_cell hc bx14 (fun h => by have := ivA _ h; omega)
            replace bx16 : w7.cell? ⟨w2.heap.size, 2, none⟩ = some (.int .i64 x.b) := chg_cell hc bx16 (fun h => by have := ivA _ h; omega)
            replace bx18 : w7.cell? ⟨w2.heap.size, 3, none⟩ = some (.int .i64 x.c) := chg_cell hc bx18 (fun h => by have := ivA _ h; omega)
            replace bx20 : w7.cell? ⟨w2.heap.size, 4, none⟩ = some (.int .i64 x.d) := chg_cell hc bx20 (fun h => by have := ivA _ h; omega)
            replace hwn2 : w7.cell? ⟨bw, ow + n, none⟩ = some (.bool true) := chg_cell hc hwn2 (fun h => by have := ivA _ h; omega)
            replace bx157 : w7.cell? ⟨w3.heap.size, 0, none⟩ = some (.int .i64 ((k : Int) + 1)) := chg_cell hc bx157 (fun h => by have := ivA _ h; omega)
            replace bx159 : w7.cell? ⟨w3.heap.size, 1, none⟩ = some (.slice a5 os.regs.length c5) := chg_cell hc bx159 (fun h => by have := ivA _ h; omega)
            replace bx161 : w7.cell? ⟨w3.heap.size, 2, none⟩ = some (.slice a3 os.mem.vals.length c3) := chg_cell hc bx161 (fun h => by have := ivA _ h; omega)
            replace bx163 : w7.cell? ⟨w3.heap.size, 3, none⟩ = some (.slice a4 os.mem.arrs.length c4) := chg_cell hc bx163 (fun h => by have := ivA _ h; omega)
            replace oP := own_keep oP hc (fun gq h h2 => by have := iv194 gq h; have := ivA gq h2; omega)
            clear hc
            have iv206 := oA204.lt
            clear hNw oA1
            clear lt195 lt196 lt197 lt198 lt199 lt200 lt201 lt202 lt203
            have lt207 := lt_of_cell hBo
            have lt208 := lt_of_cell hX0
            have lt209 := lt_of_cell hBc
            have lt210 := lt_of_cell hWb
            have lt211 := lt_of_cell hs0'
            have lt212 := lt_of_cell e0
            have lt213 := lt_of_cell bx12
            have lt214 := lt_of_cell hwn2
            have lt215 := lt_of_cell bx157
            refine hK.out _ _ ⟨hX0, hX1, hX2, bx157, bx159, bx161, bx163⟩ (fun hHeld => ?_)
            clear hK K
            try simp only [Act.put, List.setIfInBounds_toArray, List.set]
            refine wpAnyH_ready (rs := [5]) (by kernel_rfl) (by simp) ?_
            refine AllReadyH.cons rfl (fun K hK => ?_) AllReadyH.nil
            go_simp
            obtain ⟨w8, hnw⟩ : ∃ X, X = (World.setCell w7 ⟨Bo, 0, none⟩ (.slice pA204 (E.length + U.length + (pathE c os).length) tA204)) := ⟨_, rfl⟩
            have hb : Below (World.setCell w7 ⟨Bo, 0, none⟩ (.slice pA204 (E.length + U.length + (pathE c os).length) tA204)).heap.size (World.setCell w7 ⟨Bo, 0, none⟩ (.slice pA204 (E.length + U.length + (pathE c os).length) tA204)) w8 := by rw [hnw]; exact bself _
            have hsz216 := hb.size
            simp only [World.size_setCell] at hsz216
            replace hBf := kept_froz hb (lt_of_cell (cell_at _ (Bo) 0 (.slice pA204 (E.length + U.length + (pathE c os).length) tA204) hBo)) (froz_st (b := ⟨(Bo), 0, none⟩) hBf (.slice pA204 (E.length + U.length + (pathE c os).length) tA204))
            replace hCf := kept_froz hb (lt_of_cell (cell_ne (b := (Bo)) (j := 0) hBc (by omega) (.slice pA204 (E.length + U.length + (pathE c os).length) tA204))) (froz_st (b := ⟨(Bo), 0, none⟩) hCf (.slice pA204 (E.length + U.length + (pathE c os).length) tA204))
            replace bf13 := kept_froz hb (lt_of_cell (cell_ne (b := (Bo)) (j := 0) bx12 (by omega) (.slice pA204 (E.length + U.length + (pathE c os).length) tA204))) (froz_st (b := ⟨(Bo), 0, none⟩) bf13 (.slice pA204 (E.length + U.length + (pathE c os).length) tA204))
            replace bf15 := kept_froz hb (lt_of_cell (cell_ne (b := (Bo)) (j := 0) bx14 (by omega) (.slice pA204 (E.length + U.length + (pathE c os).length) tA204))) (froz_st (b := ⟨(Bo), 0, none⟩) bf15 (.slice pA204 (E.length + U.length + (pathE c os).length) tA204))
            replace bf17 := kept_froz hb (lt_of_cell (cell_ne (b := (Bo)) (j := 0) bx16 (by omega) (.slice pA204 (E.length + U.length + (pathE c os).length) tA204))) (froz_st (b := ⟨(Bo), 0, none⟩) bf17 (.slice pA204 (E.length + U.length + (pathE c os).length) tA204))
            replace bf19 := kept_froz hb (lt_of_cell (cell_ne (b := (Bo)) (j := 0) bx18 (by omega) (.slice pA204 (E.length + U.length + (pathE c os).length) tA204))) (froz_st (b := ⟨(Bo), 0, none⟩) bf19 (.slice pA204 (E.length + U.length + (pathE c os).length) tA204))
            replace bf21 := kept_froz hb (lt_of_cell (cell_ne (b := (Bo)) (j := 0) bx20 (by omega) (.slice pA204 (E.length + U.length + (pathE c os).length) tA204))) (froz_st (b := ⟨(Bo), 0, none⟩) bf21 (.slice pA204 (E.length + U.length + (pathE c os).length) tA204))
            replace bf158 := kept_froz hb (lt_of_cell (cell_ne (b := (Bo)) (j := 0) bx157 (by omega) (.slice pA204 (E.length + U.length + (pathE c os).length) tA204))) (froz_st (b := ⟨(Bo), 0, none⟩) bf158 (.slice pA204 (E.length + U.length + (pathE c os).length) tA204))
            replace bf160 := kept_froz hb (lt_of_cell (cell_ne (b := (Bo)) (j := 0) bx159 (by omega) (.slice pA204 (E.length + U.length + (pathE c os).length) tA204))) (froz_st (b := ⟨(Bo), 0, none⟩) bf160 (.slice pA204 (E.length + U.length + (pathE c os).length) tA204))
            replace bf162 := kept_froz hb (lt_of_cell (cell_ne (b := (Bo)) (j := 0) bx161 (by omega) (.slice pA204 (E.length + U.length + (pathE c os).length) tA204))) (froz_st (b := ⟨(Bo), 0, none⟩) bf162 (.slice pA204 (E.length + U.length + (pathE c os).length) tA204))
            replace bf164 := kept_froz hb (lt_of_cell (cell_ne (b := (Bo)) (j := 0) bx163 (by omega) (.slice pA204 (E.length + U.length + (pathE c os).length) tA204))) (froz_st (b := ⟨(Bo), 0, none⟩) bf164 (.slice pA204 (E.length + U.length + (pathE c os).length) tA204))
            replace hBo : w8.cell? ⟨Bo, 0, none⟩ = some (.slice pA204 (E.length + U.length + (pathE c os).length) tA204) := kept_cell hb (cell_at _ (Bo) 0 (.slice pA204 (E.length + U.length + (pathE c os).length) tA204) hBo)
            replace hX0 : w8.cell? ⟨X, 0, none⟩ = some (.slice a0 c.vars.length c0) := kept_cell hb (cell_ne (b := (Bo)) (j := 0) hX0 (by omega) (.slice pA204 (E.length + U.length + (pathE c os).length) tA204))
            replace hX1 : w8.cell? ⟨X, 1, none⟩ = some (.slice a1 c.arrays.length c1) := kept_cell hb (cell_ne (b := (Bo)) (j := 0) hX1 (by omega) (.slice pA204 (E.length + U.length + (pathE c os).length) tA204))
            replace hX2 : w8.cell? ⟨X, 2, none⟩ = some (.slice (some ⟨b0, off, none⟩) c.list.length c2) := kept_cell hb (cell_ne (b := (Bo)) (j := 0) hX2 (by omega) (.slice pA204 (E.length + U.length + (pathE c os).length) tA204))
            replace hBc : w8.cell? ⟨Bc, 0, none⟩ = some (.int .i64 n) := kept_cell hb (cell_ne (b := (Bo)) (j := 0) hBc (by omega) (.slice pA204 (E.length + U.length + (pathE c os).length) tA204))
            replace hWb : w8.cell? ⟨Wb, 0, none⟩ = some (.slice (some ⟨bw, ow, none⟩) ws.length cw) := kept_cell hb (cell_ne (b := (Bo)) (j := 0) hWb (by omega) (.slice pA204 (E.length + U.length + (pathE c os).length) tA204))
            replace hs0' : w8.cell? ⟨b, 0, none⟩ = some (.int .i64 p) := kept_cell hb (cell_ne (b := (Bo)) (j := 0) hs0' (by omega) (.slice pA204 (E.length + U.length + (pathE c os).length) tA204))
            replace hs1' : w8.cell? ⟨b, 1, none⟩ = some (.slice a5 os.regs.length c5) := kept_cell hb (cell_ne (b := (Bo)) (j := 0) hs1' (by omega) (.slice pA204 (E.length + U.length + (pathE c os).length) tA204))
            replace hs2' : w8.cell? ⟨b, 2, none⟩ = some (.slice a3 os.mem.vals.length c3) := kept_cell hb (cell_ne (b := (Bo)) (j := 0) hs2' (by omega) (.slice pA204 (E.length + U.length + (pathE c os).length) tA204))
            replace hs3' : w8.cell? ⟨b, 3, none⟩ = some (.slice a4 os.mem.arrs.length c4) := kept_cell hb (cell_ne (b := (Bo)) (j := 0) hs3' (by omega) (.slice pA204 (E.length + U.length + (pathE c os).length) tA204))
            replace e0 : w8.cell? ⟨b0, off + k * 5, none⟩ = some (.int .i64 x.op) := kept_cell hb (cell_ne (b := (Bo)) (j := 0) e0 (by omega) (.slice pA204 (E.length + U.length + (pathE c os).length) tA204))
            replace e1 : w8.cell? ⟨b0, off + k * 5 + 1, none⟩ = some (.int .i64 x.a) := kept_cell hb (cell_ne (b := (Bo)) (j := 0) e1 (by omega) (.slice pA204 (E.length + U.length + (pathE c os).length) tA204))
            replace e2 : w8.cell? ⟨b0, off + k * 5 + 2, none⟩ = some (.int .i64 x.b) := kept_cell hb (cell_ne (b := (Bo)) (j := 0) e2 (by omega) (.slice pA204 (E.length + U.length + (pathE c os).length) tA204))
            replace e3 : w8.cell? ⟨b0, off + k * 5 + 3, none⟩ = some (.int .i64 x.c) := kept_cell hb (cell_ne (b := (Bo)) (j := 0) e3 (by omega) (.slice pA204 (E.length + U.length + (pathE c os).length) tA204))
            replace e4 : w8.cell? ⟨b0, off + k * 5 + 4, none⟩ = some (.int .i64 x.d) := kept_cell hb (cell_ne (b := (Bo)) (j := 0) e4 (by omega) (.slice pA204 (E.length + U.length + (pathE c os).length) tA204))
            replace hCh := (hCh.setCell (Bo) 0 (.slice pA204 (E.length + U.length + (pathE c os).length) tA204) (fun _ => (by first | exact Or.inl rfl | exact Or.inr (Or.inl rfl) | (refine Or.inr (Or.inr ?_); omega)))).trans (Chg.of_below hb)
            replace bx12 : w8.cell? ⟨w2.heap.size, 0, none⟩ = some (.int .i64 x.op) := kept_cell hb (cell_ne (b := (Bo)) (j := 0) bx12 (by omega) (.slice pA204 (E.length + U.length + (pathE c os).length) tA204))
            replace bx14 : w8.cell? ⟨w2.heap.size, 1, none⟩ = some (.int .i64 x.a) := kept_cell hb (cell_ne (b := (Bo)) (j := 0) bx14 (by omega) (.slice pA204 (E.length + U.length + (pathE c os).length) tA204))
            replace bx16 : w8.cell? ⟨w2.heap.size, 2, none⟩ = some (.int .i64 x.b) := kept_cell hb (cell_ne (b := (Bo)) (j := 0) bx16 (by omega) (.slice pA204 (E.length + U.length + (pathE c os).length) tA204))
            replace bx18 : w8.cell? ⟨w2.heap.size, 3, none⟩ = some (.int .i64 x.c) := kept_cell hb (cell_ne (b := (Bo)) (j := 0) bx18 (by omega) (.slice pA204 (E.length + U.length + (pathE c os).length) tA204))
            replace bx20 : w8.cell? ⟨w2.heap.size, 4, none⟩ = some (.int .i64 x.d) := kept_cell hb (cell_ne (b := (Bo)) (j := 0) bx20 (by omega) (.slice pA204 (E.length + U.length + (pathE c os).length) tA204))
            replace hwn2 : w8.cell? ⟨bw, ow + n, none⟩ = some (.bool true) := kept_cell hb (cell_ne (b := (Bo)) (j := 0) hwn2 (by omega) (.slice pA204 (E.length + U.length + (pathE c os).length) tA204))
            replace bx157 : w8.cell? ⟨w3.heap.size, 0, none⟩ = some (.int .i64 ((k : Int) + 1)) := kept_cell hb (cell_ne (b := (Bo)) (j := 0) bx157 (by omega) (.slice pA204 (E.length + U.length + (pathE c os).length) tA204))
            replace bx159 : w8.cell? ⟨w3.heap.size, 1, none⟩ = some (.slice a5 os.regs.length c5) := kept_cell hb (cell_ne (b := (Bo)) (j := 0) bx159 (by omega) (.slice pA204 (E.length + U.length + (pathE c os).length) tA204))
            replace bx161 : w8.cell? ⟨w3.heap.size, 2, none⟩ = some (.slice a3 os.mem.vals.length c3) := kept_cell hb (cell_ne (b := (Bo)) (j := 0) bx161 (by omega) (.slice pA204 (E.length + U.length + (pathE c os).length) tA204))
            replace bx163 : w8.cell? ⟨w3.heap.size, 3, none⟩ = some (.slice a4 os.mem.arrs.length c4) := kept_cell hb (cell_ne (b := (Bo)) (j := 0) bx163 (by omega) (.slice pA204 (E.length + U.length + (pathE c os).length) tA204))
            replace oP := own_below (own_set oP (Bo) 0 (fun h => by have := iv194 _ h; omega) (.slice pA204 (E.length + U.length + (pathE c os).length) tA204)) hb
            replace oA204 := own_below (own_set oA204 (Bo) 0 (fun h => by have := iv206 _ h; omega) (.slice pA204 (E.length + U.length + (pathE c os).length) tA204)) hb
            clear hb
            rw [← hnw]
            clear hnw
            clear lt207 lt208 lt209 lt210 lt211 lt212 lt213 lt214 lt215
            have lt217 := lt_of_cell hBo
            have lt218 := lt_of_cell hX0
            have lt219 := lt_of_cell hBc
            have lt220 := lt_of_cell hWb
            have lt221 := lt_of_cell hs0'
            have lt222 := lt_of_cell e0
            have lt223 := lt_of_cell bx12
            have lt224 := lt_of_cell hwn2
            have lt225 := lt_of_cell bx157
            refine hK.out _ _ ⟨hX0, hX1, hX2, bx157, bx159, bx161, bx163⟩ (fun hHeld => ?_)
            clear hK K
            try simp only [Act.put, List.setIfInBounds_toArray, List.set]
            refine wpAnyH_done (by kernel_rfl) ?_ _
            refine NoPanic.normal ?_
            clear hHeld
            have f1 := (cell_ne (b := (Bc)) (j := 0) hBo (by omega) (.int .i64 ((n : Int) + 1)))
            have f2 := (froz_st (b := ⟨(Bc), 0, none⟩) hBf (.int .i64 ((n : Int) + 1)))
            have f3 := (own_set oA204 (Bc) 0 (fun h => by have := iv206 _ h; omega) (.int .i64 ((n : Int) + 1)))
            have f4 := (cell_at _ (Bc) 0 (.int .i64 ((n : Int) + 1)) hBc)
            have f5 := (froz_st (b := ⟨(Bc), 0, none⟩) hCf (.int .i64 ((n : Int) + 1)))
            have f6 := (hCh.setCell (Bc) 0 (.int .i64 ((n : Int) + 1)) (fun _ => (by first | exact Or.inl rfl | exact Or.inr (Or.inl rfl) | (refine Or.inr (Or.inr ?_); omega))))
            have HF := Lib.hid (And.intro f1 (And.intro f2 (And.intro f3 (And.intro f4 (And.intro f5 f6)))))
            clear f1 f2 f3 f4 f5 f6 hCh oP oA204
            go_wp2
            go_end0
            exact ⟨rfl, _, HF.out.1, HF.out.2.1, by rw [HXE.out]; have h := HF.out.2.2.1; rw [List.length_append, List.length_append, evs_append, evs_append]; exact h, by rw [HBI.out]; exact HF.out.2.2.2.1, HF.out.2.2.2.2.1, HF.out.2.2.2.2.2⟩
          refine AllReadyH.cons rfl (fun K hK => ?_) AllReadyH.nil
          go_simp
          refine (HIP.out _ tot).mono ?_
          rintro e w6 ⟨u2, rfl, oP, hb⟩
          obtain ⟨pP, tP, rfl⟩ := own_shape oP
          have hsz226 := hb.size
          replace hBf := kept_froz hb (lt_of_cell hBo) hBf
          replace hCf := kept_froz hb (lt_of_cell hBc) hCf
          replace bf13 := kept_froz hb (lt_of_cell bx12) bf13
          replace bf15 := kept_froz hb (lt_of_cell bx14) bf15
          replace bf17 := kept_froz hb (lt_of_cell bx16) bf17
          replace bf19 := kept_froz hb (lt_of_cell bx18) bf19
          replace bf21 := kept_froz hb (lt_of_cell bx20) bf21
          replace bf158 := kept_froz hb (lt_of_cell bx157) bf158
          replace bf160 := kept_froz hb (lt_of_cell bx159) bf160
          replace bf162 := kept_froz hb (lt_of_cell bx161) bf162
          replace bf164 := kept_froz hb (lt_of_cell bx163) bf164
          replace hBo : w6.cell? ⟨Bo, 0, none⟩ = some (.slice pA1 (E.length + U.length) tA1) := kept_cell hb hBo
          replace hX0 : w6.cell? ⟨X, 0, none⟩ = some (.slice a0 c.vars.length c0) := kept_cell hb hX0
          replace hX1 : w6.cell? ⟨X, 1, none⟩ = some (.slice a1 c.arrays.length c1) := kept_cell hb hX1
          replace hX2 : w6.cell? ⟨X, 2, none⟩ = some (.slice (some ⟨b0, off, none⟩) c.list.length c2) := kept_cell hb hX2
          replace hBc : w6.cell? ⟨Bc, 0, none⟩ = some (.int .i64 n) := kept_cell hb hBc
          replace hWb : w6.cell? ⟨Wb, 0, none⟩ = some (.slice (some ⟨bw, ow, none⟩) ws.length cw) := kept_cell hb hWb
          replace hs0' : w6.cell? ⟨b, 0, none⟩ = some (.int .i64 p) := kept_cell hb hs0'
          replace hs1' : w6.cell? ⟨b, 1, none⟩ = some (.slice a5 os.regs.length c5) := kept_cell hb hs1'
          replace hs2' : w6.cell? ⟨b, 2, none⟩ = some (.slice a3 os.mem.vals.length c3) := kept_cell hb hs2'
          replace hs3' : w6.cell? ⟨b, 3, none⟩ = some (.slice a4 os.mem.arrs.length c4) := kept_cell hb hs3'
          replace e0 : w6.cell? ⟨b0, off + k * 5, none⟩ = some (.int .i64 x.op) := kept_cell hb e0
          replace e1 : w6.cell? ⟨b0, off + k * 5 + 1, none⟩ = some (.int .i64 x.a) := kept_cell hb e1
          replace e2 : w6.cell? ⟨b0, off + k * 5 + 2, none⟩ = some (.int .i64 x.b) := kept_cell hb e2
          replace e3 : w6.cell? ⟨b0, off + k * 5 + 3, none⟩ = some (.int .i64 x.c) := kept_cell hb e3
          replace e4 : w6.cell? ⟨b0, off + k * 5 + 4, none⟩ = some (.int .i64 x.d) := kept_cell hb e4
          replace hCh := hCh.trans (Chg.of_below hb)
          replace oA1 := own_below oA1 hb
          replace bx12 : w6.cell? ⟨w2.heap.size, 0, none⟩ = some (.int .i64 x.op) := kept_cell hb bx12
          replace bx14 : w6.cell? ⟨w2.heap.size, 1, none⟩ = some (.int .i64 x.a) := kept_cell hb bx14
          replace bx16 : w6.cell? ⟨w2.heap.size, 2, none⟩ = some (.int .i64 x.b) := kept_cell hb bx16
          replace bx18 : w6.cell? ⟨w2.heap.size, 3, none⟩ = some (.int .i64 x.c) := kept_cell hb bx18
          replace bx20 : w6.cell? ⟨w2.heap.size, 4, none⟩ = some (.int .i64 x.d) := kept_cell hb bx20
          replace hwn2 : w6.cell? ⟨bw, ow + n, none⟩ = some (.bool true) := kept_cell hb hwn2
          replace bx157 : w6.cell? ⟨w3.heap.size, 0, none⟩ = some (.int .i64 ((k : Int) + 1)) := kept_cell hb bx157
          replace bx159 : w6.cell? ⟨w3.heap.size, 1, none⟩ = some (.slice a5 os.regs.length c5) := kept_cell hb bx159
          replace bx161 : w6.cell? ⟨w3.heap.size, 2, none⟩ = some (.slice a3 os.mem.vals.length c3) := kept_cell hb bx161
          replace bx163 : w6.cell? ⟨w3.heap.size, 3, none⟩ = some (.slice a4 os.mem.arrs.length c4) := kept_cell hb bx163
          replace tot := btr tot hb
          clear hb
          have iv227 := oP.lt
          clear lt175 lt176 lt177 lt178 lt179 lt180 lt181 lt182 lt183
          have lt228 := lt_of_cell hBo
          have lt229 := lt_of_cell hX0
          have lt230 := lt_of_cell hBc
          have lt231 := lt_of_cell hWb
          have lt232 := lt_of_cell hs0'
          have lt233 := lt_of_cell e0
          have lt234 := lt_of_cell bx12
          have lt235 := lt_of_cell hwn2
          have lt236 := lt_of_cell bx157
          refine hK.out _ _ ⟨hX0, hX1, hX2, bx157, bx159, bx161, bx163⟩ (fun hHeld => ?_)
          clear hK K
          try simp only [Act.put, List.setIfInBounds_toArray, List.set]
          refine wpAnyH_ready (rs := [0]) (by kernel_rfl) (by simp) ?_
          refine AllReadyH.cons rfl (fun K hK => ?_) AllReadyH.nil
          go_simp
          clear lt228 lt229 lt230 lt231 lt232 lt233 lt234 lt235 lt236
          have lt237 := lt_of_cell hBo
          have lt238 := lt_of_cell hX0
          have lt239 := lt_of_cell hBc
          have lt240 := lt_of_cell hWb
          have lt241 := lt_of_cell hs0'
          have lt242 := lt_of_cell e0
          have lt243 := lt_of_cell bx12
          have lt244 := lt_of_cell hwn2
          have lt245 := lt_of_cell bx157
          refine hK.out _ _ ⟨hX0, hX1, hX2, bx157, bx159, bx161, bx163⟩ (fun hHeld => ?_)
          clear hK K
          try simp only [Act.put, List.setIfInBounds_toArray, List.set]
          refine wpAnyH_ready (rs := [4]) (by kernel_rfl) (by simp) ?_
          refine AllReadyH.cons rfl (fun K hK => ?_) AllReadyH.nil
          refine step_aps tEvs rfl _ _ rfl (tb) _ (E.length + U.length) (evs E ++ evs U) rfl oA1 _ ((pathE c os).length) (evs (pathE c os)) rfl ((reads_of_owns oP (by have := HPL.out; omega))) (one_evs (pathE c os)) (by omega) (by omega) ?_
          intro vA w7 oA246 hc hNw _
          obtain ⟨pA246, tA246, rfl⟩ := own_shape oA246
          replace hCh := chg_then hCh hc (fun q _ h => Or.inr (Or.inr (ivA q h).1))
          have hsz247 := hc.size
          replace hBf := chg_froz hc (lt_of_cell hBo) hBf (fun h => by have := ivA _ h; omega)
          replace hCf := chg_froz hc (lt_of_cell hBc) hCf (fun h => by have := ivA _ h; omega)
          replace bf13 := chg_froz hc (lt_of_cell bx12) bf13 (fun h => by have := ivA _ h; omega)
          replace bf15 := chg_froz hc (lt_of_cell bx14) bf15 (fun h => by have := ivA _ h; omega)
          replace bf17 := chg_froz hc (lt_of_cell bx16) bf17 (fun h => by have := ivA _ h; omega)
          replace bf19 := chg_froz hc (lt_of_cell bx18) bf19 (fun h => by have := ivA _ h; omega)
          replace bf21 := chg_froz hc (lt_of_cell bx20) bf21 (fun h => by have := ivA _ h; omega)
          replace bf158 := chg_froz hc (lt_of_cell bx157) bf158 (fun h => by have := ivA _ h; omega)
          replace bf160 := chg_froz hc (lt_of_cell bx159) bf160 (fun h => by have := ivA _ h; omega)
          replace bf162 := chg_froz hc (lt_of_cell bx161) bf162 (fun h => by have := ivA _ h; omega)
          replace bf164 := chg_froz hc (lt_of_cell bx163) bf164 (fun h => by have := ivA _ h; omega)
          replace hBo : w7.cell? ⟨Bo, 0, none⟩ = some (.slice pA1 (E.length + U.length) tA1) := chg_cell hc hBo (fun h => by have := ivA _ h; omega)
          replace hX0 : w7.cell? ⟨X, 0, none⟩ = some (.slice a0 c.vars.length c0) := chg_cell hc hX0 (fun h => by have := ivA _ h; omega)
          replace hX1 : w7.cell? ⟨X, 1, none⟩ = some (.slice a1 c.arrays.length c1) := chg_cell hc hX1 (fun h => by have := ivA _ h; omega)
          replace hX2 : w7.cell? ⟨X, 2, none⟩ = some (.slice (some ⟨b0, off, none⟩) c.list.length c2) := chg_cell hc hX2 (fun h => by have := ivA _ h; omega)
          replace hBc : w7.cell? ⟨Bc, 0, none⟩ = some (.int .i64 n) := chg_cell hc hBc (fun h => by have := ivA _ h; omega)
          replace hWb : w7.cell? ⟨Wb, 0, none⟩ = some (.slice (some ⟨bw, ow, none⟩) ws.length cw) := chg_cell hc hWb (fun h => by have := ivA _ h; omega)
          replace hs0' : w7.cell? ⟨b, 0, none⟩ = some (.int .i64 p) := chg_cell hc hs0' (fun h => by have := ivA _ h; omega)
          replace hs1' : w7.cell? ⟨b, 1, none⟩ = some (.slice a5 os.regs.length c5) := chg_cell hc hs1' (fun h => by have := ivA _ h; omega)
          replace hs2' : w7.cell? ⟨b, 2, none⟩ = some (.slice a3 os.mem.vals.length c3) := chg_cell hc hs2' (fun h => by have := ivA _ h; omega)
          replace hs3' : w7.cell? ⟨b, 3, none⟩ = some (.slice a4 os.mem.arrs.length c4) := chg_cell hc hs3' (fun h => by have := ivA _ h; omega)
          replace e0 : w7.cell? ⟨b0, off + k * 5, none⟩ = some (.int .i64 x.op) := chg_cell hc e0 (fun h => by have := ivA _ h; omega)
          replace e1 : w7.cell? ⟨b0, off + k * 5 + 1, none⟩ = some (.int .i64 x.a) := chg_cell hc e1 (fun h => by have := ivA _ h; omega)
          replace e2 : w7.cell? ⟨b0, off + k * 5 + 2, none⟩ = some (.int .i64 x.b) := chg_cell hc e2 (fun h => by have := ivA _ h; omega)
          replace e3 : w7.cell? ⟨b0, off + k * 5 + 3, none⟩ = some (.int .i64 x.c) := chg_cell hc e3 (fun h => by have := ivA _ h; omega)
          replace e4 : w7.cell? ⟨b0, off + k * 5 + 4, none⟩ = some (.int .i64 x.d) := chg_cell hc e4 (fun h => by have := ivA _ h; omega)
          replace bx12 : w7.cell? ⟨w2.heap.size, 0, none⟩ = some (.int .i64 x.op) := chg_cell hc bx12 (fun h => by have := ivA _ h; omega)
          replace bx14 : w7.cell? ⟨w2.heap.size, 1, none⟩ = some (.int .i64 x.a) := chg_cell hc bx14 (fun h => by have := ivA _ h; omega)
          replace bx16 : w7.cell? ⟨w2.heap.size, 2, none⟩ = some (.int .i64 x.b) := chg_cell hc bx16 (fun h => by have := ivA _ h; omega)
          replace bx18 : w7.cell? ⟨w2.heap.size, 3, none⟩ = some (.int .i64 x.c) := chg_cell hc bx18 (fun h => by have := ivA _ h; omega)
          replace bx20 : w7.cell? ⟨w2.heap.size, 4, none⟩ = some (.int .i64 x.d) := chg_cell hc bx20 (fun h => by have := ivA _ h; omega)
          replace hwn2 : w7.cell? ⟨bw, ow + n, none⟩ = some (.bool true) := chg_cell hc hwn2 (fun h => by have := ivA _ h; omega)
          replace bx157 : w7.cell? ⟨w3.heap.size, 0, none⟩ = some (.int .i64 ((k : Int) + 1)) := chg_cell hc bx157 (fun h => by have := ivA _ h; omega)
          replace bx159 : w7.cell? ⟨w3.heap.size, 1, none⟩ = some (.slice a5 os.regs.length c5) := chg_cell hc bx159 (fun h => by have := ivA _ h; omega)
          replace bx161 : w7.cell? ⟨w3.heap.size, 2, none⟩ = some (.slice a3 os.mem.vals.length c3) := chg_cell hc bx161 (fun h => by have := ivA _ h; omega)
          replace bx163 : w7.cell? ⟨w3.heap.size, 3, none⟩ = some (.slice a4 os.mem.arrs.length c4) := chg_cell hc bx163 (fun h => by have := ivA _ h; omega)
          replace oP := own_keep oP hc (fun gq h h2 => by have := iv227 gq h; have := ivA gq h2; omega)
          clear hc
          have iv248 := oA246.lt
          clear hNw oA1
          clear lt237 lt238 lt239 lt240 lt241 lt242 lt243 lt244 lt245
          have lt249 := lt_of_cell hBo
          have lt250 := lt_of_cell hX0
          have lt251 := lt_of_cell hBc
          have lt252 := lt_of_cell hWb
          have lt253 := lt_of_cell hs0'
          have lt254 := lt_of_cell e0
          have lt255 := lt_of_cell bx12
          have lt256 := lt_of_cell hwn2
          have lt257 := lt_of_cell bx157
          refine hK.out _ _ ⟨hX0, hX1, hX2, bx157, bx159, bx161, bx163⟩ (fun hHeld => ?_)
          clear hK K
          try simp only [Act.put, List.setIfInBounds_toArray, List.set]
          refine wpAnyH_ready (rs := [5]) (by kernel_rfl) (by simp) ?_
          refine AllReadyH.cons rfl (fun K hK => ?_) AllReadyH.nil
          go_simp
          obtain ⟨w8, hnw⟩ : ∃ X, X = (World.setCell w7 ⟨Bo, 0, none⟩ (.slice pA246 (E.length + U.length + (pathE c os).length) tA246)) := ⟨_, rfl⟩
          have hb : Below (World.setCell w7 ⟨Bo, 0, none⟩ (.slice pA246 (E.length + U.length + (pathE c os).length) tA246)).heap.size (World.setCell w7 ⟨Bo, 0, none⟩ (.slice pA246 (E.length + U.length + (pathE c os).length) tA246)) w8 := by rw [hnw]; exact bself _
          have hsz258 := hb.size
          simp only [World.size_setCell] at hsz258
          replace hBf := kept_froz hb (lt_of_cell (cell_at _ (Bo) 0 (.slice pA246 (E.length + U.length + (pathE c os).length) tA246) hBo)) (froz_st (b := ⟨(Bo), 0, none⟩) hBf (.slice pA246 (E.length + U.length + (pathE c os).length) tA246))
          replace hCf := kept_froz hb (lt_of_cell (cell_ne (b := (Bo)) (j := 0) hBc (by omega) (.slice pA246 (E.length + U.length + (pathE c os).length) tA246))) (froz_st (b := ⟨(Bo), 0, none⟩) hCf (.slice pA246 (E.length + U.length + (pathE c os).length) tA246))
          replace bf13 := kept_froz hb (lt_of_cell (cell_ne (b := (Bo)) (j := 0) bx12 (by omega) (.slice pA246 (E.length + U.length + (pathE c os).length) tA246))) (froz_st (b := ⟨(Bo), 0, none⟩) bf13 (.slice pA246 (E.length + U.length + (pathE c os).length) tA246))
          replace bf15 := kept_froz hb (lt_of_cell (cell_ne (b := (Bo)) (j := 0) bx14 (by omega) (.slice pA246 (E.length + U.length + (pathE c os).length) tA246))) (froz_st (b := ⟨(Bo), 0, none⟩) bf15 (.slice pA246 (E.length + U.length + (pathE c os).length) tA246))
          replace bf17 := kept_froz hb (lt_of_cell (cell_ne (b := (Bo)) (j := 0) bx16 (by omega) (.slice pA246 (E.length + U.length + (pathE c os).length) tA246))) (froz_st (b := ⟨(Bo), 0, none⟩) bf17 (.slice pA246 (E.length + U.length + (pathE c os).length) tA246))
          replace bf19 := kept_froz hb (lt_of_cell (cell_ne (b := (Bo)) (j := 0) bx18 (by omega) (.slice pA246 (E.length + U.length + (pathE c os).length) tA246))) (froz_st (b := ⟨(Bo), 0, none⟩) bf19 (.slice pA246 (E.length + U.length + (pathE c os).length) tA246))
          replace bf21 := kept_froz hb (lt_of_cell (cell_ne (b := (Bo)) (j := 0) bx20 (by omega) (.slice pA246 (E.length + U.length + (pathE c os).length) tA246))) (froz_st (b := ⟨(Bo), 0, none⟩) bf21 (.slice pA246 (E.length + U.length + (pathE c os).length) tA246))
          replace bf158 := kept_froz hb (lt_of_cell (cell_ne (b := (Bo)) (j := 0) bx157 (by omega) (.slice pA246 (E.length + U.length + (pathE c os).length) tA246))) (froz_st (b := ⟨(Bo), 0, none⟩) bf158 (.slice pA246 (E.length + U.length + (pathE c os).length) tA246))
          replace bf160 := kept_froz hb (lt_of_cell (cell_ne (b := (Bo)) (j := 0) bx159 (by omega) (.slice pA246 (E.length + U.length + (pathE c os).length) tA246))) (froz_st (b := ⟨(Bo), 0, none⟩) bf160 (.slice pA246 (E.length + U.length + (pathE c os).length) tA246))
          replace bf162 := kept_froz hb (lt_of_cell (cell_ne (b := (Bo)) (j := 0) bx161 (by omega) (.slice pA246 (E.length + U.length + (pathE c os).length) tA246))) (froz_st (b := ⟨(Bo), 0, none⟩) bf162 (.slice pA246 (E.length + U.length + (pathE c os).length) tA246))
          replace bf164 := kept_froz hb (lt_of_cell (cell_ne (b := (Bo)) (j := 0) bx163 (by omega) (.slice pA246 (E.length + U.length + (pathE c os).length) tA246))) (froz_st (b := ⟨(Bo), 0, none⟩) bf164 (.slice pA246 (E.length + U.length + (pathE c os).length) tA246))
          replace hBo : w8.cell? ⟨Bo, 0, none⟩ = some (.slice pA246 (E.length + U.length + (pathE c os).length) tA246) := kept_cell hb (cell_at _ (Bo) 0 (.slice pA246 (E.length + U.length + (pathE c os).length) tA246) hBo)
          replace hX0 : w8.cell? ⟨X, 0, none⟩ = some (.slice a0 c.vars.length c0) := kept_cell hb (cell_ne (b := (Bo)) (j := 0) hX0 (by omega) (.slice pA246 (E.length + U.length + (pathE c os).length) tA246))
          replace hX1 : w8.cell? ⟨X, 1, none⟩ = some (.slice a1 c.arrays.length c1) := kept_cell hb (cell_ne (b := (Bo)) (j := 0) hX1 (by omega) (.slice pA246 (E.length + U.length + (pathE c os).length) tA246))
          replace hX2 : w8.cell? ⟨X, 2, none⟩ = some (.slice (some ⟨b0, off, none⟩) c.list.length c2) := kept_cell hb (cell_ne (b := (Bo)) (j := 0) hX2 (by omega) (.slice pA246 (E.length + U.length + (pathE c os).length) tA246))
          replace hBc : w8.cell? ⟨Bc, 0, none⟩ = some (.int .i64 n) := kept_cell hb (cell_ne (b := (Bo)) (j := 0) hBc (by omega) (.slice pA246 (E.length + U.length + (pathE c os).length) tA246))
          replace hWb : w8.cell? ⟨Wb, 0, none⟩ = some (.slice (some ⟨bw, ow, none⟩) ws.length cw) := kept_cell hb (cell_ne (b := (Bo)) (j := 0) hWb (by omega) (.slice pA246 (E.length + U.length + (pathE c os).length) tA246))
          replace hs0' : w8.cell? ⟨b, 0, none⟩ = some (.int .i64 p) := kept_cell hb (cell_ne (b := (Bo)) (j := 0) hs0' (by omega) (.slice pA246 (E.length + U.length + (pathE c os).length) tA246))
          replace hs1' : w8.cell? ⟨b, 1, none⟩ = some (.slice a5 os.regs.length c5) := kept_cell hb (cell_ne (b := (Bo)) (j := 0) hs1' (by omega) (.slice pA246 (E.length + U.length + (pathE c os).length) tA246))
          replace hs2' : w8.cell? ⟨b, 2, none⟩ = some (.slice a3 os.mem.vals.length c3) := kept_cell hb (cell_ne (b := (Bo)) (j := 0) hs2' (by omega) (.slice pA246 (E.length + U.length + (pathE c os).length) tA246))
          replace hs3' : w8.cell? ⟨b, 3, none⟩ = some (.slice a4 os.mem.arrs.length c4) := kept_cell hb (cell_ne (b := (Bo)) (j := 0) hs3' (by omega) (.slice pA246 (E.length + U.length + (pathE c os).length) tA246))
          replace e0 : w8.cell? ⟨b0, off + k * 5, none⟩ = some (.int .i64 x.op) := kept_cell hb (cell_ne (b := (Bo)) (j := 0) e0 (by omega) (.slice pA246 (E.length + U.length + (pathE c os).length) tA246))
          replace e1 : w8.cell? ⟨b0, off + k * 5 + 1, none⟩ = some (.int .i64 x.a) := kept_cell hb (cell_ne (b := (Bo)) (j := 0) e1 (by omega) (.slice pA246 (E.length + U.length + (pathE c os).length) tA246))
          replace e2 : w8.cell? ⟨b0, off + k * 5 + 2, none⟩ = some (.int .i64 x.b) := kept_cell hb (cell_ne (b := (Bo)) (j := 0) e2 (by omega) (.slice pA246 (E.length + U.length + (pathE c os).length) tA246))
          replace e3 : w8.cell? ⟨b0, off + k * 5 + 3, none⟩ = some (.int .i64 x.c) := kept_cell hb (cell_ne (b := (Bo)) (j := 0) e3 (by omega) (.slice pA246 (E.length + U.length + (pathE c os).length) tA246))
          replace e4 : w8.cell? ⟨b0, off + k * 5 + 4, none⟩ = some (.int .i64 x.d) := kept_cell hb (cell_ne (b := (Bo)) (j := 0) e4 (by omega) (.slice pA246 (E.length + U.length + (pathE c os).length) tA246))
          replace hCh := (hCh.setCell (Bo) 0 (.slice pA246 (E.length + U.length + (pathE c os).length) tA246) (fun _ => (by first | exact Or.inl rfl | exact Or.inr (Or.inl rfl) | (refine Or.inr (Or.inr ?_); omega)))).trans (Chg.of_below hb)
          replace bx12 : w8.cell? ⟨w2.heap.size, 0, none⟩ = some (.int .i64 x.op) := kept_cell hb (cell_ne (b := (Bo)) (j := 0) bx12 (by omega) (.slice pA246 (E.length + U.length + (pathE c os).length) tA246))
          replace bx14 : w8.cell? ⟨w2.heap.size, 1, none⟩ = some (.int .i64 x.a) := kept_cell hb (cell_ne (b := (Bo)) (j := 0) bx14 (by omega) (.slice pA246 (E.length + U.length + (pathE c os).length) tA246))
          replace bx16 : w8.cell? ⟨w2.heap.size, 2, none⟩ = some (.int .i64 x.b) := kept_cell hb (cell_ne (b := (Bo)) (j := 0) bx16 (by omega) (.slice pA246 (E.length + U.length + (pathE c os).length) tA246))
          replace bx18 : w8.cell? ⟨w2.heap.size, 3, none⟩ = some (.int .i64 x.c) := kept_cell hb (cell_ne (b := (Bo)) (j := 0) bx18 (by omega) (.slice pA246 (E.length + U.length + (pathE c os).length) tA246))
          replace bx20 : w8.cell? ⟨w2.heap.size, 4, none⟩ = some (.int .i64 x.d) := kept_cell hb (cell_ne (b := (Bo)) (j := 0) bx20 (by omega) (.slice pA246 (E.length + U.length + (pathE c os).length) tA246))
          replace hwn2 : w8.cell? ⟨bw, ow + n, none⟩ = some (.bool true) := kept_cell hb (cell_ne (b := (Bo)) (j := 0) hwn2 (by omega) (.slice pA246 (E.length + U.length + (pathE c os).length) tA246))
          replace bx157 : w8.cell? ⟨w3.heap.size, 0, none⟩ = some (.int .i64 ((k : Int) + 1)) := kept_cell hb (cell_ne (b := (Bo)) (j := 0) bx157 (by omega) (.slice pA246 (E.length + U.length + (pathE c os).length) tA246))
          replace bx159 : w8.cell? ⟨w3.heap.size, 1, none⟩ = some (.slice a5 os.regs.length c5) := kept_cell hb (cell_ne (b := (Bo)) (j := 0) bx159 (by omega) (.slice pA246 (E.length + U.length + (pathE c os).length) tA246))
          replace bx161 : w8.cell? ⟨w3.heap.size, 2, none⟩ = some (.slice a3 os.mem.vals.length c3) := kept_cell hb (cell_ne (b := (Bo)) (j := 0) bx161 (by omega) (.slice pA246 (E.length + U.length + (pathE c os).length) tA246))
          replace bx163 : w8.cell? ⟨w3.heap.size, 3, none⟩ = some (.slice a4 os.mem.arrs.length c4) := kept_cell hb (cell_ne (b := (Bo)) (j := 0) bx163 (by omega) (.slice pA246 (E.length + U.length + (pathE c os).length) tA246))
          replace oP := own_below (own_set oP (Bo) 0 (fun h => by have := iv227 _ h; omega) (.slice pA246 (E.length + U.length + (pathE c os).length) tA246)) hb
          replace oA246 := own_below (own_set oA246 (Bo) 0 (fun h => by have := iv248 _ h; omega) (.slice pA246 (E.length + U.length + (pathE c os).length) tA246)) hb
          clear hb
          rw [← hnw]
          clear hnw
          clear lt249 lt250 lt251 lt252 lt253 lt254 lt255 lt256 lt257
          have lt259 := lt_of_cell hBo
          have lt260 := lt_of_cell hX0
          have lt261 := lt_of_cell hBc
          have lt262 := lt_of_cell hWb
          have lt263 := lt_of_cell hs0'
          have lt264 := lt_of_cell e0
          have lt265 := lt_of_cell bx12
          have lt266 := lt_of_cell hwn2
          have lt267 := lt_of_cell bx157
          refine hK.out _ _ ⟨hX0, hX1, hX2, bx157, bx159, bx161, bx163⟩ (fun hHeld => ?_)
          clear hK K
          try simp only [Act.put, List.setIfInBounds_toArray, List.set]
          refine wpAnyH_done (by kernel_rfl) ?_ _
          refine NoPanic.normal ?_
          clear hHeld
          have f1 := (cell_ne (b := (Bc)) (j := 0) hBo (by omega) (.int .i64 ((n : Int) + 1)))
          have f2 := (froz_st (b := ⟨(Bc), 0, none⟩) hBf (.int .i64 ((n : Int) + 1)))
          have f3 := (own_set oA246 (Bc) 0 (fun h => by have := iv248 _ h; omega) (.int .i64 ((n : Int) + 1)))
          have f4 := (cell_at _ (Bc) 0 (.int .i64 ((n : Int) + 1)) hBc)
          have f5 := (froz_st (b := ⟨(Bc), 0, none⟩) hCf (.int .i64 ((n : Int) + 1)))
          have f6 := (hCh.setCell (Bc) 0 (.int .i64 ((n : Int) + 1)) (fun _ => (by first | exact Or.inl rfl | exact Or.inr (Or.inl rfl) | (refine Or.inr (Or.inr ?_); omega))))
          have HF := Lib.hid (And.intro f1 (And.intro f2 (And.intro f3 (And.intro f4 (And.intro f5 f6)))))
          clear f1 f2 f3 f4 f5 f6 hCh oP oA246
          go_wp2
          go_end0
          exact ⟨rfl, _, HF.out.1, HF.out.2.1, by rw [HXE.out]; have h := HF.out.2.2.1; rw [List.length_append, List.length_append, evs_append, evs_append]; exact h, by rw [HBI.out]; exact HF.out.2.2.2.1, HF.out.2.2.2.2.1, HF.out.2.2.2.2.2⟩
    · have HXE := Lib.hid (HX1'.out (wr_out hlt))
      clear HX1' HX2'
      have hlq : ¬ (n : Int) < (ws.length : Int) := by omega
      clear hws
      have f1 := (cell_ne (b := (Bc)) (j := 0) hBo (by omega) (.int .i64 ((n : Int) + 1)))
      have f2 := (froz_st (b := ⟨(Bc), 0, none⟩) hBf (.int .i64 ((n : Int) + 1)))
      have f3 := (own_set oA1 (Bc) 0 (fun h => by have := ivA _ h; omega) (.int .i64 ((n : Int) + 1)))
      have f4 := (cell_at _ (Bc) 0 (.int .i64 ((n : Int) + 1)) hBc)
      have f5 := (froz_st (b := ⟨(Bc), 0, none⟩) hCf (.int .i64 ((n : Int) + 1)))
      have f6 := (hCh.setCell (Bc) 0 (.int .i64 ((n : Int) + 1)) (fun _ => (by first | exact Or.inl rfl | exact Or.inr (Or.inl rfl) | (refine Or.inr (Or.inr ?_); omega))))
      have HF := Lib.hid (And.intro f1 (And.intro f2 (And.intro f3 (And.intro f4 (And.intro f5 f6)))))
      clear f1 f2 f3 f4 f5 f6 hCh oA1
      go_wp2
      go_end0
      exact ⟨rfl, _, HF.out.1, HF.out.2.1, by rw [HXE.out]; have h := HF.out.2.2.1; rw [List.append_nil, List.length_append, evs_append]; exact h, by rw [HBI.out]; exact HF.out.2.2.2.1, HF.out.2.2.2.2.1, HF.out.2.2.2.2.2⟩
end Go.Proofs.Ytbglogjamfdmpaa
