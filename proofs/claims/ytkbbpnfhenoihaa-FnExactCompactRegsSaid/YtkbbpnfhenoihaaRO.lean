/-
  The registers of code in the order of their first occurrence: the program's walk.
-/
import Derived.Test.YtkbbpnfhenoihaaFE
import Derived.Test.YtkbbpnfhenoihaaOW
import Derived.Test.YtkbbpnfhenoihaaRK
import Derived.Test.YtkbbpnfhenoihaaRN
import Derived.Test.YtkbbpnfhenoihaaVB
namespace Go.Proofs.Ytkbbpnfhenoihaa
open Go.RowKit

/-- the registers among the first k fields of an instruction -/
def rgsK (x : Ins) (k : Nat) : List Int := (((shp x.op).zip (flds x)).take k).filterMap (fun p => if p.1 = 114 then some p.2 else none)
def rgs (x : Ins) : List Int := rgsK x 4
def ordL (O : List Int) (rs : List Int) : List Int := rs.foldl ordS O
def ordC (O : List Int) (l : List Ins) : List Int := l.foldl (fun O x => ordL O (rgs x)) O
theorem rgsK_succ (x : Ins) (k : Nat) (h1 : k < (shp x.op).length) (h2 : k < (flds x).length) : rgsK x (k + 1) = rgsK x k ++ (if (shp x.op)[k] = 114 then [(flds x)[k]] else []) := by
  unfold rgsK
  rw [List.take_succ_eq_append_getElem (by rw [List.length_zip]; omega), List.filterMap_append, List.getElem_zip]
  by_cases e : (shp x.op)[k] = 114
  · rw [if_pos e]; simp [e]
  · rw [if_neg e]; simp [e]
theorem ordL_snoc (O rs : List Int) (r : Int) : ordL O (rs ++ [r]) = ordS (ordL O rs) r := by simp [ordL]
theorem ordC_succ (O : List Int) (l : List Ins) (i : Nat) (h : i < l.length) : ordC O (l.take (i + 1)) = ordL (ordC O (l.take i)) (rgs l[i]) := by
  unfold ordC; rw [List.take_succ_eq_append_getElem h, List.foldl_append]; rfl
theorem ordS_len (O : List Int) (r : Int) : (ordS O r).length ≤ O.length + 1 := by unfold ordS; split <;> simp
theorem ordL_len (O rs : List Int) : (ordL O rs).length ≤ O.length + rs.length := by
  induction rs generalizing O with
  | nil => simp [ordL]
  | cons r rs ih =>
    have h1 := ih (ordS O r)
    have h2 := ordS_len O r
    simp only [ordL, List.foldl_cons, List.length_cons] at h1 ⊢
    omega
theorem rgsK_len (x : Ins) (k : Nat) : (rgsK x k).length ≤ 4 := by
  unfold rgsK
  refine Nat.le_trans (List.length_filterMap_le _ _) ?_
  rw [List.length_take, List.length_zip]
  simp [flds]; omega
theorem ordC_len (l : List Ins) (i : Nat) : (ordC [] (l.take i)).length ≤ 4 * i := by
  induction i with
  | zero => simp [ordC]
  | succ i ih =>
    by_cases h : i < l.length
    · rw [ordC_succ [] l i h]
      have h1 := ordL_len (ordC [] (l.take i)) (rgs l[i])
      have h2 := rgsK_len l[i] 4
      unfold rgs at h1; unfold rgs
      omega
    · rw [List.take_of_length_le (by omega)]
      rw [List.take_of_length_le (by omega)] at ih
      omega
theorem ints_same (xs : List Int) (k : Nat) (h : k < xs.length) : (ints xs).set k (.int .i64 xs[k]) = ints xs := by
  rw [show Value.int .i64 xs[k] = (ints xs)[k]'(by rw [ints_length]; exact h) from (ints_get xs k _).symm]
  exact List.set_getElem_self _
theorem inss_same (l : List Ins) (k : Nat) (h : k < l.length) : l.set k l[k] = l := List.set_getElem_self _

set_option maxHeartbeats 12800000 in
set_option maxRecDepth 100000 in
theorem regsN_any (va vb vc : Value) (c : Cd) (B : Nat) (w : World) (hr : ReadsC w va vb vc c) (hok : codeOk c = true) (hB : w.cell? ⟨B, 0, none⟩ = some (.slice none 0 0)) (hBf : w.frozen? ⟨B, 0, none⟩ = false) :
    Calls Try.prog 97 #[.agg #[va, vb, vc], .func (.func 144) #[] #[.pointer (some ⟨B, 0, none⟩)]] w fun e w' => ∃ u v, e = .returned u ∧ w'.cell? ⟨B, 0, none⟩ = some v ∧ w'.ownsRow w.heap.size 3 1 v (ordC [] c.list).length (ints (ordC [] c.list)) ∧ Chg (fun q => q = B) w w' := by
  obtain ⟨a0, c0, a1, c1, a2, c2, rfl, rfl, rfl⟩ := hr.shape
  have kB := lt_of_cell hB
  obtain ⟨hl1, hl2⟩ := codeOk_len hok
  obtain ⟨hd1, hd2⟩ := declOk_len (codeOk_decl hok)
  have hall := codeOk_all hok
  have HALL := Lib.hid hall
  clear hall
  obtain ⟨w1, hw1⟩ : ∃ X, X = (w.alloc (.cells #[.slice a0 c.vars.length c0, .slice a1 c.arrays.length c1, .slice a2 c.list.length c2] 50)).alloc (.cells #[.slice none 0 0, .slice none 0 0, .slice none 0 0] 50) := ⟨_, rfl⟩
  have hb1 : Below w.heap.size w w1 := by rw [hw1]; exact bal (bal (bself w) _) _
  have hz1 : w1.heap.size = w.heap.size + 1 + 1 := by rw [hw1]; simp
  have b0 : w1.cell? ⟨w.heap.size, 0, none⟩ = some (.slice a0 c.vars.length c0) := by rw [hw1]; exact cell_al (cell_nw rfl rfl) _
  have b1 : w1.cell? ⟨w.heap.size, 1, none⟩ = some (.slice a1 c.arrays.length c1) := by rw [hw1]; exact cell_al (cell_nw rfl rfl) _
  have b2 : w1.cell? ⟨w.heap.size, 2, none⟩ = some (.slice a2 c.list.length c2) := by rw [hw1]; exact cell_al (cell_nw rfl rfl) _
  have r0 : w1.cell? ⟨w.heap.size + 1, 0, none⟩ = some (.slice none 0 0) := by rw [hw1]; exact cell_nw (by simp) rfl
  have r1 : w1.cell? ⟨w.heap.size + 1, 1, none⟩ = some (.slice none 0 0) := by rw [hw1]; exact cell_nw (by simp) rfl
  have r2 : w1.cell? ⟨w.heap.size + 1, 2, none⟩ = some (.slice none 0 0) := by rw [hw1]; exact cell_nw (by simp) rfl
  have rf : ∀ j, w1.frozen? ⟨w.heap.size + 1, j, none⟩ = false := fun j => by rw [hw1]; exact froz_nw (by simp)
  have k2 := lt_of_cell b2
  have HW := Lib.hid hw1
  have HZ := Lib.hid hz1
  have hz1' : w.heap.size + 2 ≤ w1.heap.size := by omega
  have HRF := Lib.hid rf
  clear hw1 hz1 rf
  have HO := Lib.hid (own_any _ _ _ c w1 (hr.below hb1) (by omega) (by omega) (by omega))
  clear hr
  go_enter Try.func97, Try.ntmps97
  go_upto_region 1 with (fail)
  rw [← HW.out]
  clear HW
  go_wp2_with fail
  refine HO.out.mono ?_
  rintro e w2 ⟨u0, u1, u2, rfl, oc, hb⟩
  have hz2 := hb.size
  obtain ⟨gL, cL, hgv⟩ := own_pos oc.l (by omega)
  obtain ⟨p0, q0, hpv⟩ := own_shape oc.a
  obtain ⟨p1, q1, hqv⟩ := own_shape oc.b
  subst hgv hpv hqv
  have hgL := oc.l.lt gL rfl
  obtain ⟨w3, hw3⟩ : ∃ X, X = w2.alloc (.cells #[.slice p0 c.vars.length q0, .slice p1 c.arrays.length q1, .slice (some ⟨gL, 0, none⟩) c.list.length cL] 50) := ⟨_, rfl⟩
  have hb3 : Below w1.heap.size w1 w3 := by rw [hw3]; exact bal hb _
  have hz3 : w3.heap.size = w2.heap.size + 1 := by rw [hw3]; simp
  have oL : w3.ownsRow w1.heap.size 98 5 (.slice (some ⟨gL, 0, none⟩) c.list.length cL) c.list.length (inss c.list) := by rw [hw3]; exact own_below oc.l (bal (bself w2) _)
  have m0 : w3.cell? ⟨w2.heap.size, 0, none⟩ = some (.slice p0 c.vars.length q0) := by rw [hw3]; exact cell_nw rfl rfl
  have m1 : w3.cell? ⟨w2.heap.size, 1, none⟩ = some (.slice p1 c.arrays.length q1) := by rw [hw3]; exact cell_nw rfl rfl
  have m2 : w3.cell? ⟨w2.heap.size, 2, none⟩ = some (.slice (some ⟨gL, 0, none⟩) c.list.length cL) := by rw [hw3]; exact cell_nw rfl rfl
  have HW3 := Lib.hid hw3
  have hz3' : w2.heap.size < w3.heap.size := by omega
  clear hw3 hz3 hb
  replace r0 := kept_cell hb3 r0; replace r1 := kept_cell hb3 r1; replace r2 := kept_cell hb3 r2
  have HRF3 := Lib.hid (fun j => kept_froz hb3 (by omega) (HRF.out j))
  have bB := kept_cell (btr hb1 hb3) hB
  have bBf := kept_froz (btr hb1 hb3) kB hBf
  have tot := btr hb1 hb3
  clear b0 b1 b2 k2 HO HRF hB hBf oc hb3 hb1
  go_upto_region 2 with (fail)
  rw [← HW3.out]
  clear HW3
  have k2 := lt_of_cell m2
  go_wp2_with fail
  go_loopw [15] (fun t wr => ∃ i : Nat, i ≤ c.list.length ∧ t = .int .i64 i ∧ (∃ v, wr.cell? ⟨B, 0, none⟩ = some v ∧ wr.frozen? ⟨B, 0, none⟩ = false ∧ wr.ownsRow w.heap.size 3 1 v (ordC [] (c.list.take i)).length (ints (ordC [] (c.list.take i))) ∧ (∀ q, v.ownBlock = some q → w3.heap.size ≤ q)) ∧ wr.ownsRow w1.heap.size 98 5 (.slice (some ⟨gL, 0, none⟩) c.list.length cL) c.list.length (inss c.list) ∧ Chg (fun q => q = B ∨ q = gL) w3 wr) (fun t _ => c.list.length - (intOf t).toNat)
  case atStart => exact ⟨0, Nat.zero_le _, rfl, ⟨_, bB, bBf, by simpa [ordC, ints] using World.ownsRow_nil w3 w.heap.size 3 1, fun q h => by simp [Value.ownBlock] at h⟩, oL, Chg.refl _ _⟩
  case round =>
    obtain ⟨i, hi, rfl, ⟨v, hv, hvf, hvo, hvq⟩, hro, hC⟩ := hrel
    obtain ⟨wO, rfl⟩ : ∃ X, X = wr := ⟨_, rfl⟩
    have hzr := hC.size
    clear oL bB bBf
    have n2 := chg_cell hC m2 (by omega)
    have kn := lt_of_cell n2
    by_cases hlt : i < c.list.length
    · obtain ⟨x, HX, d0, d1, d2, d3, d4⟩ : ∃ x : Ins, Hid (x = c.list[i]) ∧ wO.cell? ⟨gL, i * 5, none⟩ = some (.int .i64 x.op) ∧ wO.cell? ⟨gL, i * 5 + 1, none⟩ = some (.int .i64 x.a) ∧ wO.cell? ⟨gL, i * 5 + 2, none⟩ = some (.int .i64 x.b) ∧ wO.cell? ⟨gL, i * 5 + 3, none⟩ = some (.int .i64 x.c) ∧ wO.cell? ⟨gL, i * 5 + 4, none⟩ = some (.int .i64 x.d) := ⟨c.list[i], Lib.hid rfl, own_row insc_len hro i hlt 0 (by omega), own_row insc_len hro i hlt 1 (by omega), own_row insc_len hro i hlt 2 (by omega), own_row insc_len hro i hlt 3 (by omega), own_row insc_len hro i hlt 4 (by omega)⟩
      have HOC : Hid (ordC [] (c.list.take (i + 1)) = ordL (ordC [] (c.list.take i)) (rgs x)) := Lib.hid (by rw [ordC_succ [] c.list i hlt, HX.out])
      have hOl := ordC_len c.list i
      have hop := insOk_op (HALL.out i hlt)
      rw [← HX.out] at hop
      have kg := lt_of_cell d0
      generalize ordC [] (c.list.take i) = O at *
      have kBr := lt_of_cell hv
      have hvlt := hvo.lt
      obtain ⟨wx, hwx⟩ : ∃ X, X = wO.alloc (.cells #[.int .i64 x.op, .int .i64 x.a, .int .i64 x.b, .int .i64 x.c, .int .i64 x.d] 98) := ⟨_, rfl⟩
      have hbx : Below wO.heap.size wO wx := by rw [hwx]; exact bal (bself wO) _
      have hzx : wO.heap.size < wx.heap.size := by rw [hwx]; simp
      have x0 : wx.cell? ⟨wO.heap.size, 0, none⟩ = some (.int .i64 x.op) := by rw [hwx]; exact cell_nw rfl rfl
      have x1 : wx.cell? ⟨wO.heap.size, 1, none⟩ = some (.int .i64 x.a) := by rw [hwx]; exact cell_nw rfl rfl
      have x2 : wx.cell? ⟨wO.heap.size, 2, none⟩ = some (.int .i64 x.b) := by rw [hwx]; exact cell_nw rfl rfl
      have x3 : wx.cell? ⟨wO.heap.size, 3, none⟩ = some (.int .i64 x.c) := by rw [hwx]; exact cell_nw rfl rfl
      have x4 : wx.cell? ⟨wO.heap.size, 4, none⟩ = some (.int .i64 x.d) := by rw [hwx]; exact cell_nw rfl rfl
      have HWX := Lib.hid hwx
      clear hwx
      go_upto_region 5 with (fail)
      rw [← HWX.out]
      clear HWX
      go_wp2_with fail
      refine (fields_any x _).mono ?_
      rintro e w5 ⟨gF, rfl, oF, hb5⟩
      have hz5 := hb5.size
      have hgF := oF.lt gF rfl
      replace x0 := kept_cell hb5 x0; replace x1 := kept_cell hb5 x1; replace x2 := kept_cell hb5 x2; replace x3 := kept_cell hb5 x3; replace x4 := kept_cell hb5 x4
      have hb6 := btr hbx hb5
      replace hv := kept_cell hb6 hv
      replace hvf := kept_froz hb6 kBr hvf
      replace hvo := own_below hvo hb6
      replace hro := own_below hro hb6
      replace n2 := kept_cell hb6 n2
      have n1 := kept_cell hb6 (chg_cell hC m1 (by omega))
      have n0 := kept_cell hb6 (chg_cell hC m0 (by omega))
      have hC6 := hC.trans (Chg.of_below (S := fun q => q = B ∨ q = gL) hb6)
      clear d0 d1 d2 d3 d4 hb5 hbx hC
      go_wp2_with fail
      go_loopw [24] (fun t wy => ∃ k : Nat, k ≤ 4 ∧ t = .int .i64 k ∧ (∃ v', wy.cell? ⟨B, 0, none⟩ = some v' ∧ wy.frozen? ⟨B, 0, none⟩ = false ∧ wy.ownsRow w.heap.size 3 1 v' (ordL O (rgsK x k)).length (ints (ordL O (rgsK x k))) ∧ (∀ q, v'.ownBlock = some q → w3.heap.size ≤ q ∧ ¬ q = wO.heap.size ∧ ¬ q = gF) ∧ (∀ q, v'.ownBlock = some q → v.ownBlock = some q ∨ w5.heap.size ≤ q)) ∧ wy.ownsRow wx.heap.size 3 1 (.slice (some ⟨gF, 0, none⟩) 4 4) 4 (ints (flds x)) ∧ wy.ownsRow w1.heap.size 98 5 (.slice (some ⟨gL, 0, none⟩) c.list.length cL) c.list.length (inss c.list) ∧ Chg (fun q => q = B ∨ q = gF ∨ v.ownBlock = some q) w5 wy) (fun t _ => 4 - (intOf t).toNat)
      case atStart => exact ⟨0, by omega, rfl, ⟨v, hv, hvf, by simpa [rgsK, ordL] using hvo, fun q h => by have h1 := hvq q h; have h2 := hvlt q h; omega, fun q h => Or.inl h⟩, oF, hro, Chg.refl _ _⟩
      case round =>
        obtain ⟨k, hk, rfl, ⟨v', gv, gvf, gvo, gvq, gv5⟩, gF4, gro, gC⟩ := hrel
        have hzy := gC.size
        clear hv hvf hvo oF hro
        have y0 := chg_cell gC x0 (fun h => by rcases h with h | h | h; · omega
                                               · omega
                                               · have := hvlt _ h; omega)
        have ky := lt_of_cell y0
        by_cases hlk : k < 4
        · have hcl := gF4.cellAt k (by omega)
          have hff : k < (flds x).length := by simpa [flds] using hlk
          rw [List.getElem?_eq_getElem (by rw [ints_length]; exact hff), ints_get] at hcl
          have hsl : (shp x.op).length = 4 := shp_len (by omega)
          have hks : k < (shp x.op).length := by omega
          have hsu := rgsK_succ x k hks hff
          have hsame := ints_same (flds x) k hff
          have hOl2 := ordL_len O (rgsK x k)
          have hrl2 := rgsK_len x k
          go_wp2_with fail
          refine (shape_any x.op _).mono ?_
          rintro e w7 ⟨rfl, hb7⟩
          have hz7 := hb7.size
          obtain ⟨S, hS⟩ : ∃ S : ByteArray, S = ⟨(shp x.op).toArray⟩ := ⟨_, rfl⟩
          rw [← hS]
          have hZ : S.size = (shp x.op).length := by rw [hS]; simp [ByteArray.size]
          have hsz1 : k < S.size := by omega
          have hsz2 : (k : Int) < (S.size : Int) := by omega
          have hSk : ∀ h', S[k]'h' = (shp x.op)[k] := fun h' => by subst hS; exact str_get _ k hks h'
          clear hS hZ hsl
          generalize (shp x.op)[k] = kd at *
          generalize (flds x)[k] = fd at *
          have HSU := Lib.hid hsu
          have HSA := Lib.hid hsame
          clear hsu hsame
          replace gv := kept_cell hb7 gv
          replace gvf := kept_froz hb7 (by omega) gvf
          replace gvo := own_below gvo hb7
          replace gF4 := own_below gF4 hb7
          replace gro := own_below gro hb7
          replace hcl := kept_cell hb7 hcl
          have gC7 := gC.trans (Chg.of_below (S := fun q => q = B ∨ q = gF ∨ v.ownBlock = some q) hb7)
          have gvlt := gvo.lt
          have kcl := lt_of_cell hcl
          have kgv := lt_of_cell gv
          clear hb7 gC y0
          by_cases hkd : kd = 114
          · subst hkd
            go_wp2_with fail
            refine (numbS_any fd B w.heap.size v' _ _ gv gvf gvo (fun h => by have h1 := gvq B h; omega) (by omega) (by omega)).mono ?_
            rintro e w8 ⟨rfl, v8, gv8, gvf8, gvo8, gC8, hN8⟩
            have hz8 := gC8.size
            have hcl8 := chg_cell gC8 hcl (fun h => by rcases h with h | h; · omega
                                                       · have h1 := gvq _ h; omega)
            have gF8 := own_keep gF4 gC8 (fun q hq h => by have e : gF = q := Option.some.inj hq; subst e; rcases h with h | h; · omega
                                                           · have h1 := gvq _ h; omega)
            have gro8 := own_keep gro gC8 (fun q hq h => by have e : gL = q := Option.some.inj hq; subst e; rcases h with h | h; · omega
                                                            · have h1 := gvq _ h; omega)
            have hf8 := gF8.frozenAt k
            have gF9 := (gF8.stored k (.int .i64 fd)).1
            rw [HSA.out] at gF9
            have gq8 : ∀ q, v8.ownBlock = some q → w3.heap.size ≤ q ∧ ¬ q = wO.heap.size ∧ ¬ q = gF := by
              intro q hq
              rcases hN8 with h | ⟨g, h, h2⟩
              · exact gvq q (by rw [← h]; exact hq)
              · rw [h] at hq; obtain rfl := Option.some.inj hq; omega
            have gq5 : ∀ q, v8.ownBlock = some q → v.ownBlock = some q ∨ w5.heap.size ≤ q := by
              intro q hq
              rcases hN8 with h | ⟨g, h, h2⟩
              · exact gv5 q (by rw [← h]; exact hq)
              · rw [h] at hq; obtain rfl := Option.some.inj hq; omega
            have gv9 := cell_ne (b := gF) (j := k) gv8 (by omega) (.int .i64 fd)
            have gvf9 := froz_st (b := ⟨gF, k, none⟩) gvf8 (.int .i64 fd)
            have gvo9 := own_set gvo8 gF k (fun h => by have := gq8 _ h; omega) (.int .i64 fd)
            have gro9 := own_set gro8 gF k (fun h => by have e : gL = gF := Option.some.inj h; omega) (.int .i64 fd)
            have gCt : Chg (fun q => q = B ∨ q = gF ∨ v.ownBlock = some q) w5 w8 := ⟨gC8.os.trans gC7.os, gC8.tape.trans gC7.tape, gC8.output.trans gC7.output, by omega, fun q hq hn => (gC8.block q (by omega) (fun h => by
              rcases h with h | h
              · exact hn (Or.inl h)
              · rcases gv5 q h with h2 | h2
                · exact hn (Or.inr (Or.inr h2))
                · omega)).trans (gC7.block q hq hn)⟩
            have gC9 := gCt.setCell gF k (.int .i64 fd) (fun _ => Or.inr (Or.inl rfl))
            have HS2 : Hid (ordS (ordL O (rgsK x k)) fd = ordL O (rgsK x (k + 1))) := Lib.hid (by rw [HSU.out]; simp [ordL_snoc])
            rw [HS2.out] at gvo9
            clear gv gvf gvo gF4 gro hcl gC7 gC8 gF8 gro8 gvo8 gCt gv8 gvf8 hN8
            go_wp2
            go_roundw
            case rel => exact ⟨k + 1, by omega, by go_num, ⟨v8, gv9, gvf9, gvo9, gq8, gq5⟩, gF9, gro9, gC9⟩
            case measure => simp [intOf]; omega
          · have hk1 : ((kd.toNat : Int) == 114) = false := by
              simp only [beq_eq_false_iff_ne, ne_eq]
              intro h
              exact hkd (UInt8.toNat_inj.1 (by simp; omega))
            have HS2 : Hid (ordL O (rgsK x k) = ordL O (rgsK x (k + 1))) := Lib.hid (by rw [HSU.out]; simp [hkd])
            rw [HS2.out] at gvo
            clear hkd
            go_wp2
            go_roundw
            case rel => exact ⟨k + 1, by omega, by go_num, ⟨v', gv, gvf, gvo, gvq, gv5⟩, gF4, gro, gC7⟩
            case measure => simp [intOf]; omega
        · have e : k = 4 := by omega
          subst e
          obtain ⟨wI, rfl⟩ : ∃ X, X = wr := ⟨_, rfl⟩
          have hnx : ¬ (wO.heap.size = B ∨ wO.heap.size = gF ∨ v.ownBlock = some wO.heap.size) := by
            rintro (h | h | h)
            · omega
            · omega
            · have := hvlt _ h; omega
          have hnx2 : ¬ (w2.heap.size = B ∨ w2.heap.size = gF ∨ v.ownBlock = some w2.heap.size) := by
            rintro (h | h | h)
            · omega
            · omega
            · have := hvq _ h; omega
          have y1 := chg_cell gC x1 hnx
          have y2 := chg_cell gC x2 hnx
          have y3 := chg_cell gC x3 hnx
          have y4 := chg_cell gC x4 hnx
          have o2 := chg_cell gC n2 hnx2
          have l0 : wI.cell? ⟨gF, 0, none⟩ = some (.int .i64 x.a) := by
            have h := gF4.cellAt 0 (by omega)
            simpa [ints, flds] using h
          have l1 : wI.cell? ⟨gF, 1, none⟩ = some (.int .i64 x.b) := by
            have h := gF4.cellAt 1 (by omega)
            simpa [ints, flds] using h
          have l2 : wI.cell? ⟨gF, 2, none⟩ = some (.int .i64 x.c) := by
            have h := gF4.cellAt 2 (by omega)
            simpa [ints, flds] using h
          have l3 : wI.cell? ⟨gF, 3, none⟩ = some (.int .i64 x.d) := by
            have h := gF4.cellAt 3 (by omega)
            simpa [ints, flds] using h
          have d0 : wI.cell? ⟨gL, i * 5, none⟩ = some (.int .i64 x.op) := by rw [HX.out]; exact own_row insc_len gro i hlt 0 (by omega)
          have d1 : wI.cell? ⟨gL, i * 5 + 1, none⟩ = some (.int .i64 x.a) := by rw [HX.out]; exact own_row insc_len gro i hlt 1 (by omega)
          have d2 : wI.cell? ⟨gL, i * 5 + 2, none⟩ = some (.int .i64 x.b) := by rw [HX.out]; exact own_row insc_len gro i hlt 2 (by omega)
          have d3 : wI.cell? ⟨gL, i * 5 + 3, none⟩ = some (.int .i64 x.c) := by rw [HX.out]; exact own_row insc_len gro i hlt 3 (by omega)
          have d4 : wI.cell? ⟨gL, i * 5 + 4, none⟩ = some (.int .i64 x.d) := by rw [HX.out]; exact own_row insc_len gro i hlt 4 (by omega)
          have f0 := gro.frozenAt (i * 5)
          have f1 := gro.frozenAt (i * 5 + 1)
          have f2 := gro.frozenAt (i * 5 + 2)
          have f3 := gro.frozenAt (i * 5 + 3)
          have f4 := gro.frozenAt (i * 5 + 4)
          have kd := lt_of_cell d0
          have kv := lt_of_cell gv
          have hst := fun W (h : Below wI.heap.size wI W) => own_set5 (own_below gro h) i hlt x
          have HST : Hid (∀ W, Below wI.heap.size wI W → (((((W.setCell ⟨gL, i * 5, none⟩ (.int .i64 x.op)).setCell ⟨gL, i * 5 + 1, none⟩ (.int .i64 x.a)).setCell ⟨gL, i * 5 + 2, none⟩ (.int .i64 x.b)).setCell ⟨gL, i * 5 + 3, none⟩ (.int .i64 x.c)).setCell ⟨gL, i * 5 + 4, none⟩ (.int .i64 x.d)).ownsRow w1.heap.size 98 5 (.slice (some ⟨gL, 0, none⟩) c.list.length cL) c.list.length (inss c.list)) := Lib.hid (fun W h => by
            have h2 := own_set5 (own_below gro h) i hlt x
            rw [show c.list.set i x = c.list from by rw [HX.out]; exact inss_same c.list i hlt] at h2
            exact h2)
          have gCt : Chg (fun q => q = B ∨ q = gL) w3 wI := ⟨gC.os.trans hC6.os, gC.tape.trans hC6.tape, gC.output.trans hC6.output, by omega, fun q hq hn => (gC.block q (by omega) (fun h => by
            rcases h with h | h | h
            · exact hn (Or.inl h)
            · omega
            · have := hvq q h; omega)).trans (hC6.block q hq hn)⟩
          have gvlt := gvo.lt
          have HOC2 : Hid (ordL O (rgsK x 4) = ordC [] (c.list.take (i + 1))) := Lib.hid HOC.out.symm
          have HSS := Lib.hid (show ∀ W', Below wI.heap.size wI W' → (fun W' => W'.cell? ⟨w2.heap.size, 2, none⟩ = some (.slice (some ⟨gL, 0, none⟩) c.list.length cL) ∧ W'.cell? ⟨wO.heap.size, 0, none⟩ = some (.int .i64 x.op) ∧ W'.cell? ⟨wO.heap.size, 1, none⟩ = some (.int .i64 x.a) ∧ W'.cell? ⟨wO.heap.size, 2, none⟩ = some (.int .i64 x.b) ∧ W'.cell? ⟨wO.heap.size, 3, none⟩ = some (.int .i64 x.c) ∧ W'.cell? ⟨wO.heap.size, 4, none⟩ = some (.int .i64 x.d)) W' from fun W' h => ⟨kept_cell h o2, kept_cell h y0, kept_cell h y1, kept_cell h y2, kept_cell h y3, kept_cell h y4⟩)
          clear hst gC hC6 gF4 x0 x1 x2 x3 x4 n0 n1 n2 hvq hvlt
          go_upto_region 12 with (fail)
          have D := Below.drew (bself wI)
          go_region_with (go_at_call 149; refine (withFields_any x.op x.a x.b x.c x.d x.a x.b x.c x.d gF 4 _ (kept_cell D l0) (kept_cell D l1) (kept_cell D l2) (kept_cell D l3)).mono ?_; rintro e wb ⟨rfl, bb⟩; have z0 := kept_cell (btr D bb) d0; have z1 := kept_cell (btr D bb) d1; have z2 := kept_cell (btr D bb) d2; have z3 := kept_cell (btr D bb) d3; have z4 := kept_cell (btr D bb) d4; have zf0 := kept_froz (btr D bb) kd f0; have zf1 := kept_froz (btr D bb) kd f1; have zf2 := kept_froz (btr D bb) kd f2; have zf3 := kept_froz (btr D bb) kd f3; have zf4 := kept_froz (btr D bb) kd f4; have zo := kept_cell (btr D bb) o2; have zs := bb.size)
          all_goals
            have E := btr D bb
            have s1 := HST.out _ E
            have s2 := (cell_ne (b := gL) (j := i * 5 + 4) (cell_ne (b := gL) (j := i * 5 + 3) (cell_ne (b := gL) (j := i * 5 + 2) (cell_ne (b := gL) (j := i * 5 + 1) (cell_ne (b := gL) (j := i * 5) (kept_cell E gv) (by omega) (.int .i64 x.op)) (by omega) (.int .i64 x.a)) (by omega) (.int .i64 x.b)) (by omega) (.int .i64 x.c)) (by omega) (.int .i64 x.d))
            have s3 := (froz_st (b := ⟨gL, i * 5 + 4, none⟩) (froz_st (b := ⟨gL, i * 5 + 3, none⟩) (froz_st (b := ⟨gL, i * 5 + 2, none⟩) (froz_st (b := ⟨gL, i * 5 + 1, none⟩) (froz_st (b := ⟨gL, i * 5, none⟩) (kept_froz E kv gvf) (.int .i64 x.op)) (.int .i64 x.a)) (.int .i64 x.b)) (.int .i64 x.c)) (.int .i64 x.d))
            have s4 := (own_set (own_set (own_set (own_set (own_set (own_below gvo E) gL (i * 5) (fun h => by have := (gvq _ h).1; omega) (.int .i64 x.op)) gL (i * 5 + 1) (fun h => by have := (gvq _ h).1; omega) (.int .i64 x.a)) gL (i * 5 + 2) (fun h => by have := (gvq _ h).1; omega) (.int .i64 x.b)) gL (i * 5 + 3) (fun h => by have := (gvq _ h).1; omega) (.int .i64 x.c)) gL (i * 5 + 4) (fun h => by have := (gvq _ h).1; omega) (.int .i64 x.d))
            have s5 := ((((((gCt.trans (Chg.of_below (S := fun q => q = B ∨ q = gL) E)).setCell gL (i * 5) (.int .i64 x.op) (fun _ => Or.inr rfl)).setCell gL (i * 5 + 1) (.int .i64 x.a) (fun _ => Or.inr rfl)).setCell gL (i * 5 + 2) (.int .i64 x.b) (fun _ => Or.inr rfl)).setCell gL (i * 5 + 3) (.int .i64 x.c) (fun _ => Or.inr rfl)).setCell gL (i * 5 + 4) (.int .i64 x.d) (fun _ => Or.inr rfl))
            clear D bb E d0 d1 d2 d3 d4 l0 l1 l2 l3 o2 y0 y1 y2 y3 y4 f0 f1 f2 f3 f4 HSS HST gro gv gvf gvo gCt
            go_wp2
            go_roundw
            case rel => exact ⟨i + 1, by omega, by go_num, ⟨v', s2, s3, by rw [← HOC2.out]; exact s4, fun q h => (gvq q h).1⟩, s1, s5⟩
            case measure => simp [intOf]; omega
    · have e : i = c.list.length := by omega
      subst e
      rw [List.take_length] at hvo
      have n1 := chg_cell hC m1 (by omega)
      have n0 := chg_cell hC m0 (by omega)
      have s0 := chg_cell hC r0 (by omega)
      have s1 := chg_cell hC r1 (by omega)
      have s2 := chg_cell hC r2 (by omega)
      have g0 := chg_froz hC (by omega) (HRF3.out 0) (by omega)
      have g1 := chg_froz hC (by omega) (HRF3.out 1) (by omega)
      have g2 := chg_froz hC (by omega) (HRF3.out 2) (by omega)
      have z0 := (cell_ne (b := w.heap.size + 1) (j := 2) (cell_ne (b := w.heap.size + 1) (j := 1) (cell_at _ (w.heap.size + 1) 0 (.slice p0 c.vars.length q0) s0) (by omega) (.slice p1 c.arrays.length q1)) (by omega) (.slice (some ⟨gL, 0, none⟩) c.list.length cL))
      have z1 := (cell_ne (b := w.heap.size + 1) (j := 2) (cell_at _ (w.heap.size + 1) 1 (.slice p1 c.arrays.length q1) (cell_ne (b := w.heap.size + 1) (j := 0) s1 (by omega) (.slice p0 c.vars.length q0))) (by omega) (.slice (some ⟨gL, 0, none⟩) c.list.length cL))
      have z2 := (cell_at _ (w.heap.size + 1) 2 (.slice (some ⟨gL, 0, none⟩) c.list.length cL) (cell_ne (b := w.heap.size + 1) (j := 1) (cell_ne (b := w.heap.size + 1) (j := 0) s2 (by omega) (.slice p0 c.vars.length q0)) (by omega) (.slice p1 c.arrays.length q1)))
      have zB := (cell_ne (b := w.heap.size + 1) (j := 2) (cell_ne (b := w.heap.size + 1) (j := 1) (cell_ne (b := w.heap.size + 1) (j := 0) hv (by omega) (.slice p0 c.vars.length q0)) (by omega) (.slice p1 c.arrays.length q1)) (by omega) (.slice (some ⟨gL, 0, none⟩) c.list.length cL))
      have zV := (own_set (own_set (own_set hvo (w.heap.size + 1) 0 (fun h => by have := hvq _ h; omega) (.slice p0 c.vars.length q0)) (w.heap.size + 1) 1 (fun h => by have := hvq _ h; omega) (.slice p1 c.arrays.length q1)) (w.heap.size + 1) 2 (fun h => by have := hvq _ h; omega) (.slice (some ⟨gL, 0, none⟩) c.list.length cL))
      have hCt : Chg (fun q => q = B) w wO := ⟨hC.os.trans tot.os, hC.tape.trans tot.tape, hC.output.trans tot.output, by have := tot.size; omega, fun q hq hn => (hC.block q (by have := tot.size; omega) (fun h => by
        rcases h with h | h
        · exact hn h
        · omega)).trans (tot.block q hq)⟩
      have zC := (((hCt.setCell (w.heap.size + 1) 0 (.slice p0 c.vars.length q0) (fun h => by omega)).setCell (w.heap.size + 1) 1 (.slice p1 c.arrays.length q1) (fun h => by omega)).setCell (w.heap.size + 1) 2 (.slice (some ⟨gL, 0, none⟩) c.list.length cL) (fun h => by omega))
      clear hv hvf hvo hro hC hCt
      go_wp2
      exact bodyPost_ret (v := .agg #[.slice p0 c.vars.length q0, .slice p1 c.arrays.length q1, .slice (some ⟨gL, 0, none⟩) c.list.length cL]) (by simp [results, Try.results97, go_sem, z0, z1, z2]) rfl (by exact ⟨_, _, rfl, zB, zV, zC⟩)
end Go.Proofs.Ytkbbpnfhenoihaa
