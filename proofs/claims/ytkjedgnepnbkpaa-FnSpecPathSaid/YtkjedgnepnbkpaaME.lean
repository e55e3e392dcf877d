/-
  Parts of the proof of the law FnSpecPath.
-/
import Derived.Test.YtkjedgnepnbkpaaRS
import Derived.Test.YtkjedgnepnbkpaaZ
set_option linter.all false
namespace Go.Proofs.Ytkjedgnepnbkpaa
open Go.RowKit

theorem clone2_any (v : Value) (n : Nat) (vs : List Value) (w : World) (hr : Reads w 1 v n vs) (h1 : ∀ u ∈ vs, u.oneCell' = true) (hsz : n ≤ 1073741824) :
    Calls Try.prog 154 #[v] w fun e w' => ∃ u, e = .returned u ∧ w'.ownsRow w.heap.size 23 1 u n vs ∧ Below w.heap.size w w' := by
  have hr0 := hr
  have heq := fun w a n c => Lib.run_eql_slice_nil (P := Try.prog) w 35 23 a n c 0 0 Try.underlying35
  obtain ⟨hl, hn, a, cap, b, off, rfl, ⟨hcap, hnil⟩, ha, hca⟩ := hr
  cases a with
  | none =>
    have h0 := hnil rfl
    have h2 : vs = [] := List.eq_nil_of_length_eq_zero (by omega)
    have h3 : n = 0 := by omega
    subst h2 h0 h3
    go_enter Try.func154, Try.ntmps154
    go_wp2
    go_ret
    exact ⟨_, rfl, World.ownsRow_nil _ _ _ _, Below.refl _ _⟩
  | some a =>
    have hown := own_nil_made w 23
    have hr1 := hr0.below ((Below.refl w.heap.size w).alloc (Nat.le_refl _) (.cells #[] 23))
    have HL := Lib.hid hl
    clear hr0 ha hca hnil hl
    go_enter Try.func154, Try.ntmps154
    go_wp2_with (at_builtin; refine wpList_aps tIntSS rfl _ _ rfl w.heap.size _ 0 [] rfl hown _ _ _ rfl hr1 h1 (by omega) ?c1 ?_)
    case c1 => simp
    · intro v' w' ho' hc' hn' _
      have hb := ((Below.refl w.heap.size w).alloc (Nat.le_refl _) (.cells #[] 23)).trans (hc'.below w.heap.size (by simp) (fun k hk => not_own hown hk))
      obtain ⟨pa, pc, rfl⟩ := Oh ho'
      clear hc' hn' heq hown
      go_wp2
      go_ret
      exact ⟨_, rfl, ho', hb⟩



set_option maxHeartbeats 6400000 in
theorem memOwn_any (vx vy : Value) (m : Mm) (w : World) (hx : Reads w 1 vx m.vals.length (ints m.vals)) (hy : Reads2 ints w vy m.arrs) (hl : m.vals.length ≤ 1048576) (hn : m.arrs.length ≤ 1048576) (hp : pre2 m.arrs m.arrs.length ≤ 1048576) :
    Calls Try.prog 117 #[.agg #[vx, vy]] w fun e w' => ∃ ux uy us, e = .returned (.agg #[ux, uy]) ∧ w'.ownsRow w.heap.size 3 1 ux m.vals.length (ints m.vals) ∧ Own2I w' w.heap.size uy us m.arrs ∧ (∀ q, ux.ownBlock = some q → ¬ OwnB2 uy us q) ∧ Below w.heap.size w w' := by
  obtain ⟨vs, hy1, hy2⟩ := hy
  obtain ⟨a2, c2, rfl⟩ := reads_shape hx
  obtain ⟨a3, c3, rfl⟩ := reads_shape hy1
  have hone : ∀ u ∈ vs, u.oneCell' = true := by
    intro u hu
    obtain ⟨k, hk, rfl⟩ := List.getElem_of_mem hu
    have hk2 : k < m.arrs.length := by have := hy1.1; omega
    exact reads_one (hy2 k _ _ (List.getElem?_eq_getElem hk) (List.getElem?_eq_getElem hk2))
  obtain ⟨w1, hw1⟩ : ∃ X, X = (w.alloc (.cells #[.slice a2 m.vals.length c2, .slice a3 m.arrs.length c3] 37)).alloc (.cells #[.slice none 0 0, .slice none 0 0] 37) := ⟨_, rfl⟩
  have hb1 : Below w.heap.size w w1 := by rw [hw1]; exact bal (bal (Bs w) _) _
  have hz1 : w1.heap.size = w.heap.size + 1 + 1 := by rw [hw1]; simp
  have b0 : w1.cell? ⟨w.heap.size, 0, none⟩ = some (.slice a2 m.vals.length c2) := by rw [hw1]; exact Ac (Wc rfl rfl) _
  have b1 : w1.cell? ⟨w.heap.size, 1, none⟩ = some (.slice a3 m.arrs.length c3) := by rw [hw1]; exact Ac (Wc rfl rfl) _
  have f0 : w1.frozen? ⟨w.heap.size, 0, none⟩ = false := by rw [hw1]; exact Fa (by simp) (Fn rfl) _
  have f1 : w1.frozen? ⟨w.heap.size, 1, none⟩ = false := by rw [hw1]; exact Fa (by simp) (Fn rfl) _
  have r0 : w1.cell? ⟨w.heap.size + 1, 0, none⟩ = some (.slice none 0 0) := by rw [hw1]; exact Wc (by simp) rfl
  have r1 : w1.cell? ⟨w.heap.size + 1, 1, none⟩ = some (.slice none 0 0) := by rw [hw1]; exact Wc (by simp) rfl
  have q0 : w1.frozen? ⟨w.heap.size + 1, 0, none⟩ = false := by rw [hw1]; exact Fn (by simp)
  have q1 : w1.frozen? ⟨w.heap.size + 1, 1, none⟩ = false := by rw [hw1]; exact Fn (by simp)
  have k1 := Lc b1
  have k0 := Lc b0
  have HW := Lib.hid hw1
  have HZ := Lib.hid hz1
  have hz1' : w.heap.size + 2 ≤ w1.heap.size := by omega
  clear hw1 hz1
  have HX := Lib.hid (fun W (hW : Below w1.heap.size w1 W) => clone_any _ m.vals W (hx.below (btr hb1 hW)) (by omega))
  have HY := Lib.hid (fun W (hW : Below w1.heap.size w1 W) => clone2_any _ m.arrs.length vs W (hy1.below (btr hb1 hW)) hone (by omega))
  go_enter Try.func117, Try.ntmps117
  go_upto_region 1 with (fail)
  rw [← HW.out]
  clear HW
  have D := Below.drew (Bs w1)
  go_cut [10] (fun s wx => ∃ ux uy, wx.cell? ⟨w.heap.size, 0, none⟩ = some ux ∧ wx.cell? ⟨w.heap.size, 1, none⟩ = some uy ∧ wx.frozen? ⟨w.heap.size, 1, none⟩ = false ∧ wx.ownsRow w1.heap.size 3 1 ux m.vals.length (ints m.vals) ∧ wx.ownsRow w1.heap.size 23 1 uy m.arrs.length vs ∧ Chg (fun q => q = w.heap.size) w1 wx)
  case first =>
    go_region_with (first | (go_at_call 110; refine (HX.out _ (btr D by1)).mono ?_; rintro e wux ⟨ux, rfl, ox, bx1⟩; obtain ⟨pa, pc, rfl⟩ := Oh ox; have g0ux2 := Kc (btr (btr D by1) bx1) b0; have g1ux2 := Kc (btr (btr D by1) bx1) b1; have h0ux2 := Kf (btr (btr D by1) bx1) k0 f0; have h1ux2 := Kf (btr (btr D by1) bx1) k0 f1; have kkux2 := Lc g0ux2) | (go_at_call 110; refine (HX.out _ D).mono ?_; rintro e wux ⟨ux, rfl, ox, bx1⟩; obtain ⟨pa, pc, rfl⟩ := Oh ox; have g0ux1 := Kc (btr D bx1) b0; have g1ux1 := Kc (btr D bx1) b1; have h0ux1 := Kf (btr D bx1) k0 f0; have h1ux1 := Kf (btr D bx1) k0 f1; have kkux1 := Lc g0ux1) | (go_at_call 154; refine (HY.out _ (btr D bx1)).mono ?_; rintro e wuy ⟨uy, rfl, oy, by1⟩; obtain ⟨pb, pd, rfl⟩ := Oh oy; have g0uy2 := Kc (btr (btr D bx1) by1) b0; have g1uy2 := Kc (btr (btr D bx1) by1) b1; have h0uy2 := Kf (btr (btr D bx1) by1) k0 f0; have h1uy2 := Kf (btr (btr D bx1) by1) k0 f1; have kkuy2 := Lc g0uy2) | (go_at_call 154; refine (HY.out _ D).mono ?_; rintro e wuy ⟨uy, rfl, oy, by1⟩; obtain ⟨pb, pd, rfl⟩ := Oh oy; have g0uy1 := Kc (btr D by1) b0; have g1uy1 := Kc (btr D by1) b1; have h0uy1 := Kf (btr D by1) k0 f0; have h1uy1 := Kf (btr D by1) k0 f1; have kkuy1 := Lc g0uy1))
    all_goals
      first
      | (have E := btr (btr D bx1) by1
         have ox2 := Ob ox by1
         have oy2 := oy
         have g02 := g0uy2
         have g12 := g1uy2
         have h12 := h1uy2
         have hzx := E.size
         have hs1 := bx1.size
         have x0 := Nc (b := w.heap.size) (j := 1) (Tc _ w.heap.size 0 (.slice pa m.vals.length pc) g02) (by omega) (.slice pb m.arrs.length pd)
         have x1 := Tc _ w.heap.size 1 (.slice pb m.arrs.length pd) (Nc (b := w.heap.size) (j := 0) g12 (by omega) (.slice pa m.vals.length pc))
         have xf := Fs (b := ⟨w.heap.size, 1, none⟩) (Fs (b := ⟨w.heap.size, 0, none⟩) h12 (.slice pa m.vals.length pc)) (.slice pb m.arrs.length pd)
         have yx := Om ox2 (base' := w1.heap.size) (by have := D.size; omega)
         have yy := Om oy2 (base' := w1.heap.size) (by have := D.size; omega)
         have lx := yx.lt
         have ly := yy.lt
         have zx := Oe (Oe yx w.heap.size 0 (fun h => by have := lx _ h; omega) (.slice pa m.vals.length pc)) w.heap.size 1 (fun h => by have := lx _ h; omega) (.slice pb m.arrs.length pd)
         have zy := Oe (Oe yy w.heap.size 0 (fun h => by have := ly _ h; omega) (.slice pa m.vals.length pc)) w.heap.size 1 (fun h => by have := ly _ h; omega) (.slice pb m.arrs.length pd)
         have zc := ((Chg.of_below (S := fun q => q = w.heap.size) E).setCell w.heap.size 0 (.slice pa m.vals.length pc) (fun _ => rfl)).setCell w.heap.size 1 (.slice pb m.arrs.length pd) (fun _ => rfl)
         go_wp2_with fail
         go_meet
         exact ⟨_, _, x0, x1, xf, zx, zy, zc⟩)
      | (have E := btr (btr D by1) bx1
         have ox2 := ox
         have oy2 := Ob oy bx1
         have g02 := g0ux2
         have g12 := g1ux2
         have h12 := h1ux2
         have hzx := E.size
         have hs1 := by1.size
         have x0 := Nc (b := w.heap.size) (j := 1) (Tc _ w.heap.size 0 (.slice pa m.vals.length pc) g02) (by omega) (.slice pb m.arrs.length pd)
         have x1 := Tc _ w.heap.size 1 (.slice pb m.arrs.length pd) (Nc (b := w.heap.size) (j := 0) g12 (by omega) (.slice pa m.vals.length pc))
         have xf := Fs (b := ⟨w.heap.size, 1, none⟩) (Fs (b := ⟨w.heap.size, 0, none⟩) h12 (.slice pa m.vals.length pc)) (.slice pb m.arrs.length pd)
         have yx := Om ox2 (base' := w1.heap.size) (by have := D.size; omega)
         have yy := Om oy2 (base' := w1.heap.size) (by have := D.size; omega)
         have lx := yx.lt
         have ly := yy.lt
         have zx := Oe (Oe yx w.heap.size 0 (fun h => by have := lx _ h; omega) (.slice pa m.vals.length pc)) w.heap.size 1 (fun h => by have := lx _ h; omega) (.slice pb m.arrs.length pd)
         have zy := Oe (Oe yy w.heap.size 0 (fun h => by have := ly _ h; omega) (.slice pa m.vals.length pc)) w.heap.size 1 (fun h => by have := ly _ h; omega) (.slice pb m.arrs.length pd)
         have zc := ((Chg.of_below (S := fun q => q = w.heap.size) E).setCell w.heap.size 0 (.slice pa m.vals.length pc) (fun _ => rfl)).setCell w.heap.size 1 (.slice pb m.arrs.length pd) (fun _ => rfl)
         go_wp2_with fail
         go_meet
         exact ⟨_, _, x0, x1, xf, zx, zy, zc⟩)
  obtain ⟨w2, rfl⟩ : ∃ W, W = wc := ⟨_, rfl⟩
  obtain ⟨ux, uy, c0, c1, cf, ox, oy, hC⟩ := hcut
  have hz2 := hC.size
  obtain ⟨pa, pc, rfl⟩ := Oh ox
  obtain ⟨pb, pd, rfl⟩ := Oh oy
  have s0 := Gc hC r0 (by omega)
  have s1 := Gc hC r1 (by omega)
  have t0 := Gf hC (by omega) q0 (by omega)
  have t1 := Gf hC (by omega) q1 (by omega)
  have tot := hb1.trans (hC.below w.heap.size hb1.size (fun q hq h => by omega))
  have lx := ox.lt
  have ly := oy.lt
  have hxy := own_diff ox oy (by decide)
  have HCL := Lib.hid (fun (k : Nat) (u : Value) (r : List Int) (hu : vs[k]? = some u) (hr : m.arrs[k]? = some r) W (hW : Below w.heap.size w W) => clone_any u r W ((hy2 k u r hu hr).below hW) (by obtain ⟨hk, rfl⟩ := List.getElem?_eq_some_iff.1 hr; have := pre2_all m.arrs k hk m.arrs.length hk; omega))
  have hvl := hy1.1
  have kc := Lc c1
  clear HX HY hx hy1 hy2 D b0 b1 f0 f1 r0 r1 q0 q1 hC
  go_wp2_with fail
  go_loopw [16] (fun t wr => ∃ i : Nat, i ≤ m.arrs.length ∧ t = .int .i64 i ∧ (∃ us : List Value, us.length = i ∧ wr.ownsRow w1.heap.size 23 1 (.slice pb m.arrs.length pd) m.arrs.length (us ++ vs.drop i) ∧ (∀ (k : Nat) (u : Value) (r : List Int), us[k]? = some u → m.arrs[k]? = some r → wr.ownsRow w2.heap.size 3 1 u r.length (ints r)) ∧ (∀ (j k : Nat) (u u' : Value), us[j]? = some u → us[k]? = some u' → j ≠ k → ∀ q, u.ownBlock = some q → u'.ownBlock = some q → False)) ∧ Chg (fun q => (Value.slice pb m.arrs.length pd).ownBlock = some q) w2 wr) (fun t _ => m.arrs.length - (intOf t).toNat)
  case atStart => exact ⟨0, Nat.zero_le _, rfl, ⟨[], rfl, by simpa using oy, fun k u r h => by simp at h, fun j k u u' h => by simp at h⟩, Chg.refl _ _⟩
  case round =>
    obtain ⟨i, hi, rfl, ⟨us, hus, hrow, hrs, hap⟩, hC⟩ := hrel
    have hzr := hC.size
    have hB := tot.trans (hC.below w.heap.size tot.size (fun q hq h => by have := ly q h; omega))
    have c1r := Gc hC c1 (fun h => by have := ly _ h; omega)
    have kcr := Lc c1r
    by_cases hlt : i < m.arrs.length
    · have hiv : i < vs.length := by omega
      have hget : (us ++ vs.drop i)[i]? = some vs[i] := by rw [List.getElem?_append_right (by omega), hus, Nat.sub_self, List.getElem?_drop, Nat.add_zero, List.getElem?_eq_getElem hiv]
      obtain ⟨g, c', hgv⟩ := own_pos hrow (by omega)
      simp only [Value.slice.injEq, true_and] at hgv
      obtain ⟨rfl, rfl⟩ := hgv
      have hcell := hrow.cellAt i (by omega)
      rw [hget] at hcell
      have hfr := hrow.frozenAt i
      have HK := Lib.hid (HCL.out i _ _ (List.getElem?_eq_getElem hiv) (List.getElem?_eq_getElem hlt))
      have kg := Lc hcell
      have HSV := Lib.hid (fun u' => set_dropped us vs u' i hus hiv)
      have HUS := Lib.hid hus
      have hlg := ly g rfl
      have HAI := Lib.hid (List.getElem?_eq_getElem hlt)
      generalize vs[i] = u at *
      generalize m.arrs[i] = r at *
      clear hget hus c1 kc
      go_upto_region 5 with (fail)
      have D := Below.drew (Bs wr)
      go_region_with (go_at_call 110; refine (HK.out _ (btr hB D)).mono ?_; rintro e wb ⟨un, rfl, on, bb⟩; obtain ⟨pn, qn, rfl⟩ := Oh on; have z0 := Kc (btr D bb) hcell; have z1 := Kf (btr D bb) kg hfr; have zs := bb.size; have zc := Kc (btr D bb) c1r)
      all_goals
        have E := btr D bb
        have hst := ((Ob hrow E).stored i (.slice pn r.length qn)).1
        rw [HSV.out] at hst
        have lon := on.lt
        have hds := D.size
        have onn := Oe (Om on (base' := w2.heap.size) (by omega)) g i (fun h => by have := lon _ h; omega) (.slice pn r.length qn)
        have hCC := (hC.trans (Chg.of_below (S := fun q => (Value.slice (some ⟨g, 0, none⟩) m.arrs.length pd).ownBlock = some q) E)).setCell g i (.slice pn r.length qn) (fun _ => rfl)
        have HR2 := Lib.hid (fun (k : Nat) (x : Value) (y : List Int) (hx : (us ++ [Value.slice pn r.length qn])[k]? = some x) (hy : m.arrs[k]? = some y) => show ((wb.setCell ⟨g, i, none⟩ (.slice pn r.length qn)).ownsRow w2.heap.size 3 1 x y.length (ints y)) from by
          by_cases hk : k < us.length
          · rw [List.getElem?_append_left hk] at hx
            have h1 := Ob (hrs k x y hx hy) E
            exact Oe h1 g i (fun h => by have := h1.lt _ h; omega) (.slice pn r.length qn)
          · have e : k = us.length := by
              have h2 := (List.getElem?_eq_some_iff.1 hx).1
              simp at h2; omega
            subst e
            rw [List.getElem?_append_right (Nat.le_refl _), Nat.sub_self] at hx
            obtain rfl := Option.some.inj hx
            rw [HUS.out, HAI.out] at hy
            obtain rfl := Option.some.inj hy
            exact onn)
        have HA2 := Lib.hid (fun (j k : Nat) (x y : Value) (hx : (us ++ [Value.slice pn r.length qn])[j]? = some x) (hy : (us ++ [Value.slice pn r.length qn])[k]? = some y) (hjk : j ≠ k) (q : Nat) (h1 : x.ownBlock = some q) (h2 : y.ownBlock = some q) => show False from by
          have sp : ∀ (a : Nat) (z : Value), (us ++ [Value.slice pn r.length qn])[a]? = some z → us[a]? = some z ∨ (a = us.length ∧ z = Value.slice pn r.length qn) := fun a z hz => by
            by_cases hk : a < us.length
            · rw [List.getElem?_append_left hk] at hz; exact Or.inl hz
            · have e : a = us.length := by
                have h3 := (List.getElem?_eq_some_iff.1 hz).1
                simp at h3; omega
              subst e
              rw [List.getElem?_append_right (Nat.le_refl _), Nat.sub_self] at hz
              exact Or.inr ⟨rfl, (Option.some.inj hz).symm⟩
          have old : ∀ (a : Nat) (z : Value), us[a]? = some z → z.ownBlock = some q → q < wr.heap.size := fun a z hz h => by
            have ha : a < m.arrs.length := by have := (List.getElem?_eq_some_iff.1 hz).1; have := HUS.out; omega
            exact ((hrs a z _ hz (List.getElem?_eq_getElem ha)).lt q h).2
          rcases sp j x hx with h3 | ⟨h3, rfl⟩
          · rcases sp k y hy with h4 | ⟨h4, rfl⟩
            · exact hap j k x y h3 h4 hjk q h1 h2
            · have := old j x h3 h1; have := lon q h2; omega
          · rcases sp k y hy with h4 | ⟨h4, rfl⟩
            · have := old k y h4 h2; have := lon q h1; omega
            · exact hjk (h3.trans h4.symm))
        clear hrow hrs hap hC HK hcell hfr on
        go_wp2
        go_roundw
        case rel => exact ⟨i + 1, by omega, by go_num, ⟨us ++ [.slice pn r.length qn], by rw [List.length_append, HUS.out]; rfl, hst, HR2.out, HA2.out⟩, hCC⟩
        case measure => simp [intOf]; omega
    · have e : i = m.arrs.length := by omega
      subst e
      rw [List.drop_of_length_le (by omega), List.append_nil] at hrow
      have hgn : ∀ q, (Value.slice pb m.arrs.length pd).ownBlock = some q → w1.heap.size ≤ q := fun q h => (ly q h).1
      have c0r := Gc hC c0 (fun h => by have := hgn _ h; omega)
      have s0r := Gc hC s0 (fun h => by have := hgn _ h; omega)
      have s1r := Gc hC s1 (fun h => by have := hgn _ h; omega)
      have t0r := Gf hC (by omega) t0 (fun h => by have := hgn _ h; omega)
      have t1r := Gf hC (by omega) t1 (fun h => by have := hgn _ h; omega)
      have oxr := Ow ox hC (fun q h h2 => hxy q h h2)
      have lxr := oxr.lt
      have z0 := Nc (b := w.heap.size + 1) (j := 1) (Tc _ (w.heap.size + 1) 0 (.slice pa m.vals.length pc) s0r) (by omega) (.slice pb m.arrs.length pd)
      have z1 := Tc _ (w.heap.size + 1) 1 (.slice pb m.arrs.length pd) (Nc (b := w.heap.size + 1) (j := 0) s1r (by omega) (.slice pa m.vals.length pc))
      have O2 : Own2I wr w1.heap.size (.slice pb m.arrs.length pd) us m.arrs := ⟨hus, hrow, fun k u r h1 h2 => Om (hrs k u r h1 h2) (by omega), hap⟩
      have lO := O2.lt
      have hCR : Chg (fun q => q = w.heap.size + 1) wr ((wr.setCell ⟨w.heap.size + 1, 0, none⟩ (.slice pa m.vals.length pc)).setCell ⟨w.heap.size + 1, 1, none⟩ (.slice pb m.arrs.length pd)) := ((Chg.refl (fun q => q = w.heap.size + 1) wr).setCell (w.heap.size + 1) 0 (.slice pa m.vals.length pc) (fun _ => rfl)).setCell (w.heap.size + 1) 1 (.slice pb m.arrs.length pd) (fun _ => rfl)
      have O3 := (O2.keep hCR (fun q h h2 => by have := lO q h; omega)).mono (base' := w.heap.size) (by omega)
      have ox3 := Om (Ow oxr hCR (fun q h h2 => by have := lxr q h; omega)) (base' := w.heap.size) (by omega)
      have hap2 : ∀ q, (Value.slice pa m.vals.length pc).ownBlock = some q → ¬ OwnB2 (.slice pb m.arrs.length pd) us q := by
        rintro q h (h2 | ⟨k, u, hu, h2⟩)
        · exact hxy q h h2
        · have hk : k < m.arrs.length := by have := (List.getElem?_eq_some_iff.1 hu).1; omega
          have h3 := (hrs k u _ hu (List.getElem?_eq_getElem hk)).lt q h2
          have h4 := lx q h
          omega
      have zB := bst (bst hB (w.heap.size + 1) 0 (by omega) (.slice pa m.vals.length pc)) (w.heap.size + 1) 1 (by omega) (.slice pb m.arrs.length pd)
      have HE := Lib.hid (And.intro ox3 (And.intro O3 (And.intro hap2 zB)))
      clear hrow hrs hap O2 O3 ox3 oxr hCR hC hap2 zB hus
      go_wp2
      exact bodyPost_ret (v := .agg #[.slice pa m.vals.length pc, .slice pb m.arrs.length pd]) (by simp [results, Try.results117, go_sem, z0, z1]) rfl (by exact ⟨_, _, _, rfl, HE.out.1, HE.out.2.1, HE.out.2.2.1, HE.out.2.2.2⟩)
end Go.Proofs.Ytkjedgnepnbkpaa
