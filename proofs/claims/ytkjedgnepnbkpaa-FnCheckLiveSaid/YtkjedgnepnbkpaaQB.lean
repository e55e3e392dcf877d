/-
 Parts of the proofs of the laws FnCheckLive, FnFinalRegs, FnLiveRegister, FnLiveRegs.
-/
import Derived.Test.YtkjedgnepnbkpaaPZ
import Derived.Test.YtkjedgnepnbkpaaQA
set_option linter.all false
namespace Go.Proofs.Ytkjedgnepnbkpaa
open Go.RowKit

set_option maxHeartbeats 6400000 in
set_option maxRecDepth 100000 in
theorem l2Stmt_of (pv pa : Option Addr) (nv cv na ca : Nat) (vb : Value) (A : Nat → Prop) (d : Nat) (hd : d ≤ 5) (Hb : ∀ (D : Nat) (u : Value) (L : List St) (w : World), BlAt w A D u L → Calls Try.prog 165 #[.agg #[.slice pv nv cv, .slice pa na ca, vb], u, .int .i64 d] w fun r w' => r = .returned (.bool (L.all (stOk nv na d))) ∧ Below w.heap.size w w')
  (D : Nat) (n : Sn) (s : St) (w : World) (hx : StAt w A D n s) :
  Calls Try.prog 170 #[.agg #[.slice pv nv cv, .slice pa na ca, vb], .agg #[.int .i64 n.k, .int .i64 n.t, .int .i64 n.ix.k, .int .i64 n.ix.v, .slice n.ix.p n.ix.n n.ix.c, .int .i64 n.val.k, .int .i64 n.val.v, .slice n.val.p n.val.n n.val.c, .int .i64 n.c, .slice n.bp n.bn n.bc, .slice n.ep n.en n.ec], .int .i64 ((d + 1 : Nat) : Int)] w fun r w' => r = .returned (.bool (stOk nv na (d + 1) s)) ∧ Below w.heap.size w w' := by
 cases D with
 | zero => cases hx
 | succ D =>
  obtain ⟨k, t, ix, val, c, body, els⟩ := s
  have HX := Lib.hid (fun W (hW : Below w.heap.size w W) => StAt.keep (S := fun _ => False) (Chg.of_below hW) (fun _ _ _ => id) (fun _ h _ => h) (Nat.le_refl _) hx)
  obtain ⟨h1, h2, h3, ⟨D1, h4⟩, ⟨D2, h5⟩, h6, h7⟩ := hx
  have s4 := h4.shape; have s5 := h5.shape
  obtain ⟨_, _, s6⟩ := h6.shape; obtain ⟨_, _, s7⟩ := h7.shape
  have HRI := Lib.hid (fun W (hW : Below w.heap.size w W) => l2Right_any pv pa nv cv na ca vb A D1 n.ix ix W (h4.below hW))
  have HRV := Lib.hid (fun W (hW : Below w.heap.size w W) => l2Right_any pv pa nv cv na ca vb A D2 n.val val W (h5.below hW))
  have HBB := Lib.hid (fun W (hW : Below w.heap.size w W) => Hb D _ body W (BlAt.below h6 hW))
  have HBE := Lib.hid (fun W (hW : Below w.heap.size w W) => Hb D _ els W (BlAt.below h7 hW))
  have HPT := Lib.hid (fun W => l2Parts_any n W)
  obtain ⟨nk, nt, nix, nval, nc, bp, bn, bc, ep, en, ec⟩ := n
  obtain ⟨ik, iv, ip, im, ic⟩ := nix
  obtain ⟨jk, jv, jp, jm, jc⟩ := nval
  simp only [Value.slice.injEq] at *
  obtain ⟨rfl, rfl, rfl⟩ := s6; obtain ⟨rfl, rfl, rfl⟩ := s7
  subst h1 h2 h3
  have e1 : noneN ⟨ik, iv, ip, im, ic⟩ = noneE ix := by unfold noneN noneE; simp only; rw [s4.1, s4.2.1, s4.2.2]
  have e2 : noneN ⟨jk, jv, jp, jm, jc⟩ = noneE val := by unfold noneN noneE; simp only; rw [s5.1, s5.2.1, s5.2.2]
  have HQ : Hid (stOk nv na (d + 1) (.mk nk nt ix val nc body els) = (partsN ⟨nk, nt, ⟨ik, iv, ip, im, ic⟩, ⟨jk, jv, jp, jm, jc⟩, nc, bp, body.length, bc, ep, els.length, ec⟩ && (if (nk == 1 || nk == 5) = true then decide (0 ≤ nt) && (decide (nt < nv) && exRight nv na val)
   else if (nk == 2) = true then decide (0 ≤ nt) && (decide (nt < na) && (exRight nv na ix && (atomK ik && exRight nv na val)))
   else if (nk == 3) = true then exRight nv na val && (body.all (stOk nv na d) && els.all (stOk nv na d))
   else if (nk == 4) = true then body.all (stOk nv na d) else false))) := Lib.hid (by
   show (partsS nk nt ix val nc body els && _) = _
   unfold partsN partsS
   simp only
   rw [e1, e2, ← s4.1])
  clear h4 h5 h6 h7 s4 s5 e1 e2 HX Hb
  generalize stOk nv na (d + 1) _ = G at *
  generalize partsN _ = PN at *
  generalize exRight nv na val = RV at *
  generalize exRight nv na ix = RI at *
  generalize body.all (stOk nv na d) = BB at *
  generalize els.all (stOk nv na d) = BE at *
  have q1 : decide ((d : Int) + 1 < 1) = false := decide_eq_false (by omega)
  have q2 : (1 : Int) ≤ (d : Int) + 1 := by omega
  go_enter Try.func170, Try.ntmps170
  go_wp2_with fail
  refine (HPT.out _).mono ?_
  rintro e w1 ⟨rfl, hb⟩
  have hsz1 := hb.size
  simp only [Sa] at hsz1
  have bk2 : Bk w1 (w.heap.size) [.slice pv nv cv, .slice pa na ca, vb] := Bk.below (Bk.al (Bk.nw (by simp) rfl) (.cells #[.int .i64 nk, .int .i64 nt, .int .i64 ik, .int .i64 iv, .slice ip im ic, .int .i64 jk, .int .i64 jv, .slice jp jm jc, .int .i64 nc, .slice bp body.length bc, .slice ep els.length ec] 163)) hb
  have bk3 : Bk w1 (w.heap.size + 1) [.int .i64 nk, .int .i64 nt, .int .i64 ik, .int .i64 iv, .slice ip im ic, .int .i64 jk, .int .i64 jv, .slice jp jm jc, .int .i64 nc, .slice bp body.length bc, .slice ep els.length ec] := Bk.below (Bk.nw (by simp) rfl) hb
  have tot := btr (bal (bal (Bs w) (.cells #[.slice pv nv cv, .slice pa na ca, vb] 110)) (.cells #[.int .i64 nk, .int .i64 nt, .int .i64 ik, .int .i64 iv, .slice ip im ic, .int .i64 jk, .int .i64 jv, .slice jp jm jc, .int .i64 nc, .slice bp body.length bc, .slice ep els.length ec] 163)) hb
  clear hb
  have lt4 := Bk.lz bk2
  have lt5 := Bk.lz bk3
  cases PN with
  | false =>
   have HB : Hid (G = false) := Lib.hid (by rw [HQ.out]; simp [])
   clear HQ
   have tt := tot
   go_wp2
   exact bodyPost_ret (v := .bool false) (by simp [results, Try.results170, go_sem]) rfl (by exact by rw [HB.out]; exact ⟨rfl, tt⟩)
  | true =>
   by_cases hk1 : (nk == 1) = true
   ·skip
    have hk5 : ¬ (nk == 5) = true := by have : nk = 1 := (by simpa using hk1); subst this; decide
    have hk2 : ¬ (nk == 2) = true := by have : nk = 1 := (by simpa using hk1); subst this; decide
    have hk3 : ¬ (nk == 3) = true := by have : nk = 1 := (by simpa using hk1); subst this; decide
    have hk4 : ¬ (nk == 4) = true := by have : nk = 1 := (by simpa using hk1); subst this; decide
    by_cases ht0 : 0 ≤ nt
    ·skip
     by_cases htv : nt < (nv : Int)
     ·skip
      obtain ⟨tc6, tf7⟩ := Bk.cf bk2 0 rfl
      obtain ⟨tc8, tf9⟩ := Bk.cf bk2 1 rfl
      obtain ⟨tc10, tf11⟩ := Bk.cf bk2 2 rfl
      obtain ⟨tc12, tf13⟩ := Bk.cf bk3 0 rfl
      obtain ⟨tc14, tf15⟩ := Bk.cf bk3 1 rfl
      obtain ⟨tc16, tf17⟩ := Bk.cf bk3 5 rfl
      obtain ⟨tc18, tf19⟩ := Bk.cf bk3 6 rfl
      obtain ⟨tc20, tf21⟩ := Bk.cf bk3 7 rfl
      go_wp2_with fail
      refine (HRV.out _ tot).mono ?_
      rintro e w2 ⟨rfl, hb⟩
      have hsz22 := hb.size
      clear tf7 tc6 tf9 tc8 tf11 tc10 tf13 tc12 tf15 tc14 tf17 tc16 tf19 tc18 tf21 tc20
      replace bk2 := Bk.below bk2 hb
      replace bk3 := Bk.below bk3 hb
      replace tot := btr tot hb
      clear hb
      clear bk2 bk3
      clear lt4 lt5
      cases RV with
      | false =>
       have HB : Hid (G = false) := Lib.hid (by rw [HQ.out]; simp [hk1, hk5, hk2, hk3, hk4, ht0, htv])
       clear HQ
       have tt := tot
       go_wp2
       exact bodyPost_ret (v := .bool false) (by simp [results, Try.results170, go_sem]) rfl (by exact by rw [HB.out]; exact ⟨rfl, tt⟩)
      | true =>
       have HB : Hid (G = true) := Lib.hid (by rw [HQ.out]; simp [hk1, hk5, hk2, hk3, hk4, ht0, htv])
       clear HQ
       have tt := tot
       go_wp2
       exact bodyPost_ret (v := .bool true) (by simp [results, Try.results170, go_sem]) rfl (by exact by rw [HB.out]; exact ⟨rfl, tt⟩)
     ·skip
      have HB : Hid (G = false) := Lib.hid (by rw [HQ.out]; simp [hk1, hk5, hk2, hk3, hk4, ht0, htv])
      clear HQ
      obtain ⟨tc23, tf24⟩ := Bk.cf bk2 0 rfl
      obtain ⟨tc25, tf26⟩ := Bk.cf bk3 0 rfl
      obtain ⟨tc27, tf28⟩ := Bk.cf bk3 1 rfl
      have tt := tot
      go_wp2
      exact bodyPost_ret (v := .bool false) (by simp [results, Try.results170, go_sem]) rfl (by exact by rw [HB.out]; exact ⟨rfl, tt⟩)
    ·skip
     have HB : Hid (G = false) := Lib.hid (by rw [HQ.out]; simp [hk1, hk5, hk2, hk3, hk4, ht0])
     clear HQ
     obtain ⟨tc29, tf30⟩ := Bk.cf bk3 0 rfl
     obtain ⟨tc31, tf32⟩ := Bk.cf bk3 1 rfl
     have tt := tot
     go_wp2
     exact bodyPost_ret (v := .bool false) (by simp [results, Try.results170, go_sem]) rfl (by exact by rw [HB.out]; exact ⟨rfl, tt⟩)
   ·skip
    by_cases hk5 : (nk == 5) = true
    ·skip
     have hk2 : ¬ (nk == 2) = true := by have : nk = 5 := (by simpa using hk5); subst this; decide
     have hk3 : ¬ (nk == 3) = true := by have : nk = 5 := (by simpa using hk5); subst this; decide
     have hk4 : ¬ (nk == 4) = true := by have : nk = 5 := (by simpa using hk5); subst this; decide
     by_cases ht0 : 0 ≤ nt
     ·skip
      by_cases htv : nt < (nv : Int)
      ·skip
       obtain ⟨tc33, tf34⟩ := Bk.cf bk2 0 rfl
       obtain ⟨tc35, tf36⟩ := Bk.cf bk2 1 rfl
       obtain ⟨tc37, tf38⟩ := Bk.cf bk2 2 rfl
       obtain ⟨tc39, tf40⟩ := Bk.cf bk3 0 rfl
       obtain ⟨tc41, tf42⟩ := Bk.cf bk3 1 rfl
       obtain ⟨tc43, tf44⟩ := Bk.cf bk3 5 rfl
       obtain ⟨tc45, tf46⟩ := Bk.cf bk3 6 rfl
       obtain ⟨tc47, tf48⟩ := Bk.cf bk3 7 rfl
       go_wp2_with fail
       refine (HRV.out _ tot).mono ?_
       rintro e w2 ⟨rfl, hb⟩
       have hsz49 := hb.size
       clear tf34 tc33 tf36 tc35 tf38 tc37 tf40 tc39 tf42 tc41 tf44 tc43 tf46 tc45 tf48 tc47
       replace bk2 := Bk.below bk2 hb
       replace bk3 := Bk.below bk3 hb
       replace tot := btr tot hb
       clear hb
       clear bk2 bk3
       clear lt4 lt5
       cases RV with
       | false =>
        have HB : Hid (G = false) := Lib.hid (by rw [HQ.out]; simp [hk1, hk5, hk2, hk3, hk4, ht0, htv])
        clear HQ
        have tt := tot
        go_wp2
        exact bodyPost_ret (v := .bool false) (by simp [results, Try.results170, go_sem]) rfl (by exact by rw [HB.out]; exact ⟨rfl, tt⟩)
       | true =>
        have HB : Hid (G = true) := Lib.hid (by rw [HQ.out]; simp [hk1, hk5, hk2, hk3, hk4, ht0, htv])
        clear HQ
        have tt := tot
        go_wp2
        exact bodyPost_ret (v := .bool true) (by simp [results, Try.results170, go_sem]) rfl (by exact by rw [HB.out]; exact ⟨rfl, tt⟩)
      ·skip
       have HB : Hid (G = false) := Lib.hid (by rw [HQ.out]; simp [hk1, hk5, hk2, hk3, hk4, ht0, htv])
       clear HQ
       obtain ⟨tc50, tf51⟩ := Bk.cf bk2 0 rfl
       obtain ⟨tc52, tf53⟩ := Bk.cf bk3 0 rfl
       obtain ⟨tc54, tf55⟩ := Bk.cf bk3 1 rfl
       have tt := tot
       go_wp2
       exact bodyPost_ret (v := .bool false) (by simp [results, Try.results170, go_sem]) rfl (by exact by rw [HB.out]; exact ⟨rfl, tt⟩)
     ·skip
      have HB : Hid (G = false) := Lib.hid (by rw [HQ.out]; simp [hk1, hk5, hk2, hk3, hk4, ht0])
      clear HQ
      obtain ⟨tc56, tf57⟩ := Bk.cf bk3 0 rfl
      obtain ⟨tc58, tf59⟩ := Bk.cf bk3 1 rfl
      have tt := tot
      go_wp2
      exact bodyPost_ret (v := .bool false) (by simp [results, Try.results170, go_sem]) rfl (by exact by rw [HB.out]; exact ⟨rfl, tt⟩)
    ·skip
     by_cases hk2 : (nk == 2) = true
     ·skip
      have hk3 : ¬ (nk == 3) = true := by have : nk = 2 := (by simpa using hk2); subst this; decide
      have hk4 : ¬ (nk == 4) = true := by have : nk = 2 := (by simpa using hk2); subst this; decide
      by_cases ht0 : 0 ≤ nt
      ·skip
       by_cases hta : nt < (na : Int)
       ·skip
        obtain ⟨tc60, tf61⟩ := Bk.cf bk2 0 rfl
        obtain ⟨tc62, tf63⟩ := Bk.cf bk2 1 rfl
        obtain ⟨tc64, tf65⟩ := Bk.cf bk2 2 rfl
        obtain ⟨tc66, tf67⟩ := Bk.cf bk3 0 rfl
        obtain ⟨tc68, tf69⟩ := Bk.cf bk3 1 rfl
        obtain ⟨tc70, tf71⟩ := Bk.cf bk3 2 rfl
        obtain ⟨tc72, tf73⟩ := Bk.cf bk3 3 rfl
        obtain ⟨tc74, tf75⟩ := Bk.cf bk3 4 rfl
        go_wp2_with fail
        refine (HRI.out _ tot).mono ?_
        rintro e w2 ⟨rfl, hb⟩
        have hsz76 := hb.size
        clear tf61 tc60 tf63 tc62 tf65 tc64 tf67 tc66 tf69 tc68 tf71 tc70 tf73 tc72 tf75 tc74
        replace bk2 := Bk.below bk2 hb
        replace bk3 := Bk.below bk3 hb
        replace tot := btr tot hb
        clear hb
        replace lt4 := Bk.lz bk2
        replace lt5 := Bk.lz bk3
        cases RI with
        | false =>
         have HB : Hid (G = false) := Lib.hid (by rw [HQ.out]; simp [hk1, hk5, hk2, hk3, hk4, ht0, hta])
         clear HQ
         have tt := tot
         go_wp2
         exact bodyPost_ret (v := .bool false) (by simp [results, Try.results170, go_sem]) rfl (by exact by rw [HB.out]; exact ⟨rfl, tt⟩)
        | true =>
         obtain ⟨tc77, tf78⟩ := Bk.cf bk3 2 rfl
         obtain ⟨tc79, tf80⟩ := Bk.cf bk3 3 rfl
         obtain ⟨tc81, tf82⟩ := Bk.cf bk3 4 rfl
         go_wp2_with fail
         refine (l2Atom_any _ _ _ _).mono ?_
         rintro e w3 ⟨rfl, hb⟩
         have hsz83 := hb.size
         clear tf78 tc77 tf80 tc79 tf82 tc81
         replace bk2 := Bk.below bk2 hb
         replace bk3 := Bk.below bk3 hb
         replace tot := btr tot hb
         clear hb
         replace lt4 := Bk.lz bk2
         replace lt5 := Bk.lz bk3
         cases hat : atomK ik with
         | false =>
          have HB : Hid (G = false) := Lib.hid (by rw [HQ.out]; simp [hk1, hk5, hk2, hk3, hk4, ht0, hta, hat])
          clear HQ
          have tt := tot
          go_wp2
          exact bodyPost_ret (v := .bool false) (by simp [results, Try.results170, go_sem]) rfl (by exact by rw [HB.out]; exact ⟨rfl, tt⟩)
         | true =>
          obtain ⟨tc84, tf85⟩ := Bk.cf bk2 0 rfl
          obtain ⟨tc86, tf87⟩ := Bk.cf bk2 1 rfl
          obtain ⟨tc88, tf89⟩ := Bk.cf bk2 2 rfl
          obtain ⟨tc90, tf91⟩ := Bk.cf bk3 5 rfl
          obtain ⟨tc92, tf93⟩ := Bk.cf bk3 6 rfl
          obtain ⟨tc94, tf95⟩ := Bk.cf bk3 7 rfl
          go_wp2_with fail
          refine (HRV.out _ tot).mono ?_
          rintro e w4 ⟨rfl, hb⟩
          have hsz96 := hb.size
          clear tf85 tc84 tf87 tc86 tf89 tc88 tf91 tc90 tf93 tc92 tf95 tc94
          replace bk2 := Bk.below bk2 hb
          replace bk3 := Bk.below bk3 hb
          replace tot := btr tot hb
          clear hb
          clear bk2 bk3
          clear lt4 lt5
          cases RV with
          | false =>
           have HB : Hid (G = false) := Lib.hid (by rw [HQ.out]; simp [hk1, hk5, hk2, hk3, hk4, ht0, hta, hat])
           clear HQ
           have tt := tot
           go_wp2
           exact bodyPost_ret (v := .bool false) (by simp [results, Try.results170, go_sem]) rfl (by exact by rw [HB.out]; exact ⟨rfl, tt⟩)
          | true =>
           have HB : Hid (G = true) := Lib.hid (by rw [HQ.out]; simp [hk1, hk5, hk2, hk3, hk4, ht0, hta, hat])
           clear HQ
           have tt := tot
           go_wp2
           exact bodyPost_ret (v := .bool true) (by simp [results, Try.results170, go_sem]) rfl (by exact by rw [HB.out]; exact ⟨rfl, tt⟩)
       ·skip
        have HB : Hid (G = false) := Lib.hid (by rw [HQ.out]; simp [hk1, hk5, hk2, hk3, hk4, ht0, hta])
        clear HQ
        obtain ⟨tc97, tf98⟩ := Bk.cf bk2 1 rfl
        obtain ⟨tc99, tf100⟩ := Bk.cf bk3 0 rfl
        obtain ⟨tc101, tf102⟩ := Bk.cf bk3 1 rfl
        have tt := tot
        go_wp2
        exact bodyPost_ret (v := .bool false) (by simp [results, Try.results170, go_sem]) rfl (by exact by rw [HB.out]; exact ⟨rfl, tt⟩)
      ·skip
       have HB : Hid (G = false) := Lib.hid (by rw [HQ.out]; simp [hk1, hk5, hk2, hk3, hk4, ht0])
       clear HQ
       obtain ⟨tc103, tf104⟩ := Bk.cf bk3 0 rfl
       obtain ⟨tc105, tf106⟩ := Bk.cf bk3 1 rfl
       have tt := tot
       go_wp2
       exact bodyPost_ret (v := .bool false) (by simp [results, Try.results170, go_sem]) rfl (by exact by rw [HB.out]; exact ⟨rfl, tt⟩)
     ·skip
      by_cases hk3 : (nk == 3) = true
      ·skip
       have hk4 : ¬ (nk == 4) = true := by have : nk = 3 := (by simpa using hk3); subst this; decide
       obtain ⟨tc107, tf108⟩ := Bk.cf bk2 0 rfl
       obtain ⟨tc109, tf110⟩ := Bk.cf bk2 1 rfl
       obtain ⟨tc111, tf112⟩ := Bk.cf bk2 2 rfl
       obtain ⟨tc113, tf114⟩ := Bk.cf bk3 0 rfl
       obtain ⟨tc115, tf116⟩ := Bk.cf bk3 5 rfl
       obtain ⟨tc117, tf118⟩ := Bk.cf bk3 6 rfl
       obtain ⟨tc119, tf120⟩ := Bk.cf bk3 7 rfl
       go_wp2_with fail
       refine (HRV.out _ tot).mono ?_
       rintro e w2 ⟨rfl, hb⟩
       have hsz121 := hb.size
       clear tf108 tc107 tf110 tc109 tf112 tc111 tf114 tc113 tf116 tc115 tf118 tc117 tf120 tc119
       replace bk2 := Bk.below bk2 hb
       replace bk3 := Bk.below bk3 hb
       replace tot := btr tot hb
       clear hb
       replace lt4 := Bk.lz bk2
       replace lt5 := Bk.lz bk3
       cases RV with
       | false =>
        have HB : Hid (G = false) := Lib.hid (by rw [HQ.out]; simp [hk1, hk5, hk2, hk3, hk4])
        clear HQ
        have tt := tot
        go_wp2
        exact bodyPost_ret (v := .bool false) (by simp [results, Try.results170, go_sem]) rfl (by exact by rw [HB.out]; exact ⟨rfl, tt⟩)
       | true =>
        obtain ⟨tc122, tf123⟩ := Bk.cf bk2 0 rfl
        obtain ⟨tc124, tf125⟩ := Bk.cf bk2 1 rfl
        obtain ⟨tc126, tf127⟩ := Bk.cf bk2 2 rfl
        obtain ⟨tc128, tf129⟩ := Bk.cf bk3 9 rfl
        go_wp2_with fail
        refine (HBB.out _ tot).mono ?_
        rintro e w3 ⟨rfl, hb⟩
        have hsz130 := hb.size
        clear tf123 tc122 tf125 tc124 tf127 tc126 tf129 tc128
        replace bk2 := Bk.below bk2 hb
        replace bk3 := Bk.below bk3 hb
        replace tot := btr tot hb
        clear hb
        replace lt4 := Bk.lz bk2
        replace lt5 := Bk.lz bk3
        cases BB with
        | false =>
         have HB : Hid (G = false) := Lib.hid (by rw [HQ.out]; simp [hk1, hk5, hk2, hk3, hk4])
         clear HQ
         have tt := tot
         go_wp2
         exact bodyPost_ret (v := .bool false) (by simp [results, Try.results170, go_sem]) rfl (by exact by rw [HB.out]; exact ⟨rfl, tt⟩)
        | true =>
         obtain ⟨tc131, tf132⟩ := Bk.cf bk2 0 rfl
         obtain ⟨tc133, tf134⟩ := Bk.cf bk2 1 rfl
         obtain ⟨tc135, tf136⟩ := Bk.cf bk2 2 rfl
         obtain ⟨tc137, tf138⟩ := Bk.cf bk3 10 rfl
         go_wp2_with fail
         refine (HBE.out _ tot).mono ?_
         rintro e w4 ⟨rfl, hb⟩
         have hsz139 := hb.size
         clear tf132 tc131 tf134 tc133 tf136 tc135 tf138 tc137
         replace bk2 := Bk.below bk2 hb
         replace bk3 := Bk.below bk3 hb
         replace tot := btr tot hb
         clear hb
         clear bk2 bk3
         clear lt4 lt5
         cases BE with
         | false =>
          have HB : Hid (G = false) := Lib.hid (by rw [HQ.out]; simp [hk1, hk5, hk2, hk3, hk4])
          clear HQ
          have tt := tot
          go_wp2
          exact bodyPost_ret (v := .bool false) (by simp [results, Try.results170, go_sem]) rfl (by exact by rw [HB.out]; exact ⟨rfl, tt⟩)
         | true =>
          have HB : Hid (G = true) := Lib.hid (by rw [HQ.out]; simp [hk1, hk5, hk2, hk3, hk4])
          clear HQ
          have tt := tot
          go_wp2
          exact bodyPost_ret (v := .bool true) (by simp [results, Try.results170, go_sem]) rfl (by exact by rw [HB.out]; exact ⟨rfl, tt⟩)
      ·skip
       by_cases hk4 : (nk == 4) = true
       ·skip
        obtain ⟨tc140, tf141⟩ := Bk.cf bk2 0 rfl
        obtain ⟨tc142, tf143⟩ := Bk.cf bk2 1 rfl
        obtain ⟨tc144, tf145⟩ := Bk.cf bk2 2 rfl
        obtain ⟨tc146, tf147⟩ := Bk.cf bk3 0 rfl
        obtain ⟨tc148, tf149⟩ := Bk.cf bk3 9 rfl
        go_wp2_with fail
        refine (HBB.out _ tot).mono ?_
        rintro e w2 ⟨rfl, hb⟩
        have hsz150 := hb.size
        clear tf141 tc140 tf143 tc142 tf145 tc144 tf147 tc146 tf149 tc148
        replace bk2 := Bk.below bk2 hb
        replace bk3 := Bk.below bk3 hb
        replace tot := btr tot hb
        clear hb
        clear bk2 bk3
        clear lt4 lt5
        cases BB with
        | false =>
         have HB : Hid (G = false) := Lib.hid (by rw [HQ.out]; simp [hk1, hk5, hk2, hk3, hk4])
         clear HQ
         have tt := tot
         go_wp2
         exact bodyPost_ret (v := .bool false) (by simp [results, Try.results170, go_sem]) rfl (by exact by rw [HB.out]; exact ⟨rfl, tt⟩)
        | true =>
         have HB : Hid (G = true) := Lib.hid (by rw [HQ.out]; simp [hk1, hk5, hk2, hk3, hk4])
         clear HQ
         have tt := tot
         go_wp2
         exact bodyPost_ret (v := .bool true) (by simp [results, Try.results170, go_sem]) rfl (by exact by rw [HB.out]; exact ⟨rfl, tt⟩)
       ·skip
        have HB : Hid (G = false) := Lib.hid (by rw [HQ.out]; simp [hk1, hk5, hk2, hk3, hk4])
        clear HQ
        obtain ⟨tc151, tf152⟩ := Bk.cf bk3 0 rfl
        have tt := tot
        go_wp2
        exact bodyPost_ret (v := .bool false) (by simp [results, Try.results170, go_sem]) rfl (by exact by rw [HB.out]; exact ⟨rfl, tt⟩)
end Go.Proofs.Ytkjedgnepnbkpaa
