/-
 Parts of the proofs of the laws FnCheckLive, FnFinalRegs, FnLiveRegister, FnLiveRegs.
-/
import Derived.Test.YtkjedgnepnbkpaaZ
set_option linter.all false
namespace Go.Proofs.Ytkjedgnepnbkpaa
open Go.RowKit

def noneN (n : En) : Bool := n.k == 0 && (n.v == 0 && decide (n.n = 0))
theorem l2None_node (n : En) (w : World) : Calls Try.prog 179 #[.agg #[.int .i64 n.k, .int .i64 n.v, .slice n.p n.n n.c]] w fun r w' => r = .returned (.bool (noneN n)) ∧ Below w.heap.size w w' := by
 have h := l2None_any n (.mk n.k n.v (List.replicate n.n (.mk 0 0 []))) rfl rfl (by simp [Ex.kids]) w
 have e : noneE (.mk n.k n.v (List.replicate n.n (.mk 0 0 []))) = noneN n := by simp [noneE, noneN, Ex.k, Ex.v, Ex.kids]
 rw [e] at h; exact h
/-- the fields that a statement's kind does not have are zero -/
def partsN (n : Sn) : Bool :=
 if (n.k == 3 || n.k == 4) = true then
  (n.t == 0) && (if (n.k == 4) = true then decide (n.en = 0) && (decide (1 ≤ n.c) && (decide (n.c ≤ 3) && (noneN n.ix && noneN n.val))) else (n.c == 0) && noneN n.ix)
 else decide (n.bn = 0) && (decide (n.en = 0) && ((n.c == 0) && ((n.k == 2) || noneN n.ix)))

set_option maxHeartbeats 6400000 in
set_option maxRecDepth 100000 in
theorem l2Parts_any (n : Sn) (w : World) :
  Calls Try.prog 174 #[.agg #[.int .i64 n.k, .int .i64 n.t, .int .i64 n.ix.k, .int .i64 n.ix.v, .slice n.ix.p n.ix.n n.ix.c, .int .i64 n.val.k, .int .i64 n.val.v, .slice n.val.p n.val.n n.val.c, .int .i64 n.c, .slice n.bp n.bn n.bc, .slice n.ep n.en n.ec]] w fun r w' => r = .returned (.bool (partsN n)) ∧ Below w.heap.size w w' := by
 have HQ : Hid (partsN n = if (n.k == 3 || n.k == 4) = true then
  (n.t == 0) && (if (n.k == 4) = true then decide (n.en = 0) && (decide (1 ≤ n.c) && (decide (n.c ≤ 3) && (noneN n.ix && noneN n.val))) else (n.c == 0) && noneN n.ix)
 else decide (n.bn = 0) && (decide (n.en = 0) && ((n.c == 0) && ((n.k == 2) || noneN n.ix)))) := Lib.hid rfl
 have HNI := Lib.hid (fun W => l2None_node n.ix W); have HNV := Lib.hid (fun W => l2None_node n.val W)
 obtain ⟨k, t, ix, val, c, bp, bn, bc, ep, en, ec⟩ := n
 obtain ⟨ik, iv, ip, im, ic⟩ := ix
 obtain ⟨jk, jv, jp, jm, jc⟩ := val
 simp only at *
 generalize partsN _ = G at *
 generalize noneN ⟨ik, iv, ip, im, ic⟩ = NI at *
 generalize noneN ⟨jk, jv, jp, jm, jc⟩ = NV at *
 go_enter Try.func174, Try.ntmps174
 by_cases hk3 : (k == 3) = true
 ·skip
  have hk4 : ¬ (k == 4) = true := by have : k = 3 := (by simpa using hk3); subst this; decide
  have hk2 : ¬ (k == 2) = true := by have : k = 3 := (by simpa using hk3); subst this; decide
  by_cases ht : (t == 0) = true
  ·skip
   have gt : (t != 0) = false := by rw [bne, ht]; rfl
   by_cases hc0 : (c == 0) = true
   ·skip
    go_wp2_with fail
    refine (HNI.out _).mono ?_
    rintro e w1 ⟨rfl, hb⟩
    have hsz1 := hb.size
    simp only [Sa] at hsz1
    have bk2 : Bk w1 (w.heap.size) [.int .i64 k, .int .i64 t, .int .i64 ik, .int .i64 iv, .slice ip im ic, .int .i64 jk, .int .i64 jv, .slice jp jm jc, .int .i64 c, .slice bp bn bc, .slice ep en ec] := Bk.below (Bk.nw (by simp) rfl) hb
    have tot := btr (bal (Bs w) (.cells #[.int .i64 k, .int .i64 t, .int .i64 ik, .int .i64 iv, .slice ip im ic, .int .i64 jk, .int .i64 jv, .slice jp jm jc, .int .i64 c, .slice bp bn bc, .slice ep en ec] 163)) hb
    clear hb
    clear bk2
    cases NI with
    | false =>
     have HB : Hid (G = false) := Lib.hid (by rw [HQ.out]; simp [hk3, hk4, hk2, ht, hc0])
     clear HQ
     have tt := tot
     go_wp2
     exact bodyPost_ret (v := .bool false) (by simp [results, Try.results174, go_sem]) rfl (by exact by rw [HB.out]; exact ⟨rfl, tt⟩)
    | true =>
     have HB : Hid (G = true) := Lib.hid (by rw [HQ.out]; simp [hk3, hk4, hk2, ht, hc0])
     clear HQ
     have tt := tot
     go_wp2
     exact bodyPost_ret (v := .bool true) (by simp [results, Try.results174, go_sem]) rfl (by exact by rw [HB.out]; exact ⟨rfl, tt⟩)
   ·skip
    have HB : Hid (G = false) := Lib.hid (by rw [HQ.out]; simp [hk3, hk4, hk2, ht, hc0])
    clear HQ
    have tt := (bal (Bs w) (.cells #[.int .i64 k, .int .i64 t, .int .i64 ik, .int .i64 iv, .slice ip im ic, .int .i64 jk, .int .i64 jv, .slice jp jm jc, .int .i64 c, .slice bp bn bc, .slice ep en ec] 163))
    go_wp2
    exact bodyPost_ret (v := .bool false) (by simp [results, Try.results174, go_sem]) rfl (by exact by rw [HB.out]; exact ⟨rfl, tt⟩)
  ·skip
   have gt : (t != 0) = true := by rw [bne]; simpa using ht
   have HB : Hid (G = false) := Lib.hid (by rw [HQ.out]; simp [hk3, hk4, hk2, ht])
   clear HQ
   have tt := (bal (Bs w) (.cells #[.int .i64 k, .int .i64 t, .int .i64 ik, .int .i64 iv, .slice ip im ic, .int .i64 jk, .int .i64 jv, .slice jp jm jc, .int .i64 c, .slice bp bn bc, .slice ep en ec] 163))
   go_wp2
   exact bodyPost_ret (v := .bool false) (by simp [results, Try.results174, go_sem]) rfl (by exact by rw [HB.out]; exact ⟨rfl, tt⟩)
 ·skip
  by_cases hk4 : (k == 4) = true
  ·skip
   by_cases ht : (t == 0) = true
   ·skip
    have gt : (t != 0) = false := by rw [bne, ht]; rfl
    by_cases hen : en = 0
    ·skip
     have gen : decide (0 < en) = false := by simp [hen]
     have een : ((en : Int) == 0) = true := by simp [hen]
     have Hen := Lib.hid hen; clear hen
     have zen : (en : Int) = 0 := by have := Hen.out; omega
     clear zen
     by_cases hc1 : 1 ≤ c
     ·skip
      by_cases hc3 : c ≤ 3
      ·skip
       go_wp2_with fail
       refine (HNI.out _).mono ?_
       rintro e w1 ⟨rfl, hb⟩
       have hsz3 := hb.size
       simp only [Sa] at hsz3
       have bk4 : Bk w1 (w.heap.size) [.int .i64 k, .int .i64 t, .int .i64 ik, .int .i64 iv, .slice ip im ic, .int .i64 jk, .int .i64 jv, .slice jp jm jc, .int .i64 c, .slice bp bn bc, .slice ep en ec] := Bk.below (Bk.nw (by simp) rfl) hb
       have tot := btr (bal (Bs w) (.cells #[.int .i64 k, .int .i64 t, .int .i64 ik, .int .i64 iv, .slice ip im ic, .int .i64 jk, .int .i64 jv, .slice jp jm jc, .int .i64 c, .slice bp bn bc, .slice ep en ec] 163)) hb
       clear hb
       have lt5 := Bk.lz bk4
       cases NI with
       | false =>
        have HB : Hid (G = false) := Lib.hid (by rw [HQ.out]; simp [hk3, hk4, ht, Hen.out, hc1, hc3])
        clear HQ
        have tt := tot
        go_wp2
        exact bodyPost_ret (v := .bool false) (by simp [results, Try.results174, go_sem]) rfl (by exact by rw [HB.out]; exact ⟨rfl, tt⟩)
       | true =>
        obtain ⟨tc6, tf7⟩ := Bk.cf bk4 5 rfl
        obtain ⟨tc8, tf9⟩ := Bk.cf bk4 6 rfl
        obtain ⟨tc10, tf11⟩ := Bk.cf bk4 7 rfl
        go_wp2_with fail
        refine (HNV.out _).mono ?_
        rintro e w2 ⟨rfl, hb⟩
        have hsz12 := hb.size
        clear tf7 tc6 tf9 tc8 tf11 tc10
        replace bk4 := Bk.below bk4 hb
        replace tot := btr tot hb
        clear hb
        replace lt5 := Bk.lz bk4
        cases NV with
        | false =>
         have HB : Hid (G = false) := Lib.hid (by rw [HQ.out]; simp [hk3, hk4, ht, Hen.out, hc1, hc3])
         clear HQ
         have tt := tot
         go_wp2
         exact bodyPost_ret (v := .bool false) (by simp [results, Try.results174, go_sem]) rfl (by exact by rw [HB.out]; exact ⟨rfl, tt⟩)
        | true =>
         have HB : Hid (G = true) := Lib.hid (by rw [HQ.out]; simp [hk3, hk4, ht, Hen.out, hc1, hc3])
         clear HQ
         have tt := tot
         go_wp2
         exact bodyPost_ret (v := .bool true) (by simp [results, Try.results174, go_sem]) rfl (by exact by rw [HB.out]; exact ⟨rfl, tt⟩)
      ·skip
       have HB : Hid (G = false) := Lib.hid (by rw [HQ.out]; simp [hk3, hk4, ht, Hen.out, hc1, hc3])
       clear HQ
       have tt := (bal (Bs w) (.cells #[.int .i64 k, .int .i64 t, .int .i64 ik, .int .i64 iv, .slice ip im ic, .int .i64 jk, .int .i64 jv, .slice jp jm jc, .int .i64 c, .slice bp bn bc, .slice ep en ec] 163))
       go_wp2
       exact bodyPost_ret (v := .bool false) (by simp [results, Try.results174, go_sem]) rfl (by exact by rw [HB.out]; exact ⟨rfl, tt⟩)
     ·skip
      have HB : Hid (G = false) := Lib.hid (by rw [HQ.out]; simp [hk3, hk4, ht, Hen.out, hc1])
      clear HQ
      have tt := (bal (Bs w) (.cells #[.int .i64 k, .int .i64 t, .int .i64 ik, .int .i64 iv, .slice ip im ic, .int .i64 jk, .int .i64 jv, .slice jp jm jc, .int .i64 c, .slice bp bn bc, .slice ep en ec] 163))
      go_wp2
      exact bodyPost_ret (v := .bool false) (by simp [results, Try.results174, go_sem]) rfl (by exact by rw [HB.out]; exact ⟨rfl, tt⟩)
    ·skip
     have gen : 0 < en := by omega
     have een : ((en : Int) == 0) = false := by simp; omega
     have Hen := Lib.hid hen; clear hen
     have HB : Hid (G = false) := Lib.hid (by rw [HQ.out]; simp [hk3, hk4, ht, Hen.out])
     clear HQ
     have tt := (bal (Bs w) (.cells #[.int .i64 k, .int .i64 t, .int .i64 ik, .int .i64 iv, .slice ip im ic, .int .i64 jk, .int .i64 jv, .slice jp jm jc, .int .i64 c, .slice bp bn bc, .slice ep en ec] 163))
     go_wp2
     exact bodyPost_ret (v := .bool false) (by simp [results, Try.results174, go_sem]) rfl (by exact by rw [HB.out]; exact ⟨rfl, tt⟩)
   ·skip
    have gt : (t != 0) = true := by rw [bne]; simpa using ht
    have HB : Hid (G = false) := Lib.hid (by rw [HQ.out]; simp [hk3, hk4, ht])
    clear HQ
    have tt := (bal (Bs w) (.cells #[.int .i64 k, .int .i64 t, .int .i64 ik, .int .i64 iv, .slice ip im ic, .int .i64 jk, .int .i64 jv, .slice jp jm jc, .int .i64 c, .slice bp bn bc, .slice ep en ec] 163))
    go_wp2
    exact bodyPost_ret (v := .bool false) (by simp [results, Try.results174, go_sem]) rfl (by exact by rw [HB.out]; exact ⟨rfl, tt⟩)
  ·skip
   by_cases hbn : bn = 0
   ·skip
    have gbn : decide (0 < bn) = false := by simp [hbn]
    have ebn : ((bn : Int) == 0) = true := by simp [hbn]
    have Hbn := Lib.hid hbn; clear hbn
    have zbn : (bn : Int) = 0 := by have := Hbn.out; omega
    clear zbn
    by_cases hen : en = 0
    ·skip
     have gen : decide (0 < en) = false := by simp [hen]
     have een : ((en : Int) == 0) = true := by simp [hen]
     have Hen := Lib.hid hen; clear hen
     have zen : (en : Int) = 0 := by have := Hen.out; omega
     clear zen
     by_cases hc0 : (c == 0) = true
     ·skip
      by_cases hk2 : (k == 2) = true
      ·skip
       have HB : Hid (G = true) := Lib.hid (by rw [HQ.out]; simp [hk3, hk4, Hbn.out, Hen.out, hc0, hk2])
       clear HQ
       have tt := (bal (Bs w) (.cells #[.int .i64 k, .int .i64 t, .int .i64 ik, .int .i64 iv, .slice ip im ic, .int .i64 jk, .int .i64 jv, .slice jp jm jc, .int .i64 c, .slice bp bn bc, .slice ep en ec] 163))
       go_wp2
       exact bodyPost_ret (v := .bool true) (by simp [results, Try.results174, go_sem]) rfl (by exact by rw [HB.out]; exact ⟨rfl, tt⟩)
      ·skip
       go_wp2_with fail
       refine (HNI.out _).mono ?_
       rintro e w1 ⟨rfl, hb⟩
       have hsz13 := hb.size
       simp only [Sa] at hsz13
       have bk14 : Bk w1 (w.heap.size) [.int .i64 k, .int .i64 t, .int .i64 ik, .int .i64 iv, .slice ip im ic, .int .i64 jk, .int .i64 jv, .slice jp jm jc, .int .i64 c, .slice bp bn bc, .slice ep en ec] := Bk.below (Bk.nw (by simp) rfl) hb
       have tot := btr (bal (Bs w) (.cells #[.int .i64 k, .int .i64 t, .int .i64 ik, .int .i64 iv, .slice ip im ic, .int .i64 jk, .int .i64 jv, .slice jp jm jc, .int .i64 c, .slice bp bn bc, .slice ep en ec] 163)) hb
       clear hb
       clear bk14
       cases NI with
       | false =>
        have HB : Hid (G = false) := Lib.hid (by rw [HQ.out]; simp [hk3, hk4, Hbn.out, Hen.out, hc0, hk2])
        clear HQ
        have tt := tot
        go_wp2
        exact bodyPost_ret (v := .bool false) (by simp [results, Try.results174, go_sem]) rfl (by exact by rw [HB.out]; exact ⟨rfl, tt⟩)
       | true =>
        have HB : Hid (G = true) := Lib.hid (by rw [HQ.out]; simp [hk3, hk4, Hbn.out, Hen.out, hc0, hk2])
        clear HQ
        have tt := tot
        go_wp2
        exact bodyPost_ret (v := .bool true) (by simp [results, Try.results174, go_sem]) rfl (by exact by rw [HB.out]; exact ⟨rfl, tt⟩)
     ·skip
      have HB : Hid (G = false) := Lib.hid (by rw [HQ.out]; simp [hk3, hk4, Hbn.out, Hen.out, hc0])
      clear HQ
      have tt := (bal (Bs w) (.cells #[.int .i64 k, .int .i64 t, .int .i64 ik, .int .i64 iv, .slice ip im ic, .int .i64 jk, .int .i64 jv, .slice jp jm jc, .int .i64 c, .slice bp bn bc, .slice ep en ec] 163))
      go_wp2
      exact bodyPost_ret (v := .bool false) (by simp [results, Try.results174, go_sem]) rfl (by exact by rw [HB.out]; exact ⟨rfl, tt⟩)
    ·skip
     have gen : 0 < en := by omega
     have een : ((en : Int) == 0) = false := by simp; omega
     have Hen := Lib.hid hen; clear hen
     have HB : Hid (G = false) := Lib.hid (by rw [HQ.out]; simp [hk3, hk4, Hbn.out, Hen.out])
     clear HQ
     have tt := (bal (Bs w) (.cells #[.int .i64 k, .int .i64 t, .int .i64 ik, .int .i64 iv, .slice ip im ic, .int .i64 jk, .int .i64 jv, .slice jp jm jc, .int .i64 c, .slice bp bn bc, .slice ep en ec] 163))
     go_wp2
     exact bodyPost_ret (v := .bool false) (by simp [results, Try.results174, go_sem]) rfl (by exact by rw [HB.out]; exact ⟨rfl, tt⟩)
   ·skip
    have gbn : 0 < bn := by omega
    have ebn : ((bn : Int) == 0) = false := by simp; omega
    have Hbn := Lib.hid hbn; clear hbn
    have HB : Hid (G = false) := Lib.hid (by rw [HQ.out]; simp [hk3, hk4, Hbn.out])
    clear HQ
    have tt := (bal (Bs w) (.cells #[.int .i64 k, .int .i64 t, .int .i64 ik, .int .i64 iv, .slice ip im ic, .int .i64 jk, .int .i64 jv, .slice jp jm jc, .int .i64 c, .slice bp bn bc, .slice ep en ec] 163))
    go_wp2
    exact bodyPost_ret (v := .bool false) (by simp [results, Try.results174, go_sem]) rfl (by exact by rw [HB.out]; exact ⟨rfl, tt⟩)
end Go.Proofs.Ytkjedgnepnbkpaa
