/-
 Parts of the proofs of the laws FnCodeFenced,FnCountBranches.
-/
import Derived.Test.YtkjedgnepnbkpaaO
set_option linter.all false
namespace Go.Proofs.Ytkjedgnepnbkpaa
open Go.RowKit
theorem labs_all {xs:List Int} (h:∀ j (h:j < xs.length),labOk xs[j]=true):labsOk xs=true:=by
 unfold labsOk;rw [List.all_eq_true]
 intro x hx
 obtain ⟨j,hj,rfl⟩:=List.getElem_of_mem hx
 exact h j hj
theorem labs_no {xs:List Int} {j:Nat} (h:j < xs.length) (hx:labOk xs[j]=false):labsOk xs=false:=by
 unfold labsOk;rw [List.all_eq_false]
 exact ⟨_,List.getElem_mem h,by simp [hx]⟩
theorem idxLab_any (v:Value) (xs:List Int) (w:World) (hr:Reads w 1 v xs.length (ints xs)) :
  Calls Try.prog 155 #[v,.func (.func 160) #[] #[]] w fun e w'=>∃ r:Int,e=.returned (.int .i64 r)∧decide (0≤r)=!labsOk xs∧Below w.heap.size w w':=by
 obtain ⟨_,hn,a,i0,b,h0,rfl,g0,ha,e0⟩:=hr
 go_enter Try.func155,Try.ntmps155
 go_wp2
 go_loopw [8] (fun i wr=>∃ k:Nat,k≤xs.length∧i=.int .i64 k∧(∀ j (h:j < xs.length),j < k→labOk xs[j]=true)∧Below w.heap.size w wr) (fun i _=>xs.length-(intOf i).toNat)
 case atStart=>exact ⟨0,Nat.zero_le _,rfl,fun j _ h=>absurd h (by omega),Below.refl _ _⟩
 case round =>
  obtain ⟨k,hk,rfl,b0,a0⟩:=hrel
  have HA:=Lib.hid b0;clear b0
  by_cases hlt:k < xs.length
  ·obtain ⟨rfl,f0⟩:=ha (by omega)
   have c0:=e0 k (by simpa [ints] using hlt)
   rw [ints_get] at c0
   have c0:=(a0.cell (p:=⟨b,h0+k,none⟩) f0).trans c0
   clear e0 ha
   generalize hx:xs[k]=x at c0
   have HX:=Lib.hid hx;clear hx
   go_wp2_with fail
   refine (notLabel_any x _).mono ?_
   rintro e w1 ⟨rfl,hb⟩
   have d0:=btr a0 hb
   cases hok:labOk x with
   | true =>
    have HO:=Lib.hid hok;clear hok hb a0
    go_wp2
    go_roundw
    case rel=>exact ⟨k+1,by omega,by go_num,all_succ (P:=fun j x=>labOk x=true) hlt HA.out (by rw [HX.out];exact HO.out),d0⟩
    case measure=>simp [intOf];omega
   | false =>
    have HO:=Lib.hid hok;clear hok hb a0
    go_wp2
    go_ret
    exact ⟨(k:Int),rfl,by rw [labs_no hlt (by rw [HX.out];exact HO.out)];simp,d0⟩
  go_wp2
  go_ret
  exact ⟨-1,rfl,by rw [labs_all (fun j h=>HA.out j h (by omega))];rfl,a0⟩
theorem hasLab_any (v:Value) (xs:List Int) (w:World) (hr:Reads w 1 v xs.length (ints xs)) :
  Calls Try.prog 120 #[v,.func (.func 160) #[] #[]] w fun e w'=>e=.returned (.bool (!labsOk xs))∧Below w.heap.size w w':=by
 go_enter Try.func120,Try.ntmps120
 go_wp2_with fail
 refine (idxLab_any _ xs _ hr).mono ?_
 rintro e w1 ⟨r,rfl,a0,hb⟩
 clear hr
 go_wp2
 go_ret
 exact ⟨rfl,hb⟩
theorem areLabels_any (v:Value) (xs:List Int) (w:World) (hr:Reads w 1 v xs.length (ints xs)) :
  Calls Try.prog 139 #[v] w fun e w'=>e=.returned (.bool (labsOk xs))∧Below w.heap.size w w':=by
 go_enter Try.func139,Try.ntmps139
 go_wp2_with fail
 refine (hasLab_any _ xs _ hr).mono ?_
 rintro e w1 ⟨rfl,hb⟩
 clear hr
 go_wp2
 go_ret
 exact ⟨ret_bool (by simp),hb⟩
theorem declared_any (va vb:Value) (xs ys:List Int) (w:World) (hr:Reads w 1 va xs.length (ints xs)) (hs:Reads w 1 vb ys.length (ints ys)) :
  Calls Try.prog 93 #[va,vb] w fun e w'=>e=.returned (.bool (declOk xs ys))∧Below w.heap.size w w':=by
 have HD:Hid (declOk xs ys=(wi xs.length 1 12&&(decide ((ys.length:Int)≤2)&&(labsOk xs&&labsOk ys)))):=Lib.hid (by unfold declOk wi;rw [show decide (1≤xs.length∧xs.length≤12)=decide ((1:Int)≤xs.length∧(xs.length:Int)≤12) from by rw [decide_eq_decide];omega,show decide (ys.length≤2)=decide ((ys.length:Int)≤2) from by rw [decide_eq_decide];omega])
 generalize declOk xs ys=D at *
 obtain ⟨a0,c0,rfl⟩:=reads_shape hr
 obtain ⟨a1,c1,rfl⟩:=reads_shape hs
 go_enter Try.func93,Try.ntmps93
 go_wp2_with fail
 refine (within_any _ 1 12 _).mono ?_
 rintro e w1 ⟨rfl,hb⟩
 replace hr:=hr.below hb
 replace hs:=hs.below hb
 generalize wi xs.length 1 12=b1 at *
 cases b1 with
 | false =>
  clear hr hs
  go_wp2
  go_ret
  exact ⟨ret_bool (by rw [HD.out];rfl),hb⟩
 | true =>
  by_cases h2:(ys.length:Int)≤2
  ·rw [decide_eq_true h2] at HD
   go_wp2_with fail
   refine (areLabels_any _ xs _ hr).mono ?_
   rintro e w2 ⟨rfl,d0⟩
   replace hs:=hs.below d0
   replace hb:=btr hb d0
   clear hr d0
   generalize labsOk xs=b2 at *
   cases b2 with
   | false =>
    clear hs
    go_wp2
    go_ret
    exact ⟨ret_bool (by rw [HD.out];rfl),hb⟩
   | true =>
    go_wp2_with fail
    refine (areLabels_any _ ys _ hs).mono ?_
    rintro e w3 ⟨rfl,e0⟩
    replace hb:=btr hb e0
    clear hs e0
    generalize labsOk ys=b3 at *
    go_wp2
    go_ret
    exact ⟨ret_bool (by rw [HD.out];rfl),hb⟩
  have h3:decide ((ys.length:Int)≤2)=false:=decide_eq_false h2
  rw [h3] at HD
  clear hr hs h2
  go_wp2
  go_ret
  exact ⟨ret_bool (by rw [HD.out];rfl),hb⟩
set_option maxHeartbeats 1600000 in
theorem fieldOk_any (a0 a1 a2:Option Addr) (nv na nl c0 c1 c2:Nat) (k n:Int) (w:World) (h0:nv≤9223372036854775807) (h1:na≤9223372036854775807) (h2:nl≤9223372036854775807) :
  Calls Try.prog 143 #[.agg #[.slice a0 nv c0,.slice a1 na c1,.slice a2 nl c2],.int .u8 k,.int .i64 n] w fun e w'=>e=.returned (.bool (fOk nv na nl k n))∧Below w.heap.size w w':=by
 have hk:k=114∨(¬k=114∧(k=118∨(¬k=118∧(k=97∨(¬k=97∧(k=110∨(¬k=110∧(k=111∨(¬k=111∧(k=105∨¬k=105)))))))))):=by omega
 have b0:=bal (Bs w) (.cells #[.slice a0 nv c0,.slice a1 na c1,.slice a2 nl c2] 26)
 rcases hk with rfl | ⟨g1,rfl | ⟨g2,rfl | ⟨g3,rfl | ⟨g4,rfl | ⟨g5,rfl | g6⟩⟩⟩⟩⟩
 ·go_enter Try.func143,Try.ntmps143
  go_wp2_with fail
  refine (within_any _ _ _ _).mono ?_
  rintro e w1 ⟨rfl,hb⟩
  replace hb:=btr b0 hb
  clear b0
  go_wp2
  go_ret
  exact ⟨rfl,hb⟩
 ·go_enter Try.func143,Try.ntmps143
  go_wp2_with fail
  refine (within_any _ _ _ _).mono ?_
  rintro e w1 ⟨rfl,hb⟩
  replace hb:=btr b0 hb
  clear b0
  go_wp2
  go_ret
  exact ⟨rfl,hb⟩
 ·go_enter Try.func143,Try.ntmps143
  go_wp2_with fail
  refine (within_any _ _ _ _).mono ?_
  rintro e w1 ⟨rfl,hb⟩
  replace hb:=btr b0 hb
  clear b0
  go_wp2
  go_ret
  exact ⟨rfl,hb⟩
 ·go_enter Try.func143,Try.ntmps143
  go_wp2_with fail
  refine (within_any _ _ _ _).mono ?_
  rintro e w1 ⟨rfl,hb⟩
  replace hb:=btr b0 hb
  clear b0
  go_wp2
  go_ret
  exact ⟨rfl,hb⟩
 ·go_enter Try.func143,Try.ntmps143
  go_wp2_with fail
  refine (within_any _ _ _ _).mono ?_
  rintro e w1 ⟨rfl,hb⟩
  replace hb:=btr b0 hb
  clear b0
  go_wp2
  go_ret
  exact ⟨rfl,hb⟩
 ·go_enter Try.func143,Try.ntmps143
  go_wp2_with fail
  refine (within_any _ _ _ _).mono ?_
  rintro e w1 ⟨rfl,hb⟩
  replace hb:=btr b0 hb
  clear b0
  go_wp2
  go_ret
  exact ⟨rfl,hb⟩
 have HE:Hid (fOk nv na nl k n=(n == 0)):=Lib.hid (by unfold fOk;rw [if_neg g1,if_neg g2,if_neg g3,if_neg g4,if_neg g5,if_neg g6])
 rw [HE.out]
 have e1:(k == 114)=false:=by simp [g1]
 have e2:(k == 118)=false:=by simp [g2]
 have e3:(k == 97)=false:=by simp [g3]
 have e4:(k == 110)=false:=by simp [g4]
 have e5:(k == 111)=false:=by simp [g5]
 have e6:(k == 105)=false:=by simp [g6]
 clear g1 g2 g3 g4 g5 g6 HE
 go_enter Try.func143,Try.ntmps143
 go_wp2
 go_ret
 exact ⟨rfl,b0⟩
theorem own_lit (w:World) (cs:Array Value) (n:Nat) (e:TypeId) (h:cs.size=n) (hn:n≤65536):(w.alloc (.cells cs e)).ownsRow w.heap.size e 1 (.slice (some ⟨w.heap.size,0,none⟩) n n) n cs.toList:=
 World.ownsRow_lit (base:=w.heap.size) (e:=e) (size:=1) w cs n (Nat.le_refl _) (by unfold maxLen;omega) (by rw [h,Nat.mul_one])
theorem fields_any (x:Ins) (w:World) :
  Calls Try.prog 142 #[.agg #[.int .i64 x.op,.int .i64 x.a,.int .i64 x.b,.int .i64 x.c,.int .i64 x.d]] w fun e w'=>∃ g,e=.returned (.slice (some ⟨g,0,none⟩) 4 4)∧w'.ownsRow w.heap.size 3 1 (.slice (some ⟨g,0,none⟩) 4 4) 4 (ints (flds x))∧Below w.heap.size w w':=by
 have ho:=own_lit (w.alloc (.cells #[.int .i64 x.op,.int .i64 x.a,.int .i64 x.b,.int .i64 x.c,.int .i64 x.d] 32)) #[.int .i64 x.a,.int .i64 x.b,.int .i64 x.c,.int .i64 x.d] 4 3 rfl (by omega)
 simp only [Sa] at ho
 go_enter Try.func142,Try.ntmps142
 go_wp2
 go_ret
 exact ⟨_,rfl,Om ho (by omega),bal (bal (Bs w) _) _⟩
theorem insOk_yes {nv na nl:Nat} {x:Ins} (hop:¬(x.op < 1∨13 < x.op)) (h:∀ j (h1:j < (shp x.op).length) (h2:j < (flds x).length),fOk nv na nl (shp x.op)[j].toNat (flds x)[j]=true):insOk nv na nl x=true:=by
 unfold insOk
 rw [show wi x.op 1 13=true from decide_eq_true (by omega),Bool.true_and,List.all_eq_true]
 intro p hp
 obtain ⟨j,hj,rfl⟩:=List.getElem_of_mem hp
 rw [List.length_zip] at hj
 rw [List.getElem_zip]
 exact h j (by omega) (by omega)
theorem insOk_no {nv na nl:Nat} {x:Ins} {j:Nat} (h1:j < (shp x.op).length) (h2:j < (flds x).length) (h:fOk nv na nl (shp x.op)[j].toNat (flds x)[j]=false):insOk nv na nl x=false:=by
 unfold insOk
 rw [Bool.and_eq_false_iff]
 refine Or.inr ?_
 rw [List.all_eq_false]
 refine ⟨((shp x.op).zip (flds x))[j]'(by rw [List.length_zip];omega),List.getElem_mem _,?_⟩
 rw [List.getElem_zip,h]
 simp
theorem str_get (L:List UInt8) (k:Nat) (_h:k < L.length) (h':k < (ByteArray.mk L.toArray).size):(ByteArray.mk L.toArray)[k]'h'=L[k]:=by
 simp [ByteArray.getElem_eq_getElem_data]
set_option maxHeartbeats 1600000 in
theorem instrOk_any (a0 a1 a2:Option Addr) (nv na nl c0 c1 c2:Nat) (x:Ins) (w:World) (h0:nv≤9223372036854775807) (h1:na≤9223372036854775807) (h2:nl≤9223372036854775807) :
  Calls Try.prog 96 #[.agg #[.slice a0 nv c0,.slice a1 na c1,.slice a2 nl c2],.agg #[.int .i64 x.op,.int .i64 x.a,.int .i64 x.b,.int .i64 x.c,.int .i64 x.d]] w fun e w'=>e=.returned (.bool (insOk nv na nl x))∧Below w.heap.size w w':=by
 go_enter Try.func96,Try.ntmps96
 have f0:=bal (bal (Bs w) (.cells #[.slice a0 nv c0,.slice a1 na c1,.slice a2 nl c2] 26)) (.cells #[.int .i64 x.op,.int .i64 x.a,.int .i64 x.b,.int .i64 x.c,.int .i64 x.d] 32)
 go_wp2_with fail
 refine (shape_any _ _).mono ?_
 rintro e w1 ⟨rfl,hb⟩
 have m0:=hb.size
 simp only [Sa] at m0
 have b0:w1.cell? ⟨w.heap.size,0,none⟩=some (.slice a0 nv c0):=Kc hb (Ac (Wc (by simp) (by rfl)) _)
 have b1:w1.cell? ⟨w.heap.size,1,none⟩=some (.slice a1 na c1):=Kc hb (Ac (Wc (by simp) (by rfl)) _)
 have b2:w1.cell? ⟨w.heap.size,2,none⟩=some (.slice a2 nl c2):=Kc hb (Ac (Wc (by simp) (by rfl)) _)
 have d0:w1.cell? ⟨w.heap.size+1,0,none⟩=some (.int .i64 x.op):=Kc hb (Wc (by simp) (by rfl))
 have d1:w1.cell? ⟨w.heap.size+1,1,none⟩=some (.int .i64 x.a):=Kc hb (Wc (by simp) (by rfl))
 have d2:w1.cell? ⟨w.heap.size+1,2,none⟩=some (.int .i64 x.b):=Kc hb (Wc (by simp) (by rfl))
 have d3:w1.cell? ⟨w.heap.size+1,3,none⟩=some (.int .i64 x.c):=Kc hb (Wc (by simp) (by rfl))
 have d4:w1.cell? ⟨w.heap.size+1,4,none⟩=some (.int .i64 x.d):=Kc hb (Wc (by simp) (by rfl))
 replace f0:=btr f0 hb
 clear hb
 go_wp2_with fail
 refine (fields_any x _).mono ?_
 rintro e w2 ⟨g,rfl,ho,hb⟩
 replace b0:=Kc hb b0
 replace b1:=Kc hb b1
 replace b2:=Kc hb b2
 replace f0:=btr f0 hb
 clear hb d0 d1 d2 d3 d4
 go_wp2_with fail
 by_cases hop:x.op < 1∨13 < x.op
 ·rw [shp_none hop]
  have HF:Hid (insOk nv na nl x=false):=Lib.hid (by unfold insOk;rw [show wi x.op 1 13=false from decide_eq_false (by omega)];rfl)
  have hc:=ho.cellAt 0 (by omega)
  simp [ints,flds] at hc
  clear hop ho
  refine wp_loop_rounds 1 ?_
  rw [rounds_succ]
  go_wp2_with fail
  go_quiet (fail)
  go_wp2
  go_ret
  exact ⟨ret_bool HF.out.symm,below_drewN f0 _⟩
 have hl:=shp_len hop
 obtain ⟨S,hS⟩:∃ S:ByteArray,S=⟨(shp x.op).toArray⟩:=⟨_,rfl⟩
 rw [← hS]
 have r0:(S.toList == [])=false:=by
  rw [hS,ByteArray.toList_mk]
  cases h:shp x.op with
  | nil=>rw [h] at hl;simp at hl
  | cons a l=>rfl
 have s0:(4:Int)≤S.size:=by rw [hS];simp [ByteArray.size,hl]
 have HG:Hid (∀ (k:Nat) (h:k < (shp x.op).length) (h':k < S.size),S[k]'h'=(shp x.op)[k]):=Lib.hid (by subst hS;exact str_get _)
 have HP:=Lib.hid hop
 have HL:=Lib.hid hl
 clear hop hl hS
 go_loopw [14] (fun i wr=>∃ k:Nat,k≤4∧i=.int .i64 k∧(∀ j (h1:j < (shp x.op).length) (h2:j < (flds x).length),j < k→fOk nv na nl (shp x.op)[j].toNat (flds x)[j]=true)∧Below w2.heap.size w2 wr) (fun i _=>4-(intOf i).toNat)
 case atStart=>exact ⟨0,by omega,rfl,fun j _ _ h=>absurd h (by omega),Bs w2⟩
 case round =>
  obtain ⟨k,hk,rfl,g0,e0⟩:=hrel
  have HA:=Lib.hid g0;clear g0
  have n0:=Kc e0 b0
  have o0:=Kc e0 b1
  have p0:=Kc e0 b2
  have j0:=btr f0 e0
  by_cases hlt:k < 4
  ·have hc:=(Ob ho e0).cellAt k (by omega)
   rw [List.getElem?_eq_getElem (by simpa [ints,flds] using hlt),ints_get] at hc
   have q0:(k:Int) < S.size:=by omega
   generalize hfx:(flds x)[k]'(by simpa [flds] using hlt)=f at hc
   have HX:=Lib.hid hfx;clear hfx
   have hbx':=f0
   clear b0 b1 b2 ho f0
   go_upto_region 5 with (fail)
   have D:=Below.drew (Bs wr)
   go_cut [29] (fun s wx=>s=.bool (!(fOk nv na nl ((shp x.op)[k]'(by rw [HL.out];exact hlt)).toNat f))∧Below wr.heap.size wr wx)
   case first =>
    go_region_with (go_at_call 143;refine (fieldOk_any a0 a1 a2 nv na nl c0 c1 c2 _ f _ h0 h1 h2).mono ?_;rintro e wb ⟨rfl,bb⟩)
    all_goals (go_wp2_with fail;go_meet;exact ⟨by rw [HG.out k (by rw [HL.out];exact hlt) _],btr D bb⟩)
   obtain ⟨W5,rfl⟩:∃ W,W=wc:=⟨_,rfl⟩
   obtain ⟨rfl,i0⟩:=hcut
   have k0:=btr e0 i0
   have l0:=btr hbx' k0
   cases hok:fOk nv na nl ((shp x.op)[k]'(by rw [HL.out];exact hlt)).toNat f with
   | true =>
    have HO:=Lib.hid hok;clear hok D i0 e0 j0
    go_wp2
    go_roundw
    case rel =>
     refine ⟨k+1,by omega,by go_num,?_,k0⟩
     intro j h1 h2 hj
     by_cases e:j=k
     ·subst e;rw [HX.out];exact HO.out
     exact HA.out j h1 h2 (by omega)
    case measure=>simp [intOf];omega
   | false =>
    have HO:=Lib.hid hok;clear hok D i0 e0 j0
    go_wp2
    go_ret
    exact ⟨ret_bool (insOk_no (by rw [HL.out];exact hlt) (by simpa [flds] using hlt) (by rw [HX.out];exact HO.out)).symm,l0⟩
  go_wp2
  go_ret
  exact ⟨ret_bool (insOk_yes HP.out (fun j h1 h2=>HA.out j h1 h2 (by have:=HL.out;omega))).symm,j0⟩
end Go.Proofs.Ytkjedgnepnbkpaa
