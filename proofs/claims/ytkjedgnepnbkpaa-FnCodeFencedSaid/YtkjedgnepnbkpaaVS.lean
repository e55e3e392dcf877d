/-
 Parts of the proofs of the laws FnCodeFenced,FnCountBranches.
-/
import Derived.Test.YtkjedgnepnbkpaaVA
set_option maxHeartbeats 12800000
set_option maxRecDepth 100000
set_option linter.all false
namespace Go.Proofs.Ytkjedgnepnbkpaa
open Go.RowKit
theorem sLabelValid_any (n:Int) (w:World) :
  Calls Try.prog 149 #[.int .i64 n] w fun e w'=>e=.returned (.bool (labOk n))∧Below w.heap.size w w':=by
 have hc:(0≤n∧n≤3)∨n < 0∨(0≤n∧3 < n):=by omega
 rcases hc with ⟨h1,h2⟩ | h | ⟨h1,h2⟩
 ·have HB:Hid (labOk n=true):=Lib.hid (decide_eq_true ⟨h1,h2⟩)
  go_enter Try.func149,Try.ntmps149
  go_wp2
  go_ret
  exact ⟨ret_bool HB.out.symm,Bs w⟩
 ·have HB:Hid (labOk n=false):=Lib.hid (decide_eq_false (by omega))
  go_enter Try.func149,Try.ntmps149
  go_wp2
  go_ret
  exact ⟨ret_bool HB.out.symm,Bs w⟩
 have HB:Hid (labOk n=false):=Lib.hid (decide_eq_false (by omega))
 have h3:decide (n≤3)=false:=decide_eq_false (by omega)
 clear h2
 go_enter Try.func149,Try.ntmps149
 go_wp2
 go_ret
 exact ⟨ret_bool HB.out.symm,Bs w⟩
theorem l6Heads_any (a0 a1 a2:Option Addr) (nv na nl c0 c1 c2:Nat) (w:World) :
  Calls Try.prog 88 #[.agg #[.slice a0 nv c0,.slice a1 na c1,.slice a2 nl c2]] w fun e w'=>e=.returned (.agg #[.slice a0 nv c0,.slice a1 na c1,.slice none 0 0])∧Below w.heap.size w w':=by
 go_enter Try.func88,Try.ntmps88
 go_wp2
 exact bodyPost_ret (v:=.agg #[.slice a0 nv c0,.slice a1 na c1,.slice none 0 0]) (by simp [results,Try.results88,go_sem]) rfl ⟨rfl,by repeat (first | exact Below.refl _ _ | refine Below.alloc ?_ (by simp;try omega) _ | refine Below.setCell ?_ (by simp;try omega) _)⟩
theorem l2Heads_any (va vb:Value) (xs ys:List Int) (a2:Option Addr) (n2 c2:Nat) (w:World) (hr:Reads w 1 va xs.length (ints xs)) (hs:Reads w 1 vb ys.length (ints ys)) :
  Calls Try.prog 111 #[.agg #[va,vb,.slice a2 n2 c2]] w fun e w'=>e=.returned (.bool (declOk xs ys))∧Below w.heap.size w w':=by
 obtain ⟨_,hn,a,e0,b,s0,rfl,r0,ha,n0⟩:=hr
 obtain ⟨_,hn',a',cap',b',off',rfl,hcap',ha',l0⟩:=hs
 have HD:Hid (declOk xs ys=(wi xs.length 1 12&&(decide ((ys.length:Int)≤2)&&(labsOk xs&&labsOk ys)))):=Lib.hid (by unfold declOk wi;rw [show decide (1≤xs.length∧xs.length≤12)=decide ((1:Int)≤xs.length∧(xs.length:Int)≤12) from by rw [decide_eq_decide];omega,show decide (ys.length≤2)=decide ((ys.length:Int)≤2) from by rw [decide_eq_decide];omega])
 generalize declOk xs ys=D at *
 have b0:(w.alloc (.cells #[.slice a xs.length e0,.slice a' ys.length cap',.slice a2 n2 c2] 110)).cell? ⟨w.heap.size,0,none⟩=some (.slice a xs.length e0):=Wc rfl rfl
 have b1:(w.alloc (.cells #[.slice a xs.length e0,.slice a' ys.length cap',.slice a2 n2 c2] 110)).cell? ⟨w.heap.size,1,none⟩=some (.slice a' ys.length cap'):=Wc rfl rfl
 have j0:=bal (Bs w) (.cells #[.slice a xs.length e0,.slice a' ys.length cap',.slice a2 n2 c2] 110)
 go_enter Try.func111,Try.ntmps111
 go_wp2
 obtain ⟨w0,p0⟩:∃ w0,w0=w.alloc (.cells #[.slice a xs.length e0,.slice a' ys.length cap',.slice a2 n2 c2] 110):=⟨_,rfl⟩
 rw [← p0] at b0 b1 j0 ⊢
 clear p0
 go_loopw [3] (fun i wr=>∃ k:Nat,k≤xs.length∧i=.int .i64 k∧(∀ j (h:j < xs.length),j < k→labOk xs[j]=true)∧Below w0.heap.size w0 wr) (fun i _=>xs.length-(intOf i).toNat)
 case atStart=>exact ⟨0,Nat.zero_le _,rfl,fun j _ h=>absurd h (by omega),Bs _⟩
 case round =>
  obtain ⟨k,hk,rfl,c0,a0⟩:=hrel
  have HA:=Lib.hid c0;clear c0
  have g0:=Kc a0 b0
  have g1:=Kc a0 b1
  have k0:=Lc g0
  have h0:=btr j0 a0
  by_cases hlt:k < xs.length
  ·obtain ⟨rfl,m0⟩:=ha (by omega)
   have d0:=n0 k (by simpa [ints] using hlt)
   rw [ints_get] at d0
   have d0:=(h0.cell (p:=⟨b,s0+k,none⟩) m0).trans d0
   clear n0 ha b0 b1 j0 ha' l0
   generalize hx:xs[k]=x at d0
   have HX:=Lib.hid hx;clear hx
   go_wp2_with fail
   refine (sLabelValid_any x _).mono ?_
   rintro e w1 ⟨rfl,hb⟩
   have i0:=btr a0 hb
   have q0:=btr h0 hb
   cases hok:labOk x with
   | true =>
    have HO:=Lib.hid hok;clear hok hb a0 h0
    go_wp2
    go_roundw
    case rel=>exact ⟨k+1,by omega,by go_num,all_succ (P:=fun j x=>labOk x=true) hlt HA.out (by rw [HX.out];exact HO.out),i0⟩
    case measure=>simp [intOf];omega
   | false =>
    have HO:=Lib.hid hok;clear hok hb a0 h0
    go_wp2
    go_ret
    exact ⟨ret_bool (by rw [HD.out,labs_no hlt (by rw [HX.out];exact HO.out)];simp),q0⟩
  have HX:Hid (labsOk xs=true):=Lib.hid (labs_all (fun j h=>HA.out j h (by omega)))
  have o0:k=xs.length:=by omega
  subst o0
  clear n0 ha HA hk b0 b1 j0 a0
  go_wp2
  go_loopw [4] (fun i wr=>∃ k:Nat,k≤ys.length∧i=.int .i64 k∧(∀ j (h:j < ys.length),j < k→labOk ys[j]=true)∧Below w.heap.size w wr∧wr.cell? ⟨w.heap.size,0,none⟩=some (.slice a xs.length e0)∧wr.cell? ⟨w.heap.size,1,none⟩=some (.slice a' ys.length cap')) (fun i _=>ys.length-(intOf i).toNat)
  case atStart=>exact ⟨0,Nat.zero_le _,rfl,fun j _ h=>absurd h (by omega),h0,g0,g1⟩
  case round =>
   obtain ⟨k,hk,rfl,c0,a0,f0,f1⟩:=hrel
   have HA:=Lib.hid c0;clear c0
   have k1:=Lc f0
   clear h0 g0 g1 k0
   by_cases hlt:k < ys.length
   ·obtain ⟨rfl,m0⟩:=ha' (by omega)
    have d0:=l0 k (by simpa [ints] using hlt)
    rw [ints_get] at d0
    have d0:=(a0.cell (p:=⟨b',off'+k,none⟩) m0).trans d0
    clear l0 ha'
    generalize hx:ys[k]=x at d0
    have HY:=Lib.hid hx;clear hx
    go_wp2_with fail
    refine (sLabelValid_any x _).mono ?_
    rintro e w1 ⟨rfl,hb⟩
    have i0:=btr a0 hb
    have f0':=Kc hb f0
    have f1':=Kc hb f1
    cases hok:labOk x with
    | true =>
     have HO:=Lib.hid hok;clear hok hb a0
     go_wp2
     go_roundw
     case rel=>exact ⟨k+1,by omega,by go_num,all_succ (P:=fun j x=>labOk x=true) hlt HA.out (by rw [HY.out];exact HO.out),i0,f0',f1'⟩
     case measure=>simp [intOf];omega
    | false =>
     have HO:=Lib.hid hok;clear hok hb a0
     go_wp2
     go_ret
     exact ⟨ret_bool (by rw [HD.out,labs_no hlt (by rw [HY.out];exact HO.out)];simp),i0⟩
   have HY:Hid (labsOk ys=true):=Lib.hid (labs_all (fun j h=>HA.out j h (by omega)))
   clear l0 ha'
   have hc:(xs.length:Int) < 1∨((1:Int)≤xs.length∧((12:Int) < xs.length∨((xs.length:Int)≤12))):=by omega
   rcases hc with hc | ⟨d0,hc | hc⟩
   ·have HW:Hid (wi xs.length 1 12=false):=Lib.hid (decide_eq_false (by omega))
    go_wp2
    go_ret
    exact ⟨ret_bool (by rw [HD.out,HW.out];rfl),a0⟩
   ·have HW:Hid (wi xs.length 1 12=false):=Lib.hid (decide_eq_false (by omega))
    have h3:decide ((xs.length:Int)≤12)=false:=decide_eq_false (by omega)
    clear hc
    go_wp2
    go_ret
    exact ⟨ret_bool (by rw [HD.out,HW.out];rfl),a0⟩
   have HW:Hid (wi xs.length 1 12=true):=Lib.hid (decide_eq_true (by omega))
   go_wp2
   go_ret
   exact ⟨ret_bool (by rw [HD.out,HW.out,HX.out,HY.out];simp),a0⟩
def knd (op:Int):List UInt8:=
 if op=1 then [114,99] else if op=2 then [114,118] else if op=3 then [118,114] else if op=4 then [114,97,114] else if op=5 then [97,114,114]
 else if op=6 then [114,111,114,114] else if op=7 then [114,114,114,114] else if op=8 then [116] else if op=9 then [114,116] else if op=10 then [114,116]
 else if op=11 then [114] else []
def rOk (nv na nl:Nat) (k n:Int):Bool:=
 if k=114 then wi n 0 13 else if k=99 then wi n 0 255 else if k=118 then wi n 0 ((nv:Int)-1) else if k=97 then wi n 0 ((na:Int)-1) else if k=111 then wi n 4 10 else wi n 0 ((nl:Int)-1)
def jOk (nv na nl:Nat) (x:Ins) (j:Nat):Bool:=match (knd x.op)[j]?,(flds x)[j]? with
 | some k,some n=>rOk nv na nl k.toNat n
 | none,some n=>n == 0
 | _,none=>true
theorem insOk_knd {nv na nl:Nat} {x:Ins} (hop:¬(x.op < 1∨13 < x.op)):insOk nv na nl x=(jOk nv na nl x 0&&(jOk nv na nl x 1&&(jOk nv na nl x 2&&jOk nv na nl x 3))):=by
 obtain ⟨op,a,b,c,d⟩:=x
 rcases shp_cases op with h' | rfl | rfl | rfl | rfl | rfl | rfl | rfl | rfl | rfl | rfl | rfl | rfl | rfl
 ·exact absurd h' hop
 all_goals simp [insOk,jOk,shp,knd,flds,fOk,rOk,show wi 1 1 13=true from rfl,show wi 2 1 13=true from rfl,show wi 3 1 13=true from rfl,show wi 4 1 13=true from rfl,show wi 5 1 13=true from rfl,show wi 6 1 13=true from rfl,show wi 7 1 13=true from rfl,show wi 8 1 13=true from rfl,show wi 9 1 13=true from rfl,show wi 10 1 13=true from rfl,show wi 11 1 13=true from rfl,show wi 12 1 13=true from rfl,show wi 13 1 13=true from rfl]
theorem insOk_kyes {nv na nl:Nat} {x:Ins} (hop:¬(x.op < 1∨13 < x.op)) (h:∀ j,j < 4→jOk nv na nl x j=true):insOk nv na nl x=true:=by
 rw [insOk_knd hop,h 0 (by omega),h 1 (by omega),h 2 (by omega),h 3 (by omega)];rfl
theorem insOk_kno {nv na nl:Nat} {x:Ins} (hop:¬(x.op < 1∨13 < x.op)) {j:Nat} (hj:j < 4) (h:jOk nv na nl x j=false):insOk nv na nl x=false:=by
 rw [insOk_knd hop]
 match j,hj with
 | 0,_=>rw [h];rfl
 | 1,_=>rw [h];simp
 | 2,_=>rw [h];simp
 | 3,_=>rw [h];simp
theorem knd_len {op:Int} (h:¬(op < 1∨13 < op)):(knd op).length≤4:=by
 rcases shp_cases op with h' | rfl | rfl | rfl | rfl | rfl | rfl | rfl | rfl | rfl | rfl | rfl | rfl | rfl
 ·exact absurd h' h
 all_goals decide
theorem l6Fields_any (op:Int) (w:World) (hop:¬(op < 1∨13 < op)) :
  Calls Try.prog 150 #[.int .i64 op] w fun e w'=>e=.returned (.string ⟨(knd op).toArray⟩)∧Below w.heap.size w w':=by
 rcases shp_cases op with h | rfl | rfl | rfl | rfl | rfl | rfl | rfl | rfl | rfl | rfl | rfl | rfl | rfl
 ·exact absurd h hop
 all_goals
  clear hop
  go_enter Try.func150,Try.ntmps150
  go_wp2
  go_ret
  exact ⟨rfl,bal (Bs w) _⟩
theorem l6Parts_any (x:Ins) (w:World) :
  Calls Try.prog 151 #[.agg #[.int .i64 x.op,.int .i64 x.a,.int .i64 x.b,.int .i64 x.c,.int .i64 x.d]] w fun e w'=>∃ g,e=.returned (.slice (some ⟨g,0,none⟩) 4 4)∧w'.ownsRow w.heap.size 3 1 (.slice (some ⟨g,0,none⟩) 4 4) 4 (ints (flds x))∧Below w.heap.size w w':=by
 have ho:=own_lit (w.alloc (.cells #[.int .i64 x.op,.int .i64 x.a,.int .i64 x.b,.int .i64 x.c,.int .i64 x.d] 32)) #[.int .i64 x.a,.int .i64 x.b,.int .i64 x.c,.int .i64 x.d] 4 3 rfl (by omega)
 simp only [Sa] at ho
 go_enter Try.func151,Try.ntmps151
 go_wp2
 go_ret
 exact ⟨_,rfl,Om ho (by omega),bal (bal (Bs w) _) _⟩
theorem wi_cases (n lo hi:Int):(n < lo∧wi n lo hi=false)∨(lo≤n∧n≤hi∧wi n lo hi=true)∨(lo≤n∧hi < n∧wi n lo hi=false):=by
 unfold wi
 by_cases h1:n < lo
 ·exact Or.inl ⟨h1,decide_eq_false (by omega)⟩
 by_cases h2:n≤hi
 ·exact Or.inr (Or.inl ⟨by omega,h2,decide_eq_true ⟨by omega,h2⟩⟩)
 exact Or.inr (Or.inr ⟨by omega,by omega,decide_eq_false (by omega)⟩)
theorem l6Range_any (a0 a1 a2:Option Addr) (nv na nl c0 c1 c2:Nat) (k n:Int) (w:World) :
  Calls Try.prog 152 #[.agg #[.slice a0 nv c0,.slice a1 na c1,.slice a2 nl c2],.int .u8 k,.int .i64 n] w fun e w'=>e=.returned (.bool (rOk nv na nl k n))∧Below w.heap.size w w':=by
 have hk:k=114∨(¬k=114∧(k=99∨(¬k=99∧(k=118∨(¬k=118∧(k=97∨(¬k=97∧(k=111∨¬k=111)))))))):=by omega
 have b0:=bal (Bs w) (.cells #[.slice a0 nv c0,.slice a1 na c1,.slice a2 nl c2] 26)
 rcases hk with rfl | ⟨g1,rfl | ⟨g2,rfl | ⟨g3,rfl | ⟨g4,rfl | g5⟩⟩⟩⟩
 ·have hr:rOk nv na nl 114 n=wi n 0 13:=rfl
  rw [hr]
  rcases wi_cases n 0 13 with ⟨q1,hw⟩ | ⟨q1,q2,hw⟩ | ⟨q1,q2,hw⟩
  ·rw [hw];clear hw hr
   go_enter Try.func152,Try.ntmps152
   go_wp2
   go_ret
   exact ⟨rfl,b0⟩
  ·rw [hw];clear hw hr
   have q3:n < 14:=by omega
   go_enter Try.func152,Try.ntmps152
   go_wp2
   go_ret
   exact ⟨rfl,b0⟩
  rw [hw];clear hw hr
  have q3:decide (n < 14)=false:=decide_eq_false (by omega)
  clear q2
  go_enter Try.func152,Try.ntmps152
  go_wp2
  go_ret
  exact ⟨rfl,b0⟩
 ·have hr:rOk nv na nl 99 n=wi n 0 255:=rfl
  rw [hr]
  rcases wi_cases n 0 255 with ⟨q1,hw⟩ | ⟨q1,q2,hw⟩ | ⟨q1,q2,hw⟩
  ·rw [hw];clear hw hr
   go_enter Try.func152,Try.ntmps152
   go_wp2
   go_ret
   exact ⟨rfl,b0⟩
  ·rw [hw];clear hw hr
   go_enter Try.func152,Try.ntmps152
   go_wp2
   go_ret
   exact ⟨rfl,b0⟩
  rw [hw];clear hw hr
  have q3:decide (n≤255)=false:=decide_eq_false (by omega)
  clear q2
  go_enter Try.func152,Try.ntmps152
  go_wp2
  go_ret
  exact ⟨rfl,b0⟩
 ·have hr:rOk nv na nl 118 n=wi n 0 ((nv:Int)-1):=rfl
  rw [hr]
  rcases wi_cases n 0 ((nv:Int)-1) with ⟨q1,hw⟩ | ⟨q1,q2,hw⟩ | ⟨q1,q2,hw⟩
  ·rw [hw];clear hw hr
   go_enter Try.func152,Try.ntmps152
   go_wp2
   go_ret
   exact ⟨rfl,b0⟩
  ·rw [hw];clear hw hr
   have q3:n < (nv:Int):=by omega
   go_enter Try.func152,Try.ntmps152
   go_wp2
   go_ret
   exact ⟨rfl,b0⟩
  rw [hw];clear hw hr
  have q3:decide (n < (nv:Int))=false:=decide_eq_false (by omega)
  clear q2
  go_enter Try.func152,Try.ntmps152
  go_wp2
  go_ret
  exact ⟨rfl,b0⟩
 ·have hr:rOk nv na nl 97 n=wi n 0 ((na:Int)-1):=rfl
  rw [hr]
  rcases wi_cases n 0 ((na:Int)-1) with ⟨q1,hw⟩ | ⟨q1,q2,hw⟩ | ⟨q1,q2,hw⟩
  ·rw [hw];clear hw hr
   go_enter Try.func152,Try.ntmps152
   go_wp2
   go_ret
   exact ⟨rfl,b0⟩
  ·rw [hw];clear hw hr
   have q3:n < (na:Int):=by omega
   go_enter Try.func152,Try.ntmps152
   go_wp2
   go_ret
   exact ⟨rfl,b0⟩
  rw [hw];clear hw hr
  have q3:decide (n < (na:Int))=false:=decide_eq_false (by omega)
  clear q2
  go_enter Try.func152,Try.ntmps152
  go_wp2
  go_ret
  exact ⟨rfl,b0⟩
 ·have hr:rOk nv na nl 111 n=wi n 4 10:=rfl
  rw [hr]
  rcases wi_cases n 4 10 with ⟨q1,hw⟩ | ⟨q1,q2,hw⟩ | ⟨q1,q2,hw⟩
  ·rw [hw];clear hw hr
   go_enter Try.func152,Try.ntmps152
   go_wp2
   go_ret
   exact ⟨rfl,b0⟩
  ·rw [hw];clear hw hr
   go_enter Try.func152,Try.ntmps152
   go_wp2
   go_ret
   exact ⟨rfl,b0⟩
  rw [hw];clear hw hr
  have q3:decide (n≤10)=false:=decide_eq_false (by omega)
  clear q2
  go_enter Try.func152,Try.ntmps152
  go_wp2
  go_ret
  exact ⟨rfl,b0⟩
 have hr:rOk nv na nl k n=wi n 0 ((nl:Int)-1):=by unfold rOk;rw [if_neg g1,if_neg g2,if_neg g3,if_neg g4,if_neg g5]
 rw [hr]
 have e1:(k == 114)=false:=by simp [g1]
 have e2:(k == 99)=false:=by simp [g2]
 have e3:(k == 118)=false:=by simp [g3]
 have e4:(k == 97)=false:=by simp [g4]
 have e5:(k == 111)=false:=by simp [g5]
 clear g1 g2 g3 g4 g5
 rcases wi_cases n 0 ((nl:Int)-1) with ⟨q1,hw⟩ | ⟨q1,q2,hw⟩ | ⟨q1,q2,hw⟩
 ·rw [hw];clear hw hr
  go_enter Try.func152,Try.ntmps152
  go_wp2
  go_ret
  exact ⟨rfl,b0⟩
 ·rw [hw];clear hw hr
  have q3:n < (nl:Int):=by omega
  go_enter Try.func152,Try.ntmps152
  go_wp2
  go_ret
  exact ⟨rfl,b0⟩
 rw [hw];clear hw hr
 have q3:decide (n < (nl:Int))=false:=decide_eq_false (by omega)
 clear q2
 go_enter Try.func152,Try.ntmps152
 go_wp2
 go_ret
 exact ⟨rfl,b0⟩
end Go.Proofs.Ytkjedgnepnbkpaa
