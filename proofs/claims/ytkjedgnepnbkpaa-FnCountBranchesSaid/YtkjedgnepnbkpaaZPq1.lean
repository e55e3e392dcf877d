/-
 Parts of the proofs of the laws FnCodeFenced,FnCountBranches.
-/
import Derived.Test.YtkjedgnepnbkpaaNB
import Derived.Test.YtkjedgnepnbkpaaKq1
set_option maxHeartbeats 12800000
set_option maxRecDepth 100000
set_option linter.all false
namespace Go.Proofs.Ytkjedgnepnbkpaa
open Go.RowKit
def DrawCMP (w:World) (r:Ending) (w':World):Prop:=∃ (va vb vc vx vy:Value) (nv na nl:Nat) (m:Mm),r=.returned (.tuple #[.agg #[va,vb,vc],.agg #[vx,vy]])∧DrawC w' w.heap.size va vb vc nv na nl∧(nv≤1000∧na≤1000∧nl≤1000)∧DrM w' w.heap.size vx vy m∧Below w.heap.size w w'
theorem equalE_any_eq (d:Nat) (x0 x1 y0 y1:Int) (W:World):(Op.equalIn (d+2) 47 (.agg #[.int .i64 x0,.int .i64 x1]) (.agg #[.int .i64 y0,.int .i64 y1])).run Try.prog W=.ok (x0 == y0&&x1 == y1) W:=by
 have a0:∀ (d:Nat) (a b:Int) (W:World),(Op.equalIn (d+1) 3 (.int .i64 a) (.int .i64 b)).run Try.prog W=.ok (a == b) W:=fun d a b W=>by simp [Op.equalIn,run_underlying Try.underlying3]
 rw [Op.equalIn]
 simp only [Sem.run_bind,run_underlying Try.underlying47,Result.andThen_ok]
 simp [a0,part]
 by_cases h0:x0=y0 <;> by_cases h1:x1=y1 <;> simp [h0,h1]
theorem equalE_any_ne (x0 x1 y0 y1:Int) (W:World):(binOp .neq 47 (.agg #[.int .i64 x0,.int .i64 x1]) (.agg #[.int .i64 y0,.int .i64 y1])).run Try.prog W=.ok (.bool (!(x0 == y0&&x1 == y1))) W:=by
 have h:(Op.equal 47 (.agg #[.int .i64 x0,.int .i64 x1]) (.agg #[.int .i64 y0,.int .i64 y1])).run Try.prog W=.ok (x0 == y0&&x1 == y1) W:=equalE_any_eq 9998 x0 x1 y0 y1 W
 simp only [binOp,Sem.run_bind,h,Result.andThen_ok]
 rfl
theorem equalE_any (va vb:Value) (xs ys:List Ev) (w:World) (ha:Reads w 2 va xs.length (evs xs)) (hb:Reads w 2 vb ys.length (evs ys)) :
  Calls Try.prog 66 #[va,vb] w fun e w'=>e=.returned (.bool (decide (xs=ys)))∧Below w.heap.size w w':=by
 simp only [evs_rows] at ha hb
 obtain ⟨_,hn,a,l0,b,n0,rfl,j0,ha,f0⟩:=ha
 obtain ⟨_,hn',a',cap',b',off',rfl,hcap',ha',g0⟩:=hb
 have HC:=Lib.hid (reads_Event f0)
 have HD:=Lib.hid (reads_Event g0)
 clear f0 g0
 by_cases hl:xs.length=ys.length
 ·have e0:((xs.length:Int) != (ys.length:Int))=false:=by simp [hl]
  have HL:=Lib.hid hl;clear hl
  go_enter Try.func66,Try.ntmps66
  go_wp2
  go_loopw [13] (fun i wr=>∃ k:Nat,k≤xs.length∧i=.int .i64 k∧xs.take k=ys.take k∧∃ d,wr=w.drewN d) (fun i _=>xs.length-(intOf i).toNat)
  case atStart=>exact ⟨0,Nat.zero_le _,rfl,rfl,0,rfl⟩
  case round =>
   obtain ⟨k,hk,rfl,he,d,rfl⟩:=hrel
   have HE:=Lib.hid he;clear he
   by_cases hlt:k < xs.length
   ·obtain ⟨rfl,m0⟩:=ha (by omega)
    obtain ⟨rfl,hbs'⟩:=ha' (by have:=HL.out;omega)
    have hlt':k < ys.length:=by have:=HL.out;omega
    obtain ⟨c0,c1⟩:=HC.out k hlt
    obtain ⟨d0,d1⟩:=HD.out k hlt'
    have b0:=Lib.hid (fun h=>take_succ_eq hlt hlt' HE.out h)
    have i0:=Lib.hid (fun (h:xs=ys)=>show xs[k]=ys[k] by subst h;rfl)
    generalize xs[k]=x at *
    generalize ys[k]=y at *
    clear HC HD ha ha'
    have a0:∀ W,(binOp .neq 47 (.agg #[.int .i64 x.1,.int .i64 x.2]) (.agg #[.int .i64 y.1,.int .i64 y.2])).run Try.prog W=.ok (.bool (!(x.1 == y.1&&x.2 == y.2))) W:=fun W=>equalE_any_ne x.1 x.2 y.1 y.2 W
    by_cases hxy:x=y
    ·have h0:=Lib.hid (b0.out hxy);clear b0
     subst hxy
     clear a0
     go_wp2
     go_quiet (fail)
     go_wp2
     go_roundw
     case rel=>exact ⟨k+1,by omega,by go_num,h0.out,_,rfl⟩
     case measure=>simp [intOf];omega
    have hq:(x.1 == y.1&&x.2 == y.2)=false:=by
     cases hz:(x.1 == y.1&&x.2 == y.2) with
     | false=>rfl
     | true =>
      simp only [Bool.and_eq_true,beq_iff_eq] at hz
      exact absurd (by obtain ⟨x0,x1⟩:=x;obtain ⟨y0,y1⟩:=y;simp only at hz;simp [hz]) hxy
    have HX:=Lib.hid hxy;clear hxy
    have k0:∀ W,(binOp .neq 47 (.agg #[.int .i64 x.1,.int .i64 x.2]) (.agg #[.int .i64 y.1,.int .i64 y.2])).run Try.prog W=.ok (.bool true) W:=fun W=>by rw [a0 W,hq];rfl
    clear a0 hq
    go_wp2
    go_quiet (fail)
    go_wp2
    go_ret
    exact ⟨ret_bool (decide_eq_false (fun h=>HX.out (i0.out h))).symm,by rw [World.drewN_drewN];exact below_drewN' w _⟩
   go_wp2
   go_ret
   exact ⟨ret_bool (decide_eq_true (by have h:=HE.out;rwa [List.take_of_length_le (by omega),List.take_of_length_le (by have:=HL.out;omega)] at h)).symm,below_drewN' w _⟩
 have e0:((xs.length:Int) != (ys.length:Int))=true:=by simp;omega
 have HL:=Lib.hid hl;clear hl
 go_enter Try.func66,Try.ntmps66
 go_wp2
 go_ret
 exact ⟨ret_bool (decide_eq_false (fun h=>HL.out (by rw [h]))).symm,Bs w⟩
theorem TraceSame_any (va vb:Value) (xs ys:List Ev) (w:World) (ha:Reads w 2 va xs.length (evs xs)) (hb:Reads w 2 vb ys.length (evs ys)) :
  Calls Try.prog 20 #[va,vb] w fun e w'=>e=.returned (.bool (decide (xs=ys)))∧Below w.heap.size w w':=by
 have HQ:=Lib.hid (equalE_any va vb xs ys w ha hb)
 obtain ⟨a,c,rfl⟩:=reads_shape ha
 obtain ⟨a',c',rfl⟩:=reads_shape hb
 clear ha hb
 go_enter Try.func20,Try.ntmps20
 go_wp2_with fail
 refine HQ.out.mono ?_
 rintro e w1 ⟨rfl,a0⟩
 go_wp2
 go_ret
 exact ⟨rfl,a0⟩
theorem vals_all {xs:List Int} (h:∀ j (h:j < xs.length),valOk xs[j]=true):valsOk xs=true:=by
 unfold valsOk;rw [List.all_eq_true]
 intro x hx
 obtain ⟨j,hj,rfl⟩:=List.getElem_of_mem hx
 exact h j hj
theorem vals_no {xs:List Int} {j:Nat} (h:j < xs.length) (hx:valOk xs[j]=false):valsOk xs=false:=by
 unfold valsOk;rw [List.all_eq_false]
 exact ⟨_,List.getElem_mem h,by simp [hx]⟩
theorem notVal_any (n:Int) (w:World) :
  Calls Try.prog 121 #[.int .i64 n] w fun e w'=>e=.returned (.bool (!valOk n))∧Below w.heap.size w w':=by
 go_enter Try.func121,Try.ntmps121
 go_wp2_with fail
 refine (within_any n 0 255 _).mono ?_
 rintro e w1 ⟨rfl,hb⟩
 go_wp2
 go_ret
 exact ⟨rfl,hb⟩
theorem idxVal_any (v:Value) (xs:List Int) (w:World) (hr:Reads w 1 v xs.length (ints xs)) :
  Calls Try.prog 155 #[v,.func (.func 121) #[] #[]] w fun e w'=>∃ r:Int,e=.returned (.int .i64 r)∧decide (0≤r)=!valsOk xs∧Below w.heap.size w w':=by
 obtain ⟨_,hn,a,i0,b,h0,rfl,g0,ha,e0⟩:=hr
 go_enter Try.func155,Try.ntmps155
 go_wp2
 go_loopw [8] (fun i wr=>∃ k:Nat,k≤xs.length∧i=.int .i64 k∧(∀ j (h:j < xs.length),j < k→valOk xs[j]=true)∧Below w.heap.size w wr) (fun i _=>xs.length-(intOf i).toNat)
 case atStart=>exact ⟨0,Nat.zero_le _,rfl,fun j _ h=>absurd h (by omega),Below.refl _ _⟩
 case round =>
  obtain ⟨k,hk,rfl,b0,a0⟩:=hrel
  have HA:=Lib.hid b0;clear b0
  by_cases hlt:k < xs.length
  ·obtain ⟨rfl,f0⟩:=ha (by omega)
   have c0:=e0 k (by simpa [ints] using hlt)
   rw [ints_get] at c0
   have c0:=(a0.cell (p:=⟨b,h0+k,none⟩) f0).trans c0
   clear e0 ha
   generalize hx:xs[k]=x at c0
   have HX:=Lib.hid hx;clear hx
   go_wp2_with fail
   refine (notVal_any x _).mono ?_
   rintro e w1 ⟨rfl,hb⟩
   have d0:=btr a0 hb
   cases hok:valOk x with
   | true =>
    have HO:=Lib.hid hok;clear hok hb a0
    go_wp2
    go_roundw
    case rel=>exact ⟨k+1,by omega,by go_num,all_succ (P:=fun j x=>valOk x=true) hlt HA.out (by rw [HX.out];exact HO.out),d0⟩
    case measure=>simp [intOf];omega
   | false =>
    have HO:=Lib.hid hok;clear hok hb a0
    go_wp2
    go_ret
    exact ⟨(k:Int),rfl,by rw [vals_no hlt (by rw [HX.out];exact HO.out)];simp,d0⟩
  go_wp2
  go_ret
  exact ⟨-1,rfl,by rw [vals_all (fun j h=>HA.out j h (by omega))];rfl,a0⟩
theorem hasVal_any (v:Value) (xs:List Int) (w:World) (hr:Reads w 1 v xs.length (ints xs)) :
  Calls Try.prog 120 #[v,.func (.func 121) #[] #[]] w fun e w'=>e=.returned (.bool (!valsOk xs))∧Below w.heap.size w w':=by
 go_enter Try.func120,Try.ntmps120
 go_wp2_with fail
 refine (idxVal_any _ xs _ hr).mono ?_
 rintro e w1 ⟨r,rfl,a0,hb⟩
 clear hr
 go_wp2
 go_ret
 exact ⟨rfl,hb⟩
theorem areValues_any (v:Value) (xs:List Int) (w:World) (hr:Reads w 1 v xs.length (ints xs)) :
  Calls Try.prog 70 #[v] w fun e w'=>e=.returned (.bool (valsOk xs))∧Below w.heap.size w w':=by
 go_enter Try.func70,Try.ntmps70
 go_wp2_with fail
 refine (hasVal_any _ xs _ hr).mono ?_
 rintro e w1 ⟨rfl,hb⟩
 clear hr
 go_wp2
 go_ret
 exact ⟨ret_bool (by simp),hb⟩
def arrOk (a:List Int):Bool:=decide (a.length=4)&&valsOk a
def arrsOk (rs:List (List Int)):Bool:=rs.all arrOk
theorem memOk_eq (nv na:Nat) (m:Mm):memOk nv na m=(decide (m.vals.length=nv)&&(decide (m.arrs.length=na)&&(valsOk m.vals&&arrsOk m.arrs))):=rfl
theorem arrs_no {L:List (List Int)} {k:Nat} (h:k < L.length) (h2:arrOk L[k]=false):arrsOk L=false:=by
 unfold arrsOk;rw [List.all_eq_false]
 exact ⟨_,List.getElem_mem h,by simp [h2]⟩
theorem arrs_yes {L:List (List Int)} (h:∀ k (hk:k < L.length),arrOk L[k]=true):arrsOk L=true:=by
 unfold arrsOk;rw [List.all_eq_true]
 intro r hr
 obtain ⟨k,hk,rfl⟩:=List.getElem_of_mem hr
 exact h k hk
theorem arrOk_len {a:List Int} (h:¬a.length=4):arrOk a=false:=by unfold arrOk;rw [decide_eq_false h];rfl
theorem arrOk_vals {a:List Int} (h:a.length=4):arrOk a=valsOk a:=by unfold arrOk;rw [decide_eq_true h];rfl
theorem l3Values_any (v:Value) (xs:List Int) (w:World) (hr:Reads w 1 v xs.length (ints xs)) :
  Calls Try.prog 114 #[v] w fun e w'=>e=.returned (.bool (valsOk xs))∧w'=w:=by
 obtain ⟨_,hn,a,e0,b,g0,rfl,d0,ha,b0⟩:=hr
 go_enter Try.func114,Try.ntmps114
 go_wp2
 go_loop [3] (fun i=>∃ k:Nat,k≤xs.length∧i=.int .i64 k∧(∀ j (h:j < xs.length),j < k→valOk xs[j]=true)) (fun i=>xs.length-(intOf i).toNat)
 case atStart=>exact ⟨0,Nat.zero_le _,rfl,fun j _ h=>absurd h (by omega)⟩
 case round =>
  obtain ⟨k,hk,rfl,a0⟩:=hrel
  have HA:=Lib.hid a0;clear a0
  by_cases hlt:k < xs.length
  ·obtain ⟨rfl,f0⟩:=ha (by omega)
   have c0:=b0 k (by simpa [ints] using hlt)
   rw [ints_get] at c0
   have HN:=Lib.hid (fun h=>vals_no hlt h)
   have HY:Hid (valOk xs[k]=true→∀ j (h:j < xs.length),j < k+1→valOk xs[j]=true):=Lib.hid (fun h j hj hlt2=>by
    by_cases e:j=k
    ·subst e;exact h
    exact HA.out j hj (by omega))
   clear b0 ha
   generalize xs[k]=x at *
   by_cases h0:x < 0
   ·have HV:Hid (valOk x=false):=Lib.hid (decide_eq_false (p:=0≤x∧x≤255) (by omega))
    go_wp2
    go_ret
    exact ⟨ret_bool (HN.out HV.out).symm,rfl⟩
   by_cases h1:255 < x
   ·have HV:Hid (valOk x=false):=Lib.hid (decide_eq_false (p:=0≤x∧x≤255) (by omega))
    go_wp2
    go_ret
    exact ⟨ret_bool (HN.out HV.out).symm,rfl⟩
   have HV:Hid (valOk x=true):=Lib.hid (decide_eq_true (p:=0≤x∧x≤255) (by omega))
   go_wp2
   go_round
   case rel=>exact ⟨k+1,by omega,by go_num,HY.out HV.out⟩
   case measure=>simp [intOf];omega
  have HZ:=Lib.hid (vals_all (fun j h=>HA.out j h (by omega)))
  go_wp2
  go_ret
  exact ⟨ret_bool HZ.out.symm,rfl⟩
theorem notArr_any (u:Value) (xs:List Int) (w:World) (hu:Reads w 1 u xs.length (ints xs)) :
  Calls Try.prog 123 #[u] w fun e w'=>e=.returned (.bool (!arrOk xs))∧Below w.heap.size w w':=by
 have a0:=hu
 obtain ⟨a,c,rfl⟩:=reads_shape hu
 have hn:=hu.2.1
 by_cases h:xs.length=4
 ·have hd:((xs.length:Int) != 4)=false:=by simp;omega
  have HA:=Lib.hid (arrOk_vals h)
  have HR:=Lib.hid a0
  clear h hu a0
  go_enter Try.func123,Try.ntmps123
  go_wp2_with fail
  refine (areValues_any _ xs _ HR.out).mono ?_
  rintro e w1 ⟨rfl,hb⟩
  go_wp2
  go_ret
  exact ⟨ret_bool (by rw [HA.out]),hb⟩
 have hd:((xs.length:Int) != 4)=true:=by simp;omega
 have HA:=Lib.hid (arrOk_len h)
 clear h hu a0
 go_enter Try.func123,Try.ntmps123
 go_wp2
 go_ret
 exact ⟨ret_bool (by rw [HA.out];rfl),Bs w⟩
theorem idxArr_any (v:Value) (L:List (List Int)) (w:World) (hr:Reads2 ints w v L) :
  Calls Try.prog 156 #[v,.func (.func 123) #[] #[]] w fun e w'=>∃ r:Int,e=.returned (.int .i64 r)∧decide (0≤r)=!arrsOk L∧Below w.heap.size w w':=by
 obtain ⟨a,c,rfl⟩:=hr.shape
 have hn:=hr.lenle
 have HR:=Lib.hid hr
 clear hr
 go_enter Try.func156,Try.ntmps156
 go_wp2
 go_loopw [8] (fun i wr=>∃ k:Nat,k≤L.length∧i=.int .i64 k∧(∀ j (h:j < L.length),j < k→arrOk L[j]=true)∧Below w.heap.size w wr) (fun i _=>L.length-(intOf i).toNat)
 case atStart=>exact ⟨0,Nat.zero_le _,rfl,fun j _ h=>absurd h (by omega),Bs w⟩
 case round =>
  obtain ⟨k,hk,rfl,b0,a0⟩:=hrel
  have HA:=Lib.hid b0;clear b0
  by_cases hlt:k < L.length
  ·obtain ⟨b,e0,u,rfl,hb,hc,hu⟩:=(HR.out.below a0).at k hlt
   have HN:=Lib.hid (fun h=>arrs_no hlt h)
   have HY:Hid (arrOk L[k]=true→∀ j (h:j < L.length),j < k+1→arrOk L[j]=true):=Lib.hid (fun h j hj hlt2=>by
    by_cases e:j=k
    ·subst e;exact h
    exact HA.out j hj (by omega))
   have kc:=Lc hc
   have HU:=Lib.hid (notArr_any u L[k] _ hu)
   generalize arrOk L[k]=q at *
   clear hu
   go_wp2_with fail
   refine HU.out.mono ?_
   rintro e w1 ⟨rfl,c0⟩
   have d0:=btr a0 c0
   clear hc HU
   cases q with
   | true =>
    clear c0 a0
    go_wp2
    go_roundw
    case rel=>exact ⟨k+1,by omega,by go_num,HY.out (by trivial),d0⟩
    case measure=>simp [intOf];omega
   | false =>
    clear c0 a0
    go_wp2
    go_ret
    exact ⟨(k:Int),rfl,by rw [HN.out (by trivial)];simp,d0⟩
  go_wp2
  go_ret
  exact ⟨-1,rfl,by rw [arrs_yes (fun j h=>HA.out j h (by omega))];rfl,a0⟩
theorem hasArr_any (v:Value) (L:List (List Int)) (w:World) (hr:Reads2 ints w v L) :
  Calls Try.prog 122 #[v,.func (.func 123) #[] #[]] w fun e w'=>e=.returned (.bool (!arrsOk L))∧Below w.heap.size w w':=by
 go_enter Try.func122,Try.ntmps122
 go_wp2_with fail
 refine (idxArr_any _ L _ hr).mono ?_
 rintro e w1 ⟨r,rfl,a0,hb⟩
 clear hr
 go_wp2
 go_ret
 exact ⟨rfl,hb⟩
theorem isMemory_any (va vb vx vy:Value) (xs ys:List Int) (m:Mm) (w:World) (ha:Reads w 1 va xs.length (ints xs)) (hb:Reads w 1 vb ys.length (ints ys)) (hx:Reads w 1 vx m.vals.length (ints m.vals)) (hy:Reads2 ints w vy m.arrs) :
  Calls Try.prog 71 #[va,vb,.agg #[vx,vy]] w fun e w'=>e=.returned (.bool (memOk xs.length ys.length m))∧Below w.heap.size w w':=by
 have n0:=ha.2.1
 have n1:=hb.2.1
 have n2:=hx.2.1
 have n3:=hy.lenle
 obtain ⟨a0,c0,rfl⟩:=reads_shape ha
 obtain ⟨a1,c1,rfl⟩:=reads_shape hb
 have HX:=Lib.hid hx
 have HY:=Lib.hid hy
 obtain ⟨a2,c2,rfl⟩:=reads_shape hx
 obtain ⟨a3,c3,rfl⟩:=hy.shape
 clear ha hb hx hy
 have HD:=Lib.hid (memOk_eq xs.length ys.length m)
 generalize memOk xs.length ys.length m=D at *
 have b0:=bal (Bs w) (.cells #[.slice a2 m.vals.length c2,.slice a3 m.arrs.length c3] 37)
 by_cases h1:m.vals.length=xs.length
 rotate_left
 ·have e1:((m.vals.length:Int) != (xs.length:Int))=true:=by simp;omega
  have H1:=Lib.hid h1;clear h1
  go_enter Try.func71,Try.ntmps71
  go_wp2
  go_ret
  exact ⟨ret_bool (by rw [HD.out,decide_eq_false H1.out];rfl),b0⟩
 have e1:((m.vals.length:Int) != (xs.length:Int))=false:=by simp;omega
 have H1:=Lib.hid h1;clear h1
 by_cases h2:m.arrs.length=ys.length
 rotate_left
 ·have e2:((m.arrs.length:Int) != (ys.length:Int))=true:=by simp;omega
  have H2:=Lib.hid h2;clear h2
  go_enter Try.func71,Try.ntmps71
  go_wp2
  go_ret
  exact ⟨ret_bool (by rw [HD.out,decide_eq_true H1.out,decide_eq_false H2.out];rfl),b0⟩
 have e2:((m.arrs.length:Int) != (ys.length:Int))=false:=by simp;omega
 have H2:=Lib.hid h2;clear h2
 go_enter Try.func71,Try.ntmps71
 go_wp2_with fail
 refine (areValues_any _ m.vals _ (HX.out.below b0)).mono ?_
 rintro e w1 ⟨rfl,hb⟩
 have b1:w1.cell? ⟨w.heap.size,1,none⟩=some (.slice a3 m.arrs.length c3):=Kc hb (Wc (by simp) (by rfl))
 have kb:=Lc b1
 replace b0:=btr b0 hb
 clear hb
 generalize valsOk m.vals=q at *
 cases q with
 | false =>
  go_wp2
  go_ret
  exact ⟨ret_bool (by rw [HD.out,decide_eq_true H1.out,decide_eq_true H2.out];rfl),b0⟩
 | true =>
  go_wp2_with fail
  refine (hasArr_any _ m.arrs _ (HY.out.below b0)).mono ?_
  rintro e w2 ⟨rfl,hb⟩
  go_wp2
  go_ret
  exact ⟨ret_bool (by rw [HD.out,decide_eq_true H1.out,decide_eq_true H2.out];simp),btr b0 hb⟩
theorem l3Fits_any (a0 a1:Option Addr) (nv na c0 c1:Nat) (vx vy:Value) (m:Mm) (w:World) (_n0:nv≤9223372036854775807) (_n1:na≤9223372036854775807) (hx:Reads w 1 vx m.vals.length (ints m.vals)) (hy:Reads2 ints w vy m.arrs) :
  Calls Try.prog 115 #[.agg #[.slice a0 nv c0,.slice a1 na c1,.slice none 0 0],.agg #[vx,vy]] w fun e w'=>e=.returned (.bool (memOk nv na m))∧Below w.heap.size w w':=by
 have n2:=hx.2.1
 have n3:=hy.lenle
 have HX:=Lib.hid hx
 have HY:=Lib.hid hy
 obtain ⟨a2,c2,rfl⟩:=reads_shape hx
 obtain ⟨a3,c3,rfl⟩:=hy.shape
 clear hx hy
 have HD:=Lib.hid (memOk_eq nv na m)
 generalize memOk nv na m=D at *
 have d0:=bal (bal (Bs w) (.cells #[.slice a0 nv c0,.slice a1 na c1,.slice none 0 0] 110)) (.cells #[.slice a2 m.vals.length c2,.slice a3 m.arrs.length c3] 37)
 by_cases h1:m.vals.length=nv
 rotate_left
 ·have e1:((m.vals.length:Int) != (nv:Int))=true:=by simp;omega
  have H1:=Lib.hid h1;clear h1
  go_enter Try.func115,Try.ntmps115
  go_wp2
  go_ret
  exact ⟨ret_bool (by rw [HD.out,decide_eq_false H1.out];rfl),d0⟩
 have e1:((m.vals.length:Int) != (nv:Int))=false:=by simp;omega
 have H1:=Lib.hid h1;clear h1
 by_cases h2:m.arrs.length=na
 rotate_left
 ·have e2:((m.arrs.length:Int) != (na:Int))=true:=by simp;omega
  have H2:=Lib.hid h2;clear h2
  go_enter Try.func115,Try.ntmps115
  go_wp2
  go_ret
  exact ⟨ret_bool (by rw [HD.out,decide_eq_true H1.out,decide_eq_false H2.out];rfl),d0⟩
 have e2:((m.arrs.length:Int) != (na:Int))=false:=by simp;omega
 have H2:=Lib.hid h2;clear h2
 go_enter Try.func115,Try.ntmps115
 go_wp2_with fail
 refine (l3Values_any _ m.vals _ (HX.out.below d0)).mono ?_
 rintro e w1 ⟨rfl,rfl⟩
 obtain ⟨w1,h0⟩:∃ X,X=(w.alloc (.cells #[.slice a0 nv c0,.slice a1 na c1,.slice none 0 0] 110)).alloc (.cells #[.slice a2 m.vals.length c2,.slice a3 m.arrs.length c3] 37):=⟨_,rfl⟩
 have b1:w1.cell? ⟨w.heap.size+1,1,none⟩=some (.slice a3 m.arrs.length c3):=by rw [h0];exact Wc (by simp) rfl
 have kb:=Lc b1
 rw [← h0]
 rw [← h0] at d0
 clear h0
 cases hq:valsOk m.vals with
 | false =>
  have HQ:=Lib.hid hq;clear hq
  go_wp2
  go_ret
  exact ⟨ret_bool (by rw [HD.out,decide_eq_true H1.out,decide_eq_true H2.out,HQ.out];rfl),d0⟩
 | true =>
  have HQ:=Lib.hid hq;clear hq
  go_wp2_with fail
  go_loopw [5] (fun i wr=>∃ k:Nat,k≤m.arrs.length∧i=.int .i64 k∧(∀ j (h:j < m.arrs.length),j < k→arrOk m.arrs[j]=true)∧Below w1.heap.size w1 wr) (fun i _=>m.arrs.length-(intOf i).toNat)
  case atStart=>exact ⟨0,Nat.zero_le _,rfl,fun j _ h=>absurd h (by omega),Bs w1⟩
  case round =>
   obtain ⟨k,hk,rfl,e0,b0⟩:=hrel
   have HA:=Lib.hid e0;clear e0
   have g0:=btr d0 b0
   have b2:=Kc b0 b1
   have m0:=Lc b2
   by_cases hlt:k < m.arrs.length
   ·obtain ⟨b,n0,u,rfl,hb,hc,hu⟩:=(HY.out.below g0).at k hlt
    have HN:=Lib.hid (fun h=>arrs_no hlt h)
    have k0:Hid (arrOk m.arrs[k]=true→∀ j (h:j < m.arrs.length),j < k+1→arrOk m.arrs[j]=true):=Lib.hid (fun h j hj hlt2=>by
     by_cases e:j=k
     ·subst e;exact h
     exact HA.out j hj (by omega))
    have kc:=Lc hc
    obtain ⟨pa,pc,rfl⟩:=reads_shape hu
    have l0:=hu.2.1
    have HU:=Lib.hid (l3Values_any _ m.arrs[k] _ hu)
    have i0:=Lib.hid (fun (h:¬m.arrs[k].length=4)=>arrOk_len h)
    have j0:=Lib.hid (fun (h:m.arrs[k].length=4)=>arrOk_vals h)
    generalize arrOk m.arrs[k]=q at *
    generalize valsOk m.arrs[k]=q2 at *
    clear hu
    by_cases h4:m.arrs[k].length=4
    ·have hd:((m.arrs[k].length:Int) != 4)=false:=by simp;omega
     have f0:=Lib.hid (j0.out h4)
     clear h4
     go_wp2_with fail
     refine HU.out.mono ?_
     rintro e w3 ⟨rfl,rfl⟩
     clear HU
     cases q2 with
     | true =>
      go_wp2
      go_roundw
      case rel=>exact ⟨k+1,by omega,by go_num,k0.out f0.out,b0⟩
      case measure=>simp [intOf];omega
     | false =>
      go_wp2
      go_ret
      exact ⟨ret_bool (by rw [HD.out,decide_eq_true H1.out,decide_eq_true H2.out,HQ.out,HN.out f0.out];rfl),g0⟩
    have hd:((m.arrs[k].length:Int) != 4)=true:=by simp;omega
    have f0:=Lib.hid (i0.out h4)
    clear h4
    go_wp2
    go_ret
    exact ⟨ret_bool (by rw [HD.out,decide_eq_true H1.out,decide_eq_true H2.out,HQ.out,HN.out f0.out];rfl),g0⟩
   have HZ:=Lib.hid (arrs_yes (fun j h=>HA.out j h (by omega)))
   go_wp2
   go_ret
   exact ⟨ret_bool (by rw [HD.out,decide_eq_true H1.out,decide_eq_true H2.out,HQ.out,HZ.out];rfl),g0⟩
end Go.Proofs.Ytkjedgnepnbkpaa
