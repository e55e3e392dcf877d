/-
 Parts of the proofs of the laws FnExactProductProgram.
-/
import Derived.Test.YtlckklglbodgbaaGM
import Derived.Test.YtlckklglbodgbaaQB
set_option maxHeartbeats 12800000
set_option maxRecDepth 100000
set_option linter.all false
namespace Go.Proofs.Ytlckklglbodgbaa
open Go.RowKit
theorem l2Stmt_zero (pv pa:Option Addr) (nv cv na ca:Nat) (vb:Value) (n:Sn) (w:World) :
  Calls Try.prog 77 #[.agg #[.slice pv nv cv,.slice pa na ca,vb],.agg #[.int .i64 n.k,.int .i64 n.t,.int .i64 n.ix.k,.int .i64 n.ix.v,.slice n.ix.p n.ix.n n.ix.c,.int .i64 n.val.k,.int .i64 n.val.v,.slice n.val.p n.val.n n.val.c,.int .i64 n.c,.slice n.bp n.bn n.bc,.slice n.ep n.en n.ec],.int .i64 ((0:Nat):Int)] w fun r w'=>r=.returned (.bool false)∧Below w.heap.size w w':=by
 go_enter Try.func77,Try.ntmps77
 have tt:=(bal (bal (Bs w) (.cells #[.slice pv nv cv,.slice pa na ca,vb] 26)) (.cells #[.int .i64 n.k,.int .i64 n.t,.int .i64 n.ix.k,.int .i64 n.ix.v,.slice n.ix.p n.ix.n n.ix.c,.int .i64 n.val.k,.int .i64 n.val.v,.slice n.val.p n.val.n n.val.c,.int .i64 n.c,.slice n.bp n.bn n.bc,.slice n.ep n.en n.ec] 51));go_wp2
 exact bodyPost_ret (v:=.bool false) (by simp [results,Try.results77,go_sem]) rfl (by exact ⟨rfl,tt⟩)
theorem l2Both (pv pa:Option Addr) (nv cv na ca:Nat) (vb:Value) (A:Nat→Prop):∀ (d:Nat),d≤5 →
  (∀ (D:Nat) (n:Sn) (s:St) (w:World),StAt w A D n s→Calls Try.prog 77 #[.agg #[.slice pv nv cv,.slice pa na ca,vb],.agg #[.int .i64 n.k,.int .i64 n.t,.int .i64 n.ix.k,.int .i64 n.ix.v,.slice n.ix.p n.ix.n n.ix.c,.int .i64 n.val.k,.int .i64 n.val.v,.slice n.val.p n.val.n n.val.c,.int .i64 n.c,.slice n.bp n.bn n.bc,.slice n.ep n.en n.ec],.int .i64 (d:Int)] w fun r w'=>r=.returned (.bool (stOk nv na d s))∧Below w.heap.size w w') ∧
  (∀ (D:Nat) (u:Value) (L:List St) (w:World),BlAt w A D u L→Calls Try.prog 47 #[.agg #[.slice pv nv cv,.slice pa na ca,vb],u,.int .i64 (d:Int)] w fun r w'=>r=.returned (.bool (L.all (stOk nv na d)))∧Below w.heap.size w w'):=by
 intro d
 induction d with
 | zero =>
  intro hd;have hs:∀ (D:Nat) (n:Sn) (s:St) (w:World),StAt w A D n s→Calls Try.prog 77 #[.agg #[.slice pv nv cv,.slice pa na ca,vb],.agg #[.int .i64 n.k,.int .i64 n.t,.int .i64 n.ix.k,.int .i64 n.ix.v,.slice n.ix.p n.ix.n n.ix.c,.int .i64 n.val.k,.int .i64 n.val.v,.slice n.val.p n.val.n n.val.c,.int .i64 n.c,.slice n.bp n.bn n.bc,.slice n.ep n.en n.ec],.int .i64 ((0:Nat):Int)] w fun r w'=>r=.returned (.bool (stOk nv na 0 s))∧Below w.heap.size w w':=fun D n s w _=>l2Stmt_zero pv pa nv cv na ca vb n w
  exact ⟨hs,fun D u L w h=>l2Block_of pv pa nv cv na ca vb A 0 hd hs D u L w h⟩
 | succ d ih =>
  intro hd;have hb:=(ih (by omega)).2;have hs:∀ (D:Nat) (n:Sn) (s:St) (w:World),StAt w A D n s→Calls Try.prog 77 #[.agg #[.slice pv nv cv,.slice pa na ca,vb],.agg #[.int .i64 n.k,.int .i64 n.t,.int .i64 n.ix.k,.int .i64 n.ix.v,.slice n.ix.p n.ix.n n.ix.c,.int .i64 n.val.k,.int .i64 n.val.v,.slice n.val.p n.val.n n.val.c,.int .i64 n.c,.slice n.bp n.bn n.bc,.slice n.ep n.en n.ec],.int .i64 ((d+1:Nat):Int)] w fun r w'=>r=.returned (.bool (stOk nv na (d+1) s))∧Below w.heap.size w w':=fun D n s w h=>l2Stmt_of pv pa nv cv na ca vb A d (by omega) hb D n s w h
  exact ⟨hs,fun D u L w h=>l2Block_of pv pa nv cv na ca vb A (d+1) hd hs D u L w h⟩
theorem sLabelValid_any (n:Int) (w:World) :
  Calls Try.prog 76 #[.int .i64 n] w fun e w'=>e=.returned (.bool (labOk n))∧Below w.heap.size w w':=by
 have hc:(0≤n∧n≤3)∨n < 0∨(0≤n∧3 < n):=by omega
 rcases hc with ⟨h1,h2⟩ | h | ⟨h1,h2⟩
 ·have HB:Hid (labOk n=true):=Hi (decide_eq_true ⟨h1,h2⟩);go_enter Try.func76,Try.ntmps76
  go_wp2
  go_ret
  exact ⟨ret_bool HB.out.symm,Bs w⟩
 ·have HB:Hid (labOk n=false):=Hi (decide_eq_false (by omega));go_enter Try.func76,Try.ntmps76
  go_wp2
  go_ret
  exact ⟨ret_bool HB.out.symm,Bs w⟩
 have HB:Hid (labOk n=false):=Hi (decide_eq_false (by omega));have h3:decide (n≤3)=false:=decide_eq_false (by omega);clear h2;go_enter Try.func76,Try.ntmps76
 go_wp2
 go_ret
 exact ⟨ret_bool HB.out.symm,Bs w⟩
theorem l2Heads_any (va vb:Value) (xs ys:List Int) (a2:Option Addr) (n2 c2:Nat) (w:World) (hr:Reads w 1 va xs.length (ints xs)) (hs:Reads w 1 vb ys.length (ints ys)) :
  Calls Try.prog 46 #[.agg #[va,vb,.slice a2 n2 c2]] w fun e w'=>e=.returned (.bool (declOk xs ys))∧Below w.heap.size w w':=by
 obtain ⟨_,hn,a,e0,b,s0,rfl,r0,ha,n0⟩:=hr;obtain ⟨_,hn',a',cap',b',off',rfl,hcap',ha',l0⟩:=hs;have HD:Hid (declOk xs ys=(wi xs.length 1 12&&(decide ((ys.length:Int)≤2)&&(labsOk xs&&labsOk ys)))):=Hi (by unfold declOk wi;rw [show decide (1≤xs.length∧xs.length≤12)=decide ((1:Int)≤xs.length∧(xs.length:Int)≤12) from by rw [decide_eq_decide];omega,show decide (ys.length≤2)=decide ((ys.length:Int)≤2) from by rw [decide_eq_decide];omega]);generalize declOk xs ys=D at *
 have b0:(w.alloc (.cells #[.slice a xs.length e0,.slice a' ys.length cap',.slice a2 n2 c2] 26)).cell? ⟨w.heap.size,0,none⟩=some (.slice a xs.length e0):=Wc rfl rfl;have b1:(w.alloc (.cells #[.slice a xs.length e0,.slice a' ys.length cap',.slice a2 n2 c2] 26)).cell? ⟨w.heap.size,1,none⟩=some (.slice a' ys.length cap'):=Wc rfl rfl;have j0:=bal (Bs w) (.cells #[.slice a xs.length e0,.slice a' ys.length cap',.slice a2 n2 c2] 26);go_enter Try.func46,Try.ntmps46
 go_wp2
 obtain ⟨w0,p0⟩:∃ w0,w0=w.alloc (.cells #[.slice a xs.length e0,.slice a' ys.length cap',.slice a2 n2 c2] 26):=⟨_,rfl⟩;rw [← p0] at b0 b1 j0 ⊢;clear p0;go_loopw [3] (fun i wr=>∃ k:Nat,k≤xs.length∧i=.int .i64 k∧(∀ j (h:j < xs.length),j < k→labOk xs[j]=true)∧Below w0.heap.size w0 wr) (fun i _=>xs.length-(intOf i).toNat)
 case atStart=>exact ⟨0,Nat.zero_le _,rfl,fun j _ h=>absurd h (by omega),Bs _⟩
 case round =>
  obtain ⟨k,hk,rfl,c0,a0⟩:=hrel;have HA:=Hi c0;clear c0;have g0:=Kc a0 b0;have g1:=Kc a0 b1;have k0:=Lc g0;have h0:=btr j0 a0;by_cases hlt:k < xs.length
  ·obtain ⟨rfl,m0⟩:=ha (by omega);have d0:=n0 k (by simpa [ints] using hlt);rw [ints_get] at d0;have d0:=(h0.cell (p:=⟨b,s0+k,none⟩) m0).trans d0;clear n0 ha b0 b1 j0 ha' l0;generalize hx:xs[k]=x at d0
   have HX:=Hi hx;clear hx;go_wp2_with fail
   refine (sLabelValid_any x _).mono ?_;rintro e w1 ⟨rfl,hb⟩;have i0:=btr a0 hb;have q0:=btr h0 hb
   cases hok:labOk x with
   | true =>
    have HO:=Hi hok;clear hok hb a0 h0;go_wp2
    go_roundw
    case rel=>exact ⟨k+1,by omega,by go_num,all_succ (P:=fun j x=>labOk x=true) hlt HA.out (by rw [HX.out];exact HO.out),i0⟩
    case measure=>simp [intOf];omega
   | false =>
    have HO:=Hi hok;clear hok hb a0 h0;go_wp2
    go_ret
    exact ⟨ret_bool (by rw [HD.out,labs_no hlt (by rw [HX.out];exact HO.out)];simp),q0⟩
  have HX:Hid (labsOk xs=true):=Hi (labs_all (fun j h=>HA.out j h (by omega)));have o0:k=xs.length:=by omega
  subst o0;clear n0 ha HA hk b0 b1 j0 a0;go_wp2
  go_loopw [4] (fun i wr=>∃ k:Nat,k≤ys.length∧i=.int .i64 k∧(∀ j (h:j < ys.length),j < k→labOk ys[j]=true)∧Below w.heap.size w wr∧wr.cell? ⟨w.heap.size,0,none⟩=some (.slice a xs.length e0)∧wr.cell? ⟨w.heap.size,1,none⟩=some (.slice a' ys.length cap')) (fun i _=>ys.length-(intOf i).toNat)
  case atStart=>exact ⟨0,Nat.zero_le _,rfl,fun j _ h=>absurd h (by omega),h0,g0,g1⟩
  case round =>
   obtain ⟨k,hk,rfl,c0,a0,f0,f1⟩:=hrel;have HA:=Hi c0;clear c0;have k1:=Lc f0;clear h0 g0 g1 k0;by_cases hlt:k < ys.length
   ·obtain ⟨rfl,m0⟩:=ha' (by omega);have d0:=l0 k (by simpa [ints] using hlt);rw [ints_get] at d0;have d0:=(a0.cell (p:=⟨b',off'+k,none⟩) m0).trans d0;clear l0 ha';generalize hx:ys[k]=x at d0
    have HY:=Hi hx;clear hx;go_wp2_with fail
    refine (sLabelValid_any x _).mono ?_;rintro e w1 ⟨rfl,hb⟩;have i0:=btr a0 hb;have f0':=Kc hb f0;have f1':=Kc hb f1
    cases hok:labOk x with
    | true =>
     have HO:=Hi hok;clear hok hb a0;go_wp2
     go_roundw
     case rel=>exact ⟨k+1,by omega,by go_num,all_succ (P:=fun j x=>labOk x=true) hlt HA.out (by rw [HY.out];exact HO.out),i0,f0',f1'⟩
     case measure=>simp [intOf];omega
    | false =>
     have HO:=Hi hok;clear hok hb a0;go_wp2
     go_ret
     exact ⟨ret_bool (by rw [HD.out,labs_no hlt (by rw [HY.out];exact HO.out)];simp),i0⟩
   have HY:Hid (labsOk ys=true):=Hi (labs_all (fun j h=>HA.out j h (by omega)));clear l0 ha';have hc:(xs.length:Int) < 1∨((1:Int)≤xs.length∧((12:Int) < xs.length∨((xs.length:Int)≤12))):=by omega
   rcases hc with hc | ⟨d0,hc | hc⟩
   ·have HW:Hid (wi xs.length 1 12=false):=Hi (decide_eq_false (by omega));go_wp2
    go_ret
    exact ⟨ret_bool (by rw [HD.out,HW.out];rfl),a0⟩
   ·have HW:Hid (wi xs.length 1 12=false):=Hi (decide_eq_false (by omega));have h3:decide ((xs.length:Int)≤12)=false:=decide_eq_false (by omega);clear hc;go_wp2
    go_ret
    exact ⟨ret_bool (by rw [HD.out,HW.out];rfl),a0⟩
   have HW:Hid (wi xs.length 1 12=true):=Hi (decide_eq_true (by omega));go_wp2
   go_ret
   exact ⟨ret_bool (by rw [HD.out,HW.out,HX.out,HY.out];simp),a0⟩
theorem stOk_bodies {nv na d:Nat} {s:St} (h:stOk nv na (d+1) s=true):s.body.all (stOk nv na d)=true∧s.els.all (stOk nv na d)=true:=by
 obtain ⟨k,t,ix,a0,c,body,els⟩:=s;by_cases h1:(k == 1||k == 5)=true
 ·rw [stOk_as h1] at h;simp only [Bool.and_eq_true] at h;exact h.2
 by_cases h2:(k == 2)=true
 ·rw [stOk_st h2] at h;simp only [Bool.and_eq_true] at h;exact h.2
 by_cases h3:(k == 3)=true
 ·rw [stOk_if h3] at h;simp only [Bool.and_eq_true] at h;exact h.2
 by_cases h4:(k == 4)=true
 ·rw [stOk_re h4] at h;simp only [Bool.and_eq_true] at h;exact h.2
 rw [stOk_no (by simp at h1 h2 h3 h4;omega)] at h;cases h
theorem all_zero {nv na:Nat} {L:List St} (h:L.all (stOk nv na 0)=true):L=[]:=by
 cases L with
 | nil=>rfl
 | cons a l=>simp [stOk] at h
theorem map_sum_congr {α:Type} {f g:α→Int} {l:List α} (h:∀ x ∈ l,f x=g x):(l.map f).sum=(l.map g).sum:=by rw [List.map_congr_left h]
theorem sum_one {α:Type} (f:α→Int) (l:List α):(l.map (fun x=>1+f x)).sum=l.length+(l.map f).sum:=by
 induction l with
 | nil=>simp
 | cons x l ih=>simp only [List.map_cons,List.sum_cons,List.length_cons];rw [ih];omega
theorem szB_blC {nv na:Nat}:∀ (d:Nat) (L:List St),L.all (stOk nv na (d+1))=true→szB (d+1) L=(L.map (stC (d+1))).sum:=by
 intro d
 induction d with
 | zero =>
  intro L h
  have:∀ s ∈ L,stC 1 s=1+0:=fun s hs=>by
   have h1:=stOk_bodies (List.all_eq_true.1 h s hs);simp only [stC];rw [all_zero h1.1,all_zero h1.2];rfl
  have h0:∀ l:List St,(l.map (fun _=>(0:Int))).sum=0:=fun l=>by induction l with | nil=>rfl | cons x l ih=>simp only [List.map_cons,List.sum_cons,ih];rfl
  rw [map_sum_congr this,sum_one (fun _=>0),h0];simp [szB]
 | succ d ih =>
  intro L h
  have:∀ s ∈ L,stC (d+2) s=1+(szB (d+1) s.body+szB (d+1) s.els):=fun s hs=>by
   have h1:=stOk_bodies (List.all_eq_true.1 h s hs);rw [ih _ h1.1,ih _ h1.2];rfl
  rw [map_sum_congr this,sum_one];rfl
theorem pvR_spec (xs ys:List Int) (L:List St):pvR xs ys L=(declOk xs ys&&(L.all (stOk xs.length ys.length 5)&&decide (szB 5 L≤60))):=by
 unfold pvR blR
 congr 1
 cases h:L.all (stOk xs.length ys.length 5) with
 | false=>rfl
 | true =>
  rw [szB_blC 4 L h];unfold blC
  rw [List.take_of_length_le Lr,Int.zero_add]
theorem sProgramValid_any (va vb:Value) (xs ys:List Int) (A:Nat→Prop) (D:Nat) (u:Value) (L:List St) (w:World) (hr:Reads w 1 va xs.length (ints xs)) (hs:Reads w 1 vb ys.length (ints ys)) (hx:BlAt w A D u L) (hn:stNs L≤1048576) :
  Calls Try.prog 20 #[.agg #[va,vb,u]] w fun r w'=>r=.returned (.bool (pvR xs ys L))∧Below w.heap.size w w':=by
 obtain ⟨pv,cv,rfl⟩:=reads_shape hr;obtain ⟨pa,ca,rfl⟩:=reads_shape hs;obtain ⟨pu,cu,rfl⟩:=hx.shape;have HQ:=Hi (pvR_spec xs ys L);have HH:=Hi (fun W (hW:Below w.heap.size w W)=>l2Heads_any _ _ xs ys pu L.length cu W (hr.below hW) (hs.below hW));have HB:=Hi (fun W (hW:Below w.heap.size w W)=>(l2Both pv pa xs.length cv ys.length ca (.slice pu L.length cu) A 5 Lr).2 D _ L W (hx.below hW));have HS:=Hi (fun W (hW:Below w.heap.size w W)=>l2Size_v A D 5 5 _ L W rfl Lr (hx.below hW) hn);clear hr hs hx hn;generalize pvR xs ys L=Q at *
 generalize declOk xs ys=X at *
 generalize L.all (stOk xs.length ys.length 5)=Y at *
 generalize szB 5 L=z at *
 go_enter Try.func20,Try.ntmps20
 go_wp2_with fail
 refine (HH.out _ (bal (Bs w) (.cells #[.slice pv xs.length cv,.slice pa ys.length ca,.slice pu L.length cu] 26))).mono ?_;rintro e w1 ⟨rfl,hb⟩;have d0:=hb.size;simp only [Sa] at d0;have b0:Bk w1 (w.heap.size) [.slice pv xs.length cv,.slice pa ys.length ca,.slice pu L.length cu]:=Bb (Bk.nw (by simp) rfl) hb;have a0:=btr (bal (Bs w) (.cells #[.slice pv xs.length cv,.slice pa ys.length ca,.slice pu L.length cu] 26)) hb;clear hb;have o0:=Bk.lz b0
 cases X with
 | false =>
  have c0:Hid (Q=false):=Hi (by rw [HQ.out];rfl);have tt:=a0;go_wp2
  exact bodyPost_ret (v:=.bool false) (by simp [results,Try.results20,go_sem]) rfl (by exact by rw [c0.out];exact ⟨rfl,tt⟩)
 | true =>
  obtain ⟨i0,l0,j0,m0,k0,n0⟩:=Bk.h3 b0;go_wp2_with fail
  refine (HB.out _ a0).mono ?_;rintro e w2 ⟨rfl,hb⟩;have g0:=hb.size;clear l0 i0 m0 j0 n0 k0;replace b0:=Bb b0 hb;replace a0:=btr a0 hb;clear hb
  cases Y with
  | false =>
   have c0:Hid (Q=false):=Hi (by rw [HQ.out];rfl);have tt:=a0;go_wp2
   exact bodyPost_ret (v:=.bool false) (by simp [results,Try.results20,go_sem]) rfl (by exact by rw [c0.out];exact ⟨rfl,tt⟩)
  | true =>
   obtain ⟨e0,f0⟩:=Bk.cf b0 2 rfl;go_wp2_with fail
   refine (HS.out _ a0).mono ?_;rintro e w3 ⟨rfl,hb⟩;have h0:=hb.size;clear f0 e0;replace b0:=Bb b0 hb;replace a0:=btr a0 hb;clear hb;clear b0;have c0:Hid (Q=decide (z≤60)):=Hi (by rw [HQ.out];rfl);have tt:=a0;go_wp2
   exact bodyPost_ret (v:=.bool (decide (z≤60))) (by simp [results,Try.results20,go_sem]) rfl (by exact by rw [c0.out];exact ⟨rfl,tt⟩)
def lbo (a b:Int):Int:=bits .or .i64 a b
def IsLb (l:Int):Prop:=0≤l∧l≤3
theorem IsLb.cases {a:Int} (h:IsLb a):a=0∨a=1∨a=2∨a=3:=by obtain ⟨h1,h2⟩:=h;omega
theorem lbo_lab {a b:Int} (h:IsLb a) (k:IsLb b):IsLb (lbo a b)∧a≤lbo a b∧b≤lbo a b:=by
 rcases h.cases with rfl | rfl | rfl | rfl <;> rcases k.cases with rfl | rfl | rfl | rfl <;> exact ⟨⟨by decide,by decide⟩,by decide,by decide⟩
def secB (l:Int):Bool:=labOk l&&(bits .and .i64 l 1 == 1)
def truB (l:Int):Bool:=labOk l&&(bits .and .i64 l 2 == 0)
def floB (a b:Int):Bool:=labOk a&&(labOk b&&(lbo a b == b))
theorem labOk_iff {l:Int}:labOk l=true ↔ IsLb l:=by simp [labOk,wi,IsLb]
def LabsP (xs:List Int):Prop:=∀ x ∈ xs,IsLb x
theorem LabsP.el {xs:List Int} (h:LabsP xs) (i:Int):IsLb (gi xs i):=by
 unfold gi
 cases e:xs[i.toNat]? with
 | none=>exact ⟨by decide,by decide⟩
 | some x=>exact h x (List.mem_of_getElem? e)
def lbl0 (xs ys:List Int) (k v:Int):Int:=if k=2 then gi xs v else if k=3 then gi ys v else 0
mutual
def labE (xs ys:List Int):Ex→Int
 | .mk k v l=>labL xs ys (lbl0 xs ys k v) l
def labL (xs ys:List Int) (acc:Int):List Ex→Int
 | []=>acc
 | e::l=>labL xs ys (lbo acc (labE xs ys e)) l
end
theorem labL_app (xs ys:List Int) (a b:List Ex):∀ acc,labL xs ys acc (a++b)=labL xs ys (labL xs ys acc a) b:=by
 induction a with
 | nil=>intro acc;rfl
 | cons e a ih=>intro acc;exact ih _
theorem labL_take {xs ys:List Int} {l:List Ex} {k:Nat} (h:k < l.length) (acc:Int):labL xs ys acc (l.take (k+1))=lbo (labL xs ys acc (l.take k)) (labE xs ys l[k]):=by
 rw [List.take_succ_eq_append_getElem h,labL_app];rfl
theorem lab0_lab {xs ys:List Int} (hx:LabsP xs) (hy:LabsP ys) (k v:Int):IsLb (lbl0 xs ys k v):=by
 unfold lbl0
 split
 ·exact hx.el v
 split
 ·exact hy.el v
 exact ⟨by decide,by decide⟩
mutual
theorem labE_lab {xs ys:List Int} (hx:LabsP xs) (hy:LabsP ys):∀ e:Ex,IsLb (labE xs ys e)
 | .mk k v l=>labL_lab hx hy l _ (lab0_lab hx hy k v)
theorem labL_lab {xs ys:List Int} (hx:LabsP xs) (hy:LabsP ys):∀ (l:List Ex) (acc:Int),IsLb acc→IsLb (labL xs ys acc l)
 | [],_,h=>h
 | e::l,_,h=>labL_lab hx hy l _ (lbo_lab h (labE_lab hx hy e)).1
end
mutual
def srdE (xs ys:List Int):Ex→Bool
 | .mk k v l=>(k == 3&&(match l with | []=>false | e::_=>secB (labE xs ys e)))||srdL xs ys l
def srdL (xs ys:List Int):List Ex→Bool
 | []=>false
 | e::l=>srdE xs ys e||srdL xs ys l
end
def ownF (xs ys:List Int) (s:St) (pc:Int) (strict:Bool):Int:=
 if s.k=1∧floB (lbo (labE xs ys s.val) pc) (gi xs s.t)=false then 1
 else if s.k=2∧floB (lbo (lbo (labE xs ys s.val) (labE xs ys s.ix)) pc) (gi ys s.t)=false then 1
 else if s.k=5∧(truB (labE xs ys s.val)&&pc == 0)=false then 2
 else if s.k=3∧(strict&&secB (labE xs ys s.val))=true then 3
 else if (strict&&((!(s.k == 4)&&srdE xs ys s.val)||(s.k == 2&&secB (labE xs ys s.ix))))=true then 4
 else 0
def innF (xs ys:List Int) (s:St) (pc:Int):Int:=if s.k=3 then lbo pc (labE xs ys s.val) else pc
end Go.Proofs.Ytlckklglbodgbaa
