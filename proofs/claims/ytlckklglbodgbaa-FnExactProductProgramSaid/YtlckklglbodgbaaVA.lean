/-
 Parts of the proofs of the laws FnExactProductProgram.
-/
import Derived.Test.YtlckklglbodgbaaGL
set_option maxHeartbeats 12800000
set_option maxRecDepth 100000
set_option linter.all false
namespace Go.Proofs.Ytlckklglbodgbaa
open Go.RowKit
theorem labs_all {xs:List Int} (h:∀ j (h:j < xs.length),labOk xs[j]=true):labsOk xs=true:=by
 unfold labsOk;rw [List.all_eq_true]
 intro x hx;obtain ⟨j,hj,rfl⟩:=List.getElem_of_mem hx;exact h j hj
theorem labs_no {xs:List Int} {j:Nat} (h:j < xs.length) (hx:labOk xs[j]=false):labsOk xs=false:=by
 unfold labsOk;rw [List.all_eq_false]
 exact ⟨_,List.getElem_mem h,by simp [hx]⟩
theorem idxLab_any (v:Value) (xs:List Int) (w:World) (hr:Reads w 1 v xs.length (ints xs)) :
  Calls Try.prog 101 #[v,.func (.func 80) #[] #[]] w fun e w'=>∃ r:Int,e=.returned (.int .i64 r)∧decide (0≤r)=!labsOk xs∧Below w.heap.size w w':=by
 obtain ⟨_,hn,a,i0,b,h0,rfl,g0,ha,e0⟩:=hr;go_enter Try.func101,Try.ntmps101
 go_wp2
 go_loopw [8] (fun i wr=>∃ k:Nat,k≤xs.length∧i=.int .i64 k∧(∀ j (h:j < xs.length),j < k→labOk xs[j]=true)∧Below w.heap.size w wr) (fun i _=>xs.length-(intOf i).toNat)
 case atStart=>exact ⟨0,Nat.zero_le _,rfl,fun j _ h=>absurd h (by omega),Below.refl _ _⟩
 case round =>
  obtain ⟨k,hk,rfl,b0,a0⟩:=hrel;have HA:=Hi b0;clear b0;by_cases hlt:k < xs.length
  ·obtain ⟨rfl,f0⟩:=ha (by omega);have c0:=e0 k (by simpa [ints] using hlt);rw [ints_get] at c0;have c0:=(a0.cell (p:=⟨b,h0+k,none⟩) f0).trans c0;clear e0 ha;generalize hx:xs[k]=x at c0
   have HX:=Hi hx;clear hx;go_wp2_with fail
   refine (notLabel_any x _).mono ?_;rintro e w1 ⟨rfl,hb⟩;have d0:=btr a0 hb
   cases hok:labOk x with
   | true =>
    have HO:=Hi hok;clear hok hb a0;go_wp2
    go_roundw
    case rel=>exact ⟨k+1,by omega,by go_num,all_succ (P:=fun j x=>labOk x=true) hlt HA.out (by rw [HX.out];exact HO.out),d0⟩
    case measure=>simp [intOf];omega
   | false =>
    have HO:=Hi hok;clear hok hb a0;go_wp2
    go_ret
    exact ⟨(k:Int),rfl,by rw [labs_no hlt (by rw [HX.out];exact HO.out)];simp,d0⟩
  go_wp2
  go_ret
  exact ⟨-1,rfl,by rw [labs_all (fun j h=>HA.out j h (by omega))];rfl,a0⟩
theorem hasLab_any (v:Value) (xs:List Int) (w:World) (hr:Reads w 1 v xs.length (ints xs)) :
  Calls Try.prog 79 #[v,.func (.func 80) #[] #[]] w fun e w'=>e=.returned (.bool (!labsOk xs))∧Below w.heap.size w w':=by
 go_enter Try.func79,Try.ntmps79
 go_wp2_with fail
 refine (idxLab_any _ xs _ hr).mono ?_;rintro e w1 ⟨r,rfl,a0,hb⟩;clear hr;go_wp2
 go_ret
 exact ⟨rfl,hb⟩
theorem areLabels_any (v:Value) (xs:List Int) (w:World) (hr:Reads w 1 v xs.length (ints xs)) :
  Calls Try.prog 53 #[v] w fun e w'=>e=.returned (.bool (labsOk xs))∧Below w.heap.size w w':=by
 go_enter Try.func53,Try.ntmps53
 go_wp2_with fail
 refine (hasLab_any _ xs _ hr).mono ?_;rintro e w1 ⟨rfl,hb⟩;clear hr;go_wp2
 go_ret
 exact ⟨ret_bool (by simp),hb⟩
theorem declared_any (va vb:Value) (xs ys:List Int) (w:World) (hr:Reads w 1 va xs.length (ints xs)) (hs:Reads w 1 vb ys.length (ints ys)) :
  Calls Try.prog 23 #[va,vb] w fun e w'=>e=.returned (.bool (declOk xs ys))∧Below w.heap.size w w':=by
 have HD:Hid (declOk xs ys=(wi xs.length 1 12&&(decide ((ys.length:Int)≤2)&&(labsOk xs&&labsOk ys)))):=Hi (by unfold declOk wi;rw [show decide (1≤xs.length∧xs.length≤12)=decide ((1:Int)≤xs.length∧(xs.length:Int)≤12) from by rw [decide_eq_decide];omega,show decide (ys.length≤2)=decide ((ys.length:Int)≤2) from by rw [decide_eq_decide];omega]);generalize declOk xs ys=D at *
 obtain ⟨a0,c0,rfl⟩:=reads_shape hr;obtain ⟨a1,c1,rfl⟩:=reads_shape hs;go_enter Try.func23,Try.ntmps23
 go_wp2_with fail
 refine (within_any _ 1 12 _).mono ?_;rintro e w1 ⟨rfl,hb⟩;replace hr:=hr.below hb;replace hs:=hs.below hb;generalize wi xs.length 1 12=b1 at *
 cases b1 with
 | false =>
  clear hr hs;go_wp2
  go_ret
  exact ⟨ret_bool (by rw [HD.out];rfl),hb⟩
 | true =>
  by_cases h2:(ys.length:Int)≤2
  ·rw [decide_eq_true h2] at HD;go_wp2_with fail
   refine (areLabels_any _ xs _ hr).mono ?_;rintro e w2 ⟨rfl,b0⟩;replace hs:=hs.below b0;replace hb:=btr hb b0;clear hr b0;generalize labsOk xs=b2 at *
   cases b2 with
   | false =>
    clear hs;go_wp2
    go_ret
    exact ⟨ret_bool (by rw [HD.out];rfl),hb⟩
   | true =>
    go_wp2_with fail
    refine (areLabels_any _ ys _ hs).mono ?_;rintro e w3 ⟨rfl,d0⟩;replace hb:=btr hb d0;clear hs d0;generalize labsOk ys=b3 at *
    go_wp2
    go_ret
    exact ⟨ret_bool (by rw [HD.out];rfl),hb⟩
  have h3:decide ((ys.length:Int)≤2)=false:=decide_eq_false h2;rw [h3] at HD;clear hr hs h2;go_wp2
  go_ret
  exact ⟨ret_bool (by rw [HD.out];rfl),hb⟩
theorem stm_both (cb:Nat) (pv pa:Option Addr) (nv cv na ca:Nat) (vb:Value) (B:Nat→Prop) (hB:∀ q,B q→¬q=cb) (hnv:nv≤1000000000∧na≤1000000000):∀ d:Nat,d≤5→(∀ (D:Nat) (n:Sn) (s:St) (c dp:Int) (w:World),dp=6-(d:Int)→StAt w B D n s→w.cell? ⟨cb,0,none⟩=some (.int .i64 c)→w.frozen? ⟨cb,0,none⟩=false→0≤c→c≤60→Calls Try.prog 54 #[.agg #[.slice pv nv cv,.slice pa na ca,vb],.agg #[.int .i64 n.k,.int .i64 n.t,.int .i64 n.ix.k,.int .i64 n.ix.v,.slice n.ix.p n.ix.n n.ix.c,.int .i64 n.val.k,.int .i64 n.val.v,.slice n.val.p n.val.n n.val.c,.int .i64 n.c,.slice n.bp n.bn n.bc,.slice n.ep n.en n.ec],.int .i64 dp,.pointer (some ⟨cb,0,none⟩)] w fun r w'=>ScP cb c (stC d s) (stR nv na d c s) w r w')∧(∀ (D:Nat) (u:Value) (L:List St) (c dp:Int) (w:World),dp=6-(d:Int)→BlAt w B D u L→w.cell? ⟨cb,0,none⟩=some (.int .i64 c)→w.frozen? ⟨cb,0,none⟩=false→0≤c→c≤60→Calls Try.prog 24 #[.agg #[.slice pv nv cv,.slice pa na ca,vb],u,.int .i64 dp,.pointer (some ⟨cb,0,none⟩)] w fun r w'=>ScP cb c (blC d L L.length) (blR nv na d c L) w r w'):=by
 intro d
 induction d with
 | zero =>
  intro hd;have h:(∀ (D:Nat) (n:Sn) (s:St) (c dp:Int) (w:World),dp=6-((0:Nat):Int)→StAt w B D n s→w.cell? ⟨cb,0,none⟩=some (.int .i64 c)→w.frozen? ⟨cb,0,none⟩=false→0≤c→c≤60→Calls Try.prog 54 #[.agg #[.slice pv nv cv,.slice pa na ca,vb],.agg #[.int .i64 n.k,.int .i64 n.t,.int .i64 n.ix.k,.int .i64 n.ix.v,.slice n.ix.p n.ix.n n.ix.c,.int .i64 n.val.k,.int .i64 n.val.v,.slice n.val.p n.val.n n.val.c,.int .i64 n.c,.slice n.bp n.bn n.bc,.slice n.ep n.en n.ec],.int .i64 dp,.pointer (some ⟨cb,0,none⟩)] w fun r w'=>ScP cb c (stC 0 s) (stR nv na 0 c s) w r w'):=fun D n s c dp w h1 _ h3 h4 h5 h6=>stmt_zero cb pv pa nv cv na ca vb B hB hnv D n s c dp w h1 h3 h4 h5 h6
  exact ⟨h,fun D u L c dp w h1 h2 h3 h4 h5 h6=>stmts_of cb pv pa nv cv na ca vb B hB hnv 0 hd h D u L c dp w h1 h2 h3 h4 h5 h6⟩
 | succ d ih =>
  intro hd;have hb:=(ih (by omega)).2;have h:(∀ (D:Nat) (n:Sn) (s:St) (c dp:Int) (w:World),dp=6-((d+1:Nat):Int)→StAt w B D n s→w.cell? ⟨cb,0,none⟩=some (.int .i64 c)→w.frozen? ⟨cb,0,none⟩=false→0≤c→c≤60→Calls Try.prog 54 #[.agg #[.slice pv nv cv,.slice pa na ca,vb],.agg #[.int .i64 n.k,.int .i64 n.t,.int .i64 n.ix.k,.int .i64 n.ix.v,.slice n.ix.p n.ix.n n.ix.c,.int .i64 n.val.k,.int .i64 n.val.v,.slice n.val.p n.val.n n.val.c,.int .i64 n.c,.slice n.bp n.bn n.bc,.slice n.ep n.en n.ec],.int .i64 dp,.pointer (some ⟨cb,0,none⟩)] w fun r w'=>ScP cb c (stC (d+1) s) (stR nv na (d+1) c s) w r w'):=fun D n s c dp w h1 h2 h3 h4 h5 h6=>stmt_of cb pv pa nv cv na ca vb B hB hnv d hd hb D n s c dp w h1 h2 h3 h4 h5 h6
  exact ⟨h,fun D u L c dp w h1 h2 h3 h4 h5 h6=>stmts_of cb pv pa nv cv na ca vb B hB hnv (d+1) hd h D u L c dp w h1 h2 h3 h4 h5 h6⟩
def pvR (xs ys:List Int) (L:List St):Bool:=declOk xs ys&&blR xs.length ys.length 5 0 L
theorem iProgramValid_any (va vb:Value) (xs ys:List Int) (A:Nat→Prop) (D:Nat) (u:Value) (L:List St) (w:World) (hr:Reads w 1 va xs.length (ints xs)) (hs:Reads w 1 vb ys.length (ints ys)) (hx:BlAt w A D u L) (hn:xs.length≤1000000000∧ys.length≤1000000000) :
  Calls Try.prog 9 #[.agg #[va,vb,u]] w fun r w'=>r=.returned (.bool (pvR xs ys L))∧Below w.heap.size w w':=by
 obtain ⟨pv,cv,rfl⟩:=reads_shape hr;obtain ⟨pa,ca,rfl⟩:=reads_shape hs;obtain ⟨pu,cu,rfl⟩:=hx.shape;have r0:BlAt w (fun q=>q < w.heap.size) D (.slice pu L.length cu) L:=hx.keep (S:=fun _=>False) (Chg.refl _ _) (fun _ _ _=>id) (fun q _ h=>h) Lr;have HX:=Hi (fun W (hW:Below w.heap.size w W)=>r0.below hW);have HH:=Hi (fun W (hW:Below w.heap.size w W)=>declared_any _ _ xs ys W (hr.below hW) (hs.below hW));have HQ:Hid (pvR xs ys L=(declOk xs ys&&blR xs.length ys.length 5 0 L)):=Hi rfl;clear hr hs hx r0;generalize pvR xs ys L=Q at *
 generalize declOk xs ys=X at *
 go_enter Try.func9,Try.ntmps9
 go_upto_region 2 with (fail)
 obtain ⟨w1,o0,hb⟩:=nmw (World.alloc (World.alloc w (.cells #[.slice pv xs.length cv,.slice pa ys.length ca,.slice pu L.length cu] 26)) (.cells #[.int .i64 0] 3));have g0:=hb.size;simp only [Sa] at g0;have b0:Bk w1 (w.heap.size) [.slice pv xs.length cv,.slice pa ys.length ca,.slice pu L.length cu]:=Bb (Bk.al (Bk.nw (by simp) rfl) (.cells #[.int .i64 0] 3)) hb;have c0:w1.cell? ⟨w.heap.size+1,0,none⟩=some (.int .i64 0):=Kc hb (Wc (by simp) (by rfl));have d0:w1.frozen? ⟨w.heap.size+1,0,none⟩=false:=Kf hb (by simp <;> omega) (Fn (by simp));have a0:=btr (bal (bal (Bs w) (.cells #[.slice pv xs.length cv,.slice pa ys.length ca,.slice pu L.length cu] 26)) (.cells #[.int .i64 0] 3)) hb;clear hb;rw [← o0];clear o0;have z0:=Bk.lz b0;have a1:=Lc c0;have s0:∀ q,(fun k=>k=w.heap.size+1) q→q=w.heap.size+1:=fun q h=>h
 obtain ⟨w0,y0,x0,k0⟩:=Bk.h2 b0;go_wp2_with fail
 refine (HH.out _ a0).mono ?_;rintro e w2 ⟨rfl,hb⟩;have p0:=hb.size;clear y0 w0 k0 x0;replace d0:=Kf hb (Lc c0) d0;replace c0:=Kc hb c0;replace b0:=Bb b0 hb;replace a0:=btr a0 hb;clear hb
 cases X with
 | false =>
  have e0:Hid (Q=false):=Hi (by rw [HQ.out];rfl);have tt:=a0;go_wp2
  exact bodyPost_ret (v:=.bool false) (by simp [results,Try.results9,go_sem]) rfl (by exact by rw [e0.out];exact ⟨rfl,tt⟩)
 | true =>
  have e0:Hid (Q=blR xs.length ys.length 5 0 L):=Hi (by rw [HQ.out];rfl);obtain ⟨h0,l0,i0,m0,j0,n0⟩:=Bk.h3 b0;go_wp2_with fail
  have f0:=(stm_both (w.heap.size+1) pv pa xs.length cv ys.length ca (.slice pu L.length cu) (fun q=>q < w.heap.size) (fun q h e=>by omega) hn 5 Lr).2 D _ L 0 1 _ (by omega) (HX.out _ a0) c0 d0 (by omega) (by omega);rw [← e0.out] at f0;clear c0 d0;refine (f0).mono ?_;rintro e w3 ⟨c2,rfl,t0,v0,u0,hb⟩;clear f0 t0 v0 u0;have q0:=hb.size;clear l0 h0 m0 i0 n0 j0;replace b0:=Bk.keep b0 hb (fun h=>by have:=s0 _ h;omega);replace a0:=a0.trans (hb.below w.heap.size (by have:=a0.size;omega) (fun gq hgq h=>by have:=s0 gq h;omega));clear hb;have tt:=a0;go_wp2
  exact bodyPost_ret (v:=.bool Q) (by simp [results,Try.results9,go_sem]) rfl (by exact ⟨rfl,tt⟩)
def noneN (n:En):Bool:=n.k == 0&&(n.v == 0&&decide (n.n=0))
theorem l2None_node (n:En) (w:World):Calls Try.prog 123 #[.agg #[.int .i64 n.k,.int .i64 n.v,.slice n.p n.n n.c]] w fun r w'=>r=.returned (.bool (noneN n))∧Below w.heap.size w w':=by
 have h:=l2None_any n (.mk n.k n.v (List.replicate n.n (.mk 0 0 []))) rfl rfl (by simp [Ex.kids]) w;have e:noneE (.mk n.k n.v (List.replicate n.n (.mk 0 0 [])))=noneN n:=by simp [noneE,noneN,Ex.k,Ex.v,Ex.kids]
 rw [e] at h;exact h
def partsN (n:Sn):Bool:=
 if (n.k == 3||n.k == 4)=true then
  (n.t == 0)&&(if (n.k == 4)=true then decide (n.en=0)&&(decide (1≤n.c)&&(decide (n.c≤3)&&(noneN n.ix&&noneN n.val))) else (n.c == 0)&&noneN n.ix)
 else decide (n.bn=0)&&(decide (n.en=0)&&((n.c == 0)&&((n.k == 2)||noneN n.ix)))
theorem l2Parts_any (n:Sn) (w:World) :
  Calls Try.prog 98 #[.agg #[.int .i64 n.k,.int .i64 n.t,.int .i64 n.ix.k,.int .i64 n.ix.v,.slice n.ix.p n.ix.n n.ix.c,.int .i64 n.val.k,.int .i64 n.val.v,.slice n.val.p n.val.n n.val.c,.int .i64 n.c,.slice n.bp n.bn n.bc,.slice n.ep n.en n.ec]] w fun r w'=>r=.returned (.bool (partsN n))∧Below w.heap.size w w':=by
 have HQ:Hid (partsN n=if (n.k == 3||n.k == 4)=true then
  (n.t == 0)&&(if (n.k == 4)=true then decide (n.en=0)&&(decide (1≤n.c)&&(decide (n.c≤3)&&(noneN n.ix&&noneN n.val))) else (n.c == 0)&&noneN n.ix)
 else decide (n.bn=0)&&(decide (n.en=0)&&((n.c == 0)&&((n.k == 2)||noneN n.ix)))):=Hi rfl
 have h0:=Hi (fun W=>l2None_node n.ix W);have r0:=Hi (fun W=>l2None_node n.val W);obtain ⟨k,t,ix,val,c,bp,bn,bc,ep,en,ec⟩:=n;obtain ⟨ik,iv,ip,im,ic⟩:=ix;obtain ⟨jk,jv,jp,jm,jc⟩:=val;simp only at *
 generalize partsN _=G at *
 generalize noneN ⟨ik,iv,ip,im,ic⟩=NI at *
 generalize noneN ⟨jk,jv,jp,jm,jc⟩=NV at *
 go_enter Try.func98,Try.ntmps98
 by_cases hk3:(k == 3)=true
 ·skip
  have a0:¬(k == 4)=true:=by have:k=3:=(by simpa using hk3);subst this;decide
  have e0:¬(k == 2)=true:=by have:k=3:=(by simpa using hk3);subst this;decide
  by_cases ht:(t == 0)=true
  ·skip
   have gt:(t != 0)=false:=by rw [bne,ht];rfl
   by_cases hc0:(c == 0)=true
   ·skip
    go_wp2_with fail
    refine (h0.out _).mono ?_;rintro e w1 ⟨rfl,hb⟩;have l0:=hb.size;simp only [Sa] at l0;have s0:Bk w1 (w.heap.size) [.int .i64 k,.int .i64 t,.int .i64 ik,.int .i64 iv,.slice ip im ic,.int .i64 jk,.int .i64 jv,.slice jp jm jc,.int .i64 c,.slice bp bn bc,.slice ep en ec]:=Bb (Bk.nw (by simp) rfl) hb;have c0:=btr (bal (Bs w) (.cells #[.int .i64 k,.int .i64 t,.int .i64 ik,.int .i64 iv,.slice ip im ic,.int .i64 jk,.int .i64 jv,.slice jp jm jc,.int .i64 c,.slice bp bn bc,.slice ep en ec] 51)) hb;clear hb;clear s0
    cases NI with
    | false =>
     have HB:Hid (G=false):=Hi (by rw [HQ.out];simp [hk3,a0,e0,ht,hc0]);clear HQ;have tt:=c0;go_wp2
     exact bodyPost_ret (v:=.bool false) (by simp [results,Try.results98,go_sem]) rfl (by exact by rw [HB.out];exact ⟨rfl,tt⟩)
    | true =>
     have HB:Hid (G=true):=Hi (by rw [HQ.out];simp [hk3,a0,e0,ht,hc0]);clear HQ;have tt:=c0;go_wp2
     exact bodyPost_ret (v:=.bool true) (by simp [results,Try.results98,go_sem]) rfl (by exact by rw [HB.out];exact ⟨rfl,tt⟩)
   skip
   have HB:Hid (G=false):=Hi (by rw [HQ.out];simp [hk3,a0,e0,ht,hc0]);clear HQ;have tt:=(bal (Bs w) (.cells #[.int .i64 k,.int .i64 t,.int .i64 ik,.int .i64 iv,.slice ip im ic,.int .i64 jk,.int .i64 jv,.slice jp jm jc,.int .i64 c,.slice bp bn bc,.slice ep en ec] 51));go_wp2
   exact bodyPost_ret (v:=.bool false) (by simp [results,Try.results98,go_sem]) rfl (by exact by rw [HB.out];exact ⟨rfl,tt⟩)
  skip
  have gt:(t != 0)=true:=by rw [bne];simpa using ht
  have HB:Hid (G=false):=Hi (by rw [HQ.out];simp [hk3,a0,e0,ht]);clear HQ;have tt:=(bal (Bs w) (.cells #[.int .i64 k,.int .i64 t,.int .i64 ik,.int .i64 iv,.slice ip im ic,.int .i64 jk,.int .i64 jv,.slice jp jm jc,.int .i64 c,.slice bp bn bc,.slice ep en ec] 51));go_wp2
  exact bodyPost_ret (v:=.bool false) (by simp [results,Try.results98,go_sem]) rfl (by exact by rw [HB.out];exact ⟨rfl,tt⟩)
 skip
 by_cases a0:(k == 4)=true
 ·skip
  by_cases ht:(t == 0)=true
  ·skip
   have gt:(t != 0)=false:=by rw [bne,ht];rfl
   by_cases hen:en=0
   ·skip
    have k0:decide (0 < en)=false:=by simp [hen]
    have j0:((en:Int) == 0)=true:=by simp [hen]
    have b0:=Hi hen;clear hen;have p0:(en:Int)=0:=by have:=b0.out;omega
    clear p0;by_cases hc1:1≤c
    ·skip
     by_cases hc3:c≤3
     ·skip
      go_wp2_with fail
      refine (h0.out _).mono ?_;rintro e w1 ⟨rfl,hb⟩;have m0:=hb.size;simp only [Sa] at m0;have g0:Bk w1 (w.heap.size) [.int .i64 k,.int .i64 t,.int .i64 ik,.int .i64 iv,.slice ip im ic,.int .i64 jk,.int .i64 jv,.slice jp jm jc,.int .i64 c,.slice bp bn bc,.slice ep en ec]:=Bb (Bk.nw (by simp) rfl) hb;have c0:=btr (bal (Bs w) (.cells #[.int .i64 k,.int .i64 t,.int .i64 ik,.int .i64 iv,.slice ip im ic,.int .i64 jk,.int .i64 jv,.slice jp jm jc,.int .i64 c,.slice bp bn bc,.slice ep en ec] 51)) hb;clear hb;have a1:=Bk.lz g0
      cases NI with
      | false =>
       have HB:Hid (G=false):=Hi (by rw [HQ.out];simp [hk3,a0,ht,b0.out,hc1,hc3]);clear HQ;have tt:=c0;go_wp2
       exact bodyPost_ret (v:=.bool false) (by simp [results,Try.results98,go_sem]) rfl (by exact by rw [HB.out];exact ⟨rfl,tt⟩)
      | true =>
       obtain ⟨v0,x0,w0,y0,n0,o0⟩:=Bk.f3 g0 5 6 7 rfl rfl rfl;go_wp2_with fail
       refine (r0.out _).mono ?_;rintro e w2 ⟨rfl,hb⟩;have q0:=hb.size;clear x0 v0 y0 w0 o0 n0;replace g0:=Bb g0 hb;replace c0:=btr c0 hb;clear hb
       cases NV with
       | false =>
        have HB:Hid (G=false):=Hi (by rw [HQ.out];simp [hk3,a0,ht,b0.out,hc1,hc3]);clear HQ;have tt:=c0;go_wp2
        exact bodyPost_ret (v:=.bool false) (by simp [results,Try.results98,go_sem]) rfl (by exact by rw [HB.out];exact ⟨rfl,tt⟩)
       | true =>
        have HB:Hid (G=true):=Hi (by rw [HQ.out];simp [hk3,a0,ht,b0.out,hc1,hc3]);clear HQ;have tt:=c0;go_wp2
        exact bodyPost_ret (v:=.bool true) (by simp [results,Try.results98,go_sem]) rfl (by exact by rw [HB.out];exact ⟨rfl,tt⟩)
     skip
     have HB:Hid (G=false):=Hi (by rw [HQ.out];simp [hk3,a0,ht,b0.out,hc1,hc3]);clear HQ;have tt:=(bal (Bs w) (.cells #[.int .i64 k,.int .i64 t,.int .i64 ik,.int .i64 iv,.slice ip im ic,.int .i64 jk,.int .i64 jv,.slice jp jm jc,.int .i64 c,.slice bp bn bc,.slice ep en ec] 51));go_wp2
     exact bodyPost_ret (v:=.bool false) (by simp [results,Try.results98,go_sem]) rfl (by exact by rw [HB.out];exact ⟨rfl,tt⟩)
    skip
    have HB:Hid (G=false):=Hi (by rw [HQ.out];simp [hk3,a0,ht,b0.out,hc1]);clear HQ;have tt:=(bal (Bs w) (.cells #[.int .i64 k,.int .i64 t,.int .i64 ik,.int .i64 iv,.slice ip im ic,.int .i64 jk,.int .i64 jv,.slice jp jm jc,.int .i64 c,.slice bp bn bc,.slice ep en ec] 51));go_wp2
    exact bodyPost_ret (v:=.bool false) (by simp [results,Try.results98,go_sem]) rfl (by exact by rw [HB.out];exact ⟨rfl,tt⟩)
   skip
   have k0:0 < en:=by omega
   have j0:((en:Int) == 0)=false:=by simp;omega
   have b0:=Hi hen;clear hen;have HB:Hid (G=false):=Hi (by rw [HQ.out];simp [hk3,a0,ht,b0.out]);clear HQ;have tt:=(bal (Bs w) (.cells #[.int .i64 k,.int .i64 t,.int .i64 ik,.int .i64 iv,.slice ip im ic,.int .i64 jk,.int .i64 jv,.slice jp jm jc,.int .i64 c,.slice bp bn bc,.slice ep en ec] 51));go_wp2
   exact bodyPost_ret (v:=.bool false) (by simp [results,Try.results98,go_sem]) rfl (by exact by rw [HB.out];exact ⟨rfl,tt⟩)
  skip
  have gt:(t != 0)=true:=by rw [bne];simpa using ht
  have HB:Hid (G=false):=Hi (by rw [HQ.out];simp [hk3,a0,ht]);clear HQ;have tt:=(bal (Bs w) (.cells #[.int .i64 k,.int .i64 t,.int .i64 ik,.int .i64 iv,.slice ip im ic,.int .i64 jk,.int .i64 jv,.slice jp jm jc,.int .i64 c,.slice bp bn bc,.slice ep en ec] 51));go_wp2
  exact bodyPost_ret (v:=.bool false) (by simp [results,Try.results98,go_sem]) rfl (by exact by rw [HB.out];exact ⟨rfl,tt⟩)
 skip
 by_cases hbn:bn=0
 ·skip
  have u0:decide (0 < bn)=false:=by simp [hbn]
  have t0:((bn:Int) == 0)=true:=by simp [hbn]
  have d0:=Hi hbn;clear hbn;have z0:(bn:Int)=0:=by have:=d0.out;omega
  clear z0;by_cases hen:en=0
  ·skip
   have k0:decide (0 < en)=false:=by simp [hen]
   have j0:((en:Int) == 0)=true:=by simp [hen]
   have b0:=Hi hen;clear hen;have p0:(en:Int)=0:=by have:=b0.out;omega
   clear p0;by_cases hc0:(c == 0)=true
   ·skip
    by_cases e0:(k == 2)=true
    ·skip
     have HB:Hid (G=true):=Hi (by rw [HQ.out];simp [hk3,a0,d0.out,b0.out,hc0,e0]);clear HQ;have tt:=(bal (Bs w) (.cells #[.int .i64 k,.int .i64 t,.int .i64 ik,.int .i64 iv,.slice ip im ic,.int .i64 jk,.int .i64 jv,.slice jp jm jc,.int .i64 c,.slice bp bn bc,.slice ep en ec] 51));go_wp2
     exact bodyPost_ret (v:=.bool true) (by simp [results,Try.results98,go_sem]) rfl (by exact by rw [HB.out];exact ⟨rfl,tt⟩)
    skip
    go_wp2_with fail
    refine (h0.out _).mono ?_;rintro e w1 ⟨rfl,hb⟩;have f0:=hb.size;simp only [Sa] at f0;have i0:Bk w1 (w.heap.size) [.int .i64 k,.int .i64 t,.int .i64 ik,.int .i64 iv,.slice ip im ic,.int .i64 jk,.int .i64 jv,.slice jp jm jc,.int .i64 c,.slice bp bn bc,.slice ep en ec]:=Bb (Bk.nw (by simp) rfl) hb;have c0:=btr (bal (Bs w) (.cells #[.int .i64 k,.int .i64 t,.int .i64 ik,.int .i64 iv,.slice ip im ic,.int .i64 jk,.int .i64 jv,.slice jp jm jc,.int .i64 c,.slice bp bn bc,.slice ep en ec] 51)) hb;clear hb;clear i0
    cases NI with
    | false =>
     have HB:Hid (G=false):=Hi (by rw [HQ.out];simp [hk3,a0,d0.out,b0.out,hc0,e0]);clear HQ;have tt:=c0;go_wp2
     exact bodyPost_ret (v:=.bool false) (by simp [results,Try.results98,go_sem]) rfl (by exact by rw [HB.out];exact ⟨rfl,tt⟩)
    | true =>
     have HB:Hid (G=true):=Hi (by rw [HQ.out];simp [hk3,a0,d0.out,b0.out,hc0,e0]);clear HQ;have tt:=c0;go_wp2
     exact bodyPost_ret (v:=.bool true) (by simp [results,Try.results98,go_sem]) rfl (by exact by rw [HB.out];exact ⟨rfl,tt⟩)
   skip
   have HB:Hid (G=false):=Hi (by rw [HQ.out];simp [hk3,a0,d0.out,b0.out,hc0]);clear HQ;have tt:=(bal (Bs w) (.cells #[.int .i64 k,.int .i64 t,.int .i64 ik,.int .i64 iv,.slice ip im ic,.int .i64 jk,.int .i64 jv,.slice jp jm jc,.int .i64 c,.slice bp bn bc,.slice ep en ec] 51));go_wp2
   exact bodyPost_ret (v:=.bool false) (by simp [results,Try.results98,go_sem]) rfl (by exact by rw [HB.out];exact ⟨rfl,tt⟩)
  skip
  have k0:0 < en:=by omega
  have j0:((en:Int) == 0)=false:=by simp;omega
  have b0:=Hi hen;clear hen;have HB:Hid (G=false):=Hi (by rw [HQ.out];simp [hk3,a0,d0.out,b0.out]);clear HQ;have tt:=(bal (Bs w) (.cells #[.int .i64 k,.int .i64 t,.int .i64 ik,.int .i64 iv,.slice ip im ic,.int .i64 jk,.int .i64 jv,.slice jp jm jc,.int .i64 c,.slice bp bn bc,.slice ep en ec] 51));go_wp2
  exact bodyPost_ret (v:=.bool false) (by simp [results,Try.results98,go_sem]) rfl (by exact by rw [HB.out];exact ⟨rfl,tt⟩)
 skip
 have u0:0 < bn:=by omega
 have t0:((bn:Int) == 0)=false:=by simp;omega
 have d0:=Hi hbn;clear hbn;have HB:Hid (G=false):=Hi (by rw [HQ.out];simp [hk3,a0,d0.out]);clear HQ;have tt:=(bal (Bs w) (.cells #[.int .i64 k,.int .i64 t,.int .i64 ik,.int .i64 iv,.slice ip im ic,.int .i64 jk,.int .i64 jv,.slice jp jm jc,.int .i64 c,.slice bp bn bc,.slice ep en ec] 51));go_wp2
 exact bodyPost_ret (v:=.bool false) (by simp [results,Try.results98,go_sem]) rfl (by exact by rw [HB.out];exact ⟨rfl,tt⟩)
end Go.Proofs.Ytlckklglbodgbaa
