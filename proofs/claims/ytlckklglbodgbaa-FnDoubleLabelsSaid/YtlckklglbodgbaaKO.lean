/-
 Parts of the proofs of the laws FnDoubleLabels.
-/
import Derived.Test.YtlckklglbodgbaaKJ
import Derived.Test.YtlckklglbodgbaaKL
import Derived.Test.YtlckklglbodgbaaKN
set_option linter.all false
namespace Go.Proofs.Ytlckklglbodgbaa
open Go.RowKit
structure PgR (w:World) (lo hi:Nat) (va vb vu:Value) (n m:Nat) (zs us:List Int) (D:Nat) (L:List St):Prop where
 lb:LbR w lo va vb n m zs us
 rh:∀ q,OwnRB va vb q→q < hi
 t:BlAt w (fun q=>(lo≤q∧q < hi)∧¬OwnRB va vb q) D vu L
 top:hi≤w.heap.size
def PgB (lo hi q:Nat):Prop:=lo≤q∧q < hi
section
variable {w w':World} {lo hi:Nat} {va vb vu:Value} {n m:Nat} {zs us:List Int} {D:Nat} {L:List St}
theorem PgR.lt (h:PgR w lo hi va vb vu n m zs us D L):∀ q,PgB lo hi q→lo≤q∧q < w.heap.size:=fun q hq=>⟨hq.1,Nat.lt_of_lt_of_le hq.2 h.top⟩
theorem PgR.rows (h:PgR w lo hi va vb vu n m zs us D L):∀ q,OwnRB va vb q→PgB lo hi q:=fun q hq=>⟨(h.lb.lt q hq).1,h.rh q hq⟩
theorem PgR.keep (h:PgR w lo hi va vb vu n m zs us D L) {S:Nat→Prop} (hc:Chg S w w') (hs:∀ q,PgB lo hi q→¬S q):PgR w' lo hi va vb vu n m zs us D L:=
 ⟨h.lb.keep hc (fun q hq=>hs q (h.rows q hq)),h.rh,h.t.keep hc (fun q hq _=>hs q hq.1) (fun _ hq _=>hq) Lr,Nat.le_trans h.top hc.size⟩
theorem PgR.below (h:PgR w lo hi va vb vu n m zs us D L) (hb:Below w.heap.size w w'):PgR w' lo hi va vb vu n m zs us D L:=h.keep (S:=fun _=>False) (Cb hb) (fun _ _=>id)
theorem PgR.ra (h:PgR w lo hi va vb vu n m zs us D L):Reads w 1 va n (ints zs):=by
 have:=h.lb.a;exact Ro this (own_len this)
theorem PgR.rb (h:PgR w lo hi va vb vu n m zs us D L):Reads w 1 vb m (ints us):=by
 have:=h.lb.b;exact Ro this (own_len this)
theorem PgR.shape (h:PgR w lo hi va vb vu n m zs us D L):∃ p1 c1 p2 c2 p3 c3,va=.slice p1 n c1∧vb=.slice p2 m c2∧vu=.slice p3 L.length c3:=by
 obtain ⟨p1,c1,h1⟩:=Oh h.lb.a;obtain ⟨p2,c2,h2⟩:=Oh h.lb.b;obtain ⟨p3,c3,h3⟩:=RowOf.shape h.t;exact ⟨p1,c1,p2,c2,p3,c3,h1,h2,h3⟩
end
theorem rowOf_own {α β:Type} {f:α→List Value} {sz:Nat} {w:World} {B:Nat→Prop} {base:Nat} {e:TypeId} {R:α→β→Prop} {u:Value} {l:List β} {rs:List α} (hl:rs.length=l.length) (ho:w.ownsRow base e sz u l.length (rows f rs)) (hn:l.length≤9223372036854775807) (hB:∀ q,u.ownBlock=some q→B q) (hR:∀ j (h:j < rs.length) (h':j < l.length),R rs[j] l[j]):RowOf f sz w B R u l:=
 ⟨rs,hl,Ro ho hn,fun b o c _ hv=>by
  rcases ho.2 with ⟨h,_⟩ | ⟨g,cap,cur,h,_⟩
  ·rw [h] at hv;cases hv
  rw [h] at hv;simp only [Value.slice.injEq,Option.some.injEq,Addr.mk.injEq] at hv;exact hB b (by rw [h,← hv.1.1];rfl),hR⟩
theorem CpP.pg {D:Nat} {xs ys:List Int} {L:List St} {w w':World} {r:Ending} (h:CpP D xs ys L w r w'):∃ p1 c1 p2 c2 p3 c3,r=.returned (.agg #[.slice p1 xs.length c1,.slice p2 ys.length c2,.slice p3 L.length c3])∧PgR w' w.heap.size w'.heap.size (.slice p1 xs.length c1) (.slice p2 ys.length c2) (.slice p3 L.length c3) xs.length ys.length xs ys D L∧Below w.heap.size w w':=by
 obtain ⟨pv,pa,a,cv,ca,c,rs,h1,h2,h3,h4,h5,h6⟩:=h;refine ⟨pv,cv,pa,ca,a,c,h1,⟨⟨rfl,rfl,h2,h3,h4⟩,fun q hq=>?_,?_,Lr⟩,h6⟩
 ·rcases hq with hq | hq
  ·exact (h2.lt q hq).2
  exact (h3.lt q hq).2
 have ho:=h5.own;have e1:=own_diff ho h2 (by decide);have e2:=own_diff ho h3 (by decide)
 refine rowOf_own h5.len ho (own_len ho) (fun q hq=>⟨ho.lt q hq,fun h=>by
  rcases h with h | h
  ·exact e1 q hq h
  exact e2 q hq h⟩) (fun j a c=>StAt.keep (S:=fun _=>False) (Chg.refl _ _) (fun _ _ _=>id) (fun q hq hl=>⟨⟨hq.1.1,hl⟩,fun h=>by
  rcases h with h | h
  ·exact hq.1.2.1 h
  exact hq.1.2.2 h⟩) Lr (h5.kid j a c))
theorem copy_pg {w:World} {lo hi:Nat} {va vb vu:Value} {n m:Nat} {zs us:List Int} {D:Nat} {L:List St} (h:PgR w lo hi va vb vu n m zs us D L) (hn:stNs L≤1048576) (hn1:n≤1048576) (hn2:m≤1048576) :
  Calls Try.prog 69 #[.agg #[va,vb,vu]] w fun r w'=>∃ p1 c1 p2 c2 p3 c3,r=.returned (.agg #[.slice p1 n c1,.slice p2 m c2,.slice p3 L.length c3])∧PgR w' w.heap.size w'.heap.size (.slice p1 n c1) (.slice p2 m c2) (.slice p3 L.length c3) n m zs us D L∧Below w.heap.size w w':=by
 have ha:=h.ra;have hb:=h.rb;obtain ⟨⟨rfl,rfl,_,_,_⟩,_,ht,_⟩:=h;exact (l2Copy_any zs us _ D va vb vu L w ha hb ht hn hn1 hn2).mono (fun r w' hc=>hc.pg)
theorem raise_pg {w:World} {lo hi:Nat} {p1 p2 p3:Option Addr} {c1 c2 c3 n m:Nat} {zs us:List Int} {D d:Nat} {L:List St} (h:PgR w lo hi (.slice p1 n c1) (.slice p2 m c2) (.slice p3 L.length c3) n m zs us D L) (hz:LabsP zs) (hu:LabsP us) (hok:L.all (stOk n m d)=true) :
  Calls Try.prog 131 #[.agg #[.slice p1 n c1,.slice p2 m c2,.slice p3 L.length c3],.slice p3 L.length c3,.int .i64 0] w fun r w'=>∃ zs' us':List Int,r=.returned (.tuple #[])∧(UpR zs zs'∧UpR us us')∧PgR w' lo hi (.slice p1 n c1) (.slice p2 m c2) (.slice p3 L.length c3) n m zs' us' D L∧Chg (fun q=>PgB lo hi q) w w':=by
 refine (l4Raise_any lo p1 p2 p3 c1 c2 L.length c3 n m d _ D _ L 0 zs us w h.lb (fun q hq=>hq.2) hz hu ⟨by decide,by decide⟩ h.t hok).mono ?_;rintro r w' ⟨zs',us',rfl,u1,u2,hl,hc⟩;exact ⟨zs',us',rfl,⟨u1,u2⟩,⟨hl,h.rh,h.t.keep hc (fun q hq _=>hq.2) (fun _ hq _=>hq) Lr,Nat.le_trans h.top hc.size⟩,hc.mono (fun q _ hq=>h.rows q hq)⟩
theorem same_pg {w:World} {lo hi lo' hi':Nat} {va vb vu ta tb tu:Value} {n m:Nat} {zs us zs' us':List Int} {D D':Nat} {L:List St} (h:PgR w lo hi va vb vu n m zs us D L) (k:PgR w lo' hi' ta tb tu n m zs' us' D' L) :
  Calls Try.prog 132 #[.agg #[va,vb,vu],.agg #[ta,tb,tu]] w fun r w'=>r=.returned (.bool (decide (zs=zs'∧us=us')))∧Below w.heap.size w w':=by
 have e1:=h.lb.lx;have e2:=h.lb.ly;have e3:=k.lb.lx;have e4:=k.lb.ly;exact programSame_any _ _ D D' zs us zs' us' L va vb vu ta tb tu w (by rw [e1];exact h.ra) (by rw [e2];exact h.rb) h.t (by rw [e3];exact k.ra) (by rw [e4];exact k.rb) k.t
theorem check_pg {w:World} {lo hi:Nat} {va vb vu:Value} {n m:Nat} {zs us:List Int} {D:Nat} {L:List St} (h:PgR w lo hi va vb vu n m zs us D L) (hn:stNs L≤1048576) :
  Calls Try.prog 95 #[.agg #[va,vb,vu]] w fun r w'=>CkP zs us L w r w':=by
 have e1:=h.lb.lx;have e2:=h.lb.ly;exact CheckFlow_any zs us _ D va vb vu L w (by rw [e1];exact h.ra) (by rw [e2];exact h.rb) h.t hn
def slk (zs:List Int):Nat:=(zs.map (fun z=>(3-z).toNat)).sum
theorem slk_up:∀ (xs zs:List Int),zs.length=xs.length→(∀ z ∈ zs,z≤3)→(∀ i:Nat,gi xs i≤gi zs i)→slk zs≤slk xs∧(slk zs=slk xs→zs=xs)
 | [],zs,hl,_,_=>by
  obtain rfl:=List.eq_nil_of_length_eq_zero hl;exact ⟨Lr,fun _=>rfl⟩
 | x::xs,[],hl,_,_=>by simp at hl
 | x::xs,z::zs,hl,h3,hg=>by
  have h0:x≤z:=by simpa [gi] using hg 0
  have hz:=h3 z (by simp)
  have ih:=slk_up xs zs (by simpa using hl) (fun y hy=>h3 y (by simp [hy])) (fun i=>by
   have:=hg (i+1)
   simpa [gi] using this)
  have e1:slk (z::zs)=(3-z).toNat+slk zs:=by simp [slk]
  have e2:slk (x::xs)=(3-x).toNat+slk xs:=by simp [slk]
  refine ⟨by omega,fun e=>?_⟩;have k1:slk zs=slk xs:=by omega
  have k2:z=x:=by omega
  rw [ih.2 k1,k2]
theorem UpR.slk {xs zs:List Int} (h:UpR xs zs):slk zs≤slk xs∧(slk zs=slk xs→zs=xs):=slk_up xs zs h.1 (fun z hz=>(h.2.1 z hz).2) h.2.2
end Go.Proofs.Ytlckklglbodgbaa
namespace Go.Proofs.Ytlckklglbodgbaa
open Go.RowKit
def InfP (xs ys:List Int) (D:Nat) (L:List St) (w:World) (r:Ending) (w':World):Prop:=∃ (p1 p2 p3:Option Addr) (n1 n2 n3 c1 c2 c3:Nat) (ok:Bool),r=.returned (.tuple #[.agg #[.slice p1 n1 c1,.slice p2 n2 c2,.slice p3 n3 c3],.bool ok]) ∧
 (ok=true→n1=xs.length∧n2=ys.length∧n3=L.length∧∃ lo hi zs us,w.heap.size≤lo∧PgR w' lo hi (.slice p1 n1 c1) (.slice p2 n2 c2) (.slice p3 n3 c3) n1 n2 zs us D L∧pvR zs us L=true)∧Below w.heap.size w w'
theorem pvR_labs {xs ys:List Int} {L:List St} (h:pvR xs ys L=true):LabsP xs∧LabsP ys∧L.all (stOk xs.length ys.length 5)=true∧xs.length≤12∧ys.length≤2:=by
 rw [pvR_spec] at h;simp only [Bool.and_eq_true] at h;obtain ⟨h1,h2,_⟩:=h;unfold declOk at h1
 simp only [Bool.and_eq_true,decide_eq_true_eq] at h1;obtain ⟨⟨_,h3⟩,h4,h5,h6⟩:=h1;refine ⟨fun x hx=>?_,fun x hx=>?_,h2,h3,h4⟩
 ·exact labOk_iff.1 (List.all_eq_true.1 h5 x hx)
 exact labOk_iff.1 (List.all_eq_true.1 h6 x hx)
set_option maxHeartbeats 6400000 in
set_option maxRecDepth 100000 in
theorem InferLabels_any (xs ys:List Int) (A:Nat→Prop) (D:Nat) (va vb u:Value) (L:List St) (w:World) (hr:Reads w 1 va xs.length (ints xs)) (hs:Reads w 1 vb ys.length (ints ys)) (hx:BlAt w A D u L) (hn:stNs L≤1048576) :
  Calls Try.prog 112 #[.agg #[va,vb,u]] w fun r w'=>InfP xs ys D L w r w':=by
 obtain ⟨pv,cv,rfl⟩:=reads_shape hr;obtain ⟨pa,ca,rfl⟩:=reads_shape hs;obtain ⟨pu,cu,rfl⟩:=RowOf.shape hx;have HV:=Hi (fun W (hW:Below w.heap.size w W)=>sProgramValid_any _ _ xs ys A D _ L W (hr.below hW) (hs.below hW) (hx.below hW) hn);have z3:Hid (pvR xs ys L=true→∀ W,Below w.heap.size w W→Calls Try.prog 69 #[.agg #[.slice pv xs.length cv,.slice pa ys.length ca,.slice pu L.length cu]] W fun r w'=>∃ p1 c1 p2 c2 p3 c3,r=.returned (.agg #[.slice p1 xs.length c1,.slice p2 ys.length c2,.slice p3 L.length c3])∧PgR w' W.heap.size w'.heap.size (.slice p1 xs.length c1) (.slice p2 ys.length c2) (.slice p3 L.length c3) xs.length ys.length xs ys D L∧Below W.heap.size W w'):=Hi (fun h W hW=>(l2Copy_any xs ys A D _ _ _ L W (hr.below hW) (hs.below hW) (hx.below hW) hn (by have:=(pvR_labs h).2.2.2.1;omega) (by have:=(pvR_labs h).2.2.2.2;omega)).mono (fun r w' hc=>hc.pg));have d4:=Hi (fun h:pvR xs ys L=true=>pvR_labs h);have HN:=Hi hn;clear hr hs hx hn;generalize pvR xs ys L=X at *
 obtain ⟨n,n4⟩:∃ n,n=xs.length:=⟨_,rfl⟩;obtain ⟨m,m4⟩:∃ m,m=ys.length:=⟨_,rfl⟩;clear n4 m4;go_enter Try.func112,Try.ntmps112
 go_wp2_with fail
 refine (HV.out _ (bal (bal (Bs w) (.cells #[.slice pv xs.length cv,.slice pa ys.length ca,.slice pu L.length cu] 26)) (.cells #[.slice none 0 0,.slice none 0 0,.slice none 0 0] 26))).mono ?_;rintro e w1 ⟨rfl,hb⟩;have p0:=hb.size;simp only [Sa] at p0;have g0:Bk w1 (w.heap.size) [.slice pv xs.length cv,.slice pa ys.length ca,.slice pu L.length cu]:=Bb (Bk.al (Bk.nw (by simp) rfl) (.cells #[.slice none 0 0,.slice none 0 0,.slice none 0 0] 26)) hb;have f0:Bk w1 (w.heap.size+1) [.slice none 0 0,.slice none 0 0,.slice none 0 0]:=Bb (Bk.nw (by simp) rfl) hb;have b0:=btr (bal (bal (Bs w) (.cells #[.slice pv xs.length cv,.slice pa ys.length ca,.slice pu L.length cu] 26)) (.cells #[.slice none 0 0,.slice none 0 0,.slice none 0 0] 26)) hb;clear hb;have v3:=Bk.lz g0;have x3:=Bk.lz f0
 cases X with
 | false =>
  obtain ⟨v4,n6,e5,o6,r0,f5⟩:=Bk.f3 f0 0 1 2 rfl rfl rfl;have y5:=(Nn (b:=(w.heap.size+1)) (j:=2) (Nn (b:=(w.heap.size+1)) (j:=1) (Tc _ (w.heap.size+1) 0 (.slice none 0 0) v4) (.slice none 0 0)) (.slice none 0 0));have z5:=(Nn (b:=(w.heap.size+1)) (j:=2) (Tc _ (w.heap.size+1) 1 (.slice none 0 0) (Nn (b:=(w.heap.size+1)) (j:=0) e5 (.slice none 0 0))) (.slice none 0 0));have a6:=(Tc _ (w.heap.size+1) 2 (.slice none 0 0) (Nn (b:=(w.heap.size+1)) (j:=1) (Nn (b:=(w.heap.size+1)) (j:=0) r0 (.slice none 0 0)) (.slice none 0 0)));have tt:=(bst (bst (bst b0 (w.heap.size+1) 0 (by omega) (.slice none 0 0)) (w.heap.size+1) 1 (by omega) (.slice none 0 0)) (w.heap.size+1) 2 (by omega) (.slice none 0 0));go_wp2
  exact bodyPost_ret (v:=.tuple #[.agg #[.slice none 0 0,.slice none 0 0,.slice none 0 0],.bool false]) (by simp [results,Try.results112,go_sem,y5,z5,a6]) rfl (by exact (by unfold InfP;exact ⟨none,none,none,0,0,0,0,0,0,false,rfl,fun h=>(by cases h),tt⟩))
 | true =>
  obtain ⟨j3,l3,m3,g3,i3⟩:=d4.out (by first | rfl | trivial);have b4:=Hi m3;have d3:=Hi (Ai j3 l3);have b3:=Hi (Ai g3 i3);clear j3 l3 m3 g3 i3;obtain ⟨s0,y1,t0,z1,u0,b2⟩:=Bk.f3 g0 0 1 2 rfl rfl rfl;go_wp2_with fail
  refine (z3.out (by first | rfl | trivial) _ b0).mono ?_;rintro e w2 ⟨q1,k1,q2,k2,q3,k3,rfl,hP,hb⟩;have n3:=hb.size;clear y1 s0 z1 t0 b2 u0;replace g0:=Bb g0 hb;replace f0:=Bb f0 hb;replace b0:=btr b0 hb;clear hb;replace v3:=Bk.lz g0;replace x3:=Bk.lz f0;have q0:=hP.lt;go_wp2_with fail
  have g2:=(Bk.al f0 (.cells #[.slice q1 xs.length k1,.slice q2 ys.length k2,.slice q3 L.length k3] 26));have gP:=(hP.below (bal (Bs _) (.cells #[.slice q1 xs.length k1,.slice q2 ys.length k2,.slice q3 L.length k3] 26)));have gT:=(bal b0 (.cells #[.slice q1 xs.length k1,.slice q2 ys.length k2,.slice q3 L.length k3] 26));have g4:Bk (World.alloc w2 (.cells #[.slice q1 xs.length k1,.slice q2 ys.length k2,.slice q3 L.length k3] 26)) (w2.heap.size) [.slice q1 xs.length k1,.slice q2 ys.length k2,.slice q3 L.length k3]:=(Bk.nw (by simp) rfl);have j6:=hP.top;have k6:w.heap.size≤w.heap.size+1∧w.heap.size+1 < w1.heap.size∧w2.heap.size≤w2.heap.size:=by omega
  have k0:=Hi (Ai g4 (Ai g2 (Ai gP gT)));clear g2 g4 gP gT hP b0 g0 f0 v3 x3;clear q0;go_loopg [5] (slk xs+slk ys) (fun gk s5 wr=>∃ (zs us:List Int) (p1 p2 p3:Option Addr) (c1 c2 c3 lo hi:Nat),Hid (slk zs+slk us≤gk)∧Hid (UpR xs zs∧UpR ys us)∧Bk wr (w2.heap.size) [.slice p1 xs.length c1,.slice p2 ys.length c2,.slice p3 L.length c3]∧Bk wr (w.heap.size+1) [.slice none 0 0,.slice none 0 0,.slice none 0 0]∧PgR wr lo hi (.slice p1 xs.length c1) (.slice p2 ys.length c2) (.slice p3 L.length c3) xs.length ys.length zs us D L∧(w.heap.size+1 < lo∧¬(lo≤w2.heap.size∧w2.heap.size < hi)∧w.heap.size≤lo)∧Below w.heap.size w wr)
  case atStart=>exact ⟨xs,ys,q1,q2,q3,k1,k2,k3,_,_,Hi Lr,Hi ⟨UpR.refl d3.out.1,UpR.refl d3.out.2⟩,k0.out.1,k0.out.2.1,k0.out.2.2.1,by (try simp only [Sa,Ss]);omega,k0.out.2.2.2⟩
  case round =>
   obtain ⟨zs,us,p1,p2,p3,c1,c2,c3,lo,hi,a4,HU,c0,d0,hO,i4,z2⟩:=hrel;clear k0;obtain ⟨j4,k4,l4⟩:=i4;have m6:=Bk.lz c0;have l6:=Bk.lz d0;have i6:=hO.top;have o0:∀ q,PgB lo hi q→lo≤q∧q < hi:=fun q h=>h
   obtain ⟨v0,d2,w0,f2,x0,i2⟩:=Bk.f3 c0 0 1 2 rfl rfl rfl;go_wp2_with fail
   refine (copy_pg hO HN.out (by have:=b3.out;omega) (by have:=b3.out;omega)).mono ?_;rintro e w3 ⟨q1,k1,q2,k2,q3,k3,rfl,hQ,hb⟩;have o3:=hb.size;clear d2 v0 f2 w0 i2 x0;replace hO:=hO.below hb;replace c0:=Bb c0 hb;replace d0:=Bb d0 hb;replace b0:=btr z2 hb;clear hb;have p4:=Bk.lz c0;have q4:=Bk.lz d0;have o4:=hQ.lt;go_upto_region 5 with (fail)
   generalize hnw:World.alloc _ _=w4;have hb:=nmh hnw;clear hnw
   have l0:=hb.size;simp only [Sa] at l0;replace hO:=(hO.below (bal (Bs _) _)).below hb;replace hQ:=(hQ.below (bal (Bs _) _)).below hb;replace c0:=Bb (Bk.al c0 _) hb;replace d0:=Bb (Bk.al d0 _) hb;have a0:Bk w4 (w3.heap.size) [.slice q1 xs.length k1,.slice q2 ys.length k2,.slice q3 L.length k3]:=Bb (Bk.nw (by simp) rfl) hb;replace b0:=btr (bal b0 _) hb;clear hb;have r4:=Bk.lz a0;have e0:∀ q,PgB wr.heap.size w3.heap.size q→wr.heap.size≤q∧q < w3.heap.size:=fun q h=>h
   obtain ⟨y0,j2,z0,l2,b1,m2⟩:=Bk.f3 a0 0 1 2 rfl rfl rfl;go_wp2_with fail
   refine (raise_pg (d:=5) hQ HU.out.1.2.1 HU.out.2.2.1 b4.out).mono ?_;rintro e w5 ⟨j0,i0,rfl,u3,h0,hb⟩;have r3:=hb.size;clear j2 y0 l2 z0 m2 b1;replace hO:=hO.keep hb (fun gq h h2=>by have:=o0 gq h;have:=e0 gq h2;omega);replace c0:=Bk.keep c0 hb (fun h=>by have:=e0 _ h;omega);replace d0:=Bk.keep d0 hb (fun h=>by have:=e0 _ h;omega);replace a0:=Bk.keep a0 hb (fun h=>by have:=e0 _ h;omega);replace b0:=b0.trans (hb.below w.heap.size (by have:=b0.size;omega) (fun gq hgq h=>by have:=e0 gq h;omega));clear hb;clear hQ;have n0:=Hi u3;clear u3;obtain ⟨d1,n2,f1,o2,g1,r2⟩:=Bk.f3 c0 0 1 2 rfl rfl rfl;obtain ⟨i1,s2,j1,t2,l1,u2⟩:=Bk.f3 a0 0 1 2 rfl rfl rfl;go_wp2_with fail
   refine (same_pg h0 hO).mono ?_;rintro e w6 ⟨rfl,hb⟩;have s3:=hb.size;clear n2 d1 o2 f1 r2 g1 s2 i1 t2 j1 u2 l1;replace hO:=hO.below hb;replace h0:=h0.below hb;replace c0:=Bb c0 hb;replace d0:=Bb d0 hb;replace a0:=Bb a0 hb;replace b0:=btr b0 hb;clear hb;by_cases hsm:j0=zs∧i0=us
   rotate_left
   ·rw [decide_eq_false hsm];have e4:Hid (slk j0+slk i0 < slk zs+slk us):=Hi (by have a1:=n0.out.1.slk;have a2:=n0.out.2.slk;by_cases e1:slk j0=slk zs <;> by_cases e2:slk i0=slk us;exact absurd ⟨a1.2 e1,a2.2 e2⟩ hsm;all_goals omega);clear hsm;clear hO;obtain ⟨t4,g5,u4,i5,x4,j5⟩:=Bk.f3 c0 0 1 2 rfl rfl rfl;obtain ⟨y4,k5,z4,l5,a5,m5⟩:=Bk.f3 a0 0 1 2 rfl rfl rfl;have m0:=Hi (Ai (Bk.at (Bk.at (Bk.at c0 0 (.slice q1 xs.length k1)) 1 (.slice q2 ys.length k2)) 2 (.slice q3 L.length k3)) (Ai (Bk.nn (b':=(w2.heap.size)) (j':=2) (Bk.nn (b':=(w2.heap.size)) (j':=1) (Bk.nn (b':=(w2.heap.size)) (j':=0) d0 (.slice q1 xs.length k1)) (.slice q2 ys.length k2)) (.slice q3 L.length k3)) (Ai (((h0.keep (C1 (w2.heap.size) 0 (.slice q1 xs.length k1)) (fun gq h h2=>by have:=e0 gq h;omega)).keep (C1 (w2.heap.size) 1 (.slice q2 ys.length k2)) (fun gq h h2=>by have:=e0 gq h;omega)).keep (C1 (w2.heap.size) 2 (.slice q3 L.length k3)) (fun gq h h2=>by have:=e0 gq h;omega)) (bst (bst (bst b0 (w2.heap.size) 0 (by omega) (.slice q1 xs.length k1)) (w2.heap.size) 1 (by omega) (.slice q2 ys.length k2)) (w2.heap.size) 2 (by omega) (.slice q3 L.length k3)))));have f4:Hid (UpR xs j0∧UpR ys i0):=Hi ⟨HU.out.1.trans n0.out.1,HU.out.2.trans n0.out.2⟩;clear h0;go_wp2
    go_roundg (slk j0+slk i0)
    case measure=>have:=e4.out;have:=a4.out;omega
    case rel=>exact ⟨j0,i0,q1,q2,q3,k1,k2,k3,_,_,Hi Lr,f4,m0.out.1,m0.out.2.1,m0.out.2.2.1,by omega,m0.out.2.2.2⟩
   rw [decide_eq_true hsm];clear hsm;clear h0;obtain ⟨m1,v2,n1,x2,o1,y2⟩:=Bk.f3 c0 0 1 2 rfl rfl rfl;go_wp2_with fail
   refine (check_pg hO HN.out).mono ?_;rintro e w7 ⟨c,a,rfl,e3,hb⟩;have y3:=Hi e3;clear e3;have t3:=hb.size;clear v2 m1 x2 n1 y2 o1;replace hO:=hO.below hb;replace c0:=Bb c0 hb;replace d0:=Bb d0 hb;replace a0:=Bb a0 hb;replace b0:=btr b0 hb;clear hb;by_cases hc0:c=0
   ·have s4:(c != 0)=false:=by simp [hc0]
    have a3:=Hi hc0;clear hc0;have c4:=Hi (((hO.keep (C1 (w.heap.size+1) 0 (.slice p1 xs.length c1)) (fun gq h h2=>by have:=o0 gq h;omega)).keep (C1 (w.heap.size+1) 1 (.slice p2 ys.length c2)) (fun gq h h2=>by have:=o0 gq h;omega)).keep (C1 (w.heap.size+1) 2 (.slice p3 L.length c3)) (fun gq h h2=>by have:=o0 gq h;omega));clear hO;obtain ⟨b5,n5,c5,o5,d5,p5⟩:=Bk.f3 c0 0 1 2 rfl rfl rfl;obtain ⟨r1,q5,s1,r5,t1,t5⟩:=Bk.f3 d0 0 1 2 rfl rfl rfl;have b6:=(Nn (b:=(w.heap.size+1)) (j:=2) (Nn (b:=(w.heap.size+1)) (j:=1) (Tc _ (w.heap.size+1) 0 (.slice p1 xs.length c1) r1) (.slice p2 ys.length c2)) (.slice p3 L.length c3));have c6:=(Nn (b:=(w.heap.size+1)) (j:=2) (Tc _ (w.heap.size+1) 1 (.slice p2 ys.length c2) (Nn (b:=(w.heap.size+1)) (j:=0) s1 (.slice p1 xs.length c1))) (.slice p3 L.length c3));have d6:=(Tc _ (w.heap.size+1) 2 (.slice p3 L.length c3) (Nn (b:=(w.heap.size+1)) (j:=1) (Nn (b:=(w.heap.size+1)) (j:=0) t1 (.slice p1 xs.length c1)) (.slice p2 ys.length c2)));have tt:=(bst (bst (bst b0 (w.heap.size+1) 0 (by omega) (.slice p1 xs.length c1)) (w.heap.size+1) 1 (by omega) (.slice p2 ys.length c2)) (w.heap.size+1) 2 (by omega) (.slice p3 L.length c3));go_wp2
    exact bodyPost_ret (v:=.tuple #[.agg #[.slice p1 xs.length c1,.slice p2 ys.length c2,.slice p3 L.length c3],.bool true]) (by simp [results,Try.results112,go_sem,b6,c6,d6]) rfl (by exact (by unfold InfP;exact ⟨p1,p2,p3,_,_,_,c1,c2,c3,true,rfl,fun _=>⟨rfl,rfl,rfl,lo,hi,zs,us,by omega,c4.out,y3.out a3.out⟩,tt⟩))
   have s4:(c != 0)=true:=by simp [hc0]
   have a3:=Hi hc0;clear hc0;clear hO;obtain ⟨u1,u5,v1,v5,x1,x5⟩:=Bk.f3 d0 0 1 2 rfl rfl rfl;have e6:=(Nn (b:=(w.heap.size+1)) (j:=2) (Nn (b:=(w.heap.size+1)) (j:=1) (Tc _ (w.heap.size+1) 0 (.slice none 0 0) u1) (.slice none 0 0)) (.slice none 0 0));have f6:=(Nn (b:=(w.heap.size+1)) (j:=2) (Tc _ (w.heap.size+1) 1 (.slice none 0 0) (Nn (b:=(w.heap.size+1)) (j:=0) v1 (.slice none 0 0))) (.slice none 0 0));have g6:=(Tc _ (w.heap.size+1) 2 (.slice none 0 0) (Nn (b:=(w.heap.size+1)) (j:=1) (Nn (b:=(w.heap.size+1)) (j:=0) x1 (.slice none 0 0)) (.slice none 0 0)));have tt:=(bst (bst (bst b0 (w.heap.size+1) 0 (by omega) (.slice none 0 0)) (w.heap.size+1) 1 (by omega) (.slice none 0 0)) (w.heap.size+1) 2 (by omega) (.slice none 0 0));go_wp2
   exact bodyPost_ret (v:=.tuple #[.agg #[.slice none 0 0,.slice none 0 0,.slice none 0 0],.bool false]) (by simp [results,Try.results112,go_sem,e6,f6,g6]) rfl (by exact (by unfold InfP;exact ⟨none,none,none,0,0,0,0,0,0,false,rfl,fun h=>(by cases h),tt⟩))
def tgt (x:Ins):Int:=if x.op=8 then x.a else if x.op=9∨x.op=10 then x.b else -1
def aim (x:Ins) (t:Int):Ins:=if x.op=8 then { x with a:=t } else if x.op=9∨x.op=10 then { x with b:=t } else x
def stay (d:Nat→Bool):Nat→Nat
 | 0=>0
 | k+1=>stay d k+(if d k=true then 0 else 1)
def dx (d:Nat→Bool) (x:Ins):Ins:=if 0≤tgt x then aim x (stay d (tgt x).toNat) else x
theorem labsOk_app (a b:List Int) (h:labsOk a=true) (h2:labsOk b=true):labsOk (a++b)=true:=by
 unfold labsOk at *;rw [List.all_append,h,h2];rfl
theorem dblR_parts {xs ys:List Int} {L:List St} (h:dblR xs ys L=true):pvR xs ys L=true∧1≤xs.length∧xs.length≤6∧ys.length≤1∧labsOk xs=true∧labsOk ys=true:=by
 unfold dblR at h
 simp only [Bool.and_eq_true,decide_eq_true_eq] at h;obtain ⟨h1,h2,h3⟩:=h;refine ⟨h1,?_⟩;rw [pvR_spec] at h1;simp only [declOk,Bool.and_eq_true,decide_eq_true_eq] at h1;exact ⟨h1.1.1.1,h2,h3,h1.1.2.2.1,h1.1.2.2.2⟩
theorem law_double {xs ys:List Int} {L:List St} (h:dblR xs ys L=true):pvR (dX true xs) (dX true ys) []=true∧(dX true xs).length=2*xs.length∧(dX true ys).length=2*ys.length∧xs.length≤6∧ys.length≤1:=by
 obtain ⟨_,h1,h2,h3,h4,h5⟩:=dblR_parts h;have e1:(dX true xs).length=2*xs.length:=by simp only [dX,List.length_append];omega
 have e2:(dX true ys).length=2*ys.length:=by simp only [dX,List.length_append];omega
 refine ⟨?_,e1,e2,h2,h3⟩;rw [pvR_spec]
 have a1:declOk (dX true xs) (dX true ys)=true:=by
  unfold declOk
  rw [e1,e2,decide_eq_true (by omega),decide_eq_true (by omega)];simp only [dX,Bool.true_and];rw [labsOk_app _ _ h4 h4,labsOk_app _ _ h5 h5];rfl
 rw [a1];simp [szB]
end Go.Proofs.Ytlckklglbodgbaa
