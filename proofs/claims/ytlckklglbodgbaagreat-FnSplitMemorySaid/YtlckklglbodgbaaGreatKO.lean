/-
 Parts of the proofs of the laws FnPairMemory,FnSplitMemory.
-/
import Derived.Laws.BitsLemmas
import Derived.Lib.AppendZeros
import Derived.Test.YtlckklglbodgbaaGreatKJ
import Derived.Test.YtlckklglbodgbaaGreatKN
set_option maxHeartbeats 12800000
set_option maxRecDepth 100000
set_option linter.all false
namespace Go.Proofs.YtlckklglbodgbaaGreat
open Go.RowKit
structure PgR (w:World) (lo hi:Nat) (va vb vu:Value) (n m:Nat) (zs us:List Int) (D:Nat) (L:List St):Prop where
 lb:LbR w lo va vb n m zs us
 rh:∀ q,OwnRB va vb q→q < hi
 t:BlAt w (fun q=>(lo≤q∧q < hi)∧¬OwnRB va vb q) D vu L
 top:hi≤w.heap.size
def PgB (lo hi q:Nat):Prop:=lo≤q∧q < hi
section
variable {w w':World} {lo hi:Nat} {va vb vu:Value} {n m:Nat} {zs us:List Int} {D:Nat} {L:List St}
theorem PgR.lt (h:PgR w lo hi va vb vu n m zs us D L):∀ q,PgB lo hi q→lo≤q∧q < w.heap.size:=fun q hq=>⟨hq.1,Nat.lt_of_lt_of_le hq.2 h.top⟩
theorem PgR.rows (h:PgR w lo hi va vb vu n m zs us D L):∀ q,OwnRB va vb q→PgB lo hi q:=fun q hq=>⟨(h.lb.lt q hq).1,h.rh q hq⟩
theorem PgR.keep (h:PgR w lo hi va vb vu n m zs us D L) {S:Nat→Prop} (hc:Chg S w w') (hs:∀ q,PgB lo hi q→¬S q):PgR w' lo hi va vb vu n m zs us D L:=
 ⟨h.lb.keep hc (fun q hq=>hs q (h.rows q hq)),h.rh,h.t.keep hc (fun q hq _=>hs q hq.1) (fun _ hq _=>hq) Lr,Nat.le_trans h.top hc.size⟩
theorem PgR.below (h:PgR w lo hi va vb vu n m zs us D L) (hb:Below w.heap.size w w'):PgR w' lo hi va vb vu n m zs us D L:=h.keep (S:=fun _=>False) (Cb hb) (fun _ _=>id)
theorem PgR.ra (h:PgR w lo hi va vb vu n m zs us D L):Reads w 1 va n (ints zs):=by
 have:=h.lb.a;exact Ro this (own_len this)
theorem PgR.rb (h:PgR w lo hi va vb vu n m zs us D L):Reads w 1 vb m (ints us):=by
 have:=h.lb.b;exact Ro this (own_len this)
theorem PgR.shape (h:PgR w lo hi va vb vu n m zs us D L):∃ p1 c1 p2 c2 p3 c3,va=.slice p1 n c1∧vb=.slice p2 m c2∧vu=.slice p3 L.length c3:=by
 obtain ⟨p1,c1,h1⟩:=Oh h.lb.a;obtain ⟨p2,c2,h2⟩:=Oh h.lb.b;obtain ⟨p3,c3,h3⟩:=RowOf.shape h.t;exact ⟨p1,c1,p2,c2,p3,c3,h1,h2,h3⟩
end
theorem rowOf_own {α β:Type} {f:α→List Value} {sz:Nat} {w:World} {B:Nat→Prop} {base:Nat} {e:TypeId} {R:α→β→Prop} {u:Value} {l:List β} {rs:List α} (hl:rs.length=l.length) (ho:w.ownsRow base e sz u l.length (rows f rs)) (hn:l.length≤9223372036854775807) (hB:∀ q,u.ownBlock=some q→B q) (hR:∀ j (h:j < rs.length) (h':j < l.length),R rs[j] l[j]):RowOf f sz w B R u l:=
 ⟨rs,hl,Ro ho hn,fun b o c _ hv=>by
  rcases ho.2 with ⟨h,_⟩ | ⟨g,cap,cur,h,_⟩
  ·rw [h] at hv;cases hv
  rw [h] at hv;simp only [Value.slice.injEq,Option.some.injEq,Addr.mk.injEq] at hv;exact hB b (by rw [h,← hv.1.1];rfl),hR⟩
theorem CpP.pg {D:Nat} {xs ys:List Int} {L:List St} {w w':World} {r:Ending} (h:CpP D xs ys L w r w'):∃ p1 c1 p2 c2 p3 c3,r=.returned (.agg #[.slice p1 xs.length c1,.slice p2 ys.length c2,.slice p3 L.length c3])∧PgR w' w.heap.size w'.heap.size (.slice p1 xs.length c1) (.slice p2 ys.length c2) (.slice p3 L.length c3) xs.length ys.length xs ys D L∧Below w.heap.size w w':=by
 obtain ⟨pv,pa,a,cv,ca,c,rs,h1,h2,h3,h4,h5,h6⟩:=h;refine ⟨pv,cv,pa,ca,a,c,h1,⟨⟨rfl,rfl,h2,h3,h4⟩,fun q hq=>?_,?_,Lr⟩,h6⟩
 ·rcases hq with hq | hq
  ·exact (h2.lt q hq).2
  exact (h3.lt q hq).2
 have ho:=h5.own;have e1:=own_diff ho h2 (by decide);have e2:=own_diff ho h3 (by decide)
 refine rowOf_own h5.len ho (own_len ho) (fun q hq=>⟨ho.lt q hq,fun h=>by
  rcases h with h | h
  ·exact e1 q hq h
  exact e2 q hq h⟩) (fun j a c=>StAt.keep (S:=fun _=>False) (Chg.refl _ _) (fun _ _ _=>id) (fun q hq hl=>⟨⟨hq.1.1,hl⟩,fun h=>by
  rcases h with h | h
  ·exact hq.1.2.1 h
  exact hq.1.2.2 h⟩) Lr (h5.kid j a c))
theorem copy_pg {w:World} {lo hi:Nat} {va vb vu:Value} {n m:Nat} {zs us:List Int} {D:Nat} {L:List St} (h:PgR w lo hi va vb vu n m zs us D L) (hn:stNs L≤1048576) (hn1:n≤1048576) (hn2:m≤1048576) :
  Calls Tryz.prog 50 #[.agg #[va,vb,vu]] w fun r w'=>∃ p1 c1 p2 c2 p3 c3,r=.returned (.agg #[.slice p1 n c1,.slice p2 m c2,.slice p3 L.length c3])∧PgR w' w.heap.size w'.heap.size (.slice p1 n c1) (.slice p2 m c2) (.slice p3 L.length c3) n m zs us D L∧Below w.heap.size w w':=by
 have ha:=h.ra;have hb:=h.rb;obtain ⟨⟨rfl,rfl,_,_,_⟩,_,ht,_⟩:=h;exact (l2Copy_any zs us _ D va vb vu L w ha hb ht hn hn1 hn2).mono (fun r w' hc=>hc.pg)
theorem raise_pg {w:World} {lo hi:Nat} {p1 p2 p3:Option Addr} {c1 c2 c3 n m:Nat} {zs us:List Int} {D d:Nat} {L:List St} (h:PgR w lo hi (.slice p1 n c1) (.slice p2 m c2) (.slice p3 L.length c3) n m zs us D L) (hz:LabsP zs) (hu:LabsP us) (hok:L.all (stOk n m d)=true) :
  Calls Tryz.prog 120 #[.agg #[.slice p1 n c1,.slice p2 m c2,.slice p3 L.length c3],.slice p3 L.length c3,.int .i64 0] w fun r w'=>∃ zs' us':List Int,r=.returned (.tuple #[])∧(UpR zs zs'∧UpR us us')∧PgR w' lo hi (.slice p1 n c1) (.slice p2 m c2) (.slice p3 L.length c3) n m zs' us' D L∧Chg (fun q=>PgB lo hi q) w w':=by
 refine (l4Raise_any lo p1 p2 p3 c1 c2 L.length c3 n m d _ D _ L 0 zs us w h.lb (fun q hq=>hq.2) hz hu ⟨by decide,by decide⟩ h.t hok).mono ?_;rintro r w' ⟨zs',us',rfl,u1,u2,hl,hc⟩;exact ⟨zs',us',rfl,⟨u1,u2⟩,⟨hl,h.rh,h.t.keep hc (fun q hq _=>hq.2) (fun _ hq _=>hq) Lr,Nat.le_trans h.top hc.size⟩,hc.mono (fun q _ hq=>h.rows q hq)⟩
theorem same_pg {w:World} {lo hi lo' hi':Nat} {va vb vu ta tb tu:Value} {n m:Nat} {zs us zs' us':List Int} {D D':Nat} {L:List St} (h:PgR w lo hi va vb vu n m zs us D L) (k:PgR w lo' hi' ta tb tu n m zs' us' D' L) :
  Calls Tryz.prog 121 #[.agg #[va,vb,vu],.agg #[ta,tb,tu]] w fun r w'=>r=.returned (.bool (decide (zs=zs'∧us=us')))∧Below w.heap.size w w':=by
 have e1:=h.lb.lx;have e2:=h.lb.ly;have e3:=k.lb.lx;have e4:=k.lb.ly;exact programSame_any _ _ D D' zs us zs' us' L va vb vu ta tb tu w (by rw [e1];exact h.ra) (by rw [e2];exact h.rb) h.t (by rw [e3];exact k.ra) (by rw [e4];exact k.rb) k.t
theorem check_pg {w:World} {lo hi:Nat} {va vb vu:Value} {n m:Nat} {zs us:List Int} {D:Nat} {L:List St} (h:PgR w lo hi va vb vu n m zs us D L) (hn:stNs L≤1048576) :
  Calls Tryz.prog 79 #[.agg #[va,vb,vu]] w fun r w'=>CkP zs us L w r w':=by
 have e1:=h.lb.lx;have e2:=h.lb.ly;exact CheckFlow_any zs us _ D va vb vu L w (by rw [e1];exact h.ra) (by rw [e2];exact h.rb) h.t hn
def slk (zs:List Int):Nat:=(zs.map (fun z=>(3-z).toNat)).sum
theorem slk_up:∀ (xs zs:List Int),zs.length=xs.length→(∀ z ∈ zs,z≤3)→(∀ i:Nat,gi xs i≤gi zs i)→slk zs≤slk xs∧(slk zs=slk xs→zs=xs)
 | [],zs,hl,_,_=>by
  obtain rfl:=List.eq_nil_of_length_eq_zero hl;exact ⟨Lr,fun _=>rfl⟩
 | x::xs,[],hl,_,_=>by simp at hl
 | x::xs,z::zs,hl,h3,hg=>by
  have h0:x≤z:=by simpa [gi] using hg 0
  have hz:=h3 z (by simp)
  have ih:=slk_up xs zs (by simpa using hl) (fun y hy=>h3 y (by simp [hy])) (fun i=>by
   have:=hg (i+1)
   simpa [gi] using this)
  have e1:slk (z::zs)=(3-z).toNat+slk zs:=by simp [slk]
  have e2:slk (x::xs)=(3-x).toNat+slk xs:=by simp [slk]
  refine ⟨by omega,fun e=>?_⟩;have k1:slk zs=slk xs:=by omega
  have k2:z=x:=by omega
  rw [ih.2 k1,k2]
theorem UpR.slk {xs zs:List Int} (h:UpR xs zs):slk zs≤slk xs∧(slk zs=slk xs→zs=xs):=slk_up xs zs h.1 (fun z hz=>(h.2.1 z hz).2) h.2.2
end Go.Proofs.YtlckklglbodgbaaGreat
namespace Go.Proofs.YtlckklglbodgbaaGreat
open Go.RowKit
def InfP (xs ys:List Int) (D:Nat) (L:List St) (w:World) (r:Ending) (w':World):Prop:=∃ (p1 p2 p3:Option Addr) (n1 n2 n3 c1 c2 c3:Nat) (ok:Bool),r=.returned (.tuple #[.agg #[.slice p1 n1 c1,.slice p2 n2 c2,.slice p3 n3 c3],.bool ok]) ∧
 (ok=true→n1=xs.length∧n2=ys.length∧n3=L.length∧∃ lo hi zs us,w.heap.size≤lo∧PgR w' lo hi (.slice p1 n1 c1) (.slice p2 n2 c2) (.slice p3 n3 c3) n1 n2 zs us D L∧pvR zs us L=true)∧Below w.heap.size w w'
theorem pvR_labs {xs ys:List Int} {L:List St} (h:pvR xs ys L=true):LabsP xs∧LabsP ys∧L.all (stOk xs.length ys.length 5)=true∧xs.length≤12∧ys.length≤2:=by
 rw [pvR_spec] at h;simp only [Bool.and_eq_true] at h;obtain ⟨h1,h2,_⟩:=h;unfold declOk at h1
 simp only [Bool.and_eq_true,decide_eq_true_eq] at h1;obtain ⟨⟨_,h3⟩,h4,h5,h6⟩:=h1;refine ⟨fun x hx=>?_,fun x hx=>?_,h2,h3,h4⟩
 ·exact labOk_iff.1 (List.all_eq_true.1 h5 x hx)
 exact labOk_iff.1 (List.all_eq_true.1 h6 x hx)
theorem InferLabels_any (xs ys:List Int) (A:Nat→Prop) (D:Nat) (va vb u:Value) (L:List St) (w:World) (hr:Reads w 1 va xs.length (ints xs)) (hs:Reads w 1 vb ys.length (ints ys)) (hx:BlAt w A D u L) (hn:stNs L≤1048576) :
  Calls Tryz.prog 98 #[.agg #[va,vb,u]] w fun r w'=>InfP xs ys D L w r w':=by
 obtain ⟨pv,cv,rfl⟩:=reads_shape hr;obtain ⟨pa,ca,rfl⟩:=reads_shape hs;obtain ⟨pu,cu,rfl⟩:=RowOf.shape hx;have HV:=Hi (fun W (hW:Below w.heap.size w W)=>sProgramValid_any _ _ xs ys A D _ L W (hr.below hW) (hs.below hW) (hx.below hW) hn);have e4:Hid (pvR xs ys L=true→∀ W,Below w.heap.size w W→Calls Tryz.prog 50 #[.agg #[.slice pv xs.length cv,.slice pa ys.length ca,.slice pu L.length cu]] W fun r w'=>∃ p1 c1 p2 c2 p3 c3,r=.returned (.agg #[.slice p1 xs.length c1,.slice p2 ys.length c2,.slice p3 L.length c3])∧PgR w' W.heap.size w'.heap.size (.slice p1 xs.length c1) (.slice p2 ys.length c2) (.slice p3 L.length c3) xs.length ys.length xs ys D L∧Below W.heap.size W w'):=Hi (fun h W hW=>(l2Copy_any xs ys A D _ _ _ L W (hr.below hW) (hs.below hW) (hx.below hW) hn (by have:=(pvR_labs h).2.2.2.1;omega) (by have:=(pvR_labs h).2.2.2.2;omega)).mono (fun r w' hc=>hc.pg));have j4:=Hi (fun h:pvR xs ys L=true=>pvR_labs h);have HN:=Hi hn;clear hr hs hx hn;generalize pvR xs ys L=X at *
 obtain ⟨n,r4⟩:∃ n,n=xs.length:=⟨_,rfl⟩;obtain ⟨m,q4⟩:∃ m,m=ys.length:=⟨_,rfl⟩;clear r4 q4;go_enter Tryz.func98,Tryz.ntmps98
 go_wp2_with fail
 refine (HV.out _ (bal (bal (Bs w) (.cells #[.slice pv xs.length cv,.slice pa ys.length ca,.slice pu L.length cu] 26)) (.cells #[.slice none 0 0,.slice none 0 0,.slice none 0 0] 26))).mono ?_;rintro e w1 ⟨rfl,hb⟩;have v0:=hb.size;simp only [Sa] at v0;have p0:=Bb (Bk.al (Bk.n3 (w.heap.size)) (.cells #[.slice none 0 0,.slice none 0 0,.slice none 0 0] 26)) hb;have k0:=Bb (Bk.n3 (w.heap.size+1)) hb;have d0:=btr (bal (bal (Bs w) (.cells #[.slice pv xs.length cv,.slice pa ys.length ca,.slice pu L.length cu] 26)) (.cells #[.slice none 0 0,.slice none 0 0,.slice none 0 0] 26)) hb;clear hb;have y4:=Bk.lz p0;have z4:=Bk.lz k0
 cases X with
 | false =>
  obtain ⟨v6,y6,x6,z6,b5,r5⟩:=Bk.h3 k0;obtain ⟨j6,k6,l6⟩:=Bk.g3 (Bk.t3 k0 (.slice none 0 0) (.slice none 0 0) (.slice none 0 0));have tt:=(bst (bst (bst d0 (w.heap.size+1) 0 (by omega) (.slice none 0 0)) (w.heap.size+1) 1 (by omega) (.slice none 0 0)) (w.heap.size+1) 2 (by omega) (.slice none 0 0));go_wp2
  exact bodyPost_ret (v:=.tuple #[.agg #[.slice none 0 0,.slice none 0 0,.slice none 0 0],.bool false]) (by simp [results,Tryz.results98,go_sem,j6,k6,l6]) rfl (by exact (by unfold InfP;exact ⟨none,none,none,0,0,0,0,0,0,false,rfl,fun h=>(by cases h),tt⟩))
 | true =>
  obtain ⟨o3,r3,s3,l3,m3⟩:=j4.out (by first | rfl | trivial);have h4:=Hi s3;have i3:=Hi (Ai o3 r3);have f3:=Hi (Ai l3 m3);clear o3 r3 s3 l3 m3;obtain ⟨x0,x1,y0,y1,z0,z1⟩:=Bk.h3 p0;go_wp2_with fail
  refine (e4.out (by first | rfl | trivial) _ d0).mono ?_;rintro e w2 ⟨q1,k1,q2,k2,q3,k3,rfl,hP,i0⟩;have v3:=i0.size;clear x1 x0 y1 y0 z1 z0;replace d0:=btr d0 i0;have w0:=hP.lt;go_wp2_with fail
  replace k0:=Bb k0 i0;have g2:=(Bk.al k0 (.cells #[.slice q1 xs.length k1,.slice q2 ys.length k2,.slice q3 L.length k3] 26));have gP:=(hP.below (bal (Bs _) (.cells #[.slice q1 xs.length k1,.slice q2 ys.length k2,.slice q3 L.length k3] 26)));have gT:=(bal d0 (.cells #[.slice q1 xs.length k1,.slice q2 ys.length k2,.slice q3 L.length k3] 26));have g4:Bk (World.alloc w2 (.cells #[.slice q1 xs.length k1,.slice q2 ys.length k2,.slice q3 L.length k3] 26)) (w2.heap.size) [.slice q1 xs.length k1,.slice q2 ys.length k2,.slice q3 L.length k3]:=(Bk.nw (by simp) rfl);have q6:=hP.top;have r6:w.heap.size≤w.heap.size+1∧w.heap.size+1 < w1.heap.size∧w2.heap.size≤w2.heap.size:=by omega
  replace p0:=Bb p0 i0;have o0:=Hi (Ai g4 (Ai g2 (Ai gP gT)));clear g2 g4 gP gT hP d0 p0 k0 y4 z4;clear w0;go_loopg [5] (slk xs+slk ys) (fun gk s5 wr=>∃ (zs us:List Int) (p1 p2 p3:Option Addr) (c1 c2 c3 lo hi:Nat),Hid (slk zs+slk us≤gk)∧Hid (UpR xs zs∧UpR ys us)∧Bk wr (w2.heap.size) [.slice p1 xs.length c1,.slice p2 ys.length c2,.slice p3 L.length c3]∧Bk wr (w.heap.size+1) [.slice none 0 0,.slice none 0 0,.slice none 0 0]∧PgR wr lo hi (.slice p1 xs.length c1) (.slice p2 ys.length c2) (.slice p3 L.length c3) xs.length ys.length zs us D L∧(w.heap.size+1 < lo∧¬(lo≤w2.heap.size∧w2.heap.size < hi)∧w.heap.size≤lo)∧Below w.heap.size w wr)
  case atStart=>exact ⟨xs,ys,q1,q2,q3,k1,k2,k3,_,_,Hi Lr,Hi ⟨UpR.refl i3.out.1,UpR.refl i3.out.2⟩,o0.out.1,o0.out.2.1,o0.out.2.2.1,by (try simp only [Sa,Ss]);omega,o0.out.2.2.2⟩
  case round =>
   obtain ⟨zs,us,p1,p2,p3,c1,c2,c3,lo,hi,f4,HU,b0,c0,hO,m4,z2⟩:=hrel;clear o0;obtain ⟨n4,o4,p4⟩:=m4;have t6:=Bk.lz b0;have s6:=Bk.lz c0;have p6:=hO.top;have t0:∀ q,PgB lo hi q→lo≤q∧q < hi:=fun q h=>h
   obtain ⟨b1,b2,d1,d2,f1,f2⟩:=Bk.h3 b0;go_wp2_with fail
   refine (copy_pg hO HN.out (by have:=f3.out;omega) (by have:=f3.out;omega)).mono ?_;rintro e w3 ⟨q1,k1,q2,k2,q3,k3,rfl,hQ,h0⟩;have x3:=h0.size;clear b2 b1 d2 d1 f2 f1;replace hO:=hO.below h0;replace d0:=btr z2 h0;replace b0:=Bb b0 h0;have t4:=Bk.lz b0;replace c0:=Bb c0 h0;have v4:=Bk.lz c0;have s4:=hQ.lt;go_upto_region 5 with (fail)
   generalize hnw:World.alloc _ _=w4;have f0:=nmh hnw;clear hnw
   have q0:=f0.size;simp only [Sa] at q0;replace hO:=(hO.below (bal (Bs _) _)).below f0;replace hQ:=(hQ.below (bal (Bs _) _)).below f0;have e0:=Bb (Bk.n3 (w3.heap.size)) f0;replace d0:=btr (bal d0 _) f0;have x4:=Bk.lz e0;have j0:∀ q,PgB wr.heap.size w3.heap.size q→wr.heap.size≤q∧q < w3.heap.size:=fun q h=>h
   obtain ⟨g1,i2,h1,j2,i1,l2⟩:=Bk.h3 e0;go_wp2_with fail
   refine (raise_pg (d:=5) hQ HU.out.1.2.1 HU.out.2.2.1 h4.out).mono ?_;rintro e w5 ⟨n0,m0,rfl,b4,l0,hb⟩;have y3:=hb.size;clear i2 g1 j2 h1 l2 i1;replace hO:=hO.keep hb (fun gq h h2=>by have:=t0 gq h;have:=j0 gq h2;omega);replace b0:=Bb (Bk.al b0 _) f0;replace b0:=Bk.keep b0 hb (fun h=>by have:=j0 _ h;omega);replace c0:=Bb (Bk.al c0 _) f0;replace c0:=Bk.keep c0 hb (fun h=>by have:=j0 _ h;omega);replace e0:=Bk.keep e0 hb (fun h=>by have:=j0 _ h;omega);replace d0:=d0.trans (hb.below w.heap.size (by have:=d0.size;omega) (fun gq hgq h=>by have:=j0 gq h;omega));clear hb;clear hQ;have s0:=Hi b4;clear b4;obtain ⟨j1,m2,l1,n2,m1,o2⟩:=Bk.h3 b0;obtain ⟨n1,r2,o1,s2,r1,t2⟩:=Bk.h3 e0;go_wp2_with fail
   refine (same_pg l0 hO).mono ?_;rintro e w6 ⟨rfl,a0⟩;have z3:=a0.size;clear m2 j1 n2 l1 o2 m1 r2 n1 s2 o1 t2 r1;replace hO:=hO.below a0;replace l0:=l0.below a0;replace d0:=btr d0 a0;by_cases hsm:n0=zs∧m0=us
   rotate_left
   ·rw [decide_eq_false hsm];have k4:Hid (slk n0+slk m0 < slk zs+slk us):=Hi (by have a1:=s0.out.1.slk;have a2:=s0.out.2.slk;by_cases e1:slk n0=slk zs <;> by_cases e2:slk m0=slk us;exact absurd ⟨a1.2 e1,a2.2 e2⟩ hsm;all_goals omega);clear hsm;clear hO;replace b0:=Bb b0 a0;obtain ⟨c5,t5,d5,v5,e5,x5⟩:=Bk.h3 b0;replace e0:=Bb e0 a0;obtain ⟨f5,y5,g5,z5,h5,a6⟩:=Bk.h3 e0;replace c0:=Bb c0 a0;have r0:=Hi (Ai (Bk.t3 b0 (.slice q1 xs.length k1) (.slice q2 ys.length k2) (.slice q3 L.length k3)) (Ai (Bk.nn (b':=(w2.heap.size)) (j':=2) (Bk.nn (b':=(w2.heap.size)) (j':=1) (Bk.nn (b':=(w2.heap.size)) (j':=0) c0 (.slice q1 xs.length k1)) (.slice q2 ys.length k2)) (.slice q3 L.length k3)) (Ai (((l0.keep (C1 (w2.heap.size) 0 (.slice q1 xs.length k1)) (fun gq h h2=>by have:=j0 gq h;omega)).keep (C1 (w2.heap.size) 1 (.slice q2 ys.length k2)) (fun gq h h2=>by have:=j0 gq h;omega)).keep (C1 (w2.heap.size) 2 (.slice q3 L.length k3)) (fun gq h h2=>by have:=j0 gq h;omega)) (bst (bst (bst d0 (w2.heap.size) 0 (by omega) (.slice q1 xs.length k1)) (w2.heap.size) 1 (by omega) (.slice q2 ys.length k2)) (w2.heap.size) 2 (by omega) (.slice q3 L.length k3)))));have l4:Hid (UpR xs n0∧UpR ys m0):=Hi ⟨HU.out.1.trans s0.out.1,HU.out.2.trans s0.out.2⟩;clear l0;go_wp2
    go_roundg (slk n0+slk m0)
    case measure=>have:=k4.out;have:=f4.out;omega
    case rel=>exact ⟨n0,m0,q1,q2,q3,k1,k2,k3,_,_,Hi Lr,l4,r0.out.1,r0.out.2.1,r0.out.2.2.1,by omega,r0.out.2.2.2⟩
   rw [decide_eq_true hsm];clear hsm;clear l0;replace b0:=Bb b0 a0;obtain ⟨s1,v2,t1,x2,v1,y2⟩:=Bk.h3 b0;go_wp2_with fail
   refine (check_pg hO HN.out).mono ?_;rintro e w7 ⟨c,a,rfl,j3,g0⟩;have d4:=Hi j3;clear j3;have a4:=g0.size;clear v2 s1 x2 t1 y2 v1;replace hO:=hO.below g0;replace d0:=btr d0 g0;by_cases hc0:c=0
   ·have a5:(c != 0)=false:=by simp [hc0]
    have e3:=Hi hc0;clear hc0;have i4:=Hi (((hO.keep (C1 (w.heap.size+1) 0 (.slice p1 xs.length c1)) (fun gq h h2=>by have:=t0 gq h;omega)).keep (C1 (w.heap.size+1) 1 (.slice p2 ys.length c2)) (fun gq h h2=>by have:=t0 gq h;omega)).keep (C1 (w.heap.size+1) 2 (.slice p3 L.length c3)) (fun gq h h2=>by have:=t0 gq h;omega));clear hO;replace b0:=Bb b0 g0;obtain ⟨i5,b6,j5,c6,k5,d6⟩:=Bk.h3 b0;replace c0:=Bb (Bb c0 a0) g0;obtain ⟨l5,e6,m5,f6,n5,g6⟩:=Bk.h3 c0;obtain ⟨m6,n6,o6⟩:=Bk.g3 (Bk.t3 c0 (.slice p1 xs.length c1) (.slice p2 ys.length c2) (.slice p3 L.length c3));have tt:=(bst (bst (bst d0 (w.heap.size+1) 0 (by omega) (.slice p1 xs.length c1)) (w.heap.size+1) 1 (by omega) (.slice p2 ys.length c2)) (w.heap.size+1) 2 (by omega) (.slice p3 L.length c3));go_wp2
    exact bodyPost_ret (v:=.tuple #[.agg #[.slice p1 xs.length c1,.slice p2 ys.length c2,.slice p3 L.length c3],.bool true]) (by simp [results,Tryz.results98,go_sem,m6,n6,o6]) rfl (by exact (by unfold InfP;exact ⟨p1,p2,p3,_,_,_,c1,c2,c3,true,rfl,fun _=>⟨rfl,rfl,rfl,lo,hi,zs,us,by omega,i4.out,d4.out e3.out⟩,tt⟩))
   have a5:(c != 0)=true:=by simp [hc0]
   have e3:=Hi hc0;clear hc0;clear hO;replace c0:=Bb (Bb c0 a0) g0;obtain ⟨o5,h6,p5,i6,q5,c4⟩:=Bk.h3 c0;obtain ⟨a3,b3,d3⟩:=Bk.g3 (Bk.t3 c0 (.slice none 0 0) (.slice none 0 0) (.slice none 0 0));have tt:=(bst (bst (bst d0 (w.heap.size+1) 0 (by omega) (.slice none 0 0)) (w.heap.size+1) 1 (by omega) (.slice none 0 0)) (w.heap.size+1) 2 (by omega) (.slice none 0 0));go_wp2
   exact bodyPost_ret (v:=.tuple #[.agg #[.slice none 0 0,.slice none 0 0,.slice none 0 0],.bool false]) (by simp [results,Tryz.results98,go_sem,a3,b3,d3]) rfl (by exact (by unfold InfP;exact ⟨none,none,none,0,0,0,0,0,0,false,rfl,fun h=>(by cases h),tt⟩))
theorem memOk_mk {nv na:Nat} {m:Mm} (h1:m.vals.length=nv) (h2:m.arrs.length=na) (h3:∀ n ∈ m.vals,0≤n∧n < 256) (h4:∀ a ∈ m.arrs,a.length=4∧∀ n ∈ a,0≤n∧n < 256):memOk nv na m=true:=by
 have hv:∀ xs:List Int,(∀ n ∈ xs,0≤n∧n < 256)→valsOk xs=true:=fun xs hx=>List.all_eq_true.2 (fun n hn=>by
  have:=hx n hn
  exact decide_eq_true (p:=0≤n∧n≤255) (by omega))
 unfold memOk
 rw [decide_eq_true h1,decide_eq_true h2,hv _ h3];simp only [Bool.true_and];refine List.all_eq_true.2 (fun a ha=>?_);rw [decide_eq_true (h4 a ha).1,hv _ (h4 a ha).2];rfl
theorem ExAt.up {w:World} {B:Nat→Prop} {D D':Nat} {n:En} {e:Ex} (h:ExAt w B D n e) (hd:D≤D'):ExAt w B D' n e:=ExAt.keep (S:=fun _=>False) (Chg.refl _ _) (fun _ _ _=>id) (fun _ h _=>h) hd h
def MkB (va vb:Value) (base top:Nat) (q:Nat):Prop:=va.ownBlock=some q∨vb.ownBlock=some q∨(base≤q∧q < top)
theorem MkB.of_own {w:World} {base top:Nat} {va vb u:Value} {D:Nat} {xs ys:List Int} {L:List St} (h:OwnP w base top va vb u D xs ys L):∀ q,MkB va vb base top q→OwnPB base top q:=by
 obtain ⟨w0,rfl,h2,h3⟩:=h;rintro q (hq | hq | hq)
 ·exact h2.a.lt q hq
 ·exact h2.b.lt q hq
 exact hq
theorem grow_z (m:Nat) (hm:m≤1000000) (w:World) :
  Calls Tryz.prog 77 #[.slice none 0 0,.int .i64 m] w fun e w'=>∃ v,e=.returned v∧w'.ownsRow w.heap.size 3 1 v 0 []∧Below w.heap.size w w':=by
 by_cases h0:m=0
 ·subst h0;go_enter Tryz.func77,Tryz.ntmps77
  go_wp2
  go_ret
  exact ⟨_,rfl,World.ownsRow_nil _ _ _ _,Below.refl _ _⟩
 obtain ⟨i0,hi,e0,j0,f0⟩:=info_parts info_int
 have d0:∀ ty,(Builtin.append_ #[23,3] ty #[.slice none 0 0,.int .i64 (m:Int)]).run Tryz.prog w=.ok (.slice (some ⟨w.heap.size,0,none⟩) m (grownCap w m 0 3)) (w.drew.alloc (.cells (Builtin.zeroCells (Value.int .i64 0).cells m++Builtin.zeroCells (Value.int .i64 0).cells (grownCap w m 0 3-m)) 3)):=fun ty =>
  Lib.run_append_nil_zeros (P:=Tryz.prog) w 23 3 ty 3 i0 (.int .i64 0) .i64 .i64 Tryz.underlying23 Tryz.underlying3 hi e0 m (by omega) (by omega) (by omega) (by rw [f0];omega)
 have g0:=grownCap_ge w m 0 3;have c0:=grownCap_le_maxLen w m 0 3 (by unfold maxLen;omega)
 have b0:(w.drew.alloc (.cells (Builtin.zeroCells (Value.int .i64 0).cells m++Builtin.zeroCells (Value.int .i64 0).cells (grownCap w m 0 3-m)) 3)).ownsRow w.heap.size 3 1 (.slice (some ⟨w.heap.size,0,none⟩) 0 (grownCap w m 0 3)) 0 []:=by
  refine ⟨rfl,.inr ⟨w.heap.size,_,_,rfl,Lr,heap_alloc_new w.drew _,Nat.zero_le _,c0,?_,by simp⟩⟩;simp only [Array.size_append,size_zeroCells];have:(Value.int IntKind.i64 0).cells.size=1:=rfl
  rw [this];omega
 have a0:Below w.heap.size w (w.drew.alloc (.cells (Builtin.zeroCells (Value.int .i64 0).cells m++Builtin.zeroCells (Value.int .i64 0).cells (grownCap w m 0 3-m)) 3)):=
  ((⟨rfl,rfl,rfl,by simp,fun k hk _=>heap_alloc_old w.drew _ hk⟩:Chg (fun _=>False) w (w.drew.alloc _)).below w.heap.size Lr (fun _ _ h=>h))
 obtain ⟨G,hG⟩:∃ G,G=grownCap w m 0 3:=⟨_,rfl⟩;rw [← hG] at d0 g0 c0 b0 a0;unfold maxLen at c0
 clear hG hi e0 j0 f0;have b0:=Hi b0;have a0:=Hi a0;go_enter Tryz.func77,Tryz.ntmps77
 go_wp2_with (at_builtin;refine Lib.wpList_append_run _ rfl _ _ _ _ rfl _ _ rfl rfl _ _ (d0 _) ?_)
 all_goals (go_ret;exact ⟨_,rfl,b0.out,a0.out⟩)
theorem concat_two (va:Value) (xs:List Int) (p:Nat) (w:World) (hr:Reads w 1 va xs.length (ints xs)) (hlen:xs.length≤1000) (hp:p < w.heap.size) (h0:w.cell? ⟨p,0,none⟩=some va) (h1:w.cell? ⟨p,1,none⟩=some va) :
  Calls Tryz.prog 43 #[.slice (some ⟨p,0,none⟩) 2 2] w fun e w'=>∃ v,e=.returned v∧w'.ownsRow w.heap.size 3 1 v (xs.length+xs.length) (ints xs++ints xs)∧Below w.heap.size w w':=by
 obtain ⟨pv,cv,rfl⟩:=reads_shape hr;have HR:=Hi hr;clear hr;go_enter Tryz.func43,Tryz.ntmps43
 go_wp2
 go_loopw [3,11] (fun s i wr=>∃ k:Nat,(k=0∨k=1∨k=2)∧i=.int .i64 k∧s=.int .i64 ((k*xs.length:Nat):Int)∧w=wr) (fun s i _=>2-(intOf i).toNat)
 case atStart=>exact ⟨0,.inl rfl,rfl,by simp,rfl⟩
 case round =>
  obtain ⟨k,hk,rfl,rfl,rfl⟩:=hrel;rcases hk with rfl | rfl | rfl
  ·go_wp2
   go_roundw
   case rel=>exact ⟨1,by simp,by go_num,by go_num,by simp⟩
   case measure=>simp [intOf]
  ·go_wp2
   go_roundw
   case rel=>exact ⟨2,by simp,by go_num,by go_num,by simp⟩
   case measure=>simp [intOf]
  go_wp2_with fail
  refine (grow_z (2*xs.length) (by omega) _).mono ?_;rintro e w1 ⟨v,rfl,ho,hb⟩;have hr:=HR.out.below hb;have g0:=(hb.cell (p:=⟨p,0,none⟩) hp).trans h0;have g1:=(hb.cell (p:=⟨p,1,none⟩) hp).trans h1;have HO:=Hi ho;have HB:=Hi hb;have j0:=Hi hr;have i0:=HR;have H0:=Hi h0;have H1:=Hi h1;have k0:=hb.size;clear ho hb hr h0 h1;go_wp2
  go_loopw [6,27] (fun s i wq=>Below w.heap.size w wq∧((i=.int .i64 0∧wq.ownsRow w.heap.size 3 1 s 0 [])∨(i=.int .i64 1∧wq.ownsRow w.heap.size 3 1 s xs.length (ints xs))∨(i=.int .i64 2∧wq.ownsRow w.heap.size 3 1 s (xs.length+xs.length) (ints xs++ints xs)))) (fun s i _=>2-(intOf i).toNat)
  case atStart=>exact ⟨HB.out,.inl ⟨rfl,HO.out⟩⟩
  case round =>
   clear HO j0;obtain ⟨a0,hrel⟩:=hrel;have hr:=i0.out.below a0;have g0:=(a0.cell (p:=⟨p,0,none⟩) hp).trans H0.out;have g1:=(a0.cell (p:=⟨p,1,none⟩) hp).trans H1.out;have d0:=a0.size;rcases hrel with ⟨rfl,ho⟩ | ⟨rfl,ho⟩ | ⟨rfl,ho⟩
   ·obtain ⟨p9,c9,rfl⟩:=Oh ho;have HO:=Hi ho;have HR:=Hi hr;have b0:=Hi a0;clear ho hr a0;go_wp2_with (at_builtin;refine wpList_aps tInts rfl _ _ rfl w.heap.size _ 0 [] rfl HO.out _ _ _ rfl HR.out (one_ints xs) (by omega) ?c1 ?_)
    case c1=>omega
    intro v' w' ho' hc' hn' _;obtain ⟨a',c',rfl⟩:=Oh ho';have c0:=b0.out.trans (hc'.below w.heap.size d0 (fun k hk=>not_own HO.out hk));have f0:=Hi ho';have e0:=Hi c0;clear hc' hn' c0 ho' g0 g1;go_wp2
    go_roundw
    case rel=>exact ⟨e0.out,.inr (.inl ⟨by go_num,f0.out⟩)⟩
    case measure=>simp [intOf]
   ·obtain ⟨p9,c9,rfl⟩:=Oh ho;have HO:=Hi ho;have HR:=Hi hr;have b0:=Hi a0;clear ho hr a0;go_wp2_with (at_builtin;refine wpList_aps tInts rfl _ _ rfl w.heap.size _ _ (ints xs) rfl HO.out _ _ _ rfl HR.out (one_ints xs) (by omega) ?c1 ?_)
    case c1=>omega
    intro v' w' ho' hc' hn' _;obtain ⟨a',c',rfl⟩:=Oh ho';have c0:=b0.out.trans (hc'.below w.heap.size d0 (fun k hk=>not_own HO.out hk));have f0:=Hi ho';have e0:=Hi c0;clear hc' hn' c0 ho' g0 g1;go_wp2
    go_roundw
    case rel=>exact ⟨e0.out,.inr (.inr ⟨by go_num,f0.out⟩)⟩
    case measure=>simp [intOf]
   obtain ⟨p9,c9,rfl⟩:=Oh ho;have HO:=Hi ho;have b0:=Hi a0;clear ho hr a0;go_wp2
   go_ret
   exact ⟨_,rfl,HO.out,b0.out⟩
end Go.Proofs.YtlckklglbodgbaaGreat
