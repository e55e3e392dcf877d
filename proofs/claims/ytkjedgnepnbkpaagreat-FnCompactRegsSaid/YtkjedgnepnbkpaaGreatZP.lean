/-
 Parts of the proofs of the laws FnCompactRegs,FnFenceCode,FnRunTimeSteps.
-/
import Derived.Test.YtkjedgnepnbkpaaGreatNA
import Derived.Test.YtkjedgnepnbkpaaGreatZEq1
import Derived.Test.YtkjedgnepnbkpaaGreatRU
import Derived.Test.YtkjedgnepnbkpaaGreatUT
set_option maxHeartbeats 12800000
set_option maxRecDepth 100000
set_option linter.all false
namespace Go.Proofs.YtkjedgnepnbkpaaGreat
open Go.RowKit
def DrawCP (w:World) (r:Ending) (w':World):Prop:=∃ (va vb vc:Value) (nv na nl:Nat),r=.returned (.agg #[va,vb,vc])∧DrawC w' w.heap.size va vb vc nv na nl∧(nv≤1000∧na≤1000∧nl≤1000)∧Below w.heap.size w w'
def DrawCMMP (w:World) (r:Ending) (w':World):Prop:=∃ (va vb vc vx vy ux uy:Value) (nv na nl:Nat) (m m2:Mm),r=.returned (.tuple #[.agg #[va,vb,vc],.agg #[vx,vy],.agg #[ux,uy]])∧DrawC w' w.heap.size va vb vc nv na nl∧(nv≤1000∧na≤1000∧nl≤1000)∧DrM w' w.heap.size vx vy m∧DrM w' w.heap.size ux uy m2∧Below w.heap.size w w'
theorem DrawRegsUsed_any (v:Value) (n:Nat) (vs:List Int) (w:World) (hr:Reads w 1 v n (vs.map (Value.int .u8))) (hv:∀ x ∈ vs,0≤x∧x < 256) (hn:n≤1048576) :
  Calls Tryz.prog 32 #[v] w fun r w'=>DrawCP w r w':=by
 go_enter Tryz.func32,Tryz.ntmps32
 go_wp2_with fail
 refine (l17Open_any v n vs _ (hr.below (bal (Bs w) (.cells #[.slice none 0 0,.slice none 0 0,.slice none 0 0] 26))) hv hn).mono ?_
 rintro e w1 ⟨g,rfl,hR,hb⟩
 try simp only [Sa] at hR
 have c1:=hb.size
 simp only [Sa] at c1
 have a0:Bk w1 (w.heap.size) [.slice none 0 0,.slice none 0 0,.slice none 0 0]:=Bk.below (Bk.nw (by simp) rfl) hb
 have z1:=btr (bal (Bs w) (.cells #[.slice none 0 0,.slice none 0 0,.slice none 0 0] 26)) hb
 clear hb
 have e1:=Bk.lz a0
 obtain ⟨B,hB⟩:∃ B,w.heap.size+1=B:=⟨_,rfl⟩;rw [hB] at hR;have u3:w.heap.size+1≤B:=(by omega);clear hB hr hv
 have hg:=hR.lt
 have hC:Chg (fun k=>k=g) w w1:=Chg.of_below z1
 have y0:∀ q,(fun k=>k=g) q→q=g:=fun q h=>h
 clear z1
 have n3:w.heap.size≤g:=by omega
 go_wp2_with fail
 refine (l8Jumps_any B g (0) _ hR (by omega)).mono ?_
 rintro e w2 ⟨v3,y3,a4,g2,e2,f2,q1,rfl,m0,s3,k3,o3,v0,q3,hc⟩
 try simp only [Sa,Ss] at m0
 obtain ⟨d3,h3,e3,i3,g3,j3,rfl,rfl,rfl⟩:=m0.shape
 replace hC:=(hC).trans hc
 replace hR:=v0;clear v0
 have a2:=hc.size
 replace a0:=Bk.kg a0 hc
 clear hc
 have c2:=m0.lt
 replace e1:=Bk.lz a0
 go_wp2_with fail
 refine (l6Mutate_of _ _ _ g2 e2 f2 _ B g (q1) _ m0 (by omega) (by omega) (by omega) (by omega) hR (by omega)).mono ?_
 rintro e w3 ⟨x3,z3,b4,k0,i0,j0,q2,rfl,b0,t3,l3,p3,v0,r3,hc⟩
 try simp only [Sa,Ss] at b0
 obtain ⟨c0,f0,d0,g0,e0,h0,rfl,rfl,rfl⟩:=b0.shape
 replace hC:=(hC).trans hc
 replace hR:=v0;clear v0
 have b2:=hc.size
 replace m0:=m0.keep hc (fun gq h h2=>by have:=c2 gq h;have:=y0 gq h2;omega)
 replace a0:=Bk.kg a0 hc
 clear hc
 have x0:=b0.lt
 replace e1:=Bk.lz a0
 clear m0
 obtain ⟨c,t0⟩:=RdC.of (b0.below (bal (Bs _) (.cells #[.slice c0 k0 f0,.slice d0 i0 g0,.slice e0 j0 h0] 26))) (by omega) (by omega) (by omega)
 have m3:c.vars.length≤1000∧c.arrays.length≤1000∧c.list.length≤1000:=⟨t0.l0,t0.l1,t0.l2⟩
 have x1:∀ q,ReadB (.slice c0 k0 f0) (.slice d0 i0 g0) (.slice e0 j0 h0) c q→¬q=g:=fun q h=>by
  have h2:OwnB (.slice c0 k0 f0) (.slice d0 i0 g0) (.slice e0 j0 h0) q:=by
   rcases h with ⟨o,cp,_,e⟩ | ⟨o,cp,_,e⟩ | ⟨o,cp,_,e⟩
   ·exact Or.inl (by rw [e];rfl)
   ·exact Or.inr (Or.inl (by rw [e];rfl))
   exact Or.inr (Or.inr (by rw [e];rfl))
  have:=x0 q h2
  omega
 obtain ⟨ok,v1⟩:∃ b,codeOk c=b:=⟨_,rfl⟩
 have t1:=Lib.hid v1;clear v1
 have a1:=sCodeValid_any _ _ _ c _ t0.r
 rw [t1.out] at a1
 have u1:=Lib.hid t0.r;clear t0
 go_wp2_with fail
 refine (a1).mono ?_
 rintro e w4 ⟨rfl,hb⟩
 have b1:=u1.out.below hb
 clear u1 a1
 replace hC:=((hC.trans (Chg.of_below (bal (Bs _) _)))).trans (Chg.of_below hb)
 replace hR:=(hR.below (bal (Bs _) _)).below hb
 have d1:=hb.size
 simp only [Sa] at d1
 replace b0:=(b0.below (bal (Bs _) _)).below hb
 replace a0:=Bk.below (Bk.al a0 _) hb
 have u0:Bk w4 (w3.heap.size) [.slice c0 k0 f0,.slice d0 i0 g0,.slice e0 j0 h0]:=Bk.below (Bk.nw (by simp) rfl) hb
 clear hb
 replace e1:=Bk.lz a0
 have d2:=Bk.lz u0
 cases ok with
 | false =>
  clear b1
  have tC:=(((hC.sN (w.heap.size) (0) (.slice c0 k0 f0)).sN (w.heap.size) (1) (.slice d0 i0 g0)).sN (w.heap.size) (2) (.slice e0 j0 h0))
  have tb:=tC.below w.heap.size (Nat.le_refl _) (fun k hk h=>by have:=y0 k h;omega)
  have TB:=Lib.hid tb;clear tC tb hC
  clear hR
  have z0:=Lib.hid (DrawC.mono (((b0.keep (C1 (w.heap.size) 0 (.slice c0 k0 f0)) (fun gq h h2=>by have:=x0 gq h;omega)).keep (C1 (w.heap.size) 1 (.slice d0 i0 g0)) (fun gq h h2=>by have:=x0 gq h;omega)).keep (C1 (w.heap.size) 2 (.slice e0 j0 h0)) (fun gq h h2=>by have:=x0 gq h;omega)) (show w.heap.size≤_ by omega))
  clear b0
  obtain ⟨f1,m2,g1,n2,h1,o2⟩:=Bk.f3 a0 0 1 2 rfl rfl rfl
  obtain ⟨i2,p2,j2,r2,k2,s2⟩:=Bk.f3 u0 0 1 2 rfl rfl rfl
  have x2:=(Nn (b:=(w.heap.size)) (j:=2) (Nn (b:=(w.heap.size)) (j:=1) (Tc _ (w.heap.size) 0 (.slice c0 k0 f0) f1) (.slice d0 i0 g0)) (.slice e0 j0 h0))
  have y2:=(Nn (b:=(w.heap.size)) (j:=2) (Tc _ (w.heap.size) 1 (.slice d0 i0 g0) (Nn (b:=(w.heap.size)) (j:=0) g1 (.slice c0 k0 f0))) (.slice e0 j0 h0))
  have z2:=(Tc _ (w.heap.size) 2 (.slice e0 j0 h0) (Nn (b:=(w.heap.size)) (j:=1) (Nn (b:=(w.heap.size)) (j:=0) h1 (.slice c0 k0 f0)) (.slice d0 i0 g0)))
  have tt:=True.intro
  go_wp2
  exact bodyPost_ret (v:=.agg #[.slice c0 k0 f0,.slice d0 i0 g0,.slice e0 j0 h0]) (by simp [results,Tryz.results32,go_sem,x2,y2,z2]) rfl (by exact by unfold DrawCP;exact ⟨_,_,_,_,_,_,rfl,z0.out,⟨by omega,by omega,by omega⟩,TB.out⟩)
 | true =>
  obtain ⟨i1,p1,j1,r1,k1,s1⟩:=Bk.f3 u0 0 1 2 rfl rfl rfl
  go_wp2_with fail
  refine (l12Spread_any _ _ _ c B g (q2) _ b1 x1 t1.out hR (by omega)).mono ?_
  rintro e w5 ⟨sa,sb,sc,rfl,w0,hc⟩
  try simp only [Sa,Ss] at w0
  obtain ⟨n0,q0,o0,r0,p0,s0,rfl,rfl,rfl⟩:=w0.shape
  clear hR b1 x1
  replace hC:=(hC).trans hc
  have y1:=hc.size
  clear p1 i1 r1 j1 s1 k1
  replace b0:=b0.keep hc (fun gq h h2=>by have:=x0 gq h;have:=y0 gq h2;omega)
  replace a0:=Bk.kg a0 hc
  replace u0:=Bk.kg u0 hc
  clear hc
  have iS:=w0.lt
  clear b0
  have tC:=(((hC.sN (w.heap.size) (0) (.slice n0 c.vars.length q0)).sN (w.heap.size) (1) (.slice o0 c.arrays.length r0)).sN (w.heap.size) (2) (.slice p0 c.list.length s0))
  have tb:=tC.below w.heap.size (Nat.le_refl _) (fun k hk h=>by have:=y0 k h;omega)
  have TB:=Lib.hid tb;clear tC tb hC
  have z0:=Lib.hid (DrawC.mono (((w0.keep (C1 (w.heap.size) 0 (.slice n0 c.vars.length q0)) (fun gq h h2=>by have:=iS gq h;omega)).keep (C1 (w.heap.size) 1 (.slice o0 c.arrays.length r0)) (fun gq h h2=>by have:=iS gq h;omega)).keep (C1 (w.heap.size) 2 (.slice p0 c.list.length s0)) (fun gq h h2=>by have:=iS gq h;omega)) (show w.heap.size≤_ by omega))
  clear w0
  obtain ⟨m1,t2,n1,u2,o1,v2⟩:=Bk.f3 a0 0 1 2 rfl rfl rfl
  have a3:=(Nn (b:=(w.heap.size)) (j:=2) (Nn (b:=(w.heap.size)) (j:=1) (Tc _ (w.heap.size) 0 (.slice n0 c.vars.length q0) m1) (.slice o0 c.arrays.length r0)) (.slice p0 c.list.length s0))
  have b3:=(Nn (b:=(w.heap.size)) (j:=2) (Tc _ (w.heap.size) 1 (.slice o0 c.arrays.length r0) (Nn (b:=(w.heap.size)) (j:=0) n1 (.slice n0 c.vars.length q0))) (.slice p0 c.list.length s0))
  have c3:=(Tc _ (w.heap.size) 2 (.slice p0 c.list.length s0) (Nn (b:=(w.heap.size)) (j:=1) (Nn (b:=(w.heap.size)) (j:=0) o1 (.slice n0 c.vars.length q0)) (.slice o0 c.arrays.length r0)))
  have tt:=True.intro
  go_wp2
  exact bodyPost_ret (v:=.agg #[.slice n0 c.vars.length q0,.slice o0 c.arrays.length r0,.slice p0 c.list.length s0]) (by simp [results,Tryz.results32,go_sem,a3,b3,c3]) rfl (by exact by unfold DrawCP;exact ⟨_,_,_,_,_,_,rfl,z0.out,⟨by omega,by omega,by omega⟩,TB.out⟩)
theorem DrawCompactRegs_any (v:Value) (n:Nat) (vs:List Int) (w:World) (hr:Reads w 1 v n (vs.map (Value.int .u8))) (hv:∀ x ∈ vs,0≤x∧x < 256) (hn:n≤1048576) :
  Calls Tryz.prog 11 #[v] w fun r w'=>DrawCP w r w':=by
 go_enter Tryz.func11,Tryz.ntmps11
 go_wp2_with fail
 refine (DrawRegsUsed_any v n vs _ (hr.below (bal (Bs w) (.cells #[.slice none 0 0,.slice none 0 0,.slice none 0 0] 26))) hv hn).mono ?_
 rintro e w1 ⟨va,vb,vc,nv,na,nl,rfl,b0,h0,hb⟩
 obtain ⟨a0,c0,a1,c1,a2,c2,rfl,rfl,rfl⟩:=b0.shape
 simp only [Sa] at b0
 clear hr hv
 have e0:=hb.size
 simp only [Sa] at e0
 have f0:Bk w1 (w.heap.size) [.slice none 0 0,.slice none 0 0,.slice none 0 0]:=Bk.below (Bk.nw (by simp) rfl) hb
 have m0:=btr (bal (Bs w) (.cells #[.slice none 0 0,.slice none 0 0,.slice none 0 0] 26)) hb
 clear hb
 have q0:=Bk.lz f0
 have d0:=b0.lt
 try simp only [Sa] at d0
 have g0:=Lib.hid (DrawC.mono (((b0.keep (C1 (w.heap.size) 0 (.slice a0 nv c0)) (fun gq h h2=>by have:=d0 gq h;omega)).keep (C1 (w.heap.size) 1 (.slice a1 na c1)) (fun gq h h2=>by have:=d0 gq h;omega)).keep (C1 (w.heap.size) 2 (.slice a2 nl c2)) (fun gq h h2=>by have:=d0 gq h;omega)) (show w.heap.size≤w.heap.size+1 by omega))
 clear b0
 obtain ⟨i0,r0,j0,s0,k0,l0⟩:=Bk.f3 f0 0 1 2 rfl rfl rfl
 have n0:=(Nn (b:=(w.heap.size)) (j:=2) (Nn (b:=(w.heap.size)) (j:=1) (Tc _ (w.heap.size) 0 (.slice a0 nv c0) i0) (.slice a1 na c1)) (.slice a2 nl c2))
 have o0:=(Nn (b:=(w.heap.size)) (j:=2) (Tc _ (w.heap.size) 1 (.slice a1 na c1) (Nn (b:=(w.heap.size)) (j:=0) j0 (.slice a0 nv c0))) (.slice a2 nl c2))
 have p0:=(Tc _ (w.heap.size) 2 (.slice a2 nl c2) (Nn (b:=(w.heap.size)) (j:=1) (Nn (b:=(w.heap.size)) (j:=0) k0 (.slice a0 nv c0)) (.slice a1 na c1)))
 have tt:=(bst (bst (bst m0 (w.heap.size) 0 (by omega) (.slice a0 nv c0)) (w.heap.size) 1 (by omega) (.slice a1 na c1)) (w.heap.size) 2 (by omega) (.slice a2 nl c2))
 go_wp2
 exact bodyPost_ret (v:=.agg #[.slice a0 nv c0,.slice a1 na c1,.slice a2 nl c2]) (by simp [results,Tryz.results11,go_sem,n0,o0,p0]) rfl (by exact (by unfold DrawCP;exact ⟨_,_,_,_,_,_,rfl,g0.out,h0,tt⟩))
theorem idx_pos {O:List Int} {r:Int} (h:O.contains r=true):∃ k:Nat,k < O.length∧idxI O r=k∧O[k]? = some r:=by
 unfold idxI
 cases hf:O.findIdx? (fun x=>x == r) with
 | none =>
  rw [List.findIdx?_eq_none_iff] at hf
  have:=hf r (List.contains_iff_mem.1 h);simp at this
 | some k =>
  obtain ⟨hk,h1,_⟩:=List.findIdx?_eq_some_iff_getElem.1 hf
  have e:O[k]=r:=by simpa using h1
  exact ⟨k,hk,rfl,by rw [List.getElem?_eq_getElem hk,e]⟩
theorem idx_inj {O:List Int} {r q:Int} (hr:O.contains r=true) (hq:O.contains q=true) (h:idxI O r=idxI O q):r=q:=by
 obtain ⟨k,_,e1,g1⟩:=idx_pos hr
 obtain ⟨j,_,e2,g2⟩:=idx_pos hq
 have:k=j:=by omega
 subst this
 rw [g1] at g2
 exact Option.some.inj g2
theorem gi_setI (xs:List Int) {i r:Int} (v:Int) (hi:0≤i) (hr:0≤r):gi (xs.set i.toNat v) r=if i=r∧i < xs.length then v else gi xs r:=by
 obtain ⟨a,rfl⟩:∃ a:Nat,i=a:=⟨i.toNat,by omega⟩
 obtain ⟨b,rfl⟩:∃ b:Nat,r=b:=⟨r.toNat,by omega⟩
 unfold gi
 rw [Int.toNat_natCast,Int.toNat_natCast,List.getElem?_set]
 by_cases e:a=b
 ·subst e
  rw [if_pos rfl]
  by_cases h:a < xs.length
  ·rw [if_pos h,if_pos ⟨rfl,by omega⟩];rfl
  rw [if_neg h,if_neg (fun h2=>h (by omega)),List.getElem?_eq_none (by omega)]
 rw [if_neg e,if_neg (fun h2=>e (by omega))]
structure OrdOk (O:List Int):Prop where
 len:O.length≤14
 rng:∀ r,O.contains r=true→0≤r∧r < 14
theorem ren_set {O:List Int} (hO:OrdOk O) {rs qs:List Int} (hr:rs.length=14) (hq:qs.length=14) (hG:∀ r,O.contains r=true→gi rs r=gi qs (idxI O r)) {a:Int} (ha:O.contains a=true) {v u:Int} (hv:v=u) :
  ∀ r,O.contains r=true→gi (rs.set a.toNat v) r=gi (qs.set (idxI O a).toNat u) (idxI O r):=by
 subst hv
 intro r h
 obtain ⟨k,h1,h2,_⟩:=idx_pos ha
 obtain ⟨j,g1,g2,_⟩:=idx_pos h
 have ra:=hO.rng a ha
 have rr:=hO.rng r h
 have hl:=hO.len
 rw [gi_setI rs v ra.1 rr.1,gi_setI qs v (by omega) (by omega),hr,hq]
 by_cases e:a=r
 ·subst e;rw [if_pos ⟨rfl,by omega⟩,if_pos ⟨rfl,by omega⟩]
 rw [if_neg (fun h2=>e h2.1),if_neg (fun h2=>e (idx_inj ha h h2.1))]
 exact hG r h
theorem ren_step {nv na nl:Nat} {x:Ins} (hins:insOk nv na nl x=true) {O:List Int} (hO:OrdOk O) (hx:∀ r ∈ rgs x,O.contains r=true) {rs qs:List Int} (hr:rs.length=14) (hq:qs.length=14) (hG:∀ r,O.contains r=true→gi rs r=gi qs (idxI O r)) (pc:Int) (m:Mm) :
  stPc (cmpI O x) ⟨pc,qs,m⟩=stPc x ⟨pc,rs,m⟩∧stMem (cmpI O x) ⟨pc,qs,m⟩=stMem x ⟨pc,rs,m⟩∧stEvs (cmpI O x) ⟨pc,qs,m⟩=stEvs x ⟨pc,rs,m⟩∧(stRegs (cmpI O x) ⟨pc,qs,m⟩).length=14∧∀ r,O.contains r=true→gi (stRegs x ⟨pc,rs,m⟩) r=gi (stRegs (cmpI O x) ⟨pc,qs,m⟩) (idxI O r):=by
 have ho:=insOk_op hins
 obtain ⟨op,a,b,d,f⟩:=x
 simp only at ho
 have hc:op=1∨op=2∨op=3∨op=4∨op=5∨op=6∨op=7∨op=8∨op=9∨op=10∨op=11∨op=12∨op=13:=by omega
 rcases hc with rfl | rfl | rfl | rfl | rfl | rfl | rfl | rfl | rfl | rfl | rfl | rfl | rfl
 all_goals
  simp [rgs,rgsK,shp,flds] at hx
 ·rw [show cmpI O ⟨1,a,b,d,f⟩=⟨1,idxI O a,b,d,f⟩ by simp [cmpI,cmpF,fldC,shp,flds]]
  exact ⟨rfl,rfl,rfl,by simpa [stRegs] using hq,by simpa [stRegs] using ren_set hO hr hq hG (by simpa using hx) rfl⟩
 ·rw [show cmpI O ⟨2,a,b,d,f⟩=⟨2,idxI O a,b,d,f⟩ by simp [cmpI,cmpF,fldC,shp,flds]]
  exact ⟨rfl,rfl,rfl,by simpa [stRegs] using hq,by simpa [stRegs] using ren_set hO hr hq hG (by simpa using hx) rfl⟩
 ·rw [show cmpI O ⟨3,a,b,d,f⟩=⟨3,a,idxI O b,d,f⟩ by simp [cmpI,cmpF,fldC,shp,flds]]
  have h1:=hG b (by simpa using hx)
  exact ⟨rfl,by simp [stMem,h1],rfl,by simpa [stRegs] using hq,by simpa [stRegs] using hG⟩
 ·rw [show cmpI O ⟨4,a,b,d,f⟩=⟨4,idxI O a,b,idxI O d,f⟩ by simp [cmpI,cmpF,fldC,shp,flds]]
  have h1:=hG d (by simpa using hx.2)
  exact ⟨rfl,rfl,by simp [stEvs,h1],by simpa [stRegs] using hq,by simpa [stRegs] using ren_set hO hr hq hG (by simpa using hx.1) (by rw [h1])⟩
 ·rw [show cmpI O ⟨5,a,b,d,f⟩=⟨5,a,idxI O b,idxI O d,f⟩ by simp [cmpI,cmpF,fldC,shp,flds]]
  have h1:=hG b (by simpa using hx.1)
  have h2:=hG d (by simpa using hx.2)
  exact ⟨rfl,by simp [stMem,h1,h2],by simp [stEvs,h1],by simpa [stRegs] using hq,by simpa [stRegs] using hG⟩
 ·rw [show cmpI O ⟨6,a,b,d,f⟩=⟨6,idxI O a,b,idxI O d,idxI O f⟩ by simp [cmpI,cmpF,fldC,shp,flds]]
  have h1:=hG d (by simpa using hx.2.1)
  have h2:=hG f (by simpa using hx.2.2)
  exact ⟨rfl,rfl,rfl,by simpa [stRegs] using hq,by simpa [stRegs] using ren_set hO hr hq hG (by simpa using hx.1) (by rw [h1,h2])⟩
 ·rw [show cmpI O ⟨7,a,b,d,f⟩=⟨7,idxI O a,idxI O b,idxI O d,idxI O f⟩ by simp [cmpI,cmpF,fldC,shp,flds]]
  have h0:=hG b (by simpa using hx.2.1)
  have h1:=hG d (by simpa using hx.2.2.1)
  have h2:=hG f (by simpa using hx.2.2.2)
  exact ⟨rfl,rfl,rfl,by simpa [stRegs] using hq,by simpa [stRegs] using ren_set hO hr hq hG (by simpa using hx.1) (by rw [h0,h1,h2])⟩
 ·rw [show cmpI O ⟨8,a,b,d,f⟩=⟨8,a,b,d,f⟩ by simp [cmpI,cmpF,fldC,shp,flds]]
  exact ⟨rfl,rfl,rfl,by simpa [stRegs] using hq,by simpa [stRegs] using hG⟩
 ·rw [show cmpI O ⟨9,a,b,d,f⟩=⟨9,idxI O a,b,d,f⟩ by simp [cmpI,cmpF,fldC,shp,flds]]
  have h1:=hG a (by simpa using hx)
  exact ⟨by simp [stPc,h1],rfl,rfl,by simpa [stRegs] using hq,by simpa [stRegs] using hG⟩
 ·rw [show cmpI O ⟨10,a,b,d,f⟩=⟨10,idxI O a,b,d,f⟩ by simp [cmpI,cmpF,fldC,shp,flds]]
  have h1:=hG a (by simpa using hx)
  exact ⟨by simp [stPc,h1],rfl,rfl,by simpa [stRegs] using hq,by simpa [stRegs] using ren_set hO hr hq hG (by simpa using hx) (by rw [h1])⟩
 ·rw [show cmpI O ⟨11,a,b,d,f⟩=⟨11,idxI O a,b,d,f⟩ by simp [cmpI,cmpF,fldC,shp,flds]]
  have h1:=hG a (by simpa using hx)
  exact ⟨rfl,rfl,by simp [stEvs,h1],by simpa [stRegs] using hq,by simpa [stRegs] using hG⟩
 ·rw [show cmpI O ⟨12,a,b,d,f⟩=⟨12,a,b,d,f⟩ by simp [cmpI,cmpF,fldC,shp,flds]]
  exact ⟨rfl,rfl,rfl,by simpa [stRegs] using hq,by simpa [stRegs] using hG⟩
 rw [show cmpI O ⟨13,a,b,d,f⟩=⟨13,a,b,d,f⟩ by simp [cmpI,cmpF,fldC,shp,flds]]
 exact ⟨rfl,rfl,rfl,by simpa [stRegs] using hq,by simpa [stRegs] using hG⟩
def compC (c:Cd):Cd:=⟨c.vars,c.arrays,c.list.map (cmpI (ordC [] c.list))⟩
theorem ordC_ok {c:Cd} (h:codeOk c=true):OrdOk (ordC [] c.list)∧∀ x ∈ c.list,∀ r ∈ rgs x,(ordC [] c.list).contains r=true:=by
 refine ⟨⟨by rw [regs_count h];exact cntF_le _,fun r hr=>?_⟩,fun x hx r hr=>?_⟩
 ·rw [ordC_mem] at hr
  simp only [List.contains_nil,Bool.false_or] at hr
  obtain ⟨x,hx,h2⟩:=List.any_eq_true.1 hr
  obtain ⟨q,hq,h3⟩:=List.any_eq_true.1 h2
  obtain ⟨k,hk,rfl⟩:=List.getElem_of_mem hx
  have:=rgs_in (codeOk_all h k hk) q hq
  have e:q=r:=by simpa using h3
  subst e;exact this
 rw [ordC_mem,List.any_eq_true.2 ⟨x,hx,List.any_eq_true.2 ⟨r,hr,by simp⟩⟩,Bool.or_true]
theorem comp_ins {c:Cd} {k:Nat} (hk:k < c.list.length):insAt (compC c) (k:Int)=cmpI (ordC [] c.list) c.list[k]:=by
 unfold insAt compC
 simp only
 rw [Int.toNat_natCast,List.getElem?_map,List.getElem?_eq_getElem hk];rfl
structure CRel (O:List Int) (s t:Ms):Prop where
 pc:t.pc=s.pc
 mem:t.mem=s.mem
 len:t.regs.length=14
 regs:∀ r,O.contains r=true→gi s.regs r=gi t.regs (idxI O r)
theorem cmpI_op (O:List Int) (x:Ins):(cmpI O x).op=x.op:=rfl
theorem comp_run {c:Cd} (h:codeOk c=true) (s t:Ms) (hs:MsOk c s) (hR:CRel (ordC [] c.list) s t):∀ n,CRel (ordC [] c.list) (stN c n s) (stN (compC c) n t)∧evN (compC c) n t=evN c n s∧opAt (compC c) t n=opAt c s n:=by
 obtain ⟨hO,d0⟩:=ordC_ok h
 have c0:∀ n,CRel (ordC [] c.list) (stN c n s) (stN (compC c) n t)→insAt (compC c) (stN (compC c) n t).pc=cmpI (ordC [] c.list) (insAt c (stN c n s).pc):=by
  intro n hC
  have ho:=stN_ok h hs n
  rw [hC.pc]
  generalize stN c n s=u at *
  obtain ⟨k,a0⟩:∃ k:Nat,u.pc=k:=⟨u.pc.toNat,by have:=ho.pc0;omega⟩
  have hk:k < c.list.length:=by have:=ho.pc1;omega
  have hi:insAt c (k:Int)=c.list[k]:=by unfold insAt;rw [Int.toNat_natCast,List.getElem?_eq_getElem hk];rfl
  rw [a0,hi,comp_ins hk]
 have b0:∀ n,CRel (ordC [] c.list) (stN c n s) (stN (compC c) n t)∧evN (compC c) n t=evN c n s:=by
  intro n
  induction n with
  | zero=>exact ⟨hR,rfl⟩
  | succ n ih =>
   obtain ⟨i1,i2⟩:=ih
   have ho:=stN_ok h hs n
   have e:=c0 n i1
   simp only [stN,evN]
   rw [e,i2]
   generalize stN c n s=u at *
   generalize stN (compC c) n t=v at *
   obtain ⟨k,a0⟩:∃ k:Nat,u.pc=k:=⟨u.pc.toNat,by have:=ho.pc0;omega⟩
   have hk:k < c.list.length:=by have:=ho.pc1;omega
   have hi:insAt c u.pc=c.list[k]:=by rw [a0];unfold insAt;rw [Int.toNat_natCast,List.getElem?_eq_getElem hk];rfl
   rw [hi]
   obtain ⟨p1,p2,p3,p4,p5⟩:=ren_step (codeOk_all h k hk) hO (d0 _ (List.getElem_mem hk)) ho.regs i1.len i1.regs u.pc u.mem
   obtain ⟨e0,f0,vm⟩:=v
   have h1:=i1.pc
   have h2:=i1.mem
   simp only at h1 h2
   subst h1 h2
   refine ⟨⟨p1,p2,p4,p5⟩,?_⟩
   rw [p3]
 intro n
 refine ⟨(b0 n).1,(b0 n).2,?_⟩
 unfold opAt
 rw [c0 n (b0 n).1,cmpI_op]
theorem comp_ini {c:Cd} (m:Mm):CRel (ordC [] c.list) (ini m) (ini m):=by
 refine ⟨rfl,rfl,by simp [ini,reg0],fun r _=>?_⟩
 have hz:∀ i:Int,gi reg0 i=0:=by
  intro i
  unfold gi reg0
  rw [List.getElem?_replicate]
  split <;> rfl
 show gi reg0 r=gi reg0 _
 rw [hz,hz]
theorem comp_ok {c:Cd} (h:codeOk c=true):codeOk (compC c)=true:=by
 obtain ⟨hO,d0⟩:=ordC_ok h
 have hl:=codeOk_len h
 have b0:(compC c).list.length=c.list.length:=by simp [compC]
 unfold codeOk
 simp only [Bool.and_eq_true]
 refine ⟨show declOk c.vars c.arrays=true from codeOk_decl h,decide_eq_true (by omega),List.all_eq_true.2 (fun y hy=>?_),?_⟩
 ·rw [b0]
  show insOk c.vars.length c.arrays.length c.list.length y=true
  have f0:y ∈ c.list.map (cmpI (ordC [] c.list)):=hy
  obtain ⟨x,hx,rfl⟩:=List.mem_map.1 f0
  obtain ⟨k,hk,rfl⟩:=List.getElem_of_mem hx
  have a0:=codeOk_all h k hk
  have hx:=d0 _ (List.getElem_mem hk)
  generalize ordC [] c.list=O at *
  have hf:∀ r,O.contains r=true→0≤idxI O r∧idxI O r < 14:=fun r hr=>by
   obtain ⟨j,h1,h2,_⟩:=idx_pos hr
   have:=hO.len
   omega
  generalize c.list[k]=x at *
  have ho:=insOk_op a0
  obtain ⟨op,a,b,d,f⟩:=x
  simp only at ho
  have hc:op=1∨op=2∨op=3∨op=4∨op=5∨op=6∨op=7∨op=8∨op=9∨op=10∨op=11∨op=12∨op=13:=by omega
  rcases hc with rfl | rfl | rfl | rfl | rfl | rfl | rfl | rfl | rfl | rfl | rfl | rfl | rfl
  all_goals
   have ha:=hf a
   have hb:=hf b
   have hd:=hf d
   have c0:=hf f
   simp [rgs,rgsK,shp,flds] at hx
   simp [insOk,wi,shp,flds,fOk] at a0
   simp [cmpI,cmpF,fldC,insOk,wi,shp,flds,fOk]
   simp [hx] at ha hb hd c0
   try omega
 obtain ⟨hk,e0⟩:=codeOk_last h
 unfold lastOk
 rw [List.getLast?_eq_getElem?,b0]
 show (match (c.list.map (cmpI (ordC [] c.list)))[c.list.length-1]? with | some x=>x.op == 13||x.op == 8 | none=>false)=true
 rw [List.getElem?_map,List.getElem?_eq_getElem hk]
 simp only [Option.map_some,cmpI_op]
 simpa using e0
theorem comp_fin {c:Cd} (h:codeOk c=true) (m:Mm):finN (compC c) m=finN c m:=by
 by_cases hg:goOk c m=true
 ·have b0:goOk (compC c) m=true:=by unfold goOk;rw [comp_ok h];exact goOk_mem (c:=c) hg
  have c0:=fun n=>(comp_run h (ini m) (ini m) (ini_ok hg) (comp_ini m) n).2.2
  rw [finN_yes hg,finN_yes b0]
  unfold runR
  simp only [c0]
 have a0:goOk c m=false:=by simpa using hg
 have b0:goOk (compC c) m=false:=by
  unfold goOk at a0 ⊢
  rw [h,Bool.true_and] at a0
  rw [show memOk (compC c).vars.length (compC c).arrays.length m=memOk c.vars.length c.arrays.length m from rfl,a0,Bool.and_false]
 rw [finN_no a0,finN_no b0]
theorem comp_same {c:Cd} (h:codeOk c=true) (m:Mm):runB (compC c) m=runB c m∧runM (compC c) m=runM c m∧runE (compC c) m=runE c m:=by
 have hf:=comp_fin h m
 cases hn:finN c m with
 | none =>
  rw [hn] at hf
  rw [(run_no hn).1,(run_no hn).2.1,(run_no hn).2.2,(run_no hf).1,(run_no hf).2.1,(run_no hf).2.2]
  exact ⟨rfl,rfl,rfl⟩
 | some n =>
  rw [hn] at hf
  obtain ⟨hg,_⟩:=finN_iff.1 hn
  obtain ⟨k1,k2,_⟩:=comp_run h (ini m) (ini m) (ini_ok hg) (comp_ini m) (n+1)
  rw [(run_yes hn).1,(run_yes hn).2.1,(run_yes hn).2.2,(run_yes hf).1,(run_yes hf).2.1,(run_yes hf).2.2]
  exact ⟨rfl,k1.mem,k2⟩
theorem ordS_map {O:List Int} (g:Int→Int):∀ (P:List Int) (r:Int),(∀ a,P.contains a=true→∀ b,b=r→g a=g b→a=b)→ordS (P.map g) (g r)=(ordS P r).map g:=by
 intro P r h
 cases hc:P.contains r with
 | true =>
  rw [ordS_in hc,ordS_in (by rw [List.contains_iff_mem];exact List.mem_map.2 ⟨r,List.contains_iff_mem.1 hc,rfl⟩)]
 | false =>
  have h2:(P.map g).contains (g r)=false:=by
   rw [← Bool.not_eq_true,List.contains_iff_mem]
   intro hm
   obtain ⟨a,ha,e⟩:=List.mem_map.1 hm
   have:=h a (List.contains_iff_mem.2 ha) r rfl e
   subst this
   rw [List.contains_iff_mem.2 ha] at hc;cases hc
  rw [ordS_new hc,ordS_new h2,List.map_append];rfl
theorem ordL_map (O:List Int):∀ (rs P:List Int),(∀ a,P.contains a=true→O.contains a=true)→(∀ r ∈ rs,O.contains r=true)→ordL (P.map (idxI O)) (rs.map (idxI O))=(ordL P rs).map (idxI O):=by
 intro rs
 induction rs with
 | nil=>intro P _ _;rfl
 | cons r rs ih =>
  intro P hP hr
  show ordL (ordS (P.map (idxI O)) (idxI O r)) (rs.map (idxI O))=(ordL (ordS P r) rs).map (idxI O)
  rw [ordS_map (O:=O) (idxI O) P r (fun a ha b hb e=>by subst hb;exact idx_inj (hP a ha) (hr b (by simp)) e)]
  refine ih (ordS P r) (fun a ha=>?_) (fun q hq=>hr q (by simp [hq]))
  rw [ordS_mem] at ha
  rcases Bool.or_eq_true _ _ ▸ ha with h1 | h1
  ·exact hP a h1
  have:r=a:=by simpa using h1
  subst this;exact hr r (by simp)
theorem rgs_cmp {nv na nl:Nat} {x:Ins} (hins:insOk nv na nl x=true) (O:List Int):rgs (cmpI O x)=(rgs x).map (idxI O):=by
 have ho:=insOk_op hins
 obtain ⟨op,a,b,d,f⟩:=x
 simp only at ho
 have hc:op=1∨op=2∨op=3∨op=4∨op=5∨op=6∨op=7∨op=8∨op=9∨op=10∨op=11∨op=12∨op=13:=by omega
 rcases hc with rfl | rfl | rfl | rfl | rfl | rfl | rfl | rfl | rfl | rfl | rfl | rfl | rfl
 all_goals simp [rgs,rgsK,cmpI,cmpF,fldC,shp,flds]
theorem ordC_map (O:List Int) (nv na nl:Nat):∀ (l:List Ins) (P:List Int),(∀ a,P.contains a=true→O.contains a=true)→(∀ x ∈ l,insOk nv na nl x=true∧∀ r ∈ rgs x,O.contains r=true)→ordC (P.map (idxI O)) (l.map (cmpI O))=(ordC P l).map (idxI O):=by
 intro l
 induction l with
 | nil=>intro P _ _;rfl
 | cons x l ih =>
  intro P hP hl
  have hx:=hl x (by simp)
  show ordC (ordL (P.map (idxI O)) (rgs (cmpI O x))) (l.map (cmpI O))=(ordC (ordL P (rgs x)) l).map (idxI O)
  rw [rgs_cmp hx.1,ordL_map O _ _ hP hx.2]
  refine ih _ (fun a ha=>?_) (fun y hy=>hl y (by simp [hy]))
  rw [ordL_mem] at ha
  rcases Bool.or_eq_true _ _ ▸ ha with h1 | h1
  ·exact hP a h1
  obtain ⟨r,hr,e⟩:=List.any_eq_true.1 h1
  have:r=a:=by simpa using e
  subst this;exact hx.2 r hr
theorem ordS_nodup {O:List Int} {r:Int} (h:O.Nodup):(ordS O r).Nodup:=by
 cases hc:O.contains r with
 | true=>rw [ordS_in hc];exact h
 | false =>
  rw [ordS_new hc,List.nodup_append]
  refine ⟨h,by simp,fun a ha b hb e=>?_⟩
  rw [List.mem_singleton] at hb
  subst hb;subst e
  rw [List.contains_iff_mem.2 ha] at hc;cases hc
theorem ordL_nodup {rs:List Int}:∀ {O:List Int},O.Nodup→(ordL O rs).Nodup:=by
 induction rs with
 | nil=>intro O h;exact h
 | cons r rs ih=>intro O h;exact ih (ordS_nodup h)
theorem ordC_nodup {l:List Ins}:∀ {O:List Int},O.Nodup→(ordC O l).Nodup:=by
 induction l with
 | nil=>intro O h;exact h
 | cons x l ih=>intro O h;exact ih (ordL_nodup h)
theorem idx_at {O:List Int} (h:O.Nodup) (k:Nat) (hk:k < O.length):idxI O O[k]=k:=
 idxI_at hk rfl (fun j hj hlt e=>by
  exact List.pairwise_iff_getElem.1 h j k hj hk hlt e)
theorem map_idx {O:List Int} (h:O.Nodup):O.map (idxI O)=(List.range O.length).map (fun k:Nat=>(k:Int)):=by
 apply List.ext_getElem
 ·simp
 intro k h1 h2
 simp only [List.getElem_map,List.getElem_range]
 exact idx_at h k (by simpa using h1)
theorem idx_range (n:Nat) {i:Int} (h0:0≤i) (h1:i < n):idxI ((List.range n).map (fun k:Nat=>(k:Int))) i=i:=by
 obtain ⟨k,rfl⟩:∃ k:Nat,i=k:=⟨i.toNat,by omega⟩
 refine idxI_at (by simp;omega) (by simp) (fun j hj hlt e=>?_)
 simp only [List.getElem_map,List.getElem_range] at e
 omega
theorem comp_ord {c:Cd} (h:codeOk c=true):ordC [] (compC c).list=(List.range (ordC [] c.list).length).map (fun k:Nat=>(k:Int)):=by
 obtain ⟨hO,a0⟩:=ordC_ok h
 have:=ordC_map (ordC [] c.list) c.vars.length c.arrays.length c.list.length c.list [] (fun a ha=>by simp at ha) (fun x hx=>by
  refine ⟨?_,a0 x hx⟩
  obtain ⟨k,hk,rfl⟩:=List.getElem_of_mem hx
  exact codeOk_all h k hk)
 simp only [List.map_nil] at this
 show ordC [] (c.list.map (cmpI (ordC [] c.list)))=_
 rw [this,map_idx (ordC_nodup List.nodup_nil)]
theorem comp_used {c:Cd} (h:codeOk c=true):regsUsed (compC c)=regsUsed c:=by
 rw [regsUsed_yes h,regsUsed_yes (comp_ok h),← regs_count h,← regs_count (comp_ok h),comp_ord h]
 simp
theorem cmp_id {nv na nl:Nat} {x:Ins} (hins:insOk nv na nl x=true) {O:List Int} (h:∀ r ∈ rgs x,idxI O r=r):cmpI O x=x:=by
 have ho:=insOk_op hins
 obtain ⟨op,a,b,d,f⟩:=x
 simp only at ho
 have hc:op=1∨op=2∨op=3∨op=4∨op=5∨op=6∨op=7∨op=8∨op=9∨op=10∨op=11∨op=12∨op=13:=by omega
 rcases hc with rfl | rfl | rfl | rfl | rfl | rfl | rfl | rfl | rfl | rfl | rfl | rfl | rfl
 all_goals
  simp [rgs,rgsK,shp,flds] at h
  simp [cmpI,cmpF,fldC,shp,flds,h]
theorem comp_again {c:Cd} (h:codeOk c=true):compactR (compC c)=(compC c,true):=by
 have c0:=comp_ok h
 rw [compactR_yes c0,comp_ord h]
 obtain ⟨d0,a0⟩:=ordC_ok c0
 rw [comp_ord h] at a0 d0
 have e:(compC c).list.map (cmpI ((List.range (ordC [] c.list).length).map (fun k:Nat=>(k:Int))))=(compC c).list:=by
  conv=>rhs;rw [← List.map_id (compC c).list]
  refine List.map_congr_left (fun y hy=>?_)
  have b0:insOk (compC c).vars.length (compC c).arrays.length (compC c).list.length y=true:=by
   obtain ⟨k,hk,rfl⟩:=List.getElem_of_mem hy
   exact codeOk_all c0 k hk
  refine cmp_id b0 (fun r hr=>?_)
  have hm:=a0 y hy r hr
  rw [List.contains_iff_mem] at hm
  obtain ⟨k,hk,rfl⟩:=List.mem_map.1 hm
  exact idx_range _ (by omega) (by have:=List.mem_range.1 hk;omega)
 rw [e]
theorem law_compact {c:Cd} (h:codeOk c=true) (m:Mm):regsUsed (compC c)=regsUsed c∧compactR (compC c)=(compC c,true)∧runB (compC c) m=runB c m∧runM (compC c) m=runM c m∧runE (compC c) m=runE c m:=
 ⟨comp_used h,comp_again h,comp_same h m⟩
end Go.Proofs.YtkjedgnepnbkpaaGreat
