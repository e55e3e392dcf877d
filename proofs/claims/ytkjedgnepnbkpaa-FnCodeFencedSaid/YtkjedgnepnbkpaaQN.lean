/-
 Parts of the proofs of the laws FnCodeFenced,FnCountBranches.
-/
import Derived.Test.YtkjedgnepnbkpaaQG
import Derived.Test.YtkjedgnepnbkpaaQM
set_option linter.all false
namespace Go.Proofs.Ytkjedgnepnbkpaa
open Go.RowKit
theorem no_L7B {q:Nat} (h:L7B none none q):False:=by rcases h with h | h <;> simp [Value.ownBlock] at h
set_option maxHeartbeats 6400000 in
set_option maxRecDepth 100000 in
theorem l7Compile_any (va vb u:Value) (xs ys:List Int) (A:Nat→Prop) (D:Nat) (L:List St) (w:World) (hr:Reads w 1 va xs.length (ints xs)) (hs:Reads w 1 vb ys.length (ints ys)) (hx:BlAt w A D u L) (hA:∀ q,A q→q < w.heap.size) (hL4:L.length≤4) (hsm:∀ x ∈ L,SmS 3 x) :
  Calls Try.prog 146 #[.agg #[va,vb,u]] w fun r w'=>∃ (la fa:Option Addr) (lc fc k:Nat) (ap:Int) (ok:Bool),r=.returned (.tuple #[.agg #[.slice la k lc,.slice fa k fc,.int .i64 ap],.bool ok])∧L7 w' w.heap.size la fa k lc fc∧k≤400∧(ok=true→1≤k)∧Below w.heap.size w w':=by
 obtain ⟨pv,cv,rfl⟩:=reads_shape hr
 obtain ⟨pa,ca,rfl⟩:=reads_shape hs
 obtain ⟨pu,cu,rfl⟩:=hx.shape
 have i2:=Lib.hid (fun W (hW:Below w.heap.size w W)=>ProgramValid_b _ _ xs ys A D _ L W (hr.below hW) (hs.below hW) (hx.below hW))
 obtain ⟨a0,f0⟩:∃ b,b=w.heap.size:=⟨_,rfl⟩
 have g2:=Lib.hid (fun W (hW:Chg (fun q=>L7B none none q) w W) la fa lc fc k ap dep h1 h2 h3=>(l7Both a0 A (fun q hq=>by rw [f0];exact hA q hq) 3).2 D pu cu L la fa lc fc k ap dep W h1 h2 h3 (BlAt.keep2 hW (fun q _ _ h=>no_L7B h) (fun _ h _=>h) (Nat.le_refl _) hx) hsm)
 clear hr hs hx hA hsm
 have l2:L.length*sbd 3≤4*5250:=Nat.mul_le_mul hL4 (by decide)
 have hL:L7 w a0 none none 0 0 0:=L7.nil
 have hb:a0≤w.heap.size:=by omega
 rw [← f0]
 have HB:=Lib.hid f0;clear f0
 have p0:∀ q,L7B none none q→(q < w.heap.size∨w.heap.size+2≤q)∧q < w.heap.size∧a0≤q:=fun q h=>(no_L7B h).elim
 have d1:∀ q,L7B none none q→L7B none none q∨w.heap.size≤q:=fun q h=>Or.inl h
 have hD:Chg (fun q=>L7B none none q) w w:=Chg.refl _ _
 have oL:=hL;clear hL
 go_enter Try.func146,Try.ntmps146
 go_upto_region 1 with (fail)
 obtain ⟨w1,n0,hb⟩:=nmw (World.alloc (World.alloc w (.cells #[.slice pv xs.length cv,.slice pa ys.length ca,.slice pu L.length cu] 110)) (.cells #[.slice none 0 0,.slice none 0 0,.int .i64 0] 155))
 have d0:=((hD.trans (Chg.of_below (bal (Bs _) (.cells #[.slice pv xs.length cv,.slice pa ys.length ca,.slice pu L.length cu] 110)))).trans (Chg.of_below (bal (Bs _) (.cells #[.slice none 0 0,.slice none 0 0,.int .i64 0] 155)))).trans (Chg.of_below hb)
 have f1:=hb.size
 simp only [Sa] at f1
 replace oL:=((oL.below (bal (Bs _) _)).below (bal (Bs _) _)).below hb
 have k0:Bk w1 (w.heap.size) [.slice pv xs.length cv,.slice pa ys.length ca,.slice pu L.length cu]:=Bk.below (Bk.al (Bk.nw (by simp) rfl) (.cells #[.slice none 0 0,.slice none 0 0,.int .i64 0] 155)) hb
 have b0:Bk w1 (w.heap.size+1) [.slice none 0 0,.slice none 0 0,.int .i64 0]:=Bk.below (Bk.nw (by simp) rfl) hb
 clear hb
 clear hD
 have hD:=d0;clear d0
 rw [← n0]
 clear n0
 have p2:=Bk.lz k0
 have i1:=Bk.lz b0
 obtain ⟨e3,x3,i3,y3,j1,s1⟩:=Bk.f3 k0 0 1 2 rfl rfl rfl
 go_wp2_with fail
 refine (i2.out _ (hD.below w.heap.size (Nat.le_refl _) (fun q _ h=>no_L7B h))).mono ?_
 rintro e w2 ⟨pb,rfl,q0⟩
 have d0:=hD.trans (Chg.of_below q0)
 have d2:=q0.size
 clear x3 e3 y3 i3 s1 j1
 replace oL:=oL.below q0
 replace k0:Bk w2 (w.heap.size) [.slice pv xs.length cv,.slice pa ys.length ca,.slice pu L.length cu]:=Bk.below k0 q0
 replace b0:Bk w2 (w.heap.size+1) [.slice none 0 0,.slice none 0 0,.int .i64 0]:=Bk.below b0 q0
 clear q0
 clear hD
 have hD:=d0;clear d0
 replace p2:=Bk.lz k0
 replace i1:=Bk.lz b0
 cases pb with
 | false =>
  obtain ⟨q2,j3,r2,k3,s2,l3⟩:=Bk.f3 b0 0 1 2 rfl rfl rfl
  have m0:=(Bk.at (Bk.at (Bk.at b0 0 (.slice none 0 0)) 1 (.slice none 0 0)) 2 (.int .i64 0))
  obtain ⟨w0,x0,y0⟩:=Bk.g3 m0
  clear m0
  have o0:=Lib.hid (((hD.sN (w.heap.size+1) 0 (.slice none 0 0)).sN (w.heap.size+1) 1 (.slice none 0 0)).sN (w.heap.size+1) 2 (.int .i64 0))
  have r0:=Lib.hid (((oL.keep (C1 (w.heap.size+1) 0 (.slice none 0 0)) (fun gq h h2=>by have:=p0 gq h;omega)).keep (C1 (w.heap.size+1) 1 (.slice none 0 0)) (fun gq h h2=>by have:=p0 gq h;omega)).keep (C1 (w.heap.size+1) 2 (.int .i64 0)) (fun gq h h2=>by have:=p0 gq h;omega))
  clear hD oL
  go_wp2
  exact bodyPost_ret (v:=.tuple #[.agg #[.slice none 0 0,.slice none 0 0,.int .i64 0],.bool false]) (by simp [results,Try.results146,go_sem,w0,x0,y0]) rfl (by exact ⟨none,none,0,0,0,0,false,rfl,L7.nil,by omega,(fun h=>by cases h),(o0.out.below a0 (by have:=HB.out;omega) (fun q _ h=>no_L7B h))⟩)
 | true =>
  obtain ⟨l1,t1⟩:=Bk.cf k0 2 rfl
  go_wp2_with fail
  refine (g2.out _ hD _ _ _ _ _ _ _ oL (by first | omega | (simp only [Sa,Ss];omega)) (by omega)).mono ?_
  rintro e w3 ⟨v0,s0,g1,c1,k1,e0,rfl,b2,z0,j2,n2,hb⟩
  have d0:=chg_app hD hb (fun q hq h=>by rcases d1 q h with h1 | h1;exact h1;omega)
  have e2:=hb.size
  clear t1 l1
  replace k0:=Bk.keep k0 hb (fun h=>by have:=p0 _ h;omega)
  replace b0:=Bk.keep b0 hb (fun h=>by have:=p0 _ h;omega)
  clear hb
  clear hD
  have hD:=d0;clear d0
  try simp only [Sa,Ss] at z0
  clear oL
  have oL:=b2;clear b2
  have e1:∀ q,L7B v0 s0 q→L7B none none q∨w.heap.size≤q:=fun q h=>by rcases z0 q h with h1 | h1;exact d1 q h1;exact Or.inr (by omega)
  have b1:∀ q,L7B v0 s0 q→(q < w.heap.size∨w.heap.size+2≤q)∧q < w3.heap.size∧a0≤q:=fun q h=>by have h2:=oL.lt q h;rcases z0 q h with h1 | h1;(have:=p0 q h1;omega);omega
  clear z0 p0 d1
  clear k0
  replace i1:=Bk.lz b0
  have d4:k1≤21000:=by omega
  clear n2 j2 l2
  go_upto_region 4 with (fail)
  obtain ⟨w4,n0,hb⟩:=nmw (World.alloc w3 (.cells #[.slice v0 k1 g1,.slice s0 k1 c1,.int .i64 e0] 155))
  have d0:=(hD.trans (Chg.of_below (bal (Bs _) (.cells #[.slice v0 k1 g1,.slice s0 k1 c1,.int .i64 e0] 155)))).trans (Chg.of_below hb)
  have t0:=hb.size
  simp only [Sa] at t0
  replace oL:=(oL.below (bal (Bs _) _)).below hb
  replace b0:=Bk.below (Bk.al b0 _) hb
  have c0:Bk w4 (w3.heap.size) [.slice v0 k1 g1,.slice s0 k1 c1,.int .i64 e0]:=Bk.below (Bk.nw (by simp) rfl) hb
  clear hb
  clear hD
  have hD:=d0;clear d0
  rw [← n0]
  clear n0
  replace i1:=Bk.lz b0
  have o2:=Bk.lz c0
  obtain ⟨m1,u1,n1,v1,o1,x1⟩:=Bk.f3 c0 0 1 2 rfl rfl rfl
  go_wp2_with fail
  refine (l7Add_any a0 _ _ _ _ k1 _ _ _ _ _ _ _ _ oL (by first | omega | (simp only [Sa,Ss];omega)) (by omega)).mono ?_
  rintro e w5 ⟨h0,g0,j0,i0,k2,rfl,c2,a1,rfl,hb⟩
  have d0:=chg_app hD hb (fun q hq h=>by rcases e1 q h with h1 | h1;exact h1;omega)
  have f2:=hb.size
  clear u1 m1 v1 n1 x1 o1
  replace b0:=Bk.keep b0 hb (fun h=>by have:=b1 _ h;omega)
  replace c0:=Bk.keep c0 hb (fun h=>by have:=b1 _ h;omega)
  clear hb
  clear hD
  have hD:=d0;clear d0
  try simp only [Sa,Ss] at a1
  clear oL
  have oL:=c2;clear c2
  have z3:∀ q,L7B h0 g0 q→L7B none none q∨w.heap.size≤q:=fun q h=>by rcases a1 q h with h1 | h1;exact e1 q h1;exact Or.inr (by omega)
  have l0:∀ q,L7B h0 g0 q→(q < w.heap.size∨w.heap.size+2≤q)∧q < w5.heap.size∧a0≤q∧¬q=w3.heap.size:=fun q h=>by have h2:=oL.lt q h;rcases a1 q h with h1 | h1;(have:=b1 q h1;omega);omega
  clear a1 b1 e1
  obtain ⟨p1,y1,q1,z1,r1,a2⟩:=Bk.f3 c0 0 1 2 rfl rfl rfl
  go_upto_region 5 with (fail)
  obtain ⟨w6,n0,hb⟩:=nmw (World.setCell (World.setCell (World.setCell w5 ⟨w3.heap.size,0,none⟩ (.slice h0 (k1+1) j0)) ⟨w3.heap.size,1,none⟩ (.slice g0 (k1+1) i0)) ⟨w3.heap.size,2,none⟩ (.int .i64 e0))
  have d0:=(((hD.sN (w3.heap.size) 0 (.slice h0 (k1+1) j0)).sN (w3.heap.size) 1 (.slice g0 (k1+1) i0)).sN (w3.heap.size) 2 (.int .i64 e0)).trans (Chg.of_below hb)
  have u0:=hb.size
  simp only [Ss] at u0
  clear y1 p1 z1 q1 a2 r1
  replace oL:=(((oL.keep (C1 _ _ _) (fun gq h h2=>by have:=l0 gq h;omega)).keep (C1 _ _ _) (fun gq h h2=>by have:=l0 gq h;omega)).keep (C1 _ _ _) (fun gq h h2=>by have:=l0 gq h;omega)).below hb
  replace b0:=Bk.below (Bk.nn (Bk.nn (Bk.nn b0 _) _) _) hb
  replace c0:Bk w6 (w3.heap.size) [.slice h0 (k1+1) j0,.slice g0 (k1+1) i0,.int .i64 e0]:=Bk.below (Bk.at (Bk.at (Bk.at c0 0 (.slice h0 (k1+1) j0)) 1 (.slice g0 (k1+1) i0)) 2 (.int .i64 e0)) hb
  clear hb
  clear hD
  have hD:=d0;clear d0
  rw [← n0]
  clear n0
  by_cases hbig:(400:Int) < ((k1:Nat):Int)+1
  ·skip
   have m2:400 < k1+1:=by omega
   obtain ⟨t2,m3,u2,n3,v2,o3⟩:=Bk.f3 b0 0 1 2 rfl rfl rfl
   obtain ⟨x2,p3⟩:=Bk.cf c0 0 rfl
   have m0:=(Bk.at (Bk.at (Bk.at b0 0 (.slice none 0 0)) 1 (.slice none 0 0)) 2 (.int .i64 0))
   obtain ⟨w0,x0,y0⟩:=Bk.g3 m0
   clear m0
   have o0:=Lib.hid (((hD.sN (w.heap.size+1) 0 (.slice none 0 0)).sN (w.heap.size+1) 1 (.slice none 0 0)).sN (w.heap.size+1) 2 (.int .i64 0))
   have r0:=Lib.hid (((oL.keep (C1 (w.heap.size+1) 0 (.slice none 0 0)) (fun gq h h2=>by have:=l0 gq h;omega)).keep (C1 (w.heap.size+1) 1 (.slice none 0 0)) (fun gq h h2=>by have:=l0 gq h;omega)).keep (C1 (w.heap.size+1) 2 (.int .i64 0)) (fun gq h h2=>by have:=l0 gq h;omega))
   clear hD oL
   go_wp2
   exact bodyPost_ret (v:=.tuple #[.agg #[.slice none 0 0,.slice none 0 0,.int .i64 0],.bool false]) (by simp [results,Try.results146,go_sem,w0,x0,y0]) rfl (by exact ⟨none,none,0,0,0,0,false,rfl,L7.nil,by omega,(fun h=>by cases h),(o0.out.below a0 (by have:=HB.out;omega) (fun q _ h=>no_L7B h))⟩)
  skip
  have m2:¬400 < k1+1:=by omega
  have a4:decide ((400:Int) < ((k1+1:Nat):Int))=false:=decide_eq_false (by omega)
  have b4:decide ((400:Int) < (k1:Int)+1)=false:=decide_eq_false (by omega)
  have c4:¬(400:Int) < ((k1+1:Nat):Int):=by omega
  obtain ⟨y2,q3,z2,r3,a3,s3⟩:=Bk.f3 b0 0 1 2 rfl rfl rfl
  obtain ⟨b3,t3,c3,u3,d3,v3⟩:=Bk.f3 c0 0 1 2 rfl rfl rfl
  have m0:=(Bk.at (Bk.at (Bk.at b0 0 (.slice h0 (k1+1) j0)) 1 (.slice g0 (k1+1) i0)) 2 (.int .i64 e0))
  obtain ⟨w0,x0,y0⟩:=Bk.g3 m0
  clear m0
  have o0:=Lib.hid (((hD.sN (w.heap.size+1) 0 (.slice h0 (k1+1) j0)).sN (w.heap.size+1) 1 (.slice g0 (k1+1) i0)).sN (w.heap.size+1) 2 (.int .i64 e0))
  have r0:=Lib.hid (((oL.keep (C1 (w.heap.size+1) 0 (.slice h0 (k1+1) j0)) (fun gq h h2=>by have:=l0 gq h;omega)).keep (C1 (w.heap.size+1) 1 (.slice g0 (k1+1) i0)) (fun gq h h2=>by have:=l0 gq h;omega)).keep (C1 (w.heap.size+1) 2 (.int .i64 e0)) (fun gq h h2=>by have:=l0 gq h;omega))
  clear hD oL
  go_wp2
  exact bodyPost_ret (v:=.tuple #[.agg #[.slice h0 (k1+1) j0,.slice g0 (k1+1) i0,.int .i64 e0],.bool true]) (by simp [results,Try.results146,go_sem,w0,x0,y0]) rfl (by exact (by first | exact ⟨h0,g0,j0,i0,k1+1,e0,true,rfl,r0.out,by omega,(fun _=>by omega),(o0.out.below a0 (by have:=HB.out;omega) (fun q _ h=>no_L7B h))⟩ | exact ⟨h0,g0,j0,i0,k1+1,e0,Or.inr ⟨rfl,r0.out,by omega,(o0.out.below a0 (by have:=HB.out;omega) (fun q _ h=>no_L7B h))⟩⟩ | exact ⟨h0,g0,j0,i0,k1+1,e0,Or.inr ⟨rfl,r0.out,by omega,by omega,(o0.out.below a0 (by have:=HB.out;omega) (fun q _ h=>no_L7B h))⟩⟩))
end Go.Proofs.Ytkjedgnepnbkpaa
