/-
 Parts of the proofs of the laws FnExactProductProgram.
-/
import Derived.Test.YtlckklglbodgbaaVA
set_option linter.all false
namespace Go.Proofs.Ytlckklglbodgbaa
open Go.RowKit
set_option maxHeartbeats 6400000 in
set_option maxRecDepth 100000 in
theorem l2Stmt_of (pv pa:Option Addr) (nv cv na ca:Nat) (vb:Value) (A:Nat→Prop) (d:Nat) (hd:d≤5) (Hb:∀ (D:Nat) (u:Value) (L:List St) (w:World),BlAt w A D u L→Calls Try.prog 47 #[.agg #[.slice pv nv cv,.slice pa na ca,vb],u,.int .i64 d] w fun r w'=>r=.returned (.bool (L.all (stOk nv na d)))∧Below w.heap.size w w')
  (D:Nat) (n:Sn) (s:St) (w:World) (hx:StAt w A D n s) :
  Calls Try.prog 77 #[.agg #[.slice pv nv cv,.slice pa na ca,vb],.agg #[.int .i64 n.k,.int .i64 n.t,.int .i64 n.ix.k,.int .i64 n.ix.v,.slice n.ix.p n.ix.n n.ix.c,.int .i64 n.val.k,.int .i64 n.val.v,.slice n.val.p n.val.n n.val.c,.int .i64 n.c,.slice n.bp n.bn n.bc,.slice n.ep n.en n.ec],.int .i64 ((d+1:Nat):Int)] w fun r w'=>r=.returned (.bool (stOk nv na (d+1) s))∧Below w.heap.size w w':=by
 cases D with
 | zero=>cases hx
 | succ D =>
  obtain ⟨k,t,ix,val,c,h0,i0⟩:=s;have HX:=Hi (fun W (hW:Below w.heap.size w W)=>StAt.keep (S:=fun _=>False) (Cb hW) (fun _ _ _=>id) (fun _ h _=>h) Lr hx);obtain ⟨h1,h2,h3,⟨D1,h4⟩,⟨D2,h5⟩,h6,h7⟩:=hx;have s4:=h4.shape;have s5:=h5.shape;obtain ⟨_,_,s6⟩:=h6.shape;obtain ⟨_,_,s7⟩:=h7.shape;have a6:=Hi (fun W (hW:Below w.heap.size w W)=>l2Right_any pv pa nv cv na ca vb A D1 n.ix ix W (h4.below hW));have b2:=Hi (fun W (hW:Below w.heap.size w W)=>l2Right_any pv pa nv cv na ca vb A D2 n.val val W (h5.below hW));have e5:=Hi (fun W (hW:Below w.heap.size w W)=>Hb D _ h0 W (BlAt.below h6 hW));have y5:=Hi (fun W (hW:Below w.heap.size w W)=>Hb D _ i0 W (BlAt.below h7 hW));have z5:=Hi (fun W=>l2Parts_any n W);obtain ⟨nk,nt,b6,k2,nc,bp,bn,bc,ep,en,ec⟩:=n;obtain ⟨ik,iv,ip,im,ic⟩:=b6;obtain ⟨jk,jv,jp,jm,jc⟩:=k2;simp only [Value.slice.injEq] at *;obtain ⟨rfl,rfl,rfl⟩:=s6;obtain ⟨rfl,rfl,rfl⟩:=s7;subst h1 h2 h3;have e1:noneN ⟨ik,iv,ip,im,ic⟩=noneE ix:=by unfold noneN noneE;simp only;rw [s4.1,s4.2.1,s4.2.2]
  have e2:noneN ⟨jk,jv,jp,jm,jc⟩=noneE val:=by unfold noneN noneE;simp only;rw [s5.1,s5.2.1,s5.2.2]
  have HQ:Hid (stOk nv na (d+1) (.mk nk nt ix val nc h0 i0)=(partsN ⟨nk,nt,⟨ik,iv,ip,im,ic⟩,⟨jk,jv,jp,jm,jc⟩,nc,bp,h0.length,bc,ep,i0.length,ec⟩&&(if (nk == 1||nk == 5)=true then decide (0≤nt)&&(decide (nt < nv)&&exRight nv na val)
   else if (nk == 2)=true then decide (0≤nt)&&(decide (nt < na)&&(exRight nv na ix&&(atomK ik&&exRight nv na val)))
   else if (nk == 3)=true then exRight nv na val&&(h0.all (stOk nv na d)&&i0.all (stOk nv na d))
   else if (nk == 4)=true then h0.all (stOk nv na d) else false))):=Hi (by
   show (partsS nk nt ix val nc h0 i0&&_)=_
   unfold partsN partsS
   simp only
   rw [e1,e2,← s4.1])
  clear h4 h5 h6 h7 s4 s5 e1 e2 HX Hb;generalize stOk nv na (d+1) _=G at *
  generalize partsN _=PN at *
  generalize exRight nv na val=RV at *
  generalize exRight nv na ix=RI at *
  generalize h0.all (stOk nv na d)=BB at *
  generalize i0.all (stOk nv na d)=BE at *
  have q1:decide ((d:Int)+1 < 1)=false:=decide_eq_false (by omega);have q2:(1:Int)≤(d:Int)+1:=by omega
  go_enter Try.func77,Try.ntmps77
  go_wp2_with fail
  refine (z5.out _).mono ?_;rintro e w1 ⟨rfl,hb⟩;have c2:=hb.size;simp only [Sa] at c2;have c0:Bk w1 (w.heap.size) [.slice pv nv cv,.slice pa na ca,vb]:=Bb (Bk.al (Bk.nw (by simp) rfl) (.cells #[.int .i64 nk,.int .i64 nt,.int .i64 ik,.int .i64 iv,.slice ip im ic,.int .i64 jk,.int .i64 jv,.slice jp jm jc,.int .i64 nc,.slice bp h0.length bc,.slice ep i0.length ec] 51)) hb;have b0:Bk w1 (w.heap.size+1) [.int .i64 nk,.int .i64 nt,.int .i64 ik,.int .i64 iv,.slice ip im ic,.int .i64 jk,.int .i64 jv,.slice jp jm jc,.int .i64 nc,.slice bp h0.length bc,.slice ep i0.length ec]:=Bb (Bk.nw (by simp) rfl) hb;have a0:=btr (bal (bal (Bs w) (.cells #[.slice pv nv cv,.slice pa na ca,vb] 26)) (.cells #[.int .i64 nk,.int .i64 nt,.int .i64 ik,.int .i64 iv,.slice ip im ic,.int .i64 jk,.int .i64 jv,.slice jp jm jc,.int .i64 nc,.slice bp h0.length bc,.slice ep i0.length ec] 51)) hb;clear hb;have m5:=Bk.lz c0;have n5:=Bk.lz b0
  cases PN with
  | false =>
   have HB:Hid (G=false):=Hi (by rw [HQ.out];simp []);clear HQ;have tt:=a0;go_wp2
   exact bodyPost_ret (v:=.bool false) (by simp [results,Try.results77,go_sem]) rfl (by exact by rw [HB.out];exact ⟨rfl,tt⟩)
  | true =>
   by_cases hk1:(nk == 1)=true
   ·skip
    have g0:¬(nk == 5)=true:=by have:nk=1:=(by simpa using hk1);subst this;decide
    have d0:¬(nk == 2)=true:=by have:nk=1:=(by simpa using hk1);subst this;decide
    have e0:¬(nk == 3)=true:=by have:nk=1:=(by simpa using hk1);subst this;decide
    have f0:¬(nk == 4)=true:=by have:nk=1:=(by simpa using hk1);subst this;decide
    by_cases ht0:0≤nt
    ·skip
     by_cases htv:nt < (nv:Int)
     ·skip
      obtain ⟨n6,c7,o6,d7,l2,u3⟩:=Bk.h3 c0;obtain ⟨m2,v3,n2,x3,o2,y3,p2,z3,r2,a4⟩:=Bk.f5 b0 0 1 5 6 7 rfl rfl rfl rfl rfl;go_wp2_with fail
      refine (b2.out _ a0).mono ?_;rintro e w2 ⟨rfl,hb⟩;have g5:=hb.size;clear c7 n6 d7 o6 u3 l2 v3 m2 x3 n2 y3 o2 z3 p2 a4 r2;replace c0:=Bb c0 hb;replace b0:=Bb b0 hb;replace a0:=btr a0 hb;clear hb;clear c0 b0
      cases RV with
      | false =>
       have HB:Hid (G=false):=Hi (by rw [HQ.out];simp [hk1,g0,d0,e0,f0,ht0,htv]);clear HQ;have tt:=a0;go_wp2
       exact bodyPost_ret (v:=.bool false) (by simp [results,Try.results77,go_sem]) rfl (by exact by rw [HB.out];exact ⟨rfl,tt⟩)
      | true =>
       have HB:Hid (G=true):=Hi (by rw [HQ.out];simp [hk1,g0,d0,e0,f0,ht0,htv]);clear HQ;have tt:=a0;go_wp2
       exact bodyPost_ret (v:=.bool true) (by simp [results,Try.results77,go_sem]) rfl (by exact by rw [HB.out];exact ⟨rfl,tt⟩)
     skip
     have HB:Hid (G=false):=Hi (by rw [HQ.out];simp [hk1,g0,d0,e0,f0,ht0,htv]);clear HQ;obtain ⟨c6,r6⟩:=Bk.cf c0 0 rfl;obtain ⟨d6,t6,e6,u6⟩:=Bk.h2 b0;have tt:=a0;go_wp2
     exact bodyPost_ret (v:=.bool false) (by simp [results,Try.results77,go_sem]) rfl (by exact by rw [HB.out];exact ⟨rfl,tt⟩)
    skip
    have HB:Hid (G=false):=Hi (by rw [HQ.out];simp [hk1,g0,d0,e0,f0,ht0]);clear HQ;obtain ⟨f6,v6,g6,w6⟩:=Bk.h2 b0;have tt:=a0;go_wp2
    exact bodyPost_ret (v:=.bool false) (by simp [results,Try.results77,go_sem]) rfl (by exact by rw [HB.out];exact ⟨rfl,tt⟩)
   skip
   by_cases g0:(nk == 5)=true
   ·skip
    have d0:¬(nk == 2)=true:=by have:nk=5:=(by simpa using g0);subst this;decide
    have e0:¬(nk == 3)=true:=by have:nk=5:=(by simpa using g0);subst this;decide
    have f0:¬(nk == 4)=true:=by have:nk=5:=(by simpa using g0);subst this;decide
    by_cases ht0:0≤nt
    ·skip
     by_cases htv:nt < (nv:Int)
     ·skip
      obtain ⟨s2,b4,t2,c4,u2,d4⟩:=Bk.h3 c0;obtain ⟨v2,e4,x2,g4,y2,i4,z2,j4,a3,k4⟩:=Bk.f5 b0 0 1 5 6 7 rfl rfl rfl rfl rfl;go_wp2_with fail
      refine (b2.out _ a0).mono ?_;rintro e w2 ⟨rfl,hb⟩;have i5:=hb.size;clear b4 s2 c4 t2 d4 u2 e4 v2 g4 x2 i4 y2 j4 z2 k4 a3;replace c0:=Bb c0 hb;replace b0:=Bb b0 hb;replace a0:=btr a0 hb;clear hb;clear c0 b0
      cases RV with
      | false =>
       have HB:Hid (G=false):=Hi (by rw [HQ.out];simp [hk1,g0,d0,e0,f0,ht0,htv]);clear HQ;have tt:=a0;go_wp2
       exact bodyPost_ret (v:=.bool false) (by simp [results,Try.results77,go_sem]) rfl (by exact by rw [HB.out];exact ⟨rfl,tt⟩)
      | true =>
       have HB:Hid (G=true):=Hi (by rw [HQ.out];simp [hk1,g0,d0,e0,f0,ht0,htv]);clear HQ;have tt:=a0;go_wp2
       exact bodyPost_ret (v:=.bool true) (by simp [results,Try.results77,go_sem]) rfl (by exact by rw [HB.out];exact ⟨rfl,tt⟩)
     skip
     have HB:Hid (G=false):=Hi (by rw [HQ.out];simp [hk1,g0,d0,e0,f0,ht0,htv]);clear HQ;obtain ⟨i6,x6⟩:=Bk.cf c0 0 rfl;obtain ⟨j6,y6,k6,z6⟩:=Bk.h2 b0;have tt:=a0;go_wp2
     exact bodyPost_ret (v:=.bool false) (by simp [results,Try.results77,go_sem]) rfl (by exact by rw [HB.out];exact ⟨rfl,tt⟩)
    skip
    have HB:Hid (G=false):=Hi (by rw [HQ.out];simp [hk1,g0,d0,e0,f0,ht0]);clear HQ;obtain ⟨l6,a7,m6,b7⟩:=Bk.h2 b0;have tt:=a0;go_wp2
    exact bodyPost_ret (v:=.bool false) (by simp [results,Try.results77,go_sem]) rfl (by exact by rw [HB.out];exact ⟨rfl,tt⟩)
   skip
   by_cases d0:(nk == 2)=true
   ·skip
    have e0:¬(nk == 3)=true:=by have:nk=2:=(by simpa using d0);subst this;decide
    have f0:¬(nk == 4)=true:=by have:nk=2:=(by simpa using d0);subst this;decide
    by_cases ht0:0≤nt
    ·skip
     by_cases hta:nt < (na:Int)
     ·skip
      obtain ⟨b3,l4,c3,m4,d3,n4⟩:=Bk.h3 c0;obtain ⟨e3,o4,g3,p4,i3,q4,j3,r4,k3,t4⟩:=Bk.f5 b0 0 1 2 3 4 rfl rfl rfl rfl rfl;go_wp2_with fail
      refine (a6.out _ a0).mono ?_;rintro e w2 ⟨rfl,hb⟩;have j5:=hb.size;clear l4 b3 m4 c3 n4 d3 o4 e3 p4 g3 q4 i3 r4 j3 t4 k3;replace c0:=Bb c0 hb;replace b0:=Bb b0 hb;replace a0:=btr a0 hb;clear hb;replace m5:=Bk.lz c0;replace n5:=Bk.lz b0
      cases RI with
      | false =>
       have HB:Hid (G=false):=Hi (by rw [HQ.out];simp [hk1,g0,d0,e0,f0,ht0,hta]);clear HQ;have tt:=a0;go_wp2
       exact bodyPost_ret (v:=.bool false) (by simp [results,Try.results77,go_sem]) rfl (by exact by rw [HB.out];exact ⟨rfl,tt⟩)
      | true =>
       obtain ⟨l3,u4,m3,v4,n3,x4⟩:=Bk.f3 b0 2 3 4 rfl rfl rfl;go_wp2_with fail
       refine (l2Atom_any _ _ _ _).mono ?_;rintro e w3 ⟨rfl,hb⟩;have k5:=hb.size;clear u4 l3 v4 m3 x4 n3;replace c0:=Bb c0 hb;replace b0:=Bb b0 hb;replace a0:=btr a0 hb;clear hb
       cases hat:atomK ik with
       | false =>
        have HB:Hid (G=false):=Hi (by rw [HQ.out];simp [hk1,g0,d0,e0,f0,ht0,hta,hat]);clear HQ;have tt:=a0;go_wp2
        exact bodyPost_ret (v:=.bool false) (by simp [results,Try.results77,go_sem]) rfl (by exact by rw [HB.out];exact ⟨rfl,tt⟩)
       | true =>
        obtain ⟨o3,y4,p3,z4,q3,a5⟩:=Bk.h3 c0;obtain ⟨r3,b5,s3,c5,t3,d5⟩:=Bk.f3 b0 5 6 7 rfl rfl rfl;go_wp2_with fail
        refine (b2.out _ a0).mono ?_;rintro e w4 ⟨rfl,hb⟩;have l5:=hb.size;clear y4 o3 z4 p3 a5 q3 b5 r3 c5 s3 d5 t3;replace c0:=Bb c0 hb;replace b0:=Bb b0 hb;replace a0:=btr a0 hb;clear hb;clear c0 b0
        cases RV with
        | false =>
         have HB:Hid (G=false):=Hi (by rw [HQ.out];simp [hk1,g0,d0,e0,f0,ht0,hta,hat]);clear HQ;have tt:=a0;go_wp2
         exact bodyPost_ret (v:=.bool false) (by simp [results,Try.results77,go_sem]) rfl (by exact by rw [HB.out];exact ⟨rfl,tt⟩)
        | true =>
         have HB:Hid (G=true):=Hi (by rw [HQ.out];simp [hk1,g0,d0,e0,f0,ht0,hta,hat]);clear HQ;have tt:=a0;go_wp2
         exact bodyPost_ret (v:=.bool true) (by simp [results,Try.results77,go_sem]) rfl (by exact by rw [HB.out];exact ⟨rfl,tt⟩)
     skip
     have HB:Hid (G=false):=Hi (by rw [HQ.out];simp [hk1,g0,d0,e0,f0,ht0,hta]);clear HQ;obtain ⟨p6,e7⟩:=Bk.cf c0 1 rfl;obtain ⟨q6,t5,o5,u5⟩:=Bk.h2 b0;have tt:=a0;go_wp2
     exact bodyPost_ret (v:=.bool false) (by simp [results,Try.results77,go_sem]) rfl (by exact by rw [HB.out];exact ⟨rfl,tt⟩)
    skip
    have HB:Hid (G=false):=Hi (by rw [HQ.out];simp [hk1,g0,d0,e0,f0,ht0]);clear HQ;obtain ⟨p5,v5,q5,w5⟩:=Bk.h2 b0;have tt:=a0;go_wp2
    exact bodyPost_ret (v:=.bool false) (by simp [results,Try.results77,go_sem]) rfl (by exact by rw [HB.out];exact ⟨rfl,tt⟩)
   skip
   by_cases e0:(nk == 3)=true
   ·skip
    have f0:¬(nk == 4)=true:=by have:nk=3:=(by simpa using e0);subst this;decide
    obtain ⟨j0,d1,k0,f1,l0,g1⟩:=Bk.h3 c0;obtain ⟨m0,i1,n0,j1,o0,k1,p0,l1⟩:=Bk.f4 b0 0 5 6 7 rfl rfl rfl rfl;go_wp2_with fail
    refine (b2.out _ a0).mono ?_;rintro e w2 ⟨rfl,hb⟩;have d2:=hb.size;clear d1 j0 f1 k0 g1 l0 i1 m0 j1 n0 k1 o0 l1 p0;replace c0:=Bb c0 hb;replace b0:=Bb b0 hb;replace a0:=btr a0 hb;clear hb;replace m5:=Bk.lz c0;replace n5:=Bk.lz b0
    cases RV with
    | false =>
     have HB:Hid (G=false):=Hi (by rw [HQ.out];simp [hk1,g0,d0,e0,f0]);clear HQ;have tt:=a0;go_wp2
     exact bodyPost_ret (v:=.bool false) (by simp [results,Try.results77,go_sem]) rfl (by exact by rw [HB.out];exact ⟨rfl,tt⟩)
    | true =>
     obtain ⟨q0,m1,r0,n1,s0,o1⟩:=Bk.h3 c0;obtain ⟨t0,p1⟩:=Bk.cf b0 9 rfl;go_wp2_with fail
     refine (e5.out _ a0).mono ?_;rintro e w3 ⟨rfl,hb⟩;have g2:=hb.size;clear m1 q0 n1 r0 o1 s0 p1 t0;replace c0:=Bb c0 hb;replace b0:=Bb b0 hb;replace a0:=btr a0 hb;clear hb
     cases BB with
     | false =>
      have HB:Hid (G=false):=Hi (by rw [HQ.out];simp [hk1,g0,d0,e0,f0]);clear HQ;have tt:=a0;go_wp2
      exact bodyPost_ret (v:=.bool false) (by simp [results,Try.results77,go_sem]) rfl (by exact by rw [HB.out];exact ⟨rfl,tt⟩)
     | true =>
      obtain ⟨u0,r1,v0,s1,w0,t1⟩:=Bk.h3 c0;obtain ⟨x0,u1⟩:=Bk.cf b0 10 rfl;go_wp2_with fail
      refine (y5.out _ a0).mono ?_;rintro e w4 ⟨rfl,hb⟩;have i2:=hb.size;clear r1 u0 s1 v0 t1 w0 u1 x0;replace c0:=Bb c0 hb;replace b0:=Bb b0 hb;replace a0:=btr a0 hb;clear hb;clear c0 b0
      cases BE with
      | false =>
       have HB:Hid (G=false):=Hi (by rw [HQ.out];simp [hk1,g0,d0,e0,f0]);clear HQ;have tt:=a0;go_wp2
       exact bodyPost_ret (v:=.bool false) (by simp [results,Try.results77,go_sem]) rfl (by exact by rw [HB.out];exact ⟨rfl,tt⟩)
      | true =>
       have HB:Hid (G=true):=Hi (by rw [HQ.out];simp [hk1,g0,d0,e0,f0]);clear HQ;have tt:=a0;go_wp2
       exact bodyPost_ret (v:=.bool true) (by simp [results,Try.results77,go_sem]) rfl (by exact by rw [HB.out];exact ⟨rfl,tt⟩)
   skip
   by_cases f0:(nk == 4)=true
   ·skip
    obtain ⟨y0,v1,z0,x1,a1,y1⟩:=Bk.h3 c0;obtain ⟨b1,z1,c1,a2⟩:=Bk.f2 b0 0 9 rfl rfl;go_wp2_with fail
    refine (e5.out _ a0).mono ?_;rintro e w2 ⟨rfl,hb⟩;have j2:=hb.size;clear v1 y0 x1 z0 y1 a1 z1 b1 a2 c1;replace c0:=Bb c0 hb;replace b0:=Bb b0 hb;replace a0:=btr a0 hb;clear hb;clear c0 b0
    cases BB with
    | false =>
     have HB:Hid (G=false):=Hi (by rw [HQ.out];simp [hk1,g0,d0,e0,f0]);clear HQ;have tt:=a0;go_wp2
     exact bodyPost_ret (v:=.bool false) (by simp [results,Try.results77,go_sem]) rfl (by exact by rw [HB.out];exact ⟨rfl,tt⟩)
    | true =>
     have HB:Hid (G=true):=Hi (by rw [HQ.out];simp [hk1,g0,d0,e0,f0]);clear HQ;have tt:=a0;go_wp2
     exact bodyPost_ret (v:=.bool true) (by simp [results,Try.results77,go_sem]) rfl (by exact by rw [HB.out];exact ⟨rfl,tt⟩)
   skip
   have HB:Hid (G=false):=Hi (by rw [HQ.out];simp [hk1,g0,d0,e0,f0]);clear HQ;obtain ⟨r5,x5⟩:=Bk.cf b0 0 rfl;have tt:=a0;go_wp2
   exact bodyPost_ret (v:=.bool false) (by simp [results,Try.results77,go_sem]) rfl (by exact by rw [HB.out];exact ⟨rfl,tt⟩)
end Go.Proofs.Ytlckklglbodgbaa
