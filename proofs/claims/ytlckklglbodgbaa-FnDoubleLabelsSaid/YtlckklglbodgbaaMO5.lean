/-
 Parts of the proofs of the laws FnDoubleLabels.
-/
import Derived.Test.YtlckklglbodgbaaMF5
set_option linter.all false
namespace Go.Proofs.Ytlckklglbodgbaa
open Go.RowKit
set_option maxHeartbeats 12800000 in
set_option maxRecDepth 100000 in
theorem FnDoubleLabels_walk (v:Value) (n:Nat) (vs:List Int) (w:World) (r0:Reads w 1 v n (vs.map (Value.int .u8))) (hv:∀ x ∈ vs,0≤x∧x < 256) :
  Calls Try.prog 3 #[v] w fun e w'=>e=.returned (.bool true)∧Below w.heap.size w w':=by
 obtain ⟨va,vc,rfl⟩:=reads_shape r0;by_cases hn:n≤1048576
 case neg =>
  have j4:(1048576:Int) < (n:Int):=by omega
  clear r0;go_enter Try.func3,Try.ntmps3
  go_wp2
  go_ret
  exact ⟨rfl,Below.refl _ _⟩
 have j4:¬(1048576:Int) < (n:Int):=by omega
 go_enter Try.func3,Try.ntmps3
 go_wp2_with fail
 refine (DrawDoubleLabels_any _ n vs _ (r0.below (Bs w)) hv hn).mono ?_;rintro e w1 ⟨j5,k5,l5,xs,ys,D,L,rfl,hP,hb⟩;clear r0 hv;obtain ⟨p0,q0,p1,q1,p2,q2,rfl,rfl,rfl⟩:=hP.r.shape;have u0:xs.length≤1048576∧ys.length≤1048576∧stNs L≤1048576:=by have:=hP.n;omega
 have k4:=hb.size;have h0:=btr (Bs w) hb;clear hb;have e0:=Bs w1;have HP:=Hi (fun W (hW:Below w1.heap.size w1 W)=>hP.r.below hW);clear hP;obtain ⟨ok,v0⟩:∃ ok,dblR xs ys L=ok:=⟨_,rfl⟩;have l0:=fun h:ok=true=>law_double (v0.trans h)
 have l4:=dX_len ok xs u0.1;have m4:=dX_len ok ys u0.2.1;obtain ⟨X,hX⟩:∃ M,dX ok xs=M:=⟨_,rfl⟩;obtain ⟨Y,hY⟩:∃ M,dX ok ys=M:=⟨_,rfl⟩;rw [hX] at l4;rw [hY] at m4;have v3:=Hi v0;have HX:=Hi hX;have HY:=Hi hY;have i4:=Hi l0;clear v0 hX hY l0;go_upto_region 4 with (fail)
 obtain ⟨w2,i0,hb⟩:=nmw (World.alloc w1 (.cells #[.slice p0 xs.length q0,.slice p1 ys.length q1,.slice p2 L.length q2] 26));replace e0:=btr (bal e0 _) hb;have x0:=hb.size;simp only [Sa] at x0;have g0:Bk w2 (w1.heap.size) [.slice p0 xs.length q0,.slice p1 ys.length q1,.slice p2 L.length q2]:=Bb (Bk.nw (by simp) rfl) hb;replace h0:=btr (bal h0 _) hb;clear hb;rw [← i0];clear i0;have h4:=Bk.lz g0;obtain ⟨o4,u4,p4,a5,z0,m2⟩:=Bk.f3 g0 0 1 2 rfl rfl rfl;go_wp2_with fail
 have f0:=iDouble_any _ _ xs ys _ D _ L _ (HP.out _ e0).a (HP.out _ e0).b (HP.out _ e0).t ⟨by omega,by omega⟩;unfold DblP at f0;rw [v3.out,HX.out,HY.out] at f0
 refine (f0).mono ?_;rintro e w3 ⟨⟨f5,h5,rfl,o1,o2,t0⟩,hb⟩;obtain ⟨g1,t1,rfl⟩:=Oh o1;obtain ⟨k1,u1,rfl⟩:=Oh o2;clear f0;replace e0:=btr e0 hb;have a4:=hb.size;clear u4 o4 a5 p4 m2 z0;replace g0:=Bb g0 hb;replace h0:=btr h0 hb;clear hb;have a0:=Bs w3;have k0:=Hi (fun W (hW:Below w3.heap.size w3 W)=>(Ro o1 (by omega)).below hW);have j0:=Hi (fun W (hW:Below w3.heap.size w3 W)=>(Ro o2 (by omega)).below hW);replace h4:=Bk.lz g0;clear o1 o2 t0;go_upto_region 5 with (fail)
 obtain ⟨w4,i0,hb⟩:=nmw (World.alloc w3 (.cells #[.slice g1 X.length t1,.slice k1 Y.length u1,.slice none 0 0] 26));replace e0:=btr (bal e0 _) hb;replace a0:=btr (bal a0 _) hb;have m0:=hb.size;simp only [Sa] at m0;replace g0:=Bb (Bk.al g0 _) hb;have b0:Bk w4 (w3.heap.size) [.slice g1 X.length t1,.slice k1 Y.length u1,.slice none 0 0]:=Bb (Bk.nw (by simp) rfl) hb;replace h0:=btr (bal h0 _) hb;clear hb;rw [← i0];clear i0;have y0:=Bk.lz b0;obtain ⟨a1,n2,b1,r2,c1,s2⟩:=Bk.f3 g0 0 1 2 rfl rfl rfl;go_wp2_with fail
 have f0:=sDouble_any _ _ xs ys _ D _ L _ (HP.out _ e0).a (HP.out _ e0).b (HP.out _ e0).t ⟨by omega,by omega⟩ u0.2.2;unfold DblP at f0;rw [v3.out,HX.out,HY.out] at f0
 refine (f0).mono ?_;rintro e w5 ⟨⟨g5,i5,rfl,o1,o2,t0⟩,hb⟩;obtain ⟨g2,t2,rfl⟩:=Oh o1;obtain ⟨k2,u2,rfl⟩:=Oh o2;clear f0;replace e0:=btr e0 hb;replace a0:=btr a0 hb;have b4:=hb.size;clear n2 a1 r2 b1 s2 c1;replace g0:=Bb g0 hb;replace b0:=Bb b0 hb;replace h0:=btr h0 hb;clear hb;have c0:=Bs w5;have s0:=Hi (fun W (hW:Below w5.heap.size w5 W)=>(Ro o1 (by omega)).below hW);have o0:=Hi (fun W (hW:Below w5.heap.size w5 W)=>(Ro o2 (by omega)).below hW);replace h4:=Bk.lz g0;replace y0:=Bk.lz b0;clear o1 o2 t0;go_upto_region 6 with (fail)
 obtain ⟨w6,i0,hb⟩:=nmw (World.alloc w5 (.cells #[.slice g2 X.length t2,.slice k2 Y.length u2,.slice none 0 0] 26));replace e0:=btr (bal e0 _) hb;replace a0:=btr (bal a0 _) hb;replace c0:=btr (bal c0 _) hb;have n0:=hb.size;simp only [Sa] at n0;replace g0:=Bb (Bk.al g0 _) hb;replace b0:=Bb (Bk.al b0 _) hb;have d0:Bk w6 (w5.heap.size) [.slice g2 X.length t2,.slice k2 Y.length u2,.slice none 0 0]:=Bb (Bk.nw (by simp) rfl) hb;replace h0:=btr (bal h0 _) hb;clear hb;rw [← i0];clear i0;have n4:=Bk.lz d0
 cases ok with
 | false =>
  obtain ⟨d1,v2,e1,x2,f1,y2⟩:=Bk.f3 b0 0 1 2 rfl rfl rfl;obtain ⟨h1,z2,i1,a3,j1,b3⟩:=Bk.f3 d0 0 1 2 rfl rfl rfl;go_wp2_with fail
  have f0:=ProgramSame_nil _ _ _ _ X Y _ (k0.out _ a0) (j0.out _ a0) (s0.out _ c0) (o0.out _ c0);refine (f0).mono ?_;rintro e w7 ⟨rfl,hb⟩;clear f0;replace e0:=btr e0 hb;replace a0:=btr a0 hb;replace c0:=btr c0 hb;have c4:=hb.size;clear v2 d1 x2 e1 y2 f1 z2 h1 a3 i1 b3 j1;replace g0:=Bb g0 hb;replace b0:=Bb b0 hb;replace d0:=Bb d0 hb;replace h0:=btr h0 hb;clear hb;obtain ⟨l1,c3,m1,d3,n1,e3⟩:=Bk.f3 b0 0 1 2 rfl rfl rfl;obtain ⟨r1,g3,s1,h3,v1,i3⟩:=Bk.f3 d0 0 1 2 rfl rfl rfl;go_wp2_with fail
  have f0:=ProgramSame_nil _ _ _ _ X Y _ (k0.out _ a0) (j0.out _ a0) (s0.out _ c0) (o0.out _ c0);refine (f0).mono ?_;rintro e w8 ⟨rfl,hb⟩;clear f0;replace e0:=btr e0 hb;replace a0:=btr a0 hb;replace c0:=btr c0 hb;have d4:=hb.size;clear c3 l1 d3 m1 e3 n1 g3 r1 h3 s1 i3 v1;replace g0:=Bb g0 hb;replace b0:=Bb b0 hb;replace d0:=Bb d0 hb;replace h0:=btr h0 hb;clear hb;have tt:=h0;go_wp2
  go_ret
  exact ⟨rfl,tt⟩
 | true =>
  obtain ⟨x1,j3,y1,k3,z1,l3⟩:=Bk.f3 b0 0 1 2 rfl rfl rfl;obtain ⟨a2,m3,b2,n3,c2,o3⟩:=Bk.f3 d0 0 1 2 rfl rfl rfl;go_wp2_with fail
  have f0:=ProgramSame_nil _ _ _ _ X Y _ (k0.out _ a0) (j0.out _ a0) (s0.out _ c0) (o0.out _ c0);refine (f0).mono ?_;rintro e w7 ⟨rfl,hb⟩;clear f0;replace e0:=btr e0 hb;replace a0:=btr a0 hb;replace c0:=btr c0 hb;have e4:=hb.size;clear j3 x1 k3 y1 l3 z1 m3 a2 n3 b2 o3 c2;replace g0:=Bb g0 hb;replace b0:=Bb b0 hb;replace d0:=Bb d0 hb;replace h0:=btr h0 hb;clear hb;obtain ⟨w0,y3,z3,b5,c5⟩:=i4.out (by trivial);rw [HX.out,HY.out] at w0;rw [HX.out] at y3;rw [HY.out] at z3;have x3:=Hi w0;have d5:((X.length:Int) == 2*(xs.length:Int))=true:=by rw [beq_iff_eq];omega
  have e5:((Y.length:Int) == 2*(ys.length:Int))=true:=by rw [beq_iff_eq];omega
  clear w0 y3 z3;go_upto_region 8 with (fail)
  obtain ⟨d2,p3,e2,q3,h2,r3⟩:=Bk.f3 b0 0 1 2 rfl rfl rfl;go_wp2_with fail
  have f0:=iProgramValid_any _ _ X Y (fun _=>True) 0 _ [] _ (k0.out _ a0) (j0.out _ a0) (blAt_nilb _ _ _) ⟨by omega,by omega⟩;rw [x3.out] at f0;refine (f0).mono ?_;rintro e w8 ⟨rfl,hb⟩;clear f0;replace e0:=btr e0 hb;replace a0:=btr a0 hb;replace c0:=btr c0 hb;have f4:=hb.size;clear p3 d2 q3 e2 r3 h2;replace g0:=Bb g0 hb;replace b0:=Bb b0 hb;replace d0:=Bb d0 hb;replace h0:=btr h0 hb;clear hb;obtain ⟨i2,s3,j2,t3,l2,u3⟩:=Bk.f3 b0 0 1 2 rfl rfl rfl;go_wp2_with fail
  have f0:=CountStmts_nil _ _ X Y _ (k0.out _ a0) (j0.out _ a0) ⟨by omega,by omega⟩ x3.out;refine (f0).mono ?_;rintro e w9 ⟨rfl,hb⟩;clear f0;replace e0:=btr e0 hb;replace a0:=btr a0 hb;replace c0:=btr c0 hb;have g4:=hb.size;clear s3 i2 t3 j2 u3 l2;replace g0:=Bb g0 hb;replace b0:=Bb b0 hb;replace d0:=Bb d0 hb;replace h0:=btr h0 hb;clear hb;obtain ⟨q4,v4,r4,x4⟩:=Bk.f2 g0 0 1 rfl rfl;obtain ⟨s4,y4,t4,z4⟩:=Bk.f2 b0 0 1 rfl rfl;have tt:=h0;go_wp2
  go_ret
  exact ⟨rfl,tt⟩
end Go.Proofs.Ytlckklglbodgbaa
namespace Go.Proofs.Ytlckklglbodgbaa
open Go.RowKit Go.ChangeShapes Go.WideShapes
variable {H:Type} {enc:TypeId × Value→H} {P:Program} {w:World} {base:Nat} {spare:Nat→Bool} {held:Bool}
theorem rd_bytes {t e:TypeId} {fuel:Nat} {c:Value} {x:DataW H × List MemPlace} (ht:P.underlying t=some (.slice e)) (he:P.underlying e=some (.int .u8)) (hc:P.cellsOf e=1)
  (h:DataW.trod enc P w base spare held fuel t [c]=some x):∃ xs:List Int,Reads w 1 c xs.length (xs.map (Value.int .u8))∧∀ n ∈ xs,0≤n∧n < 256:=by
 rcases open_ints ht he hc h with ⟨hcs,_⟩ | ⟨a,len,cap,zs,hcs,_,hl,hm,hz,_,hcell,hwz⟩
 ·simp only [List.cons.injEq,and_true] at hcs;subst hcs;exact ⟨[],Ro (World.ownsRow_nil w 0 0 1) (by simp),fun n hn=>by cases hn⟩
 simp only [List.cons.injEq,and_true] at hcs;subst hcs;have g0:len≤zs.length:=by rw [hz];split <;> omega
 have d0:(zs.take len).length=len:=by rw [List.length_take];omega
 refine ⟨zs.take len,?_,fun n hn=>by have h:=hwz n (List.mem_of_mem_take hn);simp [Lit.wf,IntKind.min,IntKind.max,IntKind.bits,IntKind.signed] at h;omega⟩;rw [d0];obtain ⟨b,f0,b0⟩:=a;refine ⟨by rw [List.length_map,d0];omega,by unfold maxLen at hm;omega,some ⟨b,f0,b0⟩,cap,b,f0,rfl,⟨hl,fun h=>by cases h⟩,?_,?_⟩
 ·intro h0;have c0:=hcell 0 (by omega);have a0:b0=none:=by simpa [Addr.add] using World.cell?_spot c0
  subst a0;exact ⟨rfl,by have:=World.block_lt_of_cell? w _ c0;simpa [Addr.add] using this⟩
 intro j hj;have hj':j < len:=by rw [List.length_map,d0] at hj;exact hj
 have c0:=hcell 0 (by omega);have a0:b0=none:=by simpa [Addr.add] using World.cell?_spot c0
 subst a0;have e0:=hcell j (by omega);rw [addr_add] at e0;rw [e0,List.getElem_map,List.getElem_take];congr 2
 simp only [List.getD_eq_getElem?_getD];rw [List.getElem?_eq_getElem (by omega)];rfl
theorem op_bytes {r:Reach} {b0:Nat} {t e:TypeId} {v:Value} {d:DataW H} {p:List MemPlace} (ht:P.underlying t=some (.slice e)) (he:P.underlying e=some (.int .u8)) (hc:P.cellsOf e=1)
  (hv:Value.okWide P w r b0 t v) (h:DataW.Trod enc P w base spare held t v d p) :
  ∃ xs:List Int,Reads w 1 v xs.length (xs.map (Value.int .u8))∧∀ n ∈ xs,0≤n∧n < 256:=by
 obtain ⟨a,d0,a0,rfl⟩:=okWide_slice ht hv;obtain ⟨c0,hf⟩:=h;exact rd_bytes ht he hc (c:=.slice a d0 a0) (by simpa [Value.cells] using hf)
end Go.Proofs.Ytlckklglbodgbaa
