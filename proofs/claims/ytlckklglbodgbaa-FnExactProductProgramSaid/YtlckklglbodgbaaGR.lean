/-
 Parts of the proofs of the laws FnExactProductProgram.
-/
import Derived.Test.YtlckklglbodgbaaQG
import Derived.Test.YtlckklglbodgbaaGQ
set_option linter.all false
namespace Go.Proofs.Ytlckklglbodgbaa
open Go.RowKit
set_option maxHeartbeats 6400000 in
set_option maxRecDepth 100000 in
theorem sDouble_any (va vb:Value) (xs ys:List Int) (A:Nat→Prop) (D:Nat) (u:Value) (L:List St) (w:World) (hr:Reads w 1 va xs.length (ints xs)) (hs:Reads w 1 vb ys.length (ints ys)) (hx:BlAt w A D u L) (hn:xs.length≤1000000000∧ys.length≤1000000000) (hN:stNs L≤1048576) :
  Calls Try.prog 7 #[.agg #[va,vb,u]] w fun r w'=>DblP w.heap.size (dblR xs ys L) xs ys r w'∧Below w.heap.size w w':=by
 obtain ⟨pv,cv,rfl⟩:=reads_shape hr;obtain ⟨pa,ca,rfl⟩:=reads_shape hs;obtain ⟨pu,cu,rfl⟩:=hx.shape;have e1:BlAt w (fun q=>q < w.heap.size) D (.slice pu L.length cu) L:=hx.keep (S:=fun _=>False) (Chg.refl _ _) (fun _ _ _=>id) (fun q _ h=>h) Lr;have HV:=Hi (fun W (hW:Below w.heap.size w W)=>sProgramValid_any _ _ xs ys _ D _ L W (hr.below hW) (hs.below hW) (e1.below hW) hN);have b1:=Hi (fun W (hW:Below w.heap.size w W)=>Ai (hr.below hW) (hs.below hW));have HQ:Hid (dblR xs ys L=(pvR xs ys L&&(decide (xs.length≤6)&&decide (ys.length≤1)))):=Hi rfl;obtain ⟨n1,n2⟩:=hn;clear hr hs hx e1;generalize dblR xs ys L=Q at *
 generalize pvR xs ys L=X at *
 go_enter Try.func7,Try.ntmps7
 go_wp2_with fail
 refine (HV.out _ (bal (bal (Bs w) (.cells #[.slice pv xs.length cv,.slice pa ys.length ca,.slice pu L.length cu] 26)) (.cells #[.slice none 0 0,.slice none 0 0,.slice none 0 0] 26))).mono ?_;rintro e w1 ⟨rfl,hb⟩;have a1:=hb.size;simp only [Sa] at a1;have u0:=Bb (Bk.al (Bk.n3 (w.heap.size)) (.cells #[.slice none 0 0,.slice none 0 0,.slice none 0 0] 26)) hb;have r0:=Bb (Bk.n3 (w.heap.size+1)) hb;have a0:=btr (bal (bal (Bs w) (.cells #[.slice pv xs.length cv,.slice pa ys.length ca,.slice pu L.length cu] 26)) (.cells #[.slice none 0 0,.slice none 0 0,.slice none 0 0] 26)) hb;clear hb;have e3:=Bk.lz u0;have f3:=Bk.lz r0
 cases X with
 | false =>
  have v0:Hid (Q=false):=Hi (by rw [HQ.out];simp;try omega);obtain ⟨i3,k3,j3,l3,j1,d2⟩:=Bk.h3 r0;obtain ⟨r2,s2,t2⟩:=Bk.g3 (Bk.t3 r0 (.slice none 0 0) (.slice none 0 0) (.slice none 0 0));have tt:=(bst (bst (bst a0 (w.heap.size+1) 0 (by omega) (.slice none 0 0)) (w.heap.size+1) 1 (by omega) (.slice none 0 0)) (w.heap.size+1) 2 (by omega) (.slice none 0 0));go_wp2
  exact bodyPost_ret (v:=.tuple #[.agg #[.slice none 0 0,.slice none 0 0,.slice none 0 0],.bool false]) (by simp [results,Try.results7,go_sem,r2,s2,t2]) rfl (by exact by rw [v0.out];exact ⟨dbl_no _ _ _ _,tt⟩)
 | true =>
  by_cases k6:xs.length≤6
  ·by_cases k1:ys.length≤1
   ·have v0:Hid (Q=true):=Hi (by rw [HQ.out];simp;omega);obtain ⟨l1,e2,m1,f2⟩:=Bk.h2 u0;go_upto_region 3 with (fail)
    have c1:=a0;have z0:=Hi (fun W' (hW:Below w1.heap.size w1 W')=>b1.out _ (btr c1 hW));have h1:=Hi (fun W' (hW:Below w1.heap.size w1 W')=>Bb r0 hW);have d3:w.heap.size≤w.heap.size∧w.heap.size < w1.heap.size∧w.heap.size≤w.heap.size+1∧w.heap.size+1 < w1.heap.size∧¬w.heap.size=w.heap.size+1:=by have z1:=Bk.lz u0;have z2:=Bk.lz r0;omega
    have f1:=Bk.cell u0 0 (v:=.slice pv xs.length cv) rfl;have g1:=Bk.cell u0 1 (v:=.slice pa ys.length ca) rfl;have d0:=Hi (fun W' (hW:Below w1.heap.size w1 W')=>Ai (Kc hW f1) (Kc hW g1));clear a0 b1 HV u0 r0;have d0:Hid (∀ W',Below w1.heap.size w1 W'→W'.cell? ⟨w.heap.size,0,none⟩=some (.slice pv xs.length cv)∧W'.cell? ⟨w.heap.size,1,none⟩=some (.slice pa ys.length ca)):=Hi (fun W' hW=>⟨Kc hW f1,Kc hW g1⟩);refine wp_region_noPanic ?_;refine wp_region_held_drew (S:=(fun W'=>W'.cell? ⟨w.heap.size,0,none⟩=some (.slice pv xs.length cv)∧W'.cell? ⟨w.heap.size,1,none⟩=some (.slice pa ys.length ca))) (by kernel_rfl) (d0.out _ (Bd (Bs w1))) (fun _=>?_);have w0:Below w1.heap.size w1 (World.drew w1):=Bd (Bs _);generalize World.drew w1=wd at w0 ⊢
    refine name_H (fun T hT A0 hA=>?_)
    have M9:Hid (∀ (b0:Nat) (p3:Option Addr) (t3:Nat) (p6:Option Addr) (t6:Nat) (b7:Nat) (p0:Option Addr) (q0:Nat) (j0:Option Addr) (k0:Nat) (w':World),Below w1.heap.size w1 w'→RowSet w' w1.heap.size [⟨0,3,1,.slice p6 (xs.length+xs.length) t6,xs.length+xs.length,ints xs++ints xs⟩,⟨7,3,1,.slice j0 (ys.length+ys.length) k0,ys.length+ys.length,ints ys++ints ys⟩]→T 2 #[true,true,true,true,true,true,true,true,true,true,true,true,true,true,true,false,false] (Act.put (Act.put (Act.put (Act.put (Act.put (Act.put (Act.put (Act.put (Act.put (Act.put (Act.put (Act.put (Act.put (Act.put (Act.put A0 (some 22) (.slice (some ⟨b0,0,none⟩) 0 0)) (some 23) (.pointer (some ⟨w.heap.size,0,none⟩))) (some 24) (.slice pv xs.length cv)) (some 25) (.slice p3 xs.length t3)) (some 26) (.pointer (some ⟨w.heap.size,0,none⟩))) (some 27) (.slice pv xs.length cv)) (some 28) (.slice p6 (xs.length+xs.length) t6)) (some 29) (.slice (some ⟨b7,0,none⟩) 0 0)) (some 30) (.pointer (some ⟨w.heap.size,1,none⟩))) (some 31) (.slice pa ys.length ca)) (some 32) (.slice p0 ys.length q0)) (some 33) (.pointer (some ⟨w.heap.size,1,none⟩))) (some 34) (.slice pa ys.length ca)) (some 35) (.slice j0 (ys.length+ys.length) k0)) (some 36) (.agg #[.slice p6 (xs.length+xs.length) t6,.slice j0 (ys.length+ys.length) k0,.slice none 0 0])) w'):=by
     refine Hi ?_;intro b0 p3 t3 p6 t6 b7 p0 q0 j0 k0 w' a0 rs;have t0:=a0.size;have hHeld:=d0.out _ a0;have g0:=hT.out;subst g0;have f0:=hA.out;subst f0;clear hT hA;change wpAnyH _ _ _ _ _ 2 _ _ _
     try simp only [Ep]
     refine Rdy 15 rfl (fun K hK=>?_);obtain ⟨s0,s1⟩:=d0.out _ a0;have o0:=rs.own (⟨0,3,1,.slice p6 (xs.length+xs.length) t6,xs.length+xs.length,ints xs++ints xs⟩:RowK) (by simp);have i0:=o0.lt;have o1:=rs.own (⟨7,3,1,.slice j0 (ys.length+ys.length) k0,ys.length+ys.length,ints ys++ints ys⟩:RowK) (by simp);have i1:=o1.lt;have d1:=rs.dj (⟨0,3,1,.slice p6 (xs.length+xs.length) t6,xs.length+xs.length,ints xs++ints xs⟩:RowK) (by simp) (⟨7,3,1,.slice j0 (ys.length+ys.length) k0,ys.length+ys.length,ints ys++ints ys⟩:RowK) (by simp) (by simp);have kb:=h1.out _ a0;clear rs hHeld;obtain ⟨x0,y0,x1,y1,x2,y2⟩:=Bk.h3 kb;go_simp
     refine hK.out _ _ ⟨(Nn (b:=(w.heap.size+1)) (j:=2) (Nn (b:=(w.heap.size+1)) (j:=1) (Nn (b:=(w.heap.size+1)) (j:=0) s0 (.slice p6 (xs.length+xs.length) t6)) (.slice j0 (ys.length+ys.length) k0)) (.slice none 0 0)),(Nn (b:=(w.heap.size+1)) (j:=2) (Nn (b:=(w.heap.size+1)) (j:=1) (Nn (b:=(w.heap.size+1)) (j:=0) s1 (.slice p6 (xs.length+xs.length) t6)) (.slice j0 (ys.length+ys.length) k0)) (.slice none 0 0))⟩ (fun _=>?_);clear hK K;try simp only [Ep]
     refine (tq 16 3 rfl rfl ?_ ?_ ?_);(rotate_left;intro W' hSw;go_simp;try with_reducible rfl)
     try simp only [Ep]
     refine Dn ?_;have n0:=(Nn (b:=(w.heap.size+1)) (j:=2) (Nn (b:=(w.heap.size+1)) (j:=1) (Tc _ (w.heap.size+1) 0 (.slice p6 (xs.length+xs.length) t6) x0) (.slice j0 (ys.length+ys.length) k0)) (.slice none 0 0));have n1:=(Nn (b:=(w.heap.size+1)) (j:=2) (Tc _ (w.heap.size+1) 1 (.slice j0 (ys.length+ys.length) k0) (Nn (b:=(w.heap.size+1)) (j:=0) x1 (.slice p6 (xs.length+xs.length) t6))) (.slice none 0 0));have n2:=(Tc _ (w.heap.size+1) 2 (.slice none 0 0) (Nn (b:=(w.heap.size+1)) (j:=1) (Nn (b:=(w.heap.size+1)) (j:=0) x2 (.slice p6 (xs.length+xs.length) t6)) (.slice j0 (ys.length+ys.length) k0)));have O0:=Hi (Om (base':=w.heap.size) (Oe (Oe (Oe o0 (w.heap.size+1) 0 (fun h=>by have:=i0 _ h;omega) (.slice p6 (xs.length+xs.length) t6)) (w.heap.size+1) 1 (fun h=>by have:=i0 _ h;omega) (.slice j0 (ys.length+ys.length) k0)) (w.heap.size+1) 2 (fun h=>by have:=i0 _ h;omega) (.slice none 0 0)) (by omega));have O1:=Hi (Om (base':=w.heap.size) (Oe (Oe (Oe o1 (w.heap.size+1) 0 (fun h=>by have:=i1 _ h;omega) (.slice p6 (xs.length+xs.length) t6)) (w.heap.size+1) 1 (fun h=>by have:=i1 _ h;omega) (.slice j0 (ys.length+ys.length) k0)) (w.heap.size+1) 2 (fun h=>by have:=i1 _ h;omega) (.slice none 0 0)) (by omega));have tt:=(bst (bst (bst (btr c1 a0) (w.heap.size+1) 0 (by omega) (.slice p6 (xs.length+xs.length) t6)) (w.heap.size+1) 1 (by omega) (.slice j0 (ys.length+ys.length) k0)) (w.heap.size+1) 2 (by omega) (.slice none 0 0));have HJ:=Hi d1;clear s0 s1 x0 x1 x2 y0 y1 y2 kb o0 o1 d1;go_wp2
     exact bodyPost_ret (v:=.tuple #[.agg #[.slice p6 (xs.length+xs.length) t6,.slice j0 (ys.length+ys.length) k0,.slice none 0 0],.bool true]) (by simp [results,Try.results7,go_sem,n0,n1,n2]) rfl (by rw [v0.out];exact ⟨dbl_yes O0.out O1.out HJ.out,tt⟩)
    have M8:Hid (∀ (b0:Nat) (p3:Option Addr) (t3:Nat) (p6:Option Addr) (t6:Nat) (b7:Nat) (p0:Option Addr) (q0:Nat) (w':World),Below w1.heap.size w1 w'→RowSet w' w1.heap.size [⟨0,3,1,.slice p6 (xs.length+xs.length) t6,xs.length+xs.length,ints xs++ints xs⟩,⟨7,3,1,.slice p0 ys.length q0,ys.length,ints ys⟩]→T 4 #[true,true,true,true,true,true,true,true,true,true,true,true,true,false,false,false,false] (Act.put (Act.put (Act.put (Act.put (Act.put (Act.put (Act.put (Act.put (Act.put (Act.put (Act.put (Act.put (Act.put A0 (some 22) (.slice (some ⟨b0,0,none⟩) 0 0)) (some 23) (.pointer (some ⟨w.heap.size,0,none⟩))) (some 24) (.slice pv xs.length cv)) (some 25) (.slice p3 xs.length t3)) (some 26) (.pointer (some ⟨w.heap.size,0,none⟩))) (some 27) (.slice pv xs.length cv)) (some 28) (.slice p6 (xs.length+xs.length) t6)) (some 29) (.slice (some ⟨b7,0,none⟩) 0 0)) (some 30) (.pointer (some ⟨w.heap.size,1,none⟩))) (some 31) (.slice pa ys.length ca)) (some 32) (.slice p0 ys.length q0)) (some 33) (.pointer (some ⟨w.heap.size,1,none⟩))) (some 34) (.slice pa ys.length ca)) w'):=by
     refine Hi ?_;intro b0 p3 t3 p6 t6 b7 p0 q0 w' a0 rs;have t0:=a0.size;have hHeld:=d0.out _ a0;have g0:=hT.out;subst g0;have f0:=hA.out;subst f0;clear hT hA;change wpAnyH _ _ _ _ _ 4 _ _ _
     try simp only [Ep]
     refine Rdy 13 rfl (fun K hK=>?_);have HO:=rs.own (⟨7,3,1,.slice p0 ys.length q0,ys.length,ints ys⟩:RowK) (List.Mem.tail _ (List.Mem.head _));have m0:=fun q hq=>(HO.lt q hq).1
     refine step_aps tInts rfl _ _ rfl (w1.heap.size) _ ys.length (ints ys) rfl HO _ (ys.length) (ints ys) rfl ((z0.out _ a0).2) (one_ints ys) (by omega) (by omega) ?_;intro vA wA oA e0 l0 _;obtain ⟨j0,k0,rfl⟩:=Oh oA;have c0:=Tg a0 e0 m0;have h0:=RowSet.push rs (⟨7,3,1,.slice p0 ys.length q0,ys.length,ints ys⟩:RowK) (List.Mem.tail _ (List.Mem.head _)) oA e0 l0 (l':=[⟨0,3,1,.slice p6 (xs.length+xs.length) t6,xs.length+xs.length,ints xs++ints xs⟩]) (Oc (List.Mem.head _) On);clear HO m0 oA e0 l0;refine hK.out _ _ (d0.out _ c0) (fun hHeld=>?_);clear hK K;try simp only [Ep]
     refine take_d (i:=14) (d:=36) (v:=.agg #[.slice p6 (xs.length+xs.length) t6,.slice j0 (ys.length+ys.length) k0,.slice none 0 0]) rfl rfl (by kernel_rfl) (by kernel_rfl) (by kernel_rfl) (fun _ _ _ h=>h) (Or.inl ⟨by rfl,fun W' _=>by kernel_rfl⟩) (by assumption) ?_;try simp only [Ep]
     have hM:=M9.out b0 p3 t3 p6 t6 b7 p0 q0 j0 k0 _ c0 (RowSet.sub h0 (Sb (List.Mem.tail _ (List.Mem.head _)) (Sb (List.Mem.head _) Sz)));try simp only [Ep] at hM
     exact hM
    have M7:Hid (∀ (b0:Nat) (p3:Option Addr) (t3:Nat) (p6:Option Addr) (t6:Nat) (b7:Nat) (w':World),Below w1.heap.size w1 w'→RowSet w' w1.heap.size [⟨0,3,1,.slice p6 (xs.length+xs.length) t6,xs.length+xs.length,ints xs++ints xs⟩,⟨7,3,1,.slice (some ⟨b7,0,none⟩) 0 0,0,[]⟩]→T 5 #[true,true,true,true,true,true,true,true,true,true,false,true,true,false,false,false,false] (Act.put (Act.put (Act.put (Act.put (Act.put (Act.put (Act.put (Act.put (Act.put (Act.put (Act.put (Act.put A0 (some 22) (.slice (some ⟨b0,0,none⟩) 0 0)) (some 23) (.pointer (some ⟨w.heap.size,0,none⟩))) (some 24) (.slice pv xs.length cv)) (some 25) (.slice p3 xs.length t3)) (some 26) (.pointer (some ⟨w.heap.size,0,none⟩))) (some 27) (.slice pv xs.length cv)) (some 28) (.slice p6 (xs.length+xs.length) t6)) (some 29) (.slice (some ⟨b7,0,none⟩) 0 0)) (some 30) (.pointer (some ⟨w.heap.size,1,none⟩))) (some 31) (.slice pa ys.length ca)) (some 33) (.pointer (some ⟨w.heap.size,1,none⟩))) (some 34) (.slice pa ys.length ca)) w'):=by
     clear M9;refine Hi ?_;intro b0 p3 t3 p6 t6 b7 w' a0 rs;have t0:=a0.size;have hHeld:=d0.out _ a0;have g0:=hT.out;subst g0;have f0:=hA.out;subst f0;clear hT hA;change wpAnyH _ _ _ _ _ 5 _ _ _
     try simp only [Ep]
     refine Rdy 10 rfl (fun K hK=>?_);have HO:=rs.own (⟨7,3,1,.slice (some ⟨b7,0,none⟩) 0 0,0,[]⟩:RowK) (List.Mem.tail _ (List.Mem.head _));have m0:=fun q hq=>(HO.lt q hq).1
     refine step_aps tInts rfl _ _ rfl (w1.heap.size) _ 0 ([]) rfl HO _ (ys.length) (ints ys) rfl ((z0.out _ a0).2) (one_ints ys) (by omega) (by omega) ?_;intro vA wA oA e0 l0 _;try simp only [Nat.zero_add,List.nil_append] at oA
     obtain ⟨p0,q0,rfl⟩:=Oh oA;have c0:=Tg a0 e0 m0;have h0:=RowSet.push rs (⟨7,3,1,.slice (some ⟨b7,0,none⟩) 0 0,0,[]⟩:RowK) (List.Mem.tail _ (List.Mem.head _)) oA e0 l0 (l':=[⟨0,3,1,.slice p6 (xs.length+xs.length) t6,xs.length+xs.length,ints xs++ints xs⟩]) (Oc (List.Mem.head _) On);clear HO m0 oA e0 l0;refine hK.out _ _ (d0.out _ c0) (fun hHeld=>?_);clear hK K;try simp only [Ep]
     have hM:=M8.out b0 p3 t3 p6 t6 b7 p0 q0 _ c0 (RowSet.sub h0 (Sb (List.Mem.tail _ (List.Mem.head _)) (Sb (List.Mem.head _) Sz)));try simp only [Ep] at hM
     exact hM
    have M5:Hid (∀ (b0:Nat) (p3:Option Addr) (t3:Nat) (p6:Option Addr) (t6:Nat) (w':World),Below w1.heap.size w1 w'→RowSet w' w1.heap.size [⟨0,3,1,.slice p6 (xs.length+xs.length) t6,xs.length+xs.length,ints xs++ints xs⟩]→T 6 #[true,true,true,true,true,true,true,false,true,true,false,true,true,false,false,false,false] (Act.put (Act.put (Act.put (Act.put (Act.put (Act.put (Act.put (Act.put (Act.put (Act.put (Act.put A0 (some 22) (.slice (some ⟨b0,0,none⟩) 0 0)) (some 23) (.pointer (some ⟨w.heap.size,0,none⟩))) (some 24) (.slice pv xs.length cv)) (some 25) (.slice p3 xs.length t3)) (some 26) (.pointer (some ⟨w.heap.size,0,none⟩))) (some 27) (.slice pv xs.length cv)) (some 28) (.slice p6 (xs.length+xs.length) t6)) (some 30) (.pointer (some ⟨w.heap.size,1,none⟩))) (some 31) (.slice pa ys.length ca)) (some 33) (.pointer (some ⟨w.heap.size,1,none⟩))) (some 34) (.slice pa ys.length ca)) w'):=by
     clear M9 M8;refine Hi ?_;intro b0 p3 t3 p6 t6 w' a0 rs;have t0:=a0.size;have hHeld:=d0.out _ a0;have g0:=hT.out;subst g0;have f0:=hA.out;subst f0;clear hT hA;change wpAnyH _ _ _ _ _ 6 _ _ _
     try simp only [Ep]
     refine Rdy 7 rfl (fun K hK=>?_);go_simp
     refine hK.out _ _ (d0.out _ (bal a0 _)) (fun hHeld=>?_);clear hK K;try simp only [Ep]
     have hM:=M7.out b0 p3 t3 p6 t6 w'.heap.size _ (bal a0 _) (RowSet.sub (RowSet.lit rs 7 3 1 #[] 0 (by omega) (by unfold maxLen;omega) (by simp)) (Sb (List.Mem.tail _ (List.Mem.head _)) (Sb (List.Mem.head _) Sz)));try simp only [Ep] at hM
     exact hM
    have M6:Hid (∀ (b0:Nat) (p3:Option Addr) (t3:Nat) (b7:Nat) (w':World),Below w1.heap.size w1 w'→RowSet w' w1.heap.size [⟨0,3,1,.slice p3 xs.length t3,xs.length,ints xs⟩,⟨7,3,1,.slice (some ⟨b7,0,none⟩) 0 0,0,[]⟩]→T 6 #[true,true,true,true,true,true,false,true,true,true,false,true,true,false,false,false,false] (Act.put (Act.put (Act.put (Act.put (Act.put (Act.put (Act.put (Act.put (Act.put (Act.put (Act.put A0 (some 22) (.slice (some ⟨b0,0,none⟩) 0 0)) (some 23) (.pointer (some ⟨w.heap.size,0,none⟩))) (some 24) (.slice pv xs.length cv)) (some 25) (.slice p3 xs.length t3)) (some 26) (.pointer (some ⟨w.heap.size,0,none⟩))) (some 27) (.slice pv xs.length cv)) (some 29) (.slice (some ⟨b7,0,none⟩) 0 0)) (some 30) (.pointer (some ⟨w.heap.size,1,none⟩))) (some 31) (.slice pa ys.length ca)) (some 33) (.pointer (some ⟨w.heap.size,1,none⟩))) (some 34) (.slice pa ys.length ca)) w'):=by
     clear M9 M8 M5;refine Hi ?_;intro b0 p3 t3 b7 w' a0 rs;have t0:=a0.size;have hHeld:=d0.out _ a0;have g0:=hT.out;subst g0;have f0:=hA.out;subst f0;clear hT hA;change wpAnyH _ _ _ _ _ 6 _ _ _
     try simp only [Ep]
     refine Rdy 6 rfl (fun K hK=>?_);have HO:=rs.own (⟨0,3,1,.slice p3 xs.length t3,xs.length,ints xs⟩:RowK) (List.Mem.head _);have m0:=fun q hq=>(HO.lt q hq).1
     refine step_aps tInts rfl _ _ rfl (w1.heap.size) _ xs.length (ints xs) rfl HO _ (xs.length) (ints xs) rfl ((z0.out _ a0).1) (one_ints xs) (by omega) (by omega) ?_;intro vA wA oA e0 l0 _;obtain ⟨p6,t6,rfl⟩:=Oh oA;have c0:=Tg a0 e0 m0;have h0:=RowSet.push rs (⟨0,3,1,.slice p3 xs.length t3,xs.length,ints xs⟩:RowK) (List.Mem.head _) oA e0 l0 (l':=[⟨7,3,1,.slice (some ⟨b7,0,none⟩) 0 0,0,[]⟩]) (Oc (List.Mem.tail _ (List.Mem.head _)) On);clear HO m0 oA e0 l0;refine hK.out _ _ (d0.out _ c0) (fun hHeld=>?_);clear hK K;try simp only [Ep]
     have hM:=M7.out b0 p3 t3 p6 t6 b7 _ c0 (RowSet.sub h0 (Sb (List.Mem.head _) (Sb (List.Mem.tail _ (List.Mem.head _)) Sz)));try simp only [Ep] at hM
     exact hM
    have M3:Hid (∀ (b0:Nat) (p3:Option Addr) (t3:Nat) (w':World),Below w1.heap.size w1 w'→RowSet w' w1.heap.size [⟨0,3,1,.slice p3 xs.length t3,xs.length,ints xs⟩]→T 7 #[true,true,true,true,true,true,false,false,true,true,false,true,true,false,false,false,false] (Act.put (Act.put (Act.put (Act.put (Act.put (Act.put (Act.put (Act.put (Act.put (Act.put A0 (some 22) (.slice (some ⟨b0,0,none⟩) 0 0)) (some 23) (.pointer (some ⟨w.heap.size,0,none⟩))) (some 24) (.slice pv xs.length cv)) (some 25) (.slice p3 xs.length t3)) (some 26) (.pointer (some ⟨w.heap.size,0,none⟩))) (some 27) (.slice pv xs.length cv)) (some 30) (.pointer (some ⟨w.heap.size,1,none⟩))) (some 31) (.slice pa ys.length ca)) (some 33) (.pointer (some ⟨w.heap.size,1,none⟩))) (some 34) (.slice pa ys.length ca)) w'):=by
     clear M9 M8 M7;refine Hi ?_;intro b0 p3 t3 w' a0 rs;have t0:=a0.size;have hHeld:=d0.out _ a0;have g0:=hT.out;subst g0;have f0:=hA.out;subst f0;clear hT hA;change wpAnyH _ _ _ _ _ 7 _ _ _
     try simp only [Ep]
     refine Rdy2 6 7 rfl rfl (fun K hK=>?_) (fun K hK=>?_)
     ·have HO:=rs.own (⟨0,3,1,.slice p3 xs.length t3,xs.length,ints xs⟩:RowK) (List.Mem.head _);have m0:=fun q hq=>(HO.lt q hq).1
      refine step_aps tInts rfl _ _ rfl (w1.heap.size) _ xs.length (ints xs) rfl HO _ (xs.length) (ints xs) rfl ((z0.out _ a0).1) (one_ints xs) (by omega) (by omega) ?_;intro vA wA oA e0 l0 _;obtain ⟨p6,t6,rfl⟩:=Oh oA;have c0:=Tg a0 e0 m0;have h0:=RowSet.push rs (⟨0,3,1,.slice p3 xs.length t3,xs.length,ints xs⟩:RowK) (List.Mem.head _) oA e0 l0 (l':=[]) On;clear HO m0 oA e0 l0;refine hK.out _ _ (d0.out _ c0) (fun hHeld=>?_);clear hK K;try simp only [Ep]
      have hM:=M5.out b0 p3 t3 p6 t6 _ c0 (RowSet.sub h0 (Sb (List.Mem.head _) Sz));try simp only [Ep] at hM
      exact hM
     go_simp
     refine hK.out _ _ (d0.out _ (bal a0 _)) (fun hHeld=>?_);clear hK K;try simp only [Ep]
     have hM:=M6.out b0 p3 t3 w'.heap.size _ (bal a0 _) (RowSet.sub (RowSet.lit rs 7 3 1 #[] 0 (by omega) (by unfold maxLen;omega) (by simp)) (Sb (List.Mem.tail _ (List.Mem.head _)) (Sb (List.Mem.head _) Sz)));try simp only [Ep] at hM
     exact hM
    have M4:Hid (∀ (b0:Nat) (b7:Nat) (w':World),Below w1.heap.size w1 w'→RowSet w' w1.heap.size [⟨0,3,1,.slice (some ⟨b0,0,none⟩) 0 0,0,[]⟩,⟨7,3,1,.slice (some ⟨b7,0,none⟩) 0 0,0,[]⟩]→T 7 #[true,true,true,false,true,true,false,true,true,true,false,true,true,false,false,false,false] (Act.put (Act.put (Act.put (Act.put (Act.put (Act.put (Act.put (Act.put (Act.put (Act.put A0 (some 22) (.slice (some ⟨b0,0,none⟩) 0 0)) (some 23) (.pointer (some ⟨w.heap.size,0,none⟩))) (some 24) (.slice pv xs.length cv)) (some 26) (.pointer (some ⟨w.heap.size,0,none⟩))) (some 27) (.slice pv xs.length cv)) (some 29) (.slice (some ⟨b7,0,none⟩) 0 0)) (some 30) (.pointer (some ⟨w.heap.size,1,none⟩))) (some 31) (.slice pa ys.length ca)) (some 33) (.pointer (some ⟨w.heap.size,1,none⟩))) (some 34) (.slice pa ys.length ca)) w'):=by
     clear M9 M8 M7 M5 M3;refine Hi ?_;intro b0 b7 w' a0 rs;have t0:=a0.size;have hHeld:=d0.out _ a0;have g0:=hT.out;subst g0;have f0:=hA.out;subst f0;clear hT hA;change wpAnyH _ _ _ _ _ 7 _ _ _
     try simp only [Ep]
     refine Rdy 3 rfl (fun K hK=>?_);have HO:=rs.own (⟨0,3,1,.slice (some ⟨b0,0,none⟩) 0 0,0,[]⟩:RowK) (List.Mem.head _);have m0:=fun q hq=>(HO.lt q hq).1
     refine step_aps tInts rfl _ _ rfl (w1.heap.size) _ 0 ([]) rfl HO _ (xs.length) (ints xs) rfl ((z0.out _ a0).1) (one_ints xs) (by omega) (by omega) ?_;intro vA wA oA e0 l0 _;try simp only [Nat.zero_add,List.nil_append] at oA
     obtain ⟨p3,t3,rfl⟩:=Oh oA;have c0:=Tg a0 e0 m0;have h0:=RowSet.push rs (⟨0,3,1,.slice (some ⟨b0,0,none⟩) 0 0,0,[]⟩:RowK) (List.Mem.head _) oA e0 l0 (l':=[⟨7,3,1,.slice (some ⟨b7,0,none⟩) 0 0,0,[]⟩]) (Oc (List.Mem.tail _ (List.Mem.head _)) On);clear HO m0 oA e0 l0;refine hK.out _ _ (d0.out _ c0) (fun hHeld=>?_);clear hK K;try simp only [Ep]
     have hM:=M6.out b0 p3 t3 b7 _ c0 (RowSet.sub h0 (Sb (List.Mem.head _) (Sb (List.Mem.tail _ (List.Mem.head _)) Sz)));try simp only [Ep] at hM
     exact hM
    have M1:Hid (∀ (b0:Nat) (w':World),Below w1.heap.size w1 w'→RowSet w' w1.heap.size [⟨0,3,1,.slice (some ⟨b0,0,none⟩) 0 0,0,[]⟩]→T 8 #[true,true,true,false,true,true,false,false,true,true,false,true,true,false,false,false,false] (Act.put (Act.put (Act.put (Act.put (Act.put (Act.put (Act.put (Act.put (Act.put A0 (some 22) (.slice (some ⟨b0,0,none⟩) 0 0)) (some 23) (.pointer (some ⟨w.heap.size,0,none⟩))) (some 24) (.slice pv xs.length cv)) (some 26) (.pointer (some ⟨w.heap.size,0,none⟩))) (some 27) (.slice pv xs.length cv)) (some 30) (.pointer (some ⟨w.heap.size,1,none⟩))) (some 31) (.slice pa ys.length ca)) (some 33) (.pointer (some ⟨w.heap.size,1,none⟩))) (some 34) (.slice pa ys.length ca)) w'):=by
     clear M9 M8 M7 M5 M6;refine Hi ?_;intro b0 w' a0 rs;have t0:=a0.size;have hHeld:=d0.out _ a0;have g0:=hT.out;subst g0;have f0:=hA.out;subst f0;clear hT hA;change wpAnyH _ _ _ _ _ 8 _ _ _
     try simp only [Ep]
     refine Rdy2 3 7 rfl rfl (fun K hK=>?_) (fun K hK=>?_)
     ·have HO:=rs.own (⟨0,3,1,.slice (some ⟨b0,0,none⟩) 0 0,0,[]⟩:RowK) (List.Mem.head _);have m0:=fun q hq=>(HO.lt q hq).1
      refine step_aps tInts rfl _ _ rfl (w1.heap.size) _ 0 ([]) rfl HO _ (xs.length) (ints xs) rfl ((z0.out _ a0).1) (one_ints xs) (by omega) (by omega) ?_;intro vA wA oA e0 l0 _;try simp only [Nat.zero_add,List.nil_append] at oA
      obtain ⟨p3,t3,rfl⟩:=Oh oA;have c0:=Tg a0 e0 m0;have h0:=RowSet.push rs (⟨0,3,1,.slice (some ⟨b0,0,none⟩) 0 0,0,[]⟩:RowK) (List.Mem.head _) oA e0 l0 (l':=[]) On;clear HO m0 oA e0 l0;refine hK.out _ _ (d0.out _ c0) (fun hHeld=>?_);clear hK K;try simp only [Ep]
      have hM:=M3.out b0 p3 t3 _ c0 (RowSet.sub h0 (Sb (List.Mem.head _) Sz));try simp only [Ep] at hM
      exact hM
     go_simp
     refine hK.out _ _ (d0.out _ (bal a0 _)) (fun hHeld=>?_);clear hK K;try simp only [Ep]
     have hM:=M4.out b0 w'.heap.size _ (bal a0 _) (RowSet.sub (RowSet.lit rs 7 3 1 #[] 0 (by omega) (by unfold maxLen;omega) (by simp)) (Sb (List.Mem.tail _ (List.Mem.head _)) (Sb (List.Mem.head _) Sz)));try simp only [Ep] at hM
     exact hM
    have M2:Hid (∀ (b7:Nat) (w':World),Below w1.heap.size w1 w'→RowSet w' w1.heap.size [⟨7,3,1,.slice (some ⟨b7,0,none⟩) 0 0,0,[]⟩]→T 8 #[false,true,true,false,true,true,false,true,true,true,false,true,true,false,false,false,false] (Act.put (Act.put (Act.put (Act.put (Act.put (Act.put (Act.put (Act.put (Act.put A0 (some 23) (.pointer (some ⟨w.heap.size,0,none⟩))) (some 24) (.slice pv xs.length cv)) (some 26) (.pointer (some ⟨w.heap.size,0,none⟩))) (some 27) (.slice pv xs.length cv)) (some 29) (.slice (some ⟨b7,0,none⟩) 0 0)) (some 30) (.pointer (some ⟨w.heap.size,1,none⟩))) (some 31) (.slice pa ys.length ca)) (some 33) (.pointer (some ⟨w.heap.size,1,none⟩))) (some 34) (.slice pa ys.length ca)) w'):=by
     clear M9 M8 M7 M5 M6 M3 M1;refine Hi ?_;intro b7 w' a0 rs;have t0:=a0.size;have hHeld:=d0.out _ a0;have g0:=hT.out;subst g0;have f0:=hA.out;subst f0;clear hT hA;change wpAnyH _ _ _ _ _ 8 _ _ _
     try simp only [Ep]
     refine Rdy 0 rfl (fun K hK=>?_);go_simp
     refine hK.out _ _ (d0.out _ (bal a0 _)) (fun hHeld=>?_);clear hK K;try simp only [Ep]
     have hM:=M4.out w'.heap.size b7 _ (bal a0 _) (RowSet.sub (RowSet.lit rs 0 3 1 #[] 0 (by omega) (by unfold maxLen;omega) (by simp)) (Sb (List.Mem.head _) (Sb (List.Mem.tail _ (List.Mem.head _)) Sz)));try simp only [Ep] at hM
     exact hM
    have M0:Hid (∀ (w':World),Below w1.heap.size w1 w'→RowSet w' w1.heap.size []→T 9 #[false,true,true,false,true,true,false,false,true,true,false,true,true,false,false,false,false] (Act.put (Act.put (Act.put (Act.put (Act.put (Act.put (Act.put (Act.put A0 (some 23) (.pointer (some ⟨w.heap.size,0,none⟩))) (some 24) (.slice pv xs.length cv)) (some 26) (.pointer (some ⟨w.heap.size,0,none⟩))) (some 27) (.slice pv xs.length cv)) (some 30) (.pointer (some ⟨w.heap.size,1,none⟩))) (some 31) (.slice pa ys.length ca)) (some 33) (.pointer (some ⟨w.heap.size,1,none⟩))) (some 34) (.slice pa ys.length ca)) w'):=by
     clear M9 M8 M7 M5 M6 M3 M4;refine Hi ?_;intro w' a0 rs;have t0:=a0.size;have hHeld:=d0.out _ a0;have g0:=hT.out;subst g0;have f0:=hA.out;subst f0;clear hT hA;change wpAnyH _ _ _ _ _ 9 _ _ _
     try simp only [Ep]
     refine Rdy2 0 7 rfl rfl (fun K hK=>?_) (fun K hK=>?_)
     ·go_simp
      refine hK.out _ _ (d0.out _ (bal a0 _)) (fun hHeld=>?_);clear hK K;try simp only [Ep]
      have hM:=M1.out w'.heap.size _ (bal a0 _) (RowSet.sub (RowSet.lit rs 0 3 1 #[] 0 (by omega) (by unfold maxLen;omega) (by simp)) (Sb (List.Mem.head _) Sz));try simp only [Ep] at hM
      exact hM
     go_simp
     refine hK.out _ _ (d0.out _ (bal a0 _)) (fun hHeld=>?_);clear hK K;try simp only [Ep]
     have hM:=M2.out w'.heap.size _ (bal a0 _) (RowSet.sub (RowSet.lit rs 7 3 1 #[] 0 (by omega) (by unfold maxLen;omega) (by simp)) (Sb (List.Mem.head _) Sz));try simp only [Ep] at hM
     exact hM
    clear M9 M8 M7 M5 M6 M3 M4 M1 M2;have hHeld:=d0.out _ w0;have g0:=hT.out;subst g0;have f0:=hA.out;subst f0;clear hT hA;change wpAnyH _ _ _ _ _ 17 _ _ _
    try simp only [Ep]
    refine tq 1 23 rfl rfl ?_ ?_ ?_;rotate_left
    ·intro W' hSw;(try clear h0);(try clear rs);(try clear c0);(try clear a0);(try clear M0);obtain ⟨s0,s1⟩:=hSw;go_simp;try with_reducible rfl
    try simp only [Ep]
    refine tq 2 24 rfl rfl ?_ ?_ ?_;rotate_left
    ·intro W' hSw;(try clear h0);(try clear rs);(try clear c0);(try clear a0);(try clear M0);obtain ⟨s0,s1⟩:=hSw;go_simp;try with_reducible rfl
    try simp only [Ep]
    refine tq 4 26 rfl rfl ?_ ?_ ?_;rotate_left
    ·intro W' hSw;(try clear h0);(try clear rs);(try clear c0);(try clear a0);(try clear M0);obtain ⟨s0,s1⟩:=hSw;go_simp;try with_reducible rfl
    try simp only [Ep]
    refine tq 5 27 rfl rfl ?_ ?_ ?_;rotate_left
    ·intro W' hSw;(try clear h0);(try clear rs);(try clear c0);(try clear a0);(try clear M0);obtain ⟨s0,s1⟩:=hSw;go_simp;try with_reducible rfl
    try simp only [Ep]
    refine tq 8 30 rfl rfl ?_ ?_ ?_;rotate_left
    ·intro W' hSw;(try clear h0);(try clear rs);(try clear c0);(try clear a0);(try clear M0);obtain ⟨s0,s1⟩:=hSw;go_simp;try with_reducible rfl
    try simp only [Ep]
    refine tq 9 31 rfl rfl ?_ ?_ ?_;rotate_left
    ·intro W' hSw;(try clear h0);(try clear rs);(try clear c0);(try clear a0);(try clear M0);obtain ⟨s0,s1⟩:=hSw;go_simp;try with_reducible rfl
    try simp only [Ep]
    refine tq 11 33 rfl rfl ?_ ?_ ?_;rotate_left
    ·intro W' hSw;(try clear h0);(try clear rs);(try clear c0);(try clear a0);(try clear M0);obtain ⟨s0,s1⟩:=hSw;go_simp;try with_reducible rfl
    try simp only [Ep]
    refine tq 12 34 rfl rfl ?_ ?_ ?_;rotate_left
    ·intro W' hSw;(try clear h0);(try clear rs);(try clear c0);(try clear a0);(try clear M0);obtain ⟨s0,s1⟩:=hSw;go_simp;try with_reducible rfl
    try simp only [Ep]
    have hM:=M0.out wd w0 RowSet.nil;try simp only [Ep] at hM
    exact hM
   have v0:Hid (Q=false):=Hi (by rw [HQ.out];simp;try omega);obtain ⟨p1,g2,q1,i2⟩:=Bk.h2 u0;obtain ⟨r1,j2,t1,k2,u1,l2⟩:=Bk.h3 r0;obtain ⟨u2,v2,w2⟩:=Bk.g3 (Bk.t3 r0 (.slice none 0 0) (.slice none 0 0) (.slice none 0 0));have tt:=(bst (bst (bst a0 (w.heap.size+1) 0 (by omega) (.slice none 0 0)) (w.heap.size+1) 1 (by omega) (.slice none 0 0)) (w.heap.size+1) 2 (by omega) (.slice none 0 0));go_wp2
   exact bodyPost_ret (v:=.tuple #[.agg #[.slice none 0 0,.slice none 0 0,.slice none 0 0],.bool false]) (by simp [results,Try.results7,go_sem,u2,v2,w2]) rfl (by exact by rw [v0.out];exact ⟨dbl_no _ _ _ _,tt⟩)
  have v0:Hid (Q=false):=Hi (by rw [HQ.out];simp;try omega);obtain ⟨v1,m2⟩:=Bk.cf u0 0 rfl;obtain ⟨a2,o2,b2,p2,c2,q2⟩:=Bk.h3 r0;obtain ⟨a3,b3,c3⟩:=Bk.g3 (Bk.t3 r0 (.slice none 0 0) (.slice none 0 0) (.slice none 0 0));have tt:=(bst (bst (bst a0 (w.heap.size+1) 0 (by omega) (.slice none 0 0)) (w.heap.size+1) 1 (by omega) (.slice none 0 0)) (w.heap.size+1) 2 (by omega) (.slice none 0 0));go_wp2
  exact bodyPost_ret (v:=.tuple #[.agg #[.slice none 0 0,.slice none 0 0,.slice none 0 0],.bool false]) (by simp [results,Try.results7,go_sem,a3,b3,c3]) rfl (by exact by rw [v0.out];exact ⟨dbl_no _ _ _ _,tt⟩)
end Go.Proofs.Ytlckklglbodgbaa
