/-
 Parts of the proofs of the laws FnRemoveDead,FnRemoveDeadLeak,FnSpecFenced,FnSpecMemory.
-/
import Derived.Test.YtnpidfbcbmeijaaGreatKq2
set_option linter.all false
namespace Go.Proofs.YtnpidfbcbmeijaaGreat
open Go.RowKit
set_option maxHeartbeats 6400000 in
set_option maxRecDepth 100000 in
theorem l8Copy_any (va vb vc:Value) (c:Cd) (w:World) (hr:ReadsC w va vb vc c) (h0:c.vars.length≤1073741824) (h1:c.arrays.length≤1073741824) (h2:c.list.length≤1073741824) :
  Calls Tryz.prog 61 #[.agg #[va,vb,vc]] w fun e w'=>∃ ua ub uc,e=.returned (.agg #[ua,ub,uc])∧OwnC w' w.heap.size ua ub uc c∧Below w.heap.size w w':=by
 obtain ⟨a0,c0,a1,c1,a2,c2,rfl,rfl,rfl⟩:=hr.shape;have HR:=Hi (fun W (hW:Below w.heap.size w W)=>hr.below hW);clear hr;go_enter Tryz.func61,Tryz.ntmps61
 have i1:Below w.heap.size w (World.alloc (World.alloc w (.cells #[.slice a0 c.vars.length c0,.slice a1 c.arrays.length c1,.slice a2 c.list.length c2] 26)) (.cells #[.slice none 0 0,.slice none 0 0,.slice none 0 0] 26)):=(bal (bal (Bs w) (.cells #[.slice a0 c.vars.length c0,.slice a1 c.arrays.length c1,.slice a2 c.list.length c2] 26)) (.cells #[.slice none 0 0,.slice none 0 0,.slice none 0 0] 26));go_upto_region 1 with (fail)
 obtain ⟨w1,j1,hb⟩:=nmw (World.alloc (World.alloc w (.cells #[.slice a0 c.vars.length c0,.slice a1 c.arrays.length c1,.slice a2 c.list.length c2] 26)) (.cells #[.slice none 0 0,.slice none 0 0,.slice none 0 0] 26));rw [← j1] at i1;have k1:=hb.size;simp only [Sa] at k1;have e1:Bk w1 (w.heap.size) [.slice a0 c.vars.length c0,.slice a1 c.arrays.length c1,.slice a2 c.list.length c2]:=Bb (Bk.al (Bk.nw (by simp) rfl) (.cells #[.slice none 0 0,.slice none 0 0,.slice none 0 0] 26)) hb;have f1:Bk w1 (w.heap.size+1) [.slice none 0 0,.slice none 0 0,.slice none 0 0]:=Bb (Bk.nw (by simp) rfl) hb;clear hb;rw [← j1];clear j1;have u1:=Bk.lz e1;have v1:=Bk.lz f1;have b1:=Hi (fun W' (hW:Below w1.heap.size w1 W')=>HR.out _ (btr i1 hW));have m1:=Hi (fun W' (hW:Below w1.heap.size w1 W')=>Bb f1 hW);have t1:w.heap.size≤w.heap.size∧w.heap.size < w1.heap.size∧w.heap.size≤w.heap.size+1∧w.heap.size+1 < w1.heap.size∧¬w.heap.size=w.heap.size+1:=by omega
 have p1:=Bk.cell e1 0 (v:=.slice a0 c.vars.length c0) rfl;have q1:=Bk.cell e1 1 (v:=.slice a1 c.arrays.length c1) rfl;have r1:=Bk.cell e1 2 (v:=.slice a2 c.list.length c2) rfl;clear HR e1 f1;have f0:Hid (∀ W',Below w1.heap.size w1 W'→W'.cell? ⟨w.heap.size,0,none⟩=some (.slice a0 c.vars.length c0)∧W'.cell? ⟨w.heap.size,1,none⟩=some (.slice a1 c.arrays.length c1)∧W'.cell? ⟨w.heap.size,2,none⟩=some (.slice a2 c.list.length c2)):=Hi (fun W' hW=>⟨Kc hW p1,Kc hW q1,Kc hW r1⟩);refine wp_region_noPanic ?_;refine wp_region_held_drew (S:=(fun W'=>W'.cell? ⟨w.heap.size,0,none⟩=some (.slice a0 c.vars.length c0)∧W'.cell? ⟨w.heap.size,1,none⟩=some (.slice a1 c.arrays.length c1)∧W'.cell? ⟨w.heap.size,2,none⟩=some (.slice a2 c.list.length c2))) (by kernel_rfl) (f0.out _ (Bd (Bs w1))) (fun _=>?_);have d1:Below w1.heap.size w1 (World.drew w1):=Bd (Bs _);generalize World.drew w1=wd at d1 ⊢
 refine name_H (fun T hT A0 hA=>?_)
 have r0:Hid (∀ (b0:Nat) (p3:Option Addr) (t3:Nat) (b4:Nat) (p7:Option Addr) (t7:Nat) (b8:Nat) (p0:Option Addr) (q0:Nat) (w':World),Below w1.heap.size w1 w'→RowSet w' w1.heap.size [⟨0,3,1,.slice p3 c.vars.length t3,c.vars.length,ints c.vars⟩,⟨4,3,1,.slice p7 c.arrays.length t7,c.arrays.length,ints c.arrays⟩,⟨8,62,5,.slice p0 c.list.length q0,c.list.length,inss c.list⟩]→T 1 #[true,true,true,true,true,true,true,true,true,true,true,true,true,false] (Act.put (Act.put (Act.put (Act.put (Act.put (Act.put (Act.put (Act.put (Act.put (Act.put (Act.put (Act.put (Act.put A0 (some 3) (.slice (some ⟨b0,0,none⟩) 0 0)) (some 4) (.pointer (some ⟨w.heap.size,0,none⟩))) (some 5) (.slice a0 c.vars.length c0)) (some 6) (.slice p3 c.vars.length t3)) (some 7) (.slice (some ⟨b4,0,none⟩) 0 0)) (some 8) (.pointer (some ⟨w.heap.size,1,none⟩))) (some 9) (.slice a1 c.arrays.length c1)) (some 10) (.slice p7 c.arrays.length t7)) (some 11) (.slice (some ⟨b8,0,none⟩) 0 0)) (some 12) (.pointer (some ⟨w.heap.size,2,none⟩))) (some 13) (.slice a2 c.list.length c2)) (some 14) (.slice p0 c.list.length q0)) (some 15) (.agg #[.slice p3 c.vars.length t3,.slice p7 c.arrays.length t7,.slice p0 c.list.length q0])) w'):=by
  refine Hi ?_;intro b0 p3 t3 b4 p7 t7 b8 p0 q0 w' d0 rs;have u0:=d0.size;have hHeld:=f0.out _ d0;have i0:=hT.out;subst i0;have g0:=hA.out;subst g0;clear hT hA;change wpAnyH _ _ _ _ _ 1 _ _ _
  try simp only [Ep]
  refine Rdy 13 rfl (fun K hK=>?_);obtain ⟨s0,s1,s2⟩:=f0.out _ d0;have o0:=rs.own (⟨0,3,1,.slice p3 c.vars.length t3,c.vars.length,ints c.vars⟩:RowK) (by simp);have o1:=rs.own (⟨4,3,1,.slice p7 c.arrays.length t7,c.arrays.length,ints c.arrays⟩:RowK) (by simp);have o2:=rs.own (⟨8,62,5,.slice p0 c.list.length q0,c.list.length,inss c.list⟩:RowK) (by simp);have g1:OwnC w' w1.heap.size (.slice p3 c.vars.length t3) (.slice p7 c.arrays.length t7) (.slice p0 c.list.length q0) c:=⟨o0,o1,o2,rs.dj (⟨0,3,1,.slice p3 c.vars.length t3,c.vars.length,ints c.vars⟩:RowK) (by simp) (⟨4,3,1,.slice p7 c.arrays.length t7,c.arrays.length,ints c.arrays⟩:RowK) (by simp) (by simp)⟩;have kb:=m1.out _ d0;have iv:=g1.lt;clear o0 o1 o2 rs hHeld;obtain ⟨x0,y0,x1,y1,x2,y2⟩:=Bk.f3 kb 0 1 2 rfl rfl rfl;go_simp
  refine hK.out _ _ ⟨(Nn (b:=(w.heap.size+1)) (j:=2) (Nn (b:=(w.heap.size+1)) (j:=1) (Nn (b:=(w.heap.size+1)) (j:=0) s0 (.slice p3 c.vars.length t3)) (.slice p7 c.arrays.length t7)) (.slice p0 c.list.length q0)),(Nn (b:=(w.heap.size+1)) (j:=2) (Nn (b:=(w.heap.size+1)) (j:=1) (Nn (b:=(w.heap.size+1)) (j:=0) s1 (.slice p3 c.vars.length t3)) (.slice p7 c.arrays.length t7)) (.slice p0 c.list.length q0)),(Nn (b:=(w.heap.size+1)) (j:=2) (Nn (b:=(w.heap.size+1)) (j:=1) (Nn (b:=(w.heap.size+1)) (j:=0) s2 (.slice p3 c.vars.length t3)) (.slice p7 c.arrays.length t7)) (.slice p0 c.list.length q0))⟩ (fun _=>?_);clear hK K;try simp only [Ep]
  refine Dn ?_;have n0:=(Nn (b:=(w.heap.size+1)) (j:=2) (Nn (b:=(w.heap.size+1)) (j:=1) (Tc _ (w.heap.size+1) 0 (.slice p3 c.vars.length t3) x0) (.slice p7 c.arrays.length t7)) (.slice p0 c.list.length q0));have n1:=(Nn (b:=(w.heap.size+1)) (j:=2) (Tc _ (w.heap.size+1) 1 (.slice p7 c.arrays.length t7) (Nn (b:=(w.heap.size+1)) (j:=0) x1 (.slice p3 c.vars.length t3))) (.slice p0 c.list.length q0));have n2:=(Tc _ (w.heap.size+1) 2 (.slice p0 c.list.length q0) (Nn (b:=(w.heap.size+1)) (j:=1) (Nn (b:=(w.heap.size+1)) (j:=0) x2 (.slice p3 c.vars.length t3)) (.slice p7 c.arrays.length t7)));have l1:=(OwnC.keep (OwnC.keep (OwnC.keep g1 (C1 (w.heap.size+1) (0) (.slice p3 c.vars.length t3)) (fun gq h h2=>by have:=iv gq h;omega)) (C1 (w.heap.size+1) (1) (.slice p7 c.arrays.length t7)) (fun gq h h2=>by have:=iv gq h;omega)) (C1 (w.heap.size+1) (2) (.slice p0 c.list.length q0)) (fun gq h h2=>by have:=iv gq h;omega));have tt:=(bst (bst (bst (btr i1 d0) (w.heap.size+1) 0 (by omega) (.slice p3 c.vars.length t3)) (w.heap.size+1) 1 (by omega) (.slice p7 c.arrays.length t7)) (w.heap.size+1) 2 (by omega) (.slice p0 c.list.length q0));clear s0 s1 s2 x0 x1 x2 y0 y1 y2 kb g1;have HO:=Hi l1;clear l1;go_wp2
  exact bodyPost_ret (v:=.agg #[.slice p3 c.vars.length t3,.slice p7 c.arrays.length t7,.slice p0 c.list.length q0]) (by simp [results,Tryz.results61,go_sem,n0,n1,n2]) rfl ⟨_,_,_,rfl,⟨Om HO.out.a (by omega),Om HO.out.b (by omega),Om HO.out.l (by omega),HO.out.ab⟩,tt⟩
 have t0:Hid (∀ (b0:Nat) (p3:Option Addr) (t3:Nat) (b4:Nat) (p7:Option Addr) (t7:Nat) (b8:Nat) (w':World),Below w1.heap.size w1 w'→RowSet w' w1.heap.size [⟨0,3,1,.slice p3 c.vars.length t3,c.vars.length,ints c.vars⟩,⟨4,3,1,.slice p7 c.arrays.length t7,c.arrays.length,ints c.arrays⟩,⟨8,62,5,.slice (some ⟨b8,0,none⟩) 0 0,0,[]⟩]→T 3 #[true,true,true,true,true,true,true,true,true,true,true,false,false,false] (Act.put (Act.put (Act.put (Act.put (Act.put (Act.put (Act.put (Act.put (Act.put (Act.put (Act.put A0 (some 3) (.slice (some ⟨b0,0,none⟩) 0 0)) (some 4) (.pointer (some ⟨w.heap.size,0,none⟩))) (some 5) (.slice a0 c.vars.length c0)) (some 6) (.slice p3 c.vars.length t3)) (some 7) (.slice (some ⟨b4,0,none⟩) 0 0)) (some 8) (.pointer (some ⟨w.heap.size,1,none⟩))) (some 9) (.slice a1 c.arrays.length c1)) (some 10) (.slice p7 c.arrays.length t7)) (some 11) (.slice (some ⟨b8,0,none⟩) 0 0)) (some 12) (.pointer (some ⟨w.heap.size,2,none⟩))) (some 13) (.slice a2 c.list.length c2)) w'):=by
  refine Hi ?_;intro b0 p3 t3 b4 p7 t7 b8 w' d0 rs;have u0:=d0.size;have hHeld:=f0.out _ d0;have i0:=hT.out;subst i0;have g0:=hA.out;subst g0;clear hT hA;change wpAnyH _ _ _ _ _ 3 _ _ _
  try simp only [Ep]
  refine Rdy 11 rfl (fun K hK=>?_);have HO:=rs.own (⟨8,62,5,.slice (some ⟨b8,0,none⟩) 0 0,0,[]⟩:RowK) (List.Mem.tail _ (List.Mem.tail _ (List.Mem.head _)));have l0:=fun q hq=>(HO.lt q hq).1
  refine step_aps tInstrs rfl _ _ rfl (w1.heap.size) _ 0 ([]) rfl HO _ (c.list.length) (inss c.list) rfl ((b1.out _ d0).l) (one_inss c.list) (by omega) (by omega) ?_;intro vA wA oA j0 k0 _;try simp only [Nat.zero_add,List.nil_append] at oA
  obtain ⟨p0,q0,rfl⟩:=Oh oA;have e0:=Tg d0 j0 l0;have m0:=RowSet.push rs (⟨8,62,5,.slice (some ⟨b8,0,none⟩) 0 0,0,[]⟩:RowK) (List.Mem.tail _ (List.Mem.tail _ (List.Mem.head _))) oA j0 k0 (l':=[⟨0,3,1,.slice p3 c.vars.length t3,c.vars.length,ints c.vars⟩,⟨4,3,1,.slice p7 c.arrays.length t7,c.arrays.length,ints c.arrays⟩]) (Oc (List.Mem.head _) (Oc (List.Mem.tail _ (List.Mem.head _)) On));clear HO l0 oA j0 k0;refine hK.out _ _ (f0.out _ e0) (fun hHeld=>?_);clear hK K;try simp only [Ep]
  refine take_d (i:=12) (d:=15) (v:=.agg #[.slice p3 c.vars.length t3,.slice p7 c.arrays.length t7,.slice p0 c.list.length q0]) rfl rfl (by kernel_rfl) (by kernel_rfl) (by kernel_rfl) (fun _ _ _ h=>h) (Or.inl ⟨by rfl,fun W' _=>by kernel_rfl⟩) (by assumption) ?_;try simp only [Ep]
  have hM:=r0.out b0 p3 t3 b4 p7 t7 b8 p0 q0 _ e0 (RowSet.sub m0 (Sb (List.Mem.tail _ (List.Mem.head _)) (Sb (List.Mem.tail _ (List.Mem.tail _ (List.Mem.head _))) (Sb (List.Mem.head _) Sz))));try simp only [Ep] at hM
  exact hM
 have v0:Hid (∀ (b0:Nat) (p3:Option Addr) (t3:Nat) (b4:Nat) (p7:Option Addr) (t7:Nat) (w':World),Below w1.heap.size w1 w'→RowSet w' w1.heap.size [⟨0,3,1,.slice p3 c.vars.length t3,c.vars.length,ints c.vars⟩,⟨4,3,1,.slice p7 c.arrays.length t7,c.arrays.length,ints c.arrays⟩]→T 4 #[true,true,true,true,true,true,true,true,false,true,true,false,false,false] (Act.put (Act.put (Act.put (Act.put (Act.put (Act.put (Act.put (Act.put (Act.put (Act.put A0 (some 3) (.slice (some ⟨b0,0,none⟩) 0 0)) (some 4) (.pointer (some ⟨w.heap.size,0,none⟩))) (some 5) (.slice a0 c.vars.length c0)) (some 6) (.slice p3 c.vars.length t3)) (some 7) (.slice (some ⟨b4,0,none⟩) 0 0)) (some 8) (.pointer (some ⟨w.heap.size,1,none⟩))) (some 9) (.slice a1 c.arrays.length c1)) (some 10) (.slice p7 c.arrays.length t7)) (some 12) (.pointer (some ⟨w.heap.size,2,none⟩))) (some 13) (.slice a2 c.list.length c2)) w'):=by
  clear r0;refine Hi ?_;intro b0 p3 t3 b4 p7 t7 w' d0 rs;have u0:=d0.size;have hHeld:=f0.out _ d0;have i0:=hT.out;subst i0;have g0:=hA.out;subst g0;clear hT hA;change wpAnyH _ _ _ _ _ 4 _ _ _
  try simp only [Ep]
  refine Rdy 8 rfl (fun K hK=>?_);go_simp
  refine hK.out _ _ (f0.out _ (bal d0 _)) (fun hHeld=>?_);clear hK K;try simp only [Ep]
  have hM:=t0.out b0 p3 t3 b4 p7 t7 w'.heap.size _ (bal d0 _) (RowSet.sub (RowSet.lit rs 8 62 5 #[] 0 (by omega) (by unfold maxLen;omega) (by simp)) (Sb (List.Mem.tail _ (List.Mem.head _)) (Sb (List.Mem.tail _ (List.Mem.tail _ (List.Mem.head _))) (Sb (List.Mem.head _) Sz))));try simp only [Ep] at hM
  exact hM
 have w0:Hid (∀ (b0:Nat) (p3:Option Addr) (t3:Nat) (b4:Nat) (b8:Nat) (w':World),Below w1.heap.size w1 w'→RowSet w' w1.heap.size [⟨0,3,1,.slice p3 c.vars.length t3,c.vars.length,ints c.vars⟩,⟨4,3,1,.slice (some ⟨b4,0,none⟩) 0 0,0,[]⟩,⟨8,62,5,.slice (some ⟨b8,0,none⟩) 0 0,0,[]⟩]→T 4 #[true,true,true,true,true,true,true,false,true,true,true,false,false,false] (Act.put (Act.put (Act.put (Act.put (Act.put (Act.put (Act.put (Act.put (Act.put (Act.put A0 (some 3) (.slice (some ⟨b0,0,none⟩) 0 0)) (some 4) (.pointer (some ⟨w.heap.size,0,none⟩))) (some 5) (.slice a0 c.vars.length c0)) (some 6) (.slice p3 c.vars.length t3)) (some 7) (.slice (some ⟨b4,0,none⟩) 0 0)) (some 8) (.pointer (some ⟨w.heap.size,1,none⟩))) (some 9) (.slice a1 c.arrays.length c1)) (some 11) (.slice (some ⟨b8,0,none⟩) 0 0)) (some 12) (.pointer (some ⟨w.heap.size,2,none⟩))) (some 13) (.slice a2 c.list.length c2)) w'):=by
  clear r0 v0;refine Hi ?_;intro b0 p3 t3 b4 b8 w' d0 rs;have u0:=d0.size;have hHeld:=f0.out _ d0;have i0:=hT.out;subst i0;have g0:=hA.out;subst g0;clear hT hA;change wpAnyH _ _ _ _ _ 4 _ _ _
  try simp only [Ep]
  refine Rdy 7 rfl (fun K hK=>?_);have HO:=rs.own (⟨4,3,1,.slice (some ⟨b4,0,none⟩) 0 0,0,[]⟩:RowK) (List.Mem.tail _ (List.Mem.head _));have l0:=fun q hq=>(HO.lt q hq).1
  refine step_aps tInts rfl _ _ rfl (w1.heap.size) _ 0 ([]) rfl HO _ (c.arrays.length) (ints c.arrays) rfl ((b1.out _ d0).b) (one_ints c.arrays) (by omega) (by omega) ?_;intro vA wA oA j0 k0 _;try simp only [Nat.zero_add,List.nil_append] at oA
  obtain ⟨p7,t7,rfl⟩:=Oh oA;have e0:=Tg d0 j0 l0;have m0:=RowSet.push rs (⟨4,3,1,.slice (some ⟨b4,0,none⟩) 0 0,0,[]⟩:RowK) (List.Mem.tail _ (List.Mem.head _)) oA j0 k0 (l':=[⟨0,3,1,.slice p3 c.vars.length t3,c.vars.length,ints c.vars⟩,⟨8,62,5,.slice (some ⟨b8,0,none⟩) 0 0,0,[]⟩]) (Oc (List.Mem.head _) (Oc (List.Mem.tail _ (List.Mem.tail _ (List.Mem.head _))) On));clear HO l0 oA j0 k0;refine hK.out _ _ (f0.out _ e0) (fun hHeld=>?_);clear hK K;try simp only [Ep]
  have hM:=t0.out b0 p3 t3 b4 p7 t7 b8 _ e0 (RowSet.sub m0 (Sb (List.Mem.tail _ (List.Mem.head _)) (Sb (List.Mem.head _) (Sb (List.Mem.tail _ (List.Mem.tail _ (List.Mem.head _))) Sz))));try simp only [Ep] at hM
  exact hM
 have M8:Hid (∀ (b0:Nat) (p3:Option Addr) (t3:Nat) (b4:Nat) (w':World),Below w1.heap.size w1 w'→RowSet w' w1.heap.size [⟨0,3,1,.slice p3 c.vars.length t3,c.vars.length,ints c.vars⟩,⟨4,3,1,.slice (some ⟨b4,0,none⟩) 0 0,0,[]⟩]→T 5 #[true,true,true,true,true,true,true,false,false,true,true,false,false,false] (Act.put (Act.put (Act.put (Act.put (Act.put (Act.put (Act.put (Act.put (Act.put A0 (some 3) (.slice (some ⟨b0,0,none⟩) 0 0)) (some 4) (.pointer (some ⟨w.heap.size,0,none⟩))) (some 5) (.slice a0 c.vars.length c0)) (some 6) (.slice p3 c.vars.length t3)) (some 7) (.slice (some ⟨b4,0,none⟩) 0 0)) (some 8) (.pointer (some ⟨w.heap.size,1,none⟩))) (some 9) (.slice a1 c.arrays.length c1)) (some 12) (.pointer (some ⟨w.heap.size,2,none⟩))) (some 13) (.slice a2 c.list.length c2)) w'):=by
  clear r0 t0;refine Hi ?_;intro b0 p3 t3 b4 w' d0 rs;have u0:=d0.size;have hHeld:=f0.out _ d0;have i0:=hT.out;subst i0;have g0:=hA.out;subst g0;clear hT hA;change wpAnyH _ _ _ _ _ 5 _ _ _
  try simp only [Ep]
  refine Rdy2 7 8 rfl rfl (fun K hK=>?_) (fun K hK=>?_)
  ·have HO:=rs.own (⟨4,3,1,.slice (some ⟨b4,0,none⟩) 0 0,0,[]⟩:RowK) (List.Mem.tail _ (List.Mem.head _));have l0:=fun q hq=>(HO.lt q hq).1
   refine step_aps tInts rfl _ _ rfl (w1.heap.size) _ 0 ([]) rfl HO _ (c.arrays.length) (ints c.arrays) rfl ((b1.out _ d0).b) (one_ints c.arrays) (by omega) (by omega) ?_;intro vA wA oA j0 k0 _;try simp only [Nat.zero_add,List.nil_append] at oA
   obtain ⟨p7,t7,rfl⟩:=Oh oA;have e0:=Tg d0 j0 l0;have m0:=RowSet.push rs (⟨4,3,1,.slice (some ⟨b4,0,none⟩) 0 0,0,[]⟩:RowK) (List.Mem.tail _ (List.Mem.head _)) oA j0 k0 (l':=[⟨0,3,1,.slice p3 c.vars.length t3,c.vars.length,ints c.vars⟩]) (Oc (List.Mem.head _) On);clear HO l0 oA j0 k0;refine hK.out _ _ (f0.out _ e0) (fun hHeld=>?_);clear hK K;try simp only [Ep]
   have hM:=v0.out b0 p3 t3 b4 p7 t7 _ e0 (RowSet.sub m0 (Sb (List.Mem.tail _ (List.Mem.head _)) (Sb (List.Mem.head _) Sz)));try simp only [Ep] at hM
   exact hM
  go_simp
  refine hK.out _ _ (f0.out _ (bal d0 _)) (fun hHeld=>?_);clear hK K;try simp only [Ep]
  have hM:=w0.out b0 p3 t3 b4 w'.heap.size _ (bal d0 _) (RowSet.sub (RowSet.lit rs 8 62 5 #[] 0 (by omega) (by unfold maxLen;omega) (by simp)) (Sb (List.Mem.tail _ (List.Mem.head _)) (Sb (List.Mem.tail _ (List.Mem.tail _ (List.Mem.head _))) (Sb (List.Mem.head _) Sz))));try simp only [Ep] at hM
  exact hM
 have M9:Hid (∀ (b0:Nat) (p3:Option Addr) (t3:Nat) (b8:Nat) (w':World),Below w1.heap.size w1 w'→RowSet w' w1.heap.size [⟨0,3,1,.slice p3 c.vars.length t3,c.vars.length,ints c.vars⟩,⟨8,62,5,.slice (some ⟨b8,0,none⟩) 0 0,0,[]⟩]→T 5 #[true,true,true,true,false,true,true,false,true,true,true,false,false,false] (Act.put (Act.put (Act.put (Act.put (Act.put (Act.put (Act.put (Act.put (Act.put A0 (some 3) (.slice (some ⟨b0,0,none⟩) 0 0)) (some 4) (.pointer (some ⟨w.heap.size,0,none⟩))) (some 5) (.slice a0 c.vars.length c0)) (some 6) (.slice p3 c.vars.length t3)) (some 8) (.pointer (some ⟨w.heap.size,1,none⟩))) (some 9) (.slice a1 c.arrays.length c1)) (some 11) (.slice (some ⟨b8,0,none⟩) 0 0)) (some 12) (.pointer (some ⟨w.heap.size,2,none⟩))) (some 13) (.slice a2 c.list.length c2)) w'):=by
  clear r0 t0 v0 M8;refine Hi ?_;intro b0 p3 t3 b8 w' d0 rs;have u0:=d0.size;have hHeld:=f0.out _ d0;have i0:=hT.out;subst i0;have g0:=hA.out;subst g0;clear hT hA;change wpAnyH _ _ _ _ _ 5 _ _ _
  try simp only [Ep]
  refine Rdy 4 rfl (fun K hK=>?_);go_simp
  refine hK.out _ _ (f0.out _ (bal d0 _)) (fun hHeld=>?_);clear hK K;try simp only [Ep]
  have hM:=w0.out b0 p3 t3 w'.heap.size b8 _ (bal d0 _) (RowSet.sub (RowSet.lit rs 4 3 1 #[] 0 (by omega) (by unfold maxLen;omega) (by simp)) (Sb (List.Mem.tail _ (List.Mem.head _)) (Sb (List.Mem.head _) (Sb (List.Mem.tail _ (List.Mem.tail _ (List.Mem.head _))) Sz))));try simp only [Ep] at hM
  exact hM
 have z0:Hid (∀ (b0:Nat) (b4:Nat) (b8:Nat) (w':World),Below w1.heap.size w1 w'→RowSet w' w1.heap.size [⟨0,3,1,.slice (some ⟨b0,0,none⟩) 0 0,0,[]⟩,⟨4,3,1,.slice (some ⟨b4,0,none⟩) 0 0,0,[]⟩,⟨8,62,5,.slice (some ⟨b8,0,none⟩) 0 0,0,[]⟩]→T 5 #[true,true,true,false,true,true,true,false,true,true,true,false,false,false] (Act.put (Act.put (Act.put (Act.put (Act.put (Act.put (Act.put (Act.put (Act.put A0 (some 3) (.slice (some ⟨b0,0,none⟩) 0 0)) (some 4) (.pointer (some ⟨w.heap.size,0,none⟩))) (some 5) (.slice a0 c.vars.length c0)) (some 7) (.slice (some ⟨b4,0,none⟩) 0 0)) (some 8) (.pointer (some ⟨w.heap.size,1,none⟩))) (some 9) (.slice a1 c.arrays.length c1)) (some 11) (.slice (some ⟨b8,0,none⟩) 0 0)) (some 12) (.pointer (some ⟨w.heap.size,2,none⟩))) (some 13) (.slice a2 c.list.length c2)) w'):=by
  clear r0 t0 v0 M8 M9;refine Hi ?_;intro b0 b4 b8 w' d0 rs;have u0:=d0.size;have hHeld:=f0.out _ d0;have i0:=hT.out;subst i0;have g0:=hA.out;subst g0;clear hT hA;change wpAnyH _ _ _ _ _ 5 _ _ _
  try simp only [Ep]
  refine Rdy 3 rfl (fun K hK=>?_);have HO:=rs.own (⟨0,3,1,.slice (some ⟨b0,0,none⟩) 0 0,0,[]⟩:RowK) (List.Mem.head _);have l0:=fun q hq=>(HO.lt q hq).1
  refine step_aps tInts rfl _ _ rfl (w1.heap.size) _ 0 ([]) rfl HO _ (c.vars.length) (ints c.vars) rfl ((b1.out _ d0).a) (one_ints c.vars) (by omega) (by omega) ?_;intro vA wA oA j0 k0 _;try simp only [Nat.zero_add,List.nil_append] at oA
  obtain ⟨p3,t3,rfl⟩:=Oh oA;have e0:=Tg d0 j0 l0;have m0:=RowSet.push rs (⟨0,3,1,.slice (some ⟨b0,0,none⟩) 0 0,0,[]⟩:RowK) (List.Mem.head _) oA j0 k0 (l':=[⟨4,3,1,.slice (some ⟨b4,0,none⟩) 0 0,0,[]⟩,⟨8,62,5,.slice (some ⟨b8,0,none⟩) 0 0,0,[]⟩]) (Oc (List.Mem.tail _ (List.Mem.head _)) (Oc (List.Mem.tail _ (List.Mem.tail _ (List.Mem.head _))) On));clear HO l0 oA j0 k0;refine hK.out _ _ (f0.out _ e0) (fun hHeld=>?_);clear hK K;try simp only [Ep]
  have hM:=w0.out b0 p3 t3 b4 b8 _ e0 (RowSet.sub m0 (Sb (List.Mem.head _) (Sb (List.Mem.tail _ (List.Mem.head _)) (Sb (List.Mem.tail _ (List.Mem.tail _ (List.Mem.head _))) Sz))));try simp only [Ep] at hM
  exact hM
 have M4:Hid (∀ (b0:Nat) (p3:Option Addr) (t3:Nat) (w':World),Below w1.heap.size w1 w'→RowSet w' w1.heap.size [⟨0,3,1,.slice p3 c.vars.length t3,c.vars.length,ints c.vars⟩]→T 6 #[true,true,true,true,false,true,true,false,false,true,true,false,false,false] (Act.put (Act.put (Act.put (Act.put (Act.put (Act.put (Act.put (Act.put A0 (some 3) (.slice (some ⟨b0,0,none⟩) 0 0)) (some 4) (.pointer (some ⟨w.heap.size,0,none⟩))) (some 5) (.slice a0 c.vars.length c0)) (some 6) (.slice p3 c.vars.length t3)) (some 8) (.pointer (some ⟨w.heap.size,1,none⟩))) (some 9) (.slice a1 c.arrays.length c1)) (some 12) (.pointer (some ⟨w.heap.size,2,none⟩))) (some 13) (.slice a2 c.list.length c2)) w'):=by
  clear r0 t0 v0 w0 z0;refine Hi ?_;intro b0 p3 t3 w' d0 rs;have u0:=d0.size;have hHeld:=f0.out _ d0;have i0:=hT.out;subst i0;have g0:=hA.out;subst g0;clear hT hA;change wpAnyH _ _ _ _ _ 6 _ _ _
  try simp only [Ep]
  refine Rdy2 4 8 rfl rfl (fun K hK=>?_) (fun K hK=>?_)
  ·go_simp
   refine hK.out _ _ (f0.out _ (bal d0 _)) (fun hHeld=>?_);clear hK K;try simp only [Ep]
   have hM:=M8.out b0 p3 t3 w'.heap.size _ (bal d0 _) (RowSet.sub (RowSet.lit rs 4 3 1 #[] 0 (by omega) (by unfold maxLen;omega) (by simp)) (Sb (List.Mem.tail _ (List.Mem.head _)) (Sb (List.Mem.head _) Sz)));try simp only [Ep] at hM
   exact hM
  go_simp
  refine hK.out _ _ (f0.out _ (bal d0 _)) (fun hHeld=>?_);clear hK K;try simp only [Ep]
  have hM:=M9.out b0 p3 t3 w'.heap.size _ (bal d0 _) (RowSet.sub (RowSet.lit rs 8 62 5 #[] 0 (by omega) (by unfold maxLen;omega) (by simp)) (Sb (List.Mem.tail _ (List.Mem.head _)) (Sb (List.Mem.head _) Sz)));try simp only [Ep] at hM
  exact hM
 have M5:Hid (∀ (b0:Nat) (b4:Nat) (w':World),Below w1.heap.size w1 w'→RowSet w' w1.heap.size [⟨0,3,1,.slice (some ⟨b0,0,none⟩) 0 0,0,[]⟩,⟨4,3,1,.slice (some ⟨b4,0,none⟩) 0 0,0,[]⟩]→T 6 #[true,true,true,false,true,true,true,false,false,true,true,false,false,false] (Act.put (Act.put (Act.put (Act.put (Act.put (Act.put (Act.put (Act.put A0 (some 3) (.slice (some ⟨b0,0,none⟩) 0 0)) (some 4) (.pointer (some ⟨w.heap.size,0,none⟩))) (some 5) (.slice a0 c.vars.length c0)) (some 7) (.slice (some ⟨b4,0,none⟩) 0 0)) (some 8) (.pointer (some ⟨w.heap.size,1,none⟩))) (some 9) (.slice a1 c.arrays.length c1)) (some 12) (.pointer (some ⟨w.heap.size,2,none⟩))) (some 13) (.slice a2 c.list.length c2)) w'):=by
  clear r0 t0 v0 w0 M9 M4;refine Hi ?_;intro b0 b4 w' d0 rs;have u0:=d0.size;have hHeld:=f0.out _ d0;have i0:=hT.out;subst i0;have g0:=hA.out;subst g0;clear hT hA;change wpAnyH _ _ _ _ _ 6 _ _ _
  try simp only [Ep]
  refine Rdy2 3 8 rfl rfl (fun K hK=>?_) (fun K hK=>?_)
  ·have HO:=rs.own (⟨0,3,1,.slice (some ⟨b0,0,none⟩) 0 0,0,[]⟩:RowK) (List.Mem.head _);have l0:=fun q hq=>(HO.lt q hq).1
   refine step_aps tInts rfl _ _ rfl (w1.heap.size) _ 0 ([]) rfl HO _ (c.vars.length) (ints c.vars) rfl ((b1.out _ d0).a) (one_ints c.vars) (by omega) (by omega) ?_;intro vA wA oA j0 k0 _;try simp only [Nat.zero_add,List.nil_append] at oA
   obtain ⟨p3,t3,rfl⟩:=Oh oA;have e0:=Tg d0 j0 l0;have m0:=RowSet.push rs (⟨0,3,1,.slice (some ⟨b0,0,none⟩) 0 0,0,[]⟩:RowK) (List.Mem.head _) oA j0 k0 (l':=[⟨4,3,1,.slice (some ⟨b4,0,none⟩) 0 0,0,[]⟩]) (Oc (List.Mem.tail _ (List.Mem.head _)) On);clear HO l0 oA j0 k0;refine hK.out _ _ (f0.out _ e0) (fun hHeld=>?_);clear hK K;try simp only [Ep]
   have hM:=M8.out b0 p3 t3 b4 _ e0 (RowSet.sub m0 (Sb (List.Mem.head _) (Sb (List.Mem.tail _ (List.Mem.head _)) Sz)));try simp only [Ep] at hM
   exact hM
  go_simp
  refine hK.out _ _ (f0.out _ (bal d0 _)) (fun hHeld=>?_);clear hK K;try simp only [Ep]
  have hM:=z0.out b0 b4 w'.heap.size _ (bal d0 _) (RowSet.sub (RowSet.lit rs 8 62 5 #[] 0 (by omega) (by unfold maxLen;omega) (by simp)) (Sb (List.Mem.tail _ (List.Mem.head _)) (Sb (List.Mem.tail _ (List.Mem.tail _ (List.Mem.head _))) (Sb (List.Mem.head _) Sz))));try simp only [Ep] at hM
  exact hM
 have M6:Hid (∀ (b0:Nat) (b8:Nat) (w':World),Below w1.heap.size w1 w'→RowSet w' w1.heap.size [⟨0,3,1,.slice (some ⟨b0,0,none⟩) 0 0,0,[]⟩,⟨8,62,5,.slice (some ⟨b8,0,none⟩) 0 0,0,[]⟩]→T 6 #[true,true,true,false,false,true,true,false,true,true,true,false,false,false] (Act.put (Act.put (Act.put (Act.put (Act.put (Act.put (Act.put (Act.put A0 (some 3) (.slice (some ⟨b0,0,none⟩) 0 0)) (some 4) (.pointer (some ⟨w.heap.size,0,none⟩))) (some 5) (.slice a0 c.vars.length c0)) (some 8) (.pointer (some ⟨w.heap.size,1,none⟩))) (some 9) (.slice a1 c.arrays.length c1)) (some 11) (.slice (some ⟨b8,0,none⟩) 0 0)) (some 12) (.pointer (some ⟨w.heap.size,2,none⟩))) (some 13) (.slice a2 c.list.length c2)) w'):=by
  clear r0 t0 v0 w0 M8 M4 M5;refine Hi ?_;intro b0 b8 w' d0 rs;have u0:=d0.size;have hHeld:=f0.out _ d0;have i0:=hT.out;subst i0;have g0:=hA.out;subst g0;clear hT hA;change wpAnyH _ _ _ _ _ 6 _ _ _
  try simp only [Ep]
  refine Rdy2 3 4 rfl rfl (fun K hK=>?_) (fun K hK=>?_)
  ·have HO:=rs.own (⟨0,3,1,.slice (some ⟨b0,0,none⟩) 0 0,0,[]⟩:RowK) (List.Mem.head _);have l0:=fun q hq=>(HO.lt q hq).1
   refine step_aps tInts rfl _ _ rfl (w1.heap.size) _ 0 ([]) rfl HO _ (c.vars.length) (ints c.vars) rfl ((b1.out _ d0).a) (one_ints c.vars) (by omega) (by omega) ?_;intro vA wA oA j0 k0 _;try simp only [Nat.zero_add,List.nil_append] at oA
   obtain ⟨p3,t3,rfl⟩:=Oh oA;have e0:=Tg d0 j0 l0;have m0:=RowSet.push rs (⟨0,3,1,.slice (some ⟨b0,0,none⟩) 0 0,0,[]⟩:RowK) (List.Mem.head _) oA j0 k0 (l':=[⟨8,62,5,.slice (some ⟨b8,0,none⟩) 0 0,0,[]⟩]) (Oc (List.Mem.tail _ (List.Mem.head _)) On);clear HO l0 oA j0 k0;refine hK.out _ _ (f0.out _ e0) (fun hHeld=>?_);clear hK K;try simp only [Ep]
   have hM:=M9.out b0 p3 t3 b8 _ e0 (RowSet.sub m0 (Sb (List.Mem.head _) (Sb (List.Mem.tail _ (List.Mem.head _)) Sz)));try simp only [Ep] at hM
   exact hM
  go_simp
  refine hK.out _ _ (f0.out _ (bal d0 _)) (fun hHeld=>?_);clear hK K;try simp only [Ep]
  have hM:=z0.out b0 w'.heap.size b8 _ (bal d0 _) (RowSet.sub (RowSet.lit rs 4 3 1 #[] 0 (by omega) (by unfold maxLen;omega) (by simp)) (Sb (List.Mem.tail _ (List.Mem.head _)) (Sb (List.Mem.head _) (Sb (List.Mem.tail _ (List.Mem.tail _ (List.Mem.head _))) Sz))));try simp only [Ep] at hM
  exact hM
 have M7:Hid (∀ (b4:Nat) (b8:Nat) (w':World),Below w1.heap.size w1 w'→RowSet w' w1.heap.size [⟨4,3,1,.slice (some ⟨b4,0,none⟩) 0 0,0,[]⟩,⟨8,62,5,.slice (some ⟨b8,0,none⟩) 0 0,0,[]⟩]→T 6 #[false,true,true,false,true,true,true,false,true,true,true,false,false,false] (Act.put (Act.put (Act.put (Act.put (Act.put (Act.put (Act.put (Act.put A0 (some 4) (.pointer (some ⟨w.heap.size,0,none⟩))) (some 5) (.slice a0 c.vars.length c0)) (some 7) (.slice (some ⟨b4,0,none⟩) 0 0)) (some 8) (.pointer (some ⟨w.heap.size,1,none⟩))) (some 9) (.slice a1 c.arrays.length c1)) (some 11) (.slice (some ⟨b8,0,none⟩) 0 0)) (some 12) (.pointer (some ⟨w.heap.size,2,none⟩))) (some 13) (.slice a2 c.list.length c2)) w'):=by
  clear r0 t0 v0 w0 M8 M9 M4 M5 M6;refine Hi ?_;intro b4 b8 w' d0 rs;have u0:=d0.size;have hHeld:=f0.out _ d0;have i0:=hT.out;subst i0;have g0:=hA.out;subst g0;clear hT hA;change wpAnyH _ _ _ _ _ 6 _ _ _
  try simp only [Ep]
  refine Rdy 0 rfl (fun K hK=>?_);go_simp
  refine hK.out _ _ (f0.out _ (bal d0 _)) (fun hHeld=>?_);clear hK K;try simp only [Ep]
  have hM:=z0.out w'.heap.size b4 b8 _ (bal d0 _) (RowSet.sub (RowSet.lit rs 0 3 1 #[] 0 (by omega) (by unfold maxLen;omega) (by simp)) (Sb (List.Mem.head _) (Sb (List.Mem.tail _ (List.Mem.head _)) (Sb (List.Mem.tail _ (List.Mem.tail _ (List.Mem.head _))) Sz))));try simp only [Ep] at hM
  exact hM
 have M1:Hid (∀ (b0:Nat) (w':World),Below w1.heap.size w1 w'→RowSet w' w1.heap.size [⟨0,3,1,.slice (some ⟨b0,0,none⟩) 0 0,0,[]⟩]→T 7 #[true,true,true,false,false,true,true,false,false,true,true,false,false,false] (Act.put (Act.put (Act.put (Act.put (Act.put (Act.put (Act.put A0 (some 3) (.slice (some ⟨b0,0,none⟩) 0 0)) (some 4) (.pointer (some ⟨w.heap.size,0,none⟩))) (some 5) (.slice a0 c.vars.length c0)) (some 8) (.pointer (some ⟨w.heap.size,1,none⟩))) (some 9) (.slice a1 c.arrays.length c1)) (some 12) (.pointer (some ⟨w.heap.size,2,none⟩))) (some 13) (.slice a2 c.list.length c2)) w'):=by
  clear r0 t0 v0 w0 M8 M9 z0 M7;refine Hi ?_;intro b0 w' d0 rs;have u0:=d0.size;have hHeld:=f0.out _ d0;have i0:=hT.out;subst i0;have g0:=hA.out;subst g0;clear hT hA;change wpAnyH _ _ _ _ _ 7 _ _ _
  try simp only [Ep]
  refine Rdy3 3 4 8 rfl rfl rfl (fun K hK=>?_) (fun K hK=>?_) (fun K hK=>?_)
  ·have HO:=rs.own (⟨0,3,1,.slice (some ⟨b0,0,none⟩) 0 0,0,[]⟩:RowK) (List.Mem.head _);have l0:=fun q hq=>(HO.lt q hq).1
   refine step_aps tInts rfl _ _ rfl (w1.heap.size) _ 0 ([]) rfl HO _ (c.vars.length) (ints c.vars) rfl ((b1.out _ d0).a) (one_ints c.vars) (by omega) (by omega) ?_;intro vA wA oA j0 k0 _;try simp only [Nat.zero_add,List.nil_append] at oA
   obtain ⟨p3,t3,rfl⟩:=Oh oA;have e0:=Tg d0 j0 l0;have m0:=RowSet.push rs (⟨0,3,1,.slice (some ⟨b0,0,none⟩) 0 0,0,[]⟩:RowK) (List.Mem.head _) oA j0 k0 (l':=[]) On;clear HO l0 oA j0 k0;refine hK.out _ _ (f0.out _ e0) (fun hHeld=>?_);clear hK K;try simp only [Ep]
   have hM:=M4.out b0 p3 t3 _ e0 (RowSet.sub m0 (Sb (List.Mem.head _) Sz));try simp only [Ep] at hM
   exact hM
  ·go_simp
   refine hK.out _ _ (f0.out _ (bal d0 _)) (fun hHeld=>?_);clear hK K;try simp only [Ep]
   have hM:=M5.out b0 w'.heap.size _ (bal d0 _) (RowSet.sub (RowSet.lit rs 4 3 1 #[] 0 (by omega) (by unfold maxLen;omega) (by simp)) (Sb (List.Mem.tail _ (List.Mem.head _)) (Sb (List.Mem.head _) Sz)));try simp only [Ep] at hM
   exact hM
  go_simp
  refine hK.out _ _ (f0.out _ (bal d0 _)) (fun hHeld=>?_);clear hK K;try simp only [Ep]
  have hM:=M6.out b0 w'.heap.size _ (bal d0 _) (RowSet.sub (RowSet.lit rs 8 62 5 #[] 0 (by omega) (by unfold maxLen;omega) (by simp)) (Sb (List.Mem.tail _ (List.Mem.head _)) (Sb (List.Mem.head _) Sz)));try simp only [Ep] at hM
  exact hM
 have M2:Hid (∀ (b4:Nat) (w':World),Below w1.heap.size w1 w'→RowSet w' w1.heap.size [⟨4,3,1,.slice (some ⟨b4,0,none⟩) 0 0,0,[]⟩]→T 7 #[false,true,true,false,true,true,true,false,false,true,true,false,false,false] (Act.put (Act.put (Act.put (Act.put (Act.put (Act.put (Act.put A0 (some 4) (.pointer (some ⟨w.heap.size,0,none⟩))) (some 5) (.slice a0 c.vars.length c0)) (some 7) (.slice (some ⟨b4,0,none⟩) 0 0)) (some 8) (.pointer (some ⟨w.heap.size,1,none⟩))) (some 9) (.slice a1 c.arrays.length c1)) (some 12) (.pointer (some ⟨w.heap.size,2,none⟩))) (some 13) (.slice a2 c.list.length c2)) w'):=by
  clear r0 t0 v0 w0 M8 M9 z0 M4 M6 M1;refine Hi ?_;intro b4 w' d0 rs;have u0:=d0.size;have hHeld:=f0.out _ d0;have i0:=hT.out;subst i0;have g0:=hA.out;subst g0;clear hT hA;change wpAnyH _ _ _ _ _ 7 _ _ _
  try simp only [Ep]
  refine Rdy2 0 8 rfl rfl (fun K hK=>?_) (fun K hK=>?_)
  ·go_simp
   refine hK.out _ _ (f0.out _ (bal d0 _)) (fun hHeld=>?_);clear hK K;try simp only [Ep]
   have hM:=M5.out w'.heap.size b4 _ (bal d0 _) (RowSet.sub (RowSet.lit rs 0 3 1 #[] 0 (by omega) (by unfold maxLen;omega) (by simp)) (Sb (List.Mem.head _) (Sb (List.Mem.tail _ (List.Mem.head _)) Sz)));try simp only [Ep] at hM
   exact hM
  go_simp
  refine hK.out _ _ (f0.out _ (bal d0 _)) (fun hHeld=>?_);clear hK K;try simp only [Ep]
  have hM:=M7.out b4 w'.heap.size _ (bal d0 _) (RowSet.sub (RowSet.lit rs 8 62 5 #[] 0 (by omega) (by unfold maxLen;omega) (by simp)) (Sb (List.Mem.tail _ (List.Mem.head _)) (Sb (List.Mem.head _) Sz)));try simp only [Ep] at hM
  exact hM
 have M3:Hid (∀ (b8:Nat) (w':World),Below w1.heap.size w1 w'→RowSet w' w1.heap.size [⟨8,62,5,.slice (some ⟨b8,0,none⟩) 0 0,0,[]⟩]→T 7 #[false,true,true,false,false,true,true,false,true,true,true,false,false,false] (Act.put (Act.put (Act.put (Act.put (Act.put (Act.put (Act.put A0 (some 4) (.pointer (some ⟨w.heap.size,0,none⟩))) (some 5) (.slice a0 c.vars.length c0)) (some 8) (.pointer (some ⟨w.heap.size,1,none⟩))) (some 9) (.slice a1 c.arrays.length c1)) (some 11) (.slice (some ⟨b8,0,none⟩) 0 0)) (some 12) (.pointer (some ⟨w.heap.size,2,none⟩))) (some 13) (.slice a2 c.list.length c2)) w'):=by
  clear r0 t0 v0 w0 M8 M9 z0 M4 M5 M1 M2;refine Hi ?_;intro b8 w' d0 rs;have u0:=d0.size;have hHeld:=f0.out _ d0;have i0:=hT.out;subst i0;have g0:=hA.out;subst g0;clear hT hA;change wpAnyH _ _ _ _ _ 7 _ _ _
  try simp only [Ep]
  refine Rdy2 0 4 rfl rfl (fun K hK=>?_) (fun K hK=>?_)
  ·go_simp
   refine hK.out _ _ (f0.out _ (bal d0 _)) (fun hHeld=>?_);clear hK K;try simp only [Ep]
   have hM:=M6.out w'.heap.size b8 _ (bal d0 _) (RowSet.sub (RowSet.lit rs 0 3 1 #[] 0 (by omega) (by unfold maxLen;omega) (by simp)) (Sb (List.Mem.head _) (Sb (List.Mem.tail _ (List.Mem.head _)) Sz)));try simp only [Ep] at hM
   exact hM
  go_simp
  refine hK.out _ _ (f0.out _ (bal d0 _)) (fun hHeld=>?_);clear hK K;try simp only [Ep]
  have hM:=M7.out w'.heap.size b8 _ (bal d0 _) (RowSet.sub (RowSet.lit rs 4 3 1 #[] 0 (by omega) (by unfold maxLen;omega) (by simp)) (Sb (List.Mem.head _) (Sb (List.Mem.tail _ (List.Mem.head _)) Sz)));try simp only [Ep] at hM
  exact hM
 have M0:Hid (∀ (w':World),Below w1.heap.size w1 w'→RowSet w' w1.heap.size []→T 8 #[false,true,true,false,false,true,true,false,false,true,true,false,false,false] (Act.put (Act.put (Act.put (Act.put (Act.put (Act.put A0 (some 4) (.pointer (some ⟨w.heap.size,0,none⟩))) (some 5) (.slice a0 c.vars.length c0)) (some 8) (.pointer (some ⟨w.heap.size,1,none⟩))) (some 9) (.slice a1 c.arrays.length c1)) (some 12) (.pointer (some ⟨w.heap.size,2,none⟩))) (some 13) (.slice a2 c.list.length c2)) w'):=by
  clear r0 t0 v0 w0 M8 M9 z0 M4 M5 M6 M7;refine Hi ?_;intro w' d0 rs;have u0:=d0.size;have hHeld:=f0.out _ d0;have i0:=hT.out;subst i0;have g0:=hA.out;subst g0;clear hT hA;change wpAnyH _ _ _ _ _ 8 _ _ _
  try simp only [Ep]
  refine Rdy3 0 4 8 rfl rfl rfl (fun K hK=>?_) (fun K hK=>?_) (fun K hK=>?_)
  ·go_simp
   refine hK.out _ _ (f0.out _ (bal d0 _)) (fun hHeld=>?_);clear hK K;try simp only [Ep]
   have hM:=M1.out w'.heap.size _ (bal d0 _) (RowSet.sub (RowSet.lit rs 0 3 1 #[] 0 (by omega) (by unfold maxLen;omega) (by simp)) (Sb (List.Mem.head _) Sz));try simp only [Ep] at hM
   exact hM
  ·go_simp
   refine hK.out _ _ (f0.out _ (bal d0 _)) (fun hHeld=>?_);clear hK K;try simp only [Ep]
   have hM:=M2.out w'.heap.size _ (bal d0 _) (RowSet.sub (RowSet.lit rs 4 3 1 #[] 0 (by omega) (by unfold maxLen;omega) (by simp)) (Sb (List.Mem.head _) Sz));try simp only [Ep] at hM
   exact hM
  go_simp
  refine hK.out _ _ (f0.out _ (bal d0 _)) (fun hHeld=>?_);clear hK K;try simp only [Ep]
  have hM:=M3.out w'.heap.size _ (bal d0 _) (RowSet.sub (RowSet.lit rs 8 62 5 #[] 0 (by omega) (by unfold maxLen;omega) (by simp)) (Sb (List.Mem.head _) Sz));try simp only [Ep] at hM
  exact hM
 clear r0 t0 v0 w0 M8 M9 z0 M4 M5 M6 M7 M1 M2 M3;have hHeld:=f0.out _ d1;have i0:=hT.out;subst i0;have g0:=hA.out;subst g0;clear hT hA;change wpAnyH _ _ _ _ _ 14 _ _ _
 try simp only [Ep]
 refine tq 1 4 rfl rfl ?_ ?_ ?_;rotate_left
 ·intro W' hSw;(try clear m0);(try clear rs);(try clear e0);(try clear d0);(try clear M0);obtain ⟨s0,s1,s2⟩:=hSw;go_simp;try with_reducible rfl
 try simp only [Ep]
 refine tq 2 5 rfl rfl ?_ ?_ ?_;rotate_left
 ·intro W' hSw;(try clear m0);(try clear rs);(try clear e0);(try clear d0);(try clear M0);obtain ⟨s0,s1,s2⟩:=hSw;go_simp;try with_reducible rfl
 try simp only [Ep]
 refine tq 5 8 rfl rfl ?_ ?_ ?_;rotate_left
 ·intro W' hSw;(try clear m0);(try clear rs);(try clear e0);(try clear d0);(try clear M0);obtain ⟨s0,s1,s2⟩:=hSw;go_simp;try with_reducible rfl
 try simp only [Ep]
 refine tq 6 9 rfl rfl ?_ ?_ ?_;rotate_left
 ·intro W' hSw;(try clear m0);(try clear rs);(try clear e0);(try clear d0);(try clear M0);obtain ⟨s0,s1,s2⟩:=hSw;go_simp;try with_reducible rfl
 try simp only [Ep]
 refine tq 9 12 rfl rfl ?_ ?_ ?_;rotate_left
 ·intro W' hSw;(try clear m0);(try clear rs);(try clear e0);(try clear d0);(try clear M0);obtain ⟨s0,s1,s2⟩:=hSw;go_simp;try with_reducible rfl
 try simp only [Ep]
 refine tq 10 13 rfl rfl ?_ ?_ ?_;rotate_left
 ·intro W' hSw;(try clear m0);(try clear rs);(try clear e0);(try clear d0);(try clear M0);obtain ⟨s0,s1,s2⟩:=hSw;go_simp;try with_reducible rfl
 try simp only [Ep]
 have hM:=M0.out wd d1 RowSet.nil;try simp only [Ep] at hM
 exact hM
end Go.Proofs.YtnpidfbcbmeijaaGreat
