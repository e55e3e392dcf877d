/-
 Parts of the proofs of the laws FnCodeFenced,FnCountBranches.
-/
import Derived.Test.YtkjedgnepnbkpaaQJ
set_option linter.all false
namespace Go.Proofs.Ytkjedgnepnbkpaa
open Go.RowKit
theorem DrawC.novars {w:World} {base:Nat} {va vb vl v:Value} {nv na n:Nat} (h:DrawC w base va vb vl nv na n) (hv:w.ownsRow base 3 1 v 0 []) (hd:∀ q,v.ownBlock=some q→vb.ownBlock=some q→False):DrawC w base v vb vl 0 na n:=by
 obtain ⟨c,_,h2,h3,h'⟩:=h.h
 exact ⟨⟨[],c.arrays,c.list⟩,rfl,h2,h3,hv,h'.b,h'.l,hd⟩
def MutP (n0 n1 n2 B g p:Nat) (w:World) (r:Ending) (w':World):Prop:=∃ (ua ub ul:Value) (nv p':Nat),r=.returned (.agg #[ua,ub,ul])∧DrawC w' w.heap.size ua ub ul nv n1 n2∧nv≤n0∧Rnd w' B g p'∧p'≤p+5∧Chg (fun q=>q=g) w w'
set_option maxHeartbeats 6400000 in
set_option maxRecDepth 100000 in
theorem l6Mutate_any (va vb vc:Value) (c:Cd) (B g p:Nat) (w:World) (hr:ReadsC w va vb vc c) (hq:∀ q,ReadB va vb vc c q→¬q=g) (h0:c.vars.length≤1000) (h1:c.arrays.length≤1000) (h2:c.list.length≤1000) (hR:Rnd w B g p) (hp:p+5≤1000000000) :
  Calls Try.prog 48 #[.pointer (some ⟨g,0,none⟩),.agg #[va,vb,vc]] w fun r w'=>MutP c.vars.length c.arrays.length c.list.length B g p w r w':=by
 obtain ⟨a0,c0,a1,c1,a2,c2,rfl,rfl,rfl⟩:=hr.shape
 have iR:∀ q,ReadB (.slice a0 c.vars.length c0) (.slice a1 c.arrays.length c1) (.slice a2 c.list.length c2) c q→q < w.heap.size∧¬q=g:=fun q h=>⟨hr.lt q h,hq q h⟩
 have h7:=hr;clear hr hq
 have hg:=hR.lt
 have hC:Chg (fun k=>k=g) w w:=Chg.refl _ _
 have y2:∀ q,(fun k=>k=g) q→q=g:=fun q h=>h
 go_enter Try.func48,Try.ntmps48
 go_upto_region 1 with (fail)
 obtain ⟨w1,y0,hb⟩:=nmw (World.alloc (World.alloc w (.cells #[.slice a0 c.vars.length c0,.slice a1 c.arrays.length c1,.slice a2 c.list.length c2] 26)) (.cells #[.slice none 0 0,.slice none 0 0,.slice none 0 0] 26))
 replace hC:=(((hC.trans (Chg.of_below (bal (Bs _) _))).trans (Chg.of_below (bal (Bs _) _)))).trans (Chg.of_below hb)
 replace hR:=((hR.below (bal (Bs _) _)).below (bal (Bs _) _)).below hb
 have l8:=hb.size
 simp only [Sa] at l8
 replace h7:=((h7.below (bal (Bs _) _)).below (bal (Bs _) _)).below hb
 have s6:Bk w1 (w.heap.size) [.slice a0 c.vars.length c0,.slice a1 c.arrays.length c1,.slice a2 c.list.length c2]:=Bk.below (Bk.al (Bk.nw (by simp) rfl) (.cells #[.slice none 0 0,.slice none 0 0,.slice none 0 0] 26)) hb
 have x6:Bk w1 (w.heap.size+1) [.slice none 0 0,.slice none 0 0,.slice none 0 0]:=Bk.below (Bk.nw (by simp) rfl) hb
 clear hb
 rw [← y0]
 clear y0
 have iC:=Bk.lz s6
 have jC:=Bk.lz x6
 go_cut [5] (fun s wx=>∃ (b5:Nat) (p0 p1 p2:Option Addr) (t0 t1 t2:Nat),s=.pointer (some ⟨b5,0,none⟩)∧Bk wx b5 [.slice p0 c.vars.length t0,.slice p1 c.arrays.length t1,.slice p2 c.list.length t2]∧Bk wx (w.heap.size+1) [.slice none 0 0,.slice none 0 0,.slice none 0 0]∧DrawC wx w1.heap.size (.slice p0 c.vars.length t0) (.slice p1 c.arrays.length t1) (.slice p2 c.list.length t2) c.vars.length c.arrays.length c.list.length∧(∀ q,OwnB (.slice p0 c.vars.length t0) (.slice p1 c.arrays.length t1) (.slice p2 c.list.length t2) q→¬q=b5)∧w1.heap.size≤b5∧Rnd wx B g p∧Chg (fun q=>q=g) w wx∧w1.heap.size≤wx.heap.size)
 case first =>
  have x3:=Lib.hid (fun W' (hW:Below w1.heap.size w1 W')=>h7.below hW)
  have dC:=Lib.hid (fun W' (hW:Below w1.heap.size w1 W')=>Bk.below x6 hW)
  have b9:=Lib.hid (And.intro hR hC)
  have oE:w.heap.size+1 < w1.heap.size:=Bk.lt x6 (show 0 < 3 by decide)
  have jE:=Bk.cell s6 0 (v:=.slice a0 c.vars.length c0) rfl
  have kE:=Bk.cell s6 1 (v:=.slice a1 c.arrays.length c1) rfl
  have lE:=Bk.cell s6 2 (v:=.slice a2 c.list.length c2) rfl
  have fC:=hC.size;clear hR hC h7 iR s6 x6 iC jC
  have i0:Hid (∀ W',Below w1.heap.size w1 W'→W'.cell? ⟨w.heap.size,0,none⟩=some (.slice a0 c.vars.length c0)∧W'.cell? ⟨w.heap.size,1,none⟩=some (.slice a1 c.arrays.length c1)∧W'.cell? ⟨w.heap.size,2,none⟩=some (.slice a2 c.list.length c2)):=Lib.hid (fun W' hW=>⟨Kc hW jE,Kc hW kE,Kc hW lE⟩)
  refine wp_region_noPanic ?_
  refine wp_region_held_drew (S:=(fun W'=>W'.cell? ⟨w.heap.size,0,none⟩=some (.slice a0 c.vars.length c0)∧W'.cell? ⟨w.heap.size,1,none⟩=some (.slice a1 c.arrays.length c1)∧W'.cell? ⟨w.heap.size,2,none⟩=some (.slice a2 c.list.length c2))) (by kernel_rfl) (i0.out _ (Below.drew (Bs w1))) (fun _=>?_)
  have p6:Below w1.heap.size w1 (World.drew w1):=Below.drew (Bs _)
  generalize World.drew w1=wd at p6 ⊢
  refine name_H (fun T hT A0 hA=>?_)
  have k1:Hid (∀ (b0:Nat) (p3:Option Addr) (t3:Nat) (b4:Nat) (p7:Option Addr) (t7:Nat) (b8:Nat) (d1:Option Addr) (e1:Nat) (e0:Nat) (w':World),Below w1.heap.size w1 w'→RowSet w' w1.heap.size [Rv c p3 t3,Ry c p7 t7,Rl c d1 e1,Rb e0 [.slice p3 c.vars.length t3,.slice p7 c.arrays.length t7,.slice d1 c.list.length e1]]→T 0 #[true,true,true,true,true,true,true,true,true,true,true,true,true,true,true] (Act.put (Act.put (Act.put (Act.put (Act.put (Act.put (Act.put (Act.put (Act.put (Act.put (Act.put (Act.put (Act.put (Act.put A0 (some 7) (.slice (some ⟨b0,0,none⟩) 0 0)) (some 8) (.pointer (some ⟨w.heap.size,0,none⟩))) (some 9) (.slice a0 c.vars.length c0)) (some 10) (.slice p3 c.vars.length t3)) (some 11) (.slice (some ⟨b4,0,none⟩) 0 0)) (some 12) (.pointer (some ⟨w.heap.size,1,none⟩))) (some 13) (.slice a1 c.arrays.length c1)) (some 14) (.slice p7 c.arrays.length t7)) (some 15) (.slice (some ⟨b8,0,none⟩) 0 0)) (some 16) (.pointer (some ⟨w.heap.size,2,none⟩))) (some 17) (.slice a2 c.list.length c2)) (some 18) (.slice d1 c.list.length e1)) (some 19) (.agg #[.slice p3 c.vars.length t3,.slice p7 c.arrays.length t7,.slice d1 c.list.length e1])) (some 5) (.pointer (some ⟨e0,0,none⟩))) w'):=by
   refine Lib.hid ?_
   intro b0 p3 t3 b4 p7 t7 b8 d1 e1 e0 w' d0 rs
   have m1:=d0.size
   have hHeld:=i0.out _ d0
   have r0:=hT.out;subst r0;have q0:=hA.out;subst q0;clear hT hA
   change wpAnyH _ _ _ _ _ 0 _ _ _
   try simp only [Ep]
   refine Dn ?_
   clear hHeld
   have o0:=rs.own (Rv c p3 t3:RowK) (by simp)
   have o1:=rs.own (Ry c p7 t7:RowK) (by simp)
   have o2:=rs.own (Rl c d1 e1:RowK) (by simp)
   have a9:=rs.own (Rb e0 [.slice p3 c.vars.length t3,.slice p7 c.arrays.length t7,.slice d1 c.list.length e1]:RowK) (by simp)
   have c9:=(a9.lt e0 rfl).1
   have g0:DrawC w' w1.heap.size (.slice p3 c.vars.length t3) (.slice p7 c.arrays.length t7) (.slice d1 c.list.length e1) c.vars.length c.arrays.length c.list.length:=DrawC.of ⟨o0,o1,o2,rs.dj (Rv c p3 t3:RowK) (by simp) (Ry c p7 t7:RowK) (by simp) (by simp)⟩
   have v7:∀ q,OwnB (.slice p3 c.vars.length t3) (.slice p7 c.arrays.length t7) (.slice d1 c.list.length e1) q→¬q=e0:=fun q h e=>by rcases h with h | h | h;(exact rs.dj (Rv c p3 t3:RowK) (by simp) (Rb e0 [.slice p3 c.vars.length t3,.slice p7 c.arrays.length t7,.slice d1 c.list.length e1]:RowK) (by simp) (by simp) q h (by rw [e];rfl));(exact rs.dj (Ry c p7 t7:RowK) (by simp) (Rb e0 [.slice p3 c.vars.length t3,.slice p7 c.arrays.length t7,.slice d1 c.list.length e1]:RowK) (by simp) (by simp) q h (by rw [e];rfl));(exact rs.dj (Rl c d1 e1:RowK) (by simp) (Rb e0 [.slice p3 c.vars.length t3,.slice p7 c.arrays.length t7,.slice d1 c.list.length e1]:RowK) (by simp) (by simp) q h (by rw [e];rfl))
   go_wp2_with fail
   go_meet
   exact ⟨_,_,_,_,_,_,_,rfl,Bk.of_own a9,dC.out _ d0,g0,v7,c9,b9.out.1.below d0,b9.out.2.trans (Chg.of_below d0),d0.size⟩
  have l1:Hid (∀ (b0:Nat) (p3:Option Addr) (t3:Nat) (b4:Nat) (p7:Option Addr) (t7:Nat) (b8:Nat) (d1:Option Addr) (e1:Nat) (e0:Nat) (w':World),Below w1.heap.size w1 w'→RowSet w' w1.heap.size [Rv c p3 t3,Ry c p7 t7,Rl c d1 e1,Rb e0 [.slice none 0 0,.slice none 0 0,.slice none 0 0]]→T 1 #[true,true,true,true,true,true,true,true,true,true,true,true,true,true,false] (Act.put (Act.put (Act.put (Act.put (Act.put (Act.put (Act.put (Act.put (Act.put (Act.put (Act.put (Act.put (Act.put (Act.put A0 (some 7) (.slice (some ⟨b0,0,none⟩) 0 0)) (some 8) (.pointer (some ⟨w.heap.size,0,none⟩))) (some 9) (.slice a0 c.vars.length c0)) (some 10) (.slice p3 c.vars.length t3)) (some 11) (.slice (some ⟨b4,0,none⟩) 0 0)) (some 12) (.pointer (some ⟨w.heap.size,1,none⟩))) (some 13) (.slice a1 c.arrays.length c1)) (some 14) (.slice p7 c.arrays.length t7)) (some 15) (.slice (some ⟨b8,0,none⟩) 0 0)) (some 16) (.pointer (some ⟨w.heap.size,2,none⟩))) (some 17) (.slice a2 c.list.length c2)) (some 18) (.slice d1 c.list.length e1)) (some 19) (.agg #[.slice p3 c.vars.length t3,.slice p7 c.arrays.length t7,.slice d1 c.list.length e1])) (some 5) (.pointer (some ⟨e0,0,none⟩))) w'):=by
   refine Lib.hid ?_
   intro b0 p3 t3 b4 p7 t7 b8 d1 e1 e0 w' d0 rs
   have m1:=d0.size
   have hHeld:=i0.out _ d0
   have r0:=hT.out;subst r0;have q0:=hA.out;subst q0;clear hT hA
   change wpAnyH _ _ _ _ _ 1 _ _ _
   try simp only [Ep]
   refine Rdy 14 rfl (fun K hK=>?_)
   have HO:=rs.own (Rb e0 [.slice none 0 0,.slice none 0 0,.slice none 0 0]:RowK) (Mt (Mt (Mt Mh)))
   have t6:w1.heap.size≤e0:=(HO.lt e0 rfl).1
   have kb:=Lc ((Bk.of_own HO).cell 0 rfl)
   have x0:=(Bk.of_own HO).cell 0 (v:=.slice none 0 0) rfl;have f0:=(Bk.of_own HO).froz 0 (show 0 < 3 by decide)
   have x1:=(Bk.of_own HO).cell 1 (v:=.slice none 0 0) rfl;have f1:=(Bk.of_own HO).froz 1 (show 1 < 3 by decide)
   have x2:=(Bk.of_own HO).cell 2 (v:=.slice none 0 0) rfl;have f2:=(Bk.of_own HO).froz 2 (show 2 < 3 by decide)
   go_simp
   have s8:RowSet _ w1.heap.size [Rv c p3 t3,Ry c p7 t7,Rl c d1 e1,Rb e0 [.slice p3 c.vars.length t3,.slice none 0 0,.slice none 0 0]]:=RowSet.sub (RowSet.set rs (Rb e0 [.slice none 0 0,.slice none 0 0,.slice none 0 0]:RowK) (Mt (Mt (Mt Mh))) rfl rfl 0 (.slice p3 c.vars.length t3) (l':=[Rv c p3 t3,Ry c p7 t7,Rl c d1 e1]) (oth_cons Mh (show (0:Nat)≠13 by decide) (oth_cons (Mt Mh) (show (4:Nat)≠13 by decide) (oth_cons (Mt (Mt Mh)) (show (8:Nat)≠13 by decide) oth_nil)))) (Sb (Mt Mh) (Sb (Mt (Mt Mh)) (Sb (Mt (Mt (Mt Mh))) (Sb Mh sub_nil))))
   have t8:RowSet _ w1.heap.size [Rv c p3 t3,Ry c p7 t7,Rl c d1 e1,Rb e0 [.slice p3 c.vars.length t3,.slice p7 c.arrays.length t7,.slice none 0 0]]:=RowSet.sub (RowSet.set s8 (Rb e0 [.slice p3 c.vars.length t3,.slice none 0 0,.slice none 0 0]:RowK) (Mt (Mt (Mt Mh))) rfl rfl 1 (.slice p7 c.arrays.length t7) (l':=[Rv c p3 t3,Ry c p7 t7,Rl c d1 e1]) (oth_cons Mh (show (0:Nat)≠13 by decide) (oth_cons (Mt Mh) (show (4:Nat)≠13 by decide) (oth_cons (Mt (Mt Mh)) (show (8:Nat)≠13 by decide) oth_nil)))) (Sb (Mt Mh) (Sb (Mt (Mt Mh)) (Sb (Mt (Mt (Mt Mh))) (Sb Mh sub_nil))))
   have u8:RowSet _ w1.heap.size [Rv c p3 t3,Ry c p7 t7,Rl c d1 e1,Rb e0 [.slice p3 c.vars.length t3,.slice p7 c.arrays.length t7,.slice d1 c.list.length e1]]:=RowSet.sub (RowSet.set t8 (Rb e0 [.slice p3 c.vars.length t3,.slice p7 c.arrays.length t7,.slice none 0 0]:RowK) (Mt (Mt (Mt Mh))) rfl rfl 2 (.slice d1 c.list.length e1) (l':=[Rv c p3 t3,Ry c p7 t7,Rl c d1 e1]) (oth_cons Mh (show (0:Nat)≠13 by decide) (oth_cons (Mt Mh) (show (4:Nat)≠13 by decide) (oth_cons (Mt (Mt Mh)) (show (8:Nat)≠13 by decide) oth_nil)))) (Sb (Mt Mh) (Sb (Mt (Mt Mh)) (Sb (Mt (Mt (Mt Mh))) (Sb Mh sub_nil))))
   clear HO kb x0 f0 x1 f1 x2 f2
   refine hK.out _ _ (i0.out _ (bst (bst (bst d0 e0 0 t6 (.slice p3 c.vars.length t3)) e0 1 t6 (.slice p7 c.arrays.length t7)) e0 2 t6 (.slice d1 c.list.length e1))) (fun hHeld=>?_)
   clear hK K
   try simp only [Ep]
   have hM:=k1.out b0 p3 t3 b4 p7 t7 b8 d1 e1 e0 _ (bst (bst (bst d0 e0 0 t6 (.slice p3 c.vars.length t3)) e0 1 t6 (.slice p7 c.arrays.length t7)) e0 2 t6 (.slice d1 c.list.length e1)) u8
   try simp only [Ep] at hM
   exact hM
  have v1:Hid (∀ (b0:Nat) (p3:Option Addr) (t3:Nat) (b4:Nat) (p7:Option Addr) (t7:Nat) (b8:Nat) (d1:Option Addr) (e1:Nat) (w':World),Below w1.heap.size w1 w'→RowSet w' w1.heap.size [Rv c p3 t3,Ry c p7 t7,Rl c d1 e1]→T 2 #[true,true,true,true,true,true,true,true,true,true,true,true,true,false,false] (Act.put (Act.put (Act.put (Act.put (Act.put (Act.put (Act.put (Act.put (Act.put (Act.put (Act.put (Act.put (Act.put A0 (some 7) (.slice (some ⟨b0,0,none⟩) 0 0)) (some 8) (.pointer (some ⟨w.heap.size,0,none⟩))) (some 9) (.slice a0 c.vars.length c0)) (some 10) (.slice p3 c.vars.length t3)) (some 11) (.slice (some ⟨b4,0,none⟩) 0 0)) (some 12) (.pointer (some ⟨w.heap.size,1,none⟩))) (some 13) (.slice a1 c.arrays.length c1)) (some 14) (.slice p7 c.arrays.length t7)) (some 15) (.slice (some ⟨b8,0,none⟩) 0 0)) (some 16) (.pointer (some ⟨w.heap.size,2,none⟩))) (some 17) (.slice a2 c.list.length c2)) (some 18) (.slice d1 c.list.length e1)) (some 19) (.agg #[.slice p3 c.vars.length t3,.slice p7 c.arrays.length t7,.slice d1 c.list.length e1])) w'):=by
   clear k1
   refine Lib.hid ?_
   intro b0 p3 t3 b4 p7 t7 b8 d1 e1 w' d0 rs
   have m1:=d0.size
   have hHeld:=i0.out _ d0
   have r0:=hT.out;subst r0;have q0:=hA.out;subst q0;clear hT hA
   change wpAnyH _ _ _ _ _ 2 _ _ _
   try simp only [Ep]
   refine Rdy 13 rfl (fun K hK=>?_)
   go_simp
   refine hK.out _ _ (i0.out _ (bal d0 _)) (fun hHeld=>?_)
   clear hK K
   try simp only [Ep]
   have hM:=l1.out b0 p3 t3 b4 p7 t7 b8 d1 e1 w'.heap.size _ (bal d0 _) (RowSet.sub (RowSet.lit rs 13 26 3 #[.slice none 0 0,.slice none 0 0,.slice none 0 0] 1 (by omega) (by unfold maxLen;omega) (by simp)) (Sb (Mt Mh) (Sb (Mt (Mt Mh)) (Sb (Mt (Mt (Mt Mh))) (Sb Mh sub_nil)))))
   try simp only [Ep] at hM
   exact hM
  have e2:Hid (∀ (b0:Nat) (p3:Option Addr) (t3:Nat) (b4:Nat) (p7:Option Addr) (t7:Nat) (b8:Nat) (e0:Nat) (w':World),Below w1.heap.size w1 w'→RowSet w' w1.heap.size [Rv c p3 t3,Ry c p7 t7,Rn 8 b8,Rb e0 [.slice none 0 0,.slice none 0 0,.slice none 0 0]]→T 3 #[true,true,true,true,true,true,true,true,true,true,true,false,false,true,false] (Act.put (Act.put (Act.put (Act.put (Act.put (Act.put (Act.put (Act.put (Act.put (Act.put (Act.put (Act.put A0 (some 7) (.slice (some ⟨b0,0,none⟩) 0 0)) (some 8) (.pointer (some ⟨w.heap.size,0,none⟩))) (some 9) (.slice a0 c.vars.length c0)) (some 10) (.slice p3 c.vars.length t3)) (some 11) (.slice (some ⟨b4,0,none⟩) 0 0)) (some 12) (.pointer (some ⟨w.heap.size,1,none⟩))) (some 13) (.slice a1 c.arrays.length c1)) (some 14) (.slice p7 c.arrays.length t7)) (some 15) (.slice (some ⟨b8,0,none⟩) 0 0)) (some 16) (.pointer (some ⟨w.heap.size,2,none⟩))) (some 17) (.slice a2 c.list.length c2)) (some 5) (.pointer (some ⟨e0,0,none⟩))) w'):=by
   clear k1 v1
   refine Lib.hid ?_
   intro b0 p3 t3 b4 p7 t7 b8 e0 w' d0 rs
   have m1:=d0.size
   have hHeld:=i0.out _ d0
   have r0:=hT.out;subst r0;have q0:=hA.out;subst q0;clear hT hA
   change wpAnyH _ _ _ _ _ 3 _ _ _
   try simp only [Ep]
   refine Rdy 11 rfl (fun K hK=>?_)
   have HO:=rs.own (Rn 8 b8:RowK) (Mt (Mt Mh))
   have b1:=fun q hq=>(HO.lt q hq).1
   refine step_aps tInstrs rfl _ _ rfl (w1.heap.size) _ 0 ([]) rfl HO _ (c.list.length) (inss c.list) rfl ((x3.out _ d0).l) (one_inss c.list) (by omega) (by omega) ?_
   intro vA wA oA v0 w0 _
   try simp only [Nat.zero_add,List.nil_append] at oA
   obtain ⟨d1,e1,rfl⟩:=Oh oA
   have j0:=tot_chg d0 v0 b1
   have i1:=RowSet.push rs (Rn 8 b8:RowK) (Mt (Mt Mh)) oA v0 w0 (l':=[Rv c p3 t3,Ry c p7 t7,Rb e0 [.slice none 0 0,.slice none 0 0,.slice none 0 0]]) (oth_cons Mh (show (0:Nat)≠8 by decide) (oth_cons (Mt Mh) (show (4:Nat)≠8 by decide) (oth_cons (Mt (Mt (Mt Mh))) (show (13:Nat)≠8 by decide) oth_nil)))
   clear HO b1 oA v0 w0
   refine hK.out _ _ (i0.out _ j0) (fun hHeld=>?_)
   clear hK K
   try simp only [Ep]
   refine take_d (i:=12) (d:=19) (v:=.agg #[.slice p3 c.vars.length t3,.slice p7 c.arrays.length t7,.slice d1 c.list.length e1]) rfl rfl (by kernel_rfl) (by kernel_rfl) (by kernel_rfl) (fun _ _ _ h=>h) (Or.inl ⟨by rfl,fun W' _=>by kernel_rfl⟩) (by assumption) ?_
   try simp only [Ep]
   have hM:=l1.out b0 p3 t3 b4 p7 t7 b8 d1 e1 e0 _ j0 (RowSet.sub i1 (Sb (Mt Mh) (Sb (Mt (Mt Mh)) (Sb Mh (Sb (Mt (Mt (Mt Mh))) sub_nil)))))
   try simp only [Ep] at hM
   exact hM
  have g2:Hid (∀ (b0:Nat) (p3:Option Addr) (t3:Nat) (b4:Nat) (p7:Option Addr) (t7:Nat) (b8:Nat) (w':World),Below w1.heap.size w1 w'→RowSet w' w1.heap.size [Rv c p3 t3,Ry c p7 t7,Rn 8 b8]→T 4 #[true,true,true,true,true,true,true,true,true,true,true,false,false,false,false] (Act.put (Act.put (Act.put (Act.put (Act.put (Act.put (Act.put (Act.put (Act.put (Act.put (Act.put A0 (some 7) (.slice (some ⟨b0,0,none⟩) 0 0)) (some 8) (.pointer (some ⟨w.heap.size,0,none⟩))) (some 9) (.slice a0 c.vars.length c0)) (some 10) (.slice p3 c.vars.length t3)) (some 11) (.slice (some ⟨b4,0,none⟩) 0 0)) (some 12) (.pointer (some ⟨w.heap.size,1,none⟩))) (some 13) (.slice a1 c.arrays.length c1)) (some 14) (.slice p7 c.arrays.length t7)) (some 15) (.slice (some ⟨b8,0,none⟩) 0 0)) (some 16) (.pointer (some ⟨w.heap.size,2,none⟩))) (some 17) (.slice a2 c.list.length c2)) w'):=by
   clear k1 l1
   refine Lib.hid ?_
   intro b0 p3 t3 b4 p7 t7 b8 w' d0 rs
   have m1:=d0.size
   have hHeld:=i0.out _ d0
   have r0:=hT.out;subst r0;have q0:=hA.out;subst q0;clear hT hA
   change wpAnyH _ _ _ _ _ 4 _ _ _
   try simp only [Ep]
   refine Rdy2 11 13 rfl rfl (fun K hK=>?_) (fun K hK=>?_)
   ·have HO:=rs.own (Rn 8 b8:RowK) (Mt (Mt Mh))
    have b1:=fun q hq=>(HO.lt q hq).1
    refine step_aps tInstrs rfl _ _ rfl (w1.heap.size) _ 0 ([]) rfl HO _ (c.list.length) (inss c.list) rfl ((x3.out _ d0).l) (one_inss c.list) (by omega) (by omega) ?_
    intro vA wA oA v0 w0 _
    try simp only [Nat.zero_add,List.nil_append] at oA
    obtain ⟨d1,e1,rfl⟩:=Oh oA
    have j0:=tot_chg d0 v0 b1
    have i1:=RowSet.push rs (Rn 8 b8:RowK) (Mt (Mt Mh)) oA v0 w0 (l':=[Rv c p3 t3,Ry c p7 t7]) (oth_cons Mh (show (0:Nat)≠8 by decide) (oth_cons (Mt Mh) (show (4:Nat)≠8 by decide) oth_nil))
    clear HO b1 oA v0 w0
    refine hK.out _ _ (i0.out _ j0) (fun hHeld=>?_)
    clear hK K
    try simp only [Ep]
    refine take_d (i:=12) (d:=19) (v:=.agg #[.slice p3 c.vars.length t3,.slice p7 c.arrays.length t7,.slice d1 c.list.length e1]) rfl rfl (by kernel_rfl) (by kernel_rfl) (by kernel_rfl) (fun _ _ _ h=>h) (Or.inl ⟨by rfl,fun W' _=>by kernel_rfl⟩) (by assumption) ?_
    try simp only [Ep]
    have hM:=v1.out b0 p3 t3 b4 p7 t7 b8 d1 e1 _ j0 (RowSet.sub i1 (Sb (Mt Mh) (Sb (Mt (Mt Mh)) (Sb Mh sub_nil))))
    try simp only [Ep] at hM
    exact hM
   go_simp
   refine hK.out _ _ (i0.out _ (bal d0 _)) (fun hHeld=>?_)
   clear hK K
   try simp only [Ep]
   have hM:=e2.out b0 p3 t3 b4 p7 t7 b8 w'.heap.size _ (bal d0 _) (RowSet.sub (RowSet.lit rs 13 26 3 #[.slice none 0 0,.slice none 0 0,.slice none 0 0] 1 (by omega) (by unfold maxLen;omega) (by simp)) (Sb (Mt Mh) (Sb (Mt (Mt Mh)) (Sb (Mt (Mt (Mt Mh))) (Sb Mh sub_nil)))))
   try simp only [Ep] at hM
   exact hM
  have i2:Hid (∀ (b0:Nat) (p3:Option Addr) (t3:Nat) (b4:Nat) (p7:Option Addr) (t7:Nat) (e0:Nat) (w':World),Below w1.heap.size w1 w'→RowSet w' w1.heap.size [Rv c p3 t3,Ry c p7 t7,Rb e0 [.slice none 0 0,.slice none 0 0,.slice none 0 0]]→T 4 #[true,true,true,true,true,true,true,true,false,true,true,false,false,true,false] (Act.put (Act.put (Act.put (Act.put (Act.put (Act.put (Act.put (Act.put (Act.put (Act.put (Act.put A0 (some 7) (.slice (some ⟨b0,0,none⟩) 0 0)) (some 8) (.pointer (some ⟨w.heap.size,0,none⟩))) (some 9) (.slice a0 c.vars.length c0)) (some 10) (.slice p3 c.vars.length t3)) (some 11) (.slice (some ⟨b4,0,none⟩) 0 0)) (some 12) (.pointer (some ⟨w.heap.size,1,none⟩))) (some 13) (.slice a1 c.arrays.length c1)) (some 14) (.slice p7 c.arrays.length t7)) (some 16) (.pointer (some ⟨w.heap.size,2,none⟩))) (some 17) (.slice a2 c.list.length c2)) (some 5) (.pointer (some ⟨e0,0,none⟩))) w'):=by
   clear k1 l1 v1 g2
   refine Lib.hid ?_
   intro b0 p3 t3 b4 p7 t7 e0 w' d0 rs
   have m1:=d0.size
   have hHeld:=i0.out _ d0
   have r0:=hT.out;subst r0;have q0:=hA.out;subst q0;clear hT hA
   change wpAnyH _ _ _ _ _ 4 _ _ _
   try simp only [Ep]
   refine Rdy 8 rfl (fun K hK=>?_)
   go_simp
   refine hK.out _ _ (i0.out _ (bal d0 _)) (fun hHeld=>?_)
   clear hK K
   try simp only [Ep]
   have hM:=e2.out b0 p3 t3 b4 p7 t7 w'.heap.size e0 _ (bal d0 _) (RowSet.sub (RowSet.lit rs 8 32 5 #[] 0 (by omega) (by unfold maxLen;omega) (by simp)) (Sb (Mt Mh) (Sb (Mt (Mt Mh)) (Sb Mh (Sb (Mt (Mt (Mt Mh))) sub_nil)))))
   try simp only [Ep] at hM
   exact hM
  have k2:Hid (∀ (b0:Nat) (p3:Option Addr) (t3:Nat) (b4:Nat) (b8:Nat) (e0:Nat) (w':World),Below w1.heap.size w1 w'→RowSet w' w1.heap.size [Rv c p3 t3,Re 4 b4,Rn 8 b8,Rb e0 [.slice none 0 0,.slice none 0 0,.slice none 0 0]]→T 4 #[true,true,true,true,true,true,true,false,true,true,true,false,false,true,false] (Act.put (Act.put (Act.put (Act.put (Act.put (Act.put (Act.put (Act.put (Act.put (Act.put (Act.put A0 (some 7) (.slice (some ⟨b0,0,none⟩) 0 0)) (some 8) (.pointer (some ⟨w.heap.size,0,none⟩))) (some 9) (.slice a0 c.vars.length c0)) (some 10) (.slice p3 c.vars.length t3)) (some 11) (.slice (some ⟨b4,0,none⟩) 0 0)) (some 12) (.pointer (some ⟨w.heap.size,1,none⟩))) (some 13) (.slice a1 c.arrays.length c1)) (some 15) (.slice (some ⟨b8,0,none⟩) 0 0)) (some 16) (.pointer (some ⟨w.heap.size,2,none⟩))) (some 17) (.slice a2 c.list.length c2)) (some 5) (.pointer (some ⟨e0,0,none⟩))) w'):=by
   clear k1 l1 v1 g2 i2
   refine Lib.hid ?_
   intro b0 p3 t3 b4 b8 e0 w' d0 rs
   have m1:=d0.size
   have hHeld:=i0.out _ d0
   have r0:=hT.out;subst r0;have q0:=hA.out;subst q0;clear hT hA
   change wpAnyH _ _ _ _ _ 4 _ _ _
   try simp only [Ep]
   refine Rdy 7 rfl (fun K hK=>?_)
   have HO:=rs.own (Re 4 b4:RowK) (Mt Mh)
   have b1:=fun q hq=>(HO.lt q hq).1
   refine step_aps tInts rfl _ _ rfl (w1.heap.size) _ 0 ([]) rfl HO _ (c.arrays.length) (ints c.arrays) rfl ((x3.out _ d0).b) (one_ints c.arrays) (by omega) (by omega) ?_
   intro vA wA oA v0 w0 _
   try simp only [Nat.zero_add,List.nil_append] at oA
   obtain ⟨p7,t7,rfl⟩:=Oh oA
   have j0:=tot_chg d0 v0 b1
   have i1:=RowSet.push rs (Re 4 b4:RowK) (Mt Mh) oA v0 w0 (l':=[Rv c p3 t3,Rn 8 b8,Rb e0 [.slice none 0 0,.slice none 0 0,.slice none 0 0]]) (oth_cons Mh (show (0:Nat)≠4 by decide) (oth_cons (Mt (Mt Mh)) (show (8:Nat)≠4 by decide) (oth_cons (Mt (Mt (Mt Mh))) (show (13:Nat)≠4 by decide) oth_nil)))
   clear HO b1 oA v0 w0
   refine hK.out _ _ (i0.out _ j0) (fun hHeld=>?_)
   clear hK K
   try simp only [Ep]
   have hM:=e2.out b0 p3 t3 b4 p7 t7 b8 e0 _ j0 (RowSet.sub i1 (Sb (Mt Mh) (Sb Mh (Sb (Mt (Mt Mh)) (Sb (Mt (Mt (Mt Mh))) sub_nil)))))
   try simp only [Ep] at hM
   exact hM
  have m2:Hid (∀ (b0:Nat) (p3:Option Addr) (t3:Nat) (b4:Nat) (p7:Option Addr) (t7:Nat) (w':World),Below w1.heap.size w1 w'→RowSet w' w1.heap.size [Rv c p3 t3,Ry c p7 t7]→T 5 #[true,true,true,true,true,true,true,true,false,true,true,false,false,false,false] (Act.put (Act.put (Act.put (Act.put (Act.put (Act.put (Act.put (Act.put (Act.put (Act.put A0 (some 7) (.slice (some ⟨b0,0,none⟩) 0 0)) (some 8) (.pointer (some ⟨w.heap.size,0,none⟩))) (some 9) (.slice a0 c.vars.length c0)) (some 10) (.slice p3 c.vars.length t3)) (some 11) (.slice (some ⟨b4,0,none⟩) 0 0)) (some 12) (.pointer (some ⟨w.heap.size,1,none⟩))) (some 13) (.slice a1 c.arrays.length c1)) (some 14) (.slice p7 c.arrays.length t7)) (some 16) (.pointer (some ⟨w.heap.size,2,none⟩))) (some 17) (.slice a2 c.list.length c2)) w'):=by
   clear k1 l1 v1 e2 k2
   refine Lib.hid ?_
   intro b0 p3 t3 b4 p7 t7 w' d0 rs
   have m1:=d0.size
   have hHeld:=i0.out _ d0
   have r0:=hT.out;subst r0;have q0:=hA.out;subst q0;clear hT hA
   change wpAnyH _ _ _ _ _ 5 _ _ _
   try simp only [Ep]
   refine Rdy2 8 13 rfl rfl (fun K hK=>?_) (fun K hK=>?_)
   ·go_simp
    refine hK.out _ _ (i0.out _ (bal d0 _)) (fun hHeld=>?_)
    clear hK K
    try simp only [Ep]
    have hM:=g2.out b0 p3 t3 b4 p7 t7 w'.heap.size _ (bal d0 _) (RowSet.sub (RowSet.lit rs 8 32 5 #[] 0 (by omega) (by unfold maxLen;omega) (by simp)) (Sb (Mt Mh) (Sb (Mt (Mt Mh)) (Sb Mh sub_nil))))
    try simp only [Ep] at hM
    exact hM
   go_simp
   refine hK.out _ _ (i0.out _ (bal d0 _)) (fun hHeld=>?_)
   clear hK K
   try simp only [Ep]
   have hM:=i2.out b0 p3 t3 b4 p7 t7 w'.heap.size _ (bal d0 _) (RowSet.sub (RowSet.lit rs 13 26 3 #[.slice none 0 0,.slice none 0 0,.slice none 0 0] 1 (by omega) (by unfold maxLen;omega) (by simp)) (Sb (Mt Mh) (Sb (Mt (Mt Mh)) (Sb Mh sub_nil))))
   try simp only [Ep] at hM
   exact hM
  have q2:Hid (∀ (b0:Nat) (p3:Option Addr) (t3:Nat) (b4:Nat) (b8:Nat) (w':World),Below w1.heap.size w1 w'→RowSet w' w1.heap.size [Rv c p3 t3,Re 4 b4,Rn 8 b8]→T 5 #[true,true,true,true,true,true,true,false,true,true,true,false,false,false,false] (Act.put (Act.put (Act.put (Act.put (Act.put (Act.put (Act.put (Act.put (Act.put (Act.put A0 (some 7) (.slice (some ⟨b0,0,none⟩) 0 0)) (some 8) (.pointer (some ⟨w.heap.size,0,none⟩))) (some 9) (.slice a0 c.vars.length c0)) (some 10) (.slice p3 c.vars.length t3)) (some 11) (.slice (some ⟨b4,0,none⟩) 0 0)) (some 12) (.pointer (some ⟨w.heap.size,1,none⟩))) (some 13) (.slice a1 c.arrays.length c1)) (some 15) (.slice (some ⟨b8,0,none⟩) 0 0)) (some 16) (.pointer (some ⟨w.heap.size,2,none⟩))) (some 17) (.slice a2 c.list.length c2)) w'):=by
   clear k1 l1 v1 e2 i2 m2
   refine Lib.hid ?_
   intro b0 p3 t3 b4 b8 w' d0 rs
   have m1:=d0.size
   have hHeld:=i0.out _ d0
   have r0:=hT.out;subst r0;have q0:=hA.out;subst q0;clear hT hA
   change wpAnyH _ _ _ _ _ 5 _ _ _
   try simp only [Ep]
   refine Rdy2 7 13 rfl rfl (fun K hK=>?_) (fun K hK=>?_)
   ·have HO:=rs.own (Re 4 b4:RowK) (Mt Mh)
    have b1:=fun q hq=>(HO.lt q hq).1
    refine step_aps tInts rfl _ _ rfl (w1.heap.size) _ 0 ([]) rfl HO _ (c.arrays.length) (ints c.arrays) rfl ((x3.out _ d0).b) (one_ints c.arrays) (by omega) (by omega) ?_
    intro vA wA oA v0 w0 _
    try simp only [Nat.zero_add,List.nil_append] at oA
    obtain ⟨p7,t7,rfl⟩:=Oh oA
    have j0:=tot_chg d0 v0 b1
    have i1:=RowSet.push rs (Re 4 b4:RowK) (Mt Mh) oA v0 w0 (l':=[Rv c p3 t3,Rn 8 b8]) (oth_cons Mh (show (0:Nat)≠4 by decide) (oth_cons (Mt (Mt Mh)) (show (8:Nat)≠4 by decide) oth_nil))
    clear HO b1 oA v0 w0
    refine hK.out _ _ (i0.out _ j0) (fun hHeld=>?_)
    clear hK K
    try simp only [Ep]
    have hM:=g2.out b0 p3 t3 b4 p7 t7 b8 _ j0 (RowSet.sub i1 (Sb (Mt Mh) (Sb Mh (Sb (Mt (Mt Mh)) sub_nil))))
    try simp only [Ep] at hM
    exact hM
   go_simp
   refine hK.out _ _ (i0.out _ (bal d0 _)) (fun hHeld=>?_)
   clear hK K
   try simp only [Ep]
   have hM:=k2.out b0 p3 t3 b4 b8 w'.heap.size _ (bal d0 _) (RowSet.sub (RowSet.lit rs 13 26 3 #[.slice none 0 0,.slice none 0 0,.slice none 0 0] 1 (by omega) (by unfold maxLen;omega) (by simp)) (Sb (Mt Mh) (Sb (Mt (Mt Mh)) (Sb (Mt (Mt (Mt Mh))) (Sb Mh sub_nil)))))
   try simp only [Ep] at hM
   exact hM
  have a3:Hid (∀ (b0:Nat) (p3:Option Addr) (t3:Nat) (b4:Nat) (e0:Nat) (w':World),Below w1.heap.size w1 w'→RowSet w' w1.heap.size [Rv c p3 t3,Re 4 b4,Rb e0 [.slice none 0 0,.slice none 0 0,.slice none 0 0]]→T 5 #[true,true,true,true,true,true,true,false,false,true,true,false,false,true,false] (Act.put (Act.put (Act.put (Act.put (Act.put (Act.put (Act.put (Act.put (Act.put (Act.put A0 (some 7) (.slice (some ⟨b0,0,none⟩) 0 0)) (some 8) (.pointer (some ⟨w.heap.size,0,none⟩))) (some 9) (.slice a0 c.vars.length c0)) (some 10) (.slice p3 c.vars.length t3)) (some 11) (.slice (some ⟨b4,0,none⟩) 0 0)) (some 12) (.pointer (some ⟨w.heap.size,1,none⟩))) (some 13) (.slice a1 c.arrays.length c1)) (some 16) (.pointer (some ⟨w.heap.size,2,none⟩))) (some 17) (.slice a2 c.list.length c2)) (some 5) (.pointer (some ⟨e0,0,none⟩))) w'):=by
   clear k1 l1 v1 e2 g2 m2 q2
   refine Lib.hid ?_
   intro b0 p3 t3 b4 e0 w' d0 rs
   have m1:=d0.size
   have hHeld:=i0.out _ d0
   have r0:=hT.out;subst r0;have q0:=hA.out;subst q0;clear hT hA
   change wpAnyH _ _ _ _ _ 5 _ _ _
   try simp only [Ep]
   refine Rdy2 7 8 rfl rfl (fun K hK=>?_) (fun K hK=>?_)
   ·have HO:=rs.own (Re 4 b4:RowK) (Mt Mh)
    have b1:=fun q hq=>(HO.lt q hq).1
    refine step_aps tInts rfl _ _ rfl (w1.heap.size) _ 0 ([]) rfl HO _ (c.arrays.length) (ints c.arrays) rfl ((x3.out _ d0).b) (one_ints c.arrays) (by omega) (by omega) ?_
    intro vA wA oA v0 w0 _
    try simp only [Nat.zero_add,List.nil_append] at oA
    obtain ⟨p7,t7,rfl⟩:=Oh oA
    have j0:=tot_chg d0 v0 b1
    have i1:=RowSet.push rs (Re 4 b4:RowK) (Mt Mh) oA v0 w0 (l':=[Rv c p3 t3,Rb e0 [.slice none 0 0,.slice none 0 0,.slice none 0 0]]) (oth_cons Mh (show (0:Nat)≠4 by decide) (oth_cons (Mt (Mt Mh)) (show (13:Nat)≠4 by decide) oth_nil))
    clear HO b1 oA v0 w0
    refine hK.out _ _ (i0.out _ j0) (fun hHeld=>?_)
    clear hK K
    try simp only [Ep]
    have hM:=i2.out b0 p3 t3 b4 p7 t7 e0 _ j0 (RowSet.sub i1 (Sb (Mt Mh) (Sb Mh (Sb (Mt (Mt Mh)) sub_nil))))
    try simp only [Ep] at hM
    exact hM
   go_simp
   refine hK.out _ _ (i0.out _ (bal d0 _)) (fun hHeld=>?_)
   clear hK K
   try simp only [Ep]
   have hM:=k2.out b0 p3 t3 b4 w'.heap.size e0 _ (bal d0 _) (RowSet.sub (RowSet.lit rs 8 32 5 #[] 0 (by omega) (by unfold maxLen;omega) (by simp)) (Sb (Mt Mh) (Sb (Mt (Mt Mh)) (Sb Mh (Sb (Mt (Mt (Mt Mh))) sub_nil)))))
   try simp only [Ep] at hM
   exact hM
  have b3:Hid (∀ (b0:Nat) (p3:Option Addr) (t3:Nat) (b8:Nat) (e0:Nat) (w':World),Below w1.heap.size w1 w'→RowSet w' w1.heap.size [Rv c p3 t3,Rn 8 b8,Rb e0 [.slice none 0 0,.slice none 0 0,.slice none 0 0]]→T 5 #[true,true,true,true,false,true,true,false,true,true,true,false,false,true,false] (Act.put (Act.put (Act.put (Act.put (Act.put (Act.put (Act.put (Act.put (Act.put (Act.put A0 (some 7) (.slice (some ⟨b0,0,none⟩) 0 0)) (some 8) (.pointer (some ⟨w.heap.size,0,none⟩))) (some 9) (.slice a0 c.vars.length c0)) (some 10) (.slice p3 c.vars.length t3)) (some 12) (.pointer (some ⟨w.heap.size,1,none⟩))) (some 13) (.slice a1 c.arrays.length c1)) (some 15) (.slice (some ⟨b8,0,none⟩) 0 0)) (some 16) (.pointer (some ⟨w.heap.size,2,none⟩))) (some 17) (.slice a2 c.list.length c2)) (some 5) (.pointer (some ⟨e0,0,none⟩))) w'):=by
   clear k1 l1 v1 e2 g2 i2 m2 q2 a3
   refine Lib.hid ?_
   intro b0 p3 t3 b8 e0 w' d0 rs
   have m1:=d0.size
   have hHeld:=i0.out _ d0
   have r0:=hT.out;subst r0;have q0:=hA.out;subst q0;clear hT hA
   change wpAnyH _ _ _ _ _ 5 _ _ _
   try simp only [Ep]
   refine Rdy 4 rfl (fun K hK=>?_)
   go_simp
   refine hK.out _ _ (i0.out _ (bal d0 _)) (fun hHeld=>?_)
   clear hK K
   try simp only [Ep]
   have hM:=k2.out b0 p3 t3 w'.heap.size b8 e0 _ (bal d0 _) (RowSet.sub (RowSet.lit rs 4 3 1 #[] 0 (by omega) (by unfold maxLen;omega) (by simp)) (Sb (Mt Mh) (Sb Mh (Sb (Mt (Mt Mh)) (Sb (Mt (Mt (Mt Mh))) sub_nil)))))
   try simp only [Ep] at hM
   exact hM
  have c3:Hid (∀ (b0:Nat) (b4:Nat) (b8:Nat) (e0:Nat) (w':World),Below w1.heap.size w1 w'→RowSet w' w1.heap.size [Re 0 b0,Re 4 b4,Rn 8 b8,Rb e0 [.slice none 0 0,.slice none 0 0,.slice none 0 0]]→T 5 #[true,true,true,false,true,true,true,false,true,true,true,false,false,true,false] (Act.put (Act.put (Act.put (Act.put (Act.put (Act.put (Act.put (Act.put (Act.put (Act.put A0 (some 7) (.slice (some ⟨b0,0,none⟩) 0 0)) (some 8) (.pointer (some ⟨w.heap.size,0,none⟩))) (some 9) (.slice a0 c.vars.length c0)) (some 11) (.slice (some ⟨b4,0,none⟩) 0 0)) (some 12) (.pointer (some ⟨w.heap.size,1,none⟩))) (some 13) (.slice a1 c.arrays.length c1)) (some 15) (.slice (some ⟨b8,0,none⟩) 0 0)) (some 16) (.pointer (some ⟨w.heap.size,2,none⟩))) (some 17) (.slice a2 c.list.length c2)) (some 5) (.pointer (some ⟨e0,0,none⟩))) w'):=by
   clear k1 l1 v1 e2 g2 i2 m2 q2 a3 b3
   refine Lib.hid ?_
   intro b0 b4 b8 e0 w' d0 rs
   have m1:=d0.size
   have hHeld:=i0.out _ d0
   have r0:=hT.out;subst r0;have q0:=hA.out;subst q0;clear hT hA
   change wpAnyH _ _ _ _ _ 5 _ _ _
   try simp only [Ep]
   refine Rdy 3 rfl (fun K hK=>?_)
   have HO:=rs.own (Re 0 b0:RowK) Mh
   have b1:=fun q hq=>(HO.lt q hq).1
   refine step_aps tInts rfl _ _ rfl (w1.heap.size) _ 0 ([]) rfl HO _ (c.vars.length) (ints c.vars) rfl ((x3.out _ d0).a) (one_ints c.vars) (by omega) (by omega) ?_
   intro vA wA oA v0 w0 _
   try simp only [Nat.zero_add,List.nil_append] at oA
   obtain ⟨p3,t3,rfl⟩:=Oh oA
   have j0:=tot_chg d0 v0 b1
   have i1:=RowSet.push rs (Re 0 b0:RowK) Mh oA v0 w0 (l':=[Re 4 b4,Rn 8 b8,Rb e0 [.slice none 0 0,.slice none 0 0,.slice none 0 0]]) (oth_cons (Mt Mh) (show (4:Nat)≠0 by decide) (oth_cons (Mt (Mt Mh)) (show (8:Nat)≠0 by decide) (oth_cons (Mt (Mt (Mt Mh))) (show (13:Nat)≠0 by decide) oth_nil)))
   clear HO b1 oA v0 w0
   refine hK.out _ _ (i0.out _ j0) (fun hHeld=>?_)
   clear hK K
   try simp only [Ep]
   have hM:=k2.out b0 p3 t3 b4 b8 e0 _ j0 (RowSet.sub i1 (Sb Mh (Sb (Mt Mh) (Sb (Mt (Mt Mh)) (Sb (Mt (Mt (Mt Mh))) sub_nil)))))
   try simp only [Ep] at hM
   exact hM
  have e3:Hid (∀ (b0:Nat) (p3:Option Addr) (t3:Nat) (b4:Nat) (w':World),Below w1.heap.size w1 w'→RowSet w' w1.heap.size [Rv c p3 t3,Re 4 b4]→T 6 #[true,true,true,true,true,true,true,false,false,true,true,false,false,false,false] (Act.put (Act.put (Act.put (Act.put (Act.put (Act.put (Act.put (Act.put (Act.put A0 (some 7) (.slice (some ⟨b0,0,none⟩) 0 0)) (some 8) (.pointer (some ⟨w.heap.size,0,none⟩))) (some 9) (.slice a0 c.vars.length c0)) (some 10) (.slice p3 c.vars.length t3)) (some 11) (.slice (some ⟨b4,0,none⟩) 0 0)) (some 12) (.pointer (some ⟨w.heap.size,1,none⟩))) (some 13) (.slice a1 c.arrays.length c1)) (some 16) (.pointer (some ⟨w.heap.size,2,none⟩))) (some 17) (.slice a2 c.list.length c2)) w'):=by
   clear k1 l1 v1 e2 g2 i2 k2 b3 c3
   refine Lib.hid ?_
   intro b0 p3 t3 b4 w' d0 rs
   have m1:=d0.size
   have hHeld:=i0.out _ d0
   have r0:=hT.out;subst r0;have q0:=hA.out;subst q0;clear hT hA
   change wpAnyH _ _ _ _ _ 6 _ _ _
   try simp only [Ep]
   refine Rdy3 7 8 13 rfl rfl rfl (fun K hK=>?_) (fun K hK=>?_) (fun K hK=>?_)
   ·have HO:=rs.own (Re 4 b4:RowK) (Mt Mh)
    have b1:=fun q hq=>(HO.lt q hq).1
    refine step_aps tInts rfl _ _ rfl (w1.heap.size) _ 0 ([]) rfl HO _ (c.arrays.length) (ints c.arrays) rfl ((x3.out _ d0).b) (one_ints c.arrays) (by omega) (by omega) ?_
    intro vA wA oA v0 w0 _
    try simp only [Nat.zero_add,List.nil_append] at oA
    obtain ⟨p7,t7,rfl⟩:=Oh oA
    have j0:=tot_chg d0 v0 b1
    have i1:=RowSet.push rs (Re 4 b4:RowK) (Mt Mh) oA v0 w0 (l':=[Rv c p3 t3]) (oth_cons Mh (show (0:Nat)≠4 by decide) oth_nil)
    clear HO b1 oA v0 w0
    refine hK.out _ _ (i0.out _ j0) (fun hHeld=>?_)
    clear hK K
    try simp only [Ep]
    have hM:=m2.out b0 p3 t3 b4 p7 t7 _ j0 (RowSet.sub i1 (Sb (Mt Mh) (Sb Mh sub_nil)))
    try simp only [Ep] at hM
    exact hM
   ·go_simp
    refine hK.out _ _ (i0.out _ (bal d0 _)) (fun hHeld=>?_)
    clear hK K
    try simp only [Ep]
    have hM:=q2.out b0 p3 t3 b4 w'.heap.size _ (bal d0 _) (RowSet.sub (RowSet.lit rs 8 32 5 #[] 0 (by omega) (by unfold maxLen;omega) (by simp)) (Sb (Mt Mh) (Sb (Mt (Mt Mh)) (Sb Mh sub_nil))))
    try simp only [Ep] at hM
    exact hM
   go_simp
   refine hK.out _ _ (i0.out _ (bal d0 _)) (fun hHeld=>?_)
   clear hK K
   try simp only [Ep]
   have hM:=a3.out b0 p3 t3 b4 w'.heap.size _ (bal d0 _) (RowSet.sub (RowSet.lit rs 13 26 3 #[.slice none 0 0,.slice none 0 0,.slice none 0 0] 1 (by omega) (by unfold maxLen;omega) (by simp)) (Sb (Mt Mh) (Sb (Mt (Mt Mh)) (Sb Mh sub_nil))))
   try simp only [Ep] at hM
   exact hM
  have l3:Hid (∀ (b0:Nat) (p3:Option Addr) (t3:Nat) (b8:Nat) (w':World),Below w1.heap.size w1 w'→RowSet w' w1.heap.size [Rv c p3 t3,Rn 8 b8]→T 6 #[true,true,true,true,false,true,true,false,true,true,true,false,false,false,false] (Act.put (Act.put (Act.put (Act.put (Act.put (Act.put (Act.put (Act.put (Act.put A0 (some 7) (.slice (some ⟨b0,0,none⟩) 0 0)) (some 8) (.pointer (some ⟨w.heap.size,0,none⟩))) (some 9) (.slice a0 c.vars.length c0)) (some 10) (.slice p3 c.vars.length t3)) (some 12) (.pointer (some ⟨w.heap.size,1,none⟩))) (some 13) (.slice a1 c.arrays.length c1)) (some 15) (.slice (some ⟨b8,0,none⟩) 0 0)) (some 16) (.pointer (some ⟨w.heap.size,2,none⟩))) (some 17) (.slice a2 c.list.length c2)) w'):=by
   clear k1 l1 v1 e2 g2 i2 k2 m2 a3 c3 e3
   refine Lib.hid ?_
   intro b0 p3 t3 b8 w' d0 rs
   have m1:=d0.size
   have hHeld:=i0.out _ d0
   have r0:=hT.out;subst r0;have q0:=hA.out;subst q0;clear hT hA
   change wpAnyH _ _ _ _ _ 6 _ _ _
   try simp only [Ep]
   refine Rdy2 4 13 rfl rfl (fun K hK=>?_) (fun K hK=>?_)
   ·go_simp
    refine hK.out _ _ (i0.out _ (bal d0 _)) (fun hHeld=>?_)
    clear hK K
    try simp only [Ep]
    have hM:=q2.out b0 p3 t3 w'.heap.size b8 _ (bal d0 _) (RowSet.sub (RowSet.lit rs 4 3 1 #[] 0 (by omega) (by unfold maxLen;omega) (by simp)) (Sb (Mt Mh) (Sb Mh (Sb (Mt (Mt Mh)) sub_nil))))
    try simp only [Ep] at hM
    exact hM
   go_simp
   refine hK.out _ _ (i0.out _ (bal d0 _)) (fun hHeld=>?_)
   clear hK K
   try simp only [Ep]
   have hM:=b3.out b0 p3 t3 b8 w'.heap.size _ (bal d0 _) (RowSet.sub (RowSet.lit rs 13 26 3 #[.slice none 0 0,.slice none 0 0,.slice none 0 0] 1 (by omega) (by unfold maxLen;omega) (by simp)) (Sb (Mt Mh) (Sb (Mt (Mt Mh)) (Sb Mh sub_nil))))
   try simp only [Ep] at hM
   exact hM
  have m3:Hid (∀ (b0:Nat) (p3:Option Addr) (t3:Nat) (e0:Nat) (w':World),Below w1.heap.size w1 w'→RowSet w' w1.heap.size [Rv c p3 t3,Rb e0 [.slice none 0 0,.slice none 0 0,.slice none 0 0]]→T 6 #[true,true,true,true,false,true,true,false,false,true,true,false,false,true,false] (Act.put (Act.put (Act.put (Act.put (Act.put (Act.put (Act.put (Act.put (Act.put A0 (some 7) (.slice (some ⟨b0,0,none⟩) 0 0)) (some 8) (.pointer (some ⟨w.heap.size,0,none⟩))) (some 9) (.slice a0 c.vars.length c0)) (some 10) (.slice p3 c.vars.length t3)) (some 12) (.pointer (some ⟨w.heap.size,1,none⟩))) (some 13) (.slice a1 c.arrays.length c1)) (some 16) (.pointer (some ⟨w.heap.size,2,none⟩))) (some 17) (.slice a2 c.list.length c2)) (some 5) (.pointer (some ⟨e0,0,none⟩))) w'):=by
   clear k1 l1 v1 e2 g2 i2 k2 m2 q2 c3 e3 l3
   refine Lib.hid ?_
   intro b0 p3 t3 e0 w' d0 rs
   have m1:=d0.size
   have hHeld:=i0.out _ d0
   have r0:=hT.out;subst r0;have q0:=hA.out;subst q0;clear hT hA
   change wpAnyH _ _ _ _ _ 6 _ _ _
   try simp only [Ep]
   refine Rdy2 4 8 rfl rfl (fun K hK=>?_) (fun K hK=>?_)
   ·go_simp
    refine hK.out _ _ (i0.out _ (bal d0 _)) (fun hHeld=>?_)
    clear hK K
    try simp only [Ep]
    have hM:=a3.out b0 p3 t3 w'.heap.size e0 _ (bal d0 _) (RowSet.sub (RowSet.lit rs 4 3 1 #[] 0 (by omega) (by unfold maxLen;omega) (by simp)) (Sb (Mt Mh) (Sb Mh (Sb (Mt (Mt Mh)) sub_nil))))
    try simp only [Ep] at hM
    exact hM
   go_simp
   refine hK.out _ _ (i0.out _ (bal d0 _)) (fun hHeld=>?_)
   clear hK K
   try simp only [Ep]
   have hM:=b3.out b0 p3 t3 w'.heap.size e0 _ (bal d0 _) (RowSet.sub (RowSet.lit rs 8 32 5 #[] 0 (by omega) (by unfold maxLen;omega) (by simp)) (Sb (Mt Mh) (Sb Mh (Sb (Mt (Mt Mh)) sub_nil))))
   try simp only [Ep] at hM
   exact hM
  have r3:Hid (∀ (b0:Nat) (b4:Nat) (b8:Nat) (w':World),Below w1.heap.size w1 w'→RowSet w' w1.heap.size [Re 0 b0,Re 4 b4,Rn 8 b8]→T 6 #[true,true,true,false,true,true,true,false,true,true,true,false,false,false,false] (Act.put (Act.put (Act.put (Act.put (Act.put (Act.put (Act.put (Act.put (Act.put A0 (some 7) (.slice (some ⟨b0,0,none⟩) 0 0)) (some 8) (.pointer (some ⟨w.heap.size,0,none⟩))) (some 9) (.slice a0 c.vars.length c0)) (some 11) (.slice (some ⟨b4,0,none⟩) 0 0)) (some 12) (.pointer (some ⟨w.heap.size,1,none⟩))) (some 13) (.slice a1 c.arrays.length c1)) (some 15) (.slice (some ⟨b8,0,none⟩) 0 0)) (some 16) (.pointer (some ⟨w.heap.size,2,none⟩))) (some 17) (.slice a2 c.list.length c2)) w'):=by
   clear k1 l1 v1 e2 g2 i2 k2 m2 a3 b3 e3 l3 m3
   refine Lib.hid ?_
   intro b0 b4 b8 w' d0 rs
   have m1:=d0.size
   have hHeld:=i0.out _ d0
   have r0:=hT.out;subst r0;have q0:=hA.out;subst q0;clear hT hA
   change wpAnyH _ _ _ _ _ 6 _ _ _
   try simp only [Ep]
   refine Rdy2 3 13 rfl rfl (fun K hK=>?_) (fun K hK=>?_)
   ·have HO:=rs.own (Re 0 b0:RowK) Mh
    have b1:=fun q hq=>(HO.lt q hq).1
    refine step_aps tInts rfl _ _ rfl (w1.heap.size) _ 0 ([]) rfl HO _ (c.vars.length) (ints c.vars) rfl ((x3.out _ d0).a) (one_ints c.vars) (by omega) (by omega) ?_
    intro vA wA oA v0 w0 _
    try simp only [Nat.zero_add,List.nil_append] at oA
    obtain ⟨p3,t3,rfl⟩:=Oh oA
    have j0:=tot_chg d0 v0 b1
    have i1:=RowSet.push rs (Re 0 b0:RowK) Mh oA v0 w0 (l':=[Re 4 b4,Rn 8 b8]) (oth_cons (Mt Mh) (show (4:Nat)≠0 by decide) (oth_cons (Mt (Mt Mh)) (show (8:Nat)≠0 by decide) oth_nil))
    clear HO b1 oA v0 w0
    refine hK.out _ _ (i0.out _ j0) (fun hHeld=>?_)
    clear hK K
    try simp only [Ep]
    have hM:=q2.out b0 p3 t3 b4 b8 _ j0 (RowSet.sub i1 (Sb Mh (Sb (Mt Mh) (Sb (Mt (Mt Mh)) sub_nil))))
    try simp only [Ep] at hM
    exact hM
   go_simp
   refine hK.out _ _ (i0.out _ (bal d0 _)) (fun hHeld=>?_)
   clear hK K
   try simp only [Ep]
   have hM:=c3.out b0 b4 b8 w'.heap.size _ (bal d0 _) (RowSet.sub (RowSet.lit rs 13 26 3 #[.slice none 0 0,.slice none 0 0,.slice none 0 0] 1 (by omega) (by unfold maxLen;omega) (by simp)) (Sb (Mt Mh) (Sb (Mt (Mt Mh)) (Sb (Mt (Mt (Mt Mh))) (Sb Mh sub_nil)))))
   try simp only [Ep] at hM
   exact hM
  have s3:Hid (∀ (b0:Nat) (b4:Nat) (e0:Nat) (w':World),Below w1.heap.size w1 w'→RowSet w' w1.heap.size [Re 0 b0,Re 4 b4,Rb e0 [.slice none 0 0,.slice none 0 0,.slice none 0 0]]→T 6 #[true,true,true,false,true,true,true,false,false,true,true,false,false,true,false] (Act.put (Act.put (Act.put (Act.put (Act.put (Act.put (Act.put (Act.put (Act.put A0 (some 7) (.slice (some ⟨b0,0,none⟩) 0 0)) (some 8) (.pointer (some ⟨w.heap.size,0,none⟩))) (some 9) (.slice a0 c.vars.length c0)) (some 11) (.slice (some ⟨b4,0,none⟩) 0 0)) (some 12) (.pointer (some ⟨w.heap.size,1,none⟩))) (some 13) (.slice a1 c.arrays.length c1)) (some 16) (.pointer (some ⟨w.heap.size,2,none⟩))) (some 17) (.slice a2 c.list.length c2)) (some 5) (.pointer (some ⟨e0,0,none⟩))) w'):=by
   clear k1 l1 v1 e2 g2 i2 k2 m2 q2 b3 e3 l3 m3 r3
   refine Lib.hid ?_
   intro b0 b4 e0 w' d0 rs
   have m1:=d0.size
   have hHeld:=i0.out _ d0
   have r0:=hT.out;subst r0;have q0:=hA.out;subst q0;clear hT hA
   change wpAnyH _ _ _ _ _ 6 _ _ _
   try simp only [Ep]
   refine Rdy2 3 8 rfl rfl (fun K hK=>?_) (fun K hK=>?_)
   ·have HO:=rs.own (Re 0 b0:RowK) Mh
    have b1:=fun q hq=>(HO.lt q hq).1
    refine step_aps tInts rfl _ _ rfl (w1.heap.size) _ 0 ([]) rfl HO _ (c.vars.length) (ints c.vars) rfl ((x3.out _ d0).a) (one_ints c.vars) (by omega) (by omega) ?_
    intro vA wA oA v0 w0 _
    try simp only [Nat.zero_add,List.nil_append] at oA
    obtain ⟨p3,t3,rfl⟩:=Oh oA
    have j0:=tot_chg d0 v0 b1
    have i1:=RowSet.push rs (Re 0 b0:RowK) Mh oA v0 w0 (l':=[Re 4 b4,Rb e0 [.slice none 0 0,.slice none 0 0,.slice none 0 0]]) (oth_cons (Mt Mh) (show (4:Nat)≠0 by decide) (oth_cons (Mt (Mt Mh)) (show (13:Nat)≠0 by decide) oth_nil))
    clear HO b1 oA v0 w0
    refine hK.out _ _ (i0.out _ j0) (fun hHeld=>?_)
    clear hK K
    try simp only [Ep]
    have hM:=a3.out b0 p3 t3 b4 e0 _ j0 (RowSet.sub i1 (Sb Mh (Sb (Mt Mh) (Sb (Mt (Mt Mh)) sub_nil))))
    try simp only [Ep] at hM
    exact hM
   go_simp
   refine hK.out _ _ (i0.out _ (bal d0 _)) (fun hHeld=>?_)
   clear hK K
   try simp only [Ep]
   have hM:=c3.out b0 b4 w'.heap.size e0 _ (bal d0 _) (RowSet.sub (RowSet.lit rs 8 32 5 #[] 0 (by omega) (by unfold maxLen;omega) (by simp)) (Sb (Mt Mh) (Sb (Mt (Mt Mh)) (Sb Mh (Sb (Mt (Mt (Mt Mh))) sub_nil)))))
   try simp only [Ep] at hM
   exact hM
  have y3:Hid (∀ (b0:Nat) (b8:Nat) (e0:Nat) (w':World),Below w1.heap.size w1 w'→RowSet w' w1.heap.size [Re 0 b0,Rn 8 b8,Rb e0 [.slice none 0 0,.slice none 0 0,.slice none 0 0]]→T 6 #[true,true,true,false,false,true,true,false,true,true,true,false,false,true,false] (Act.put (Act.put (Act.put (Act.put (Act.put (Act.put (Act.put (Act.put (Act.put A0 (some 7) (.slice (some ⟨b0,0,none⟩) 0 0)) (some 8) (.pointer (some ⟨w.heap.size,0,none⟩))) (some 9) (.slice a0 c.vars.length c0)) (some 12) (.pointer (some ⟨w.heap.size,1,none⟩))) (some 13) (.slice a1 c.arrays.length c1)) (some 15) (.slice (some ⟨b8,0,none⟩) 0 0)) (some 16) (.pointer (some ⟨w.heap.size,2,none⟩))) (some 17) (.slice a2 c.list.length c2)) (some 5) (.pointer (some ⟨e0,0,none⟩))) w'):=by
   clear k1 l1 v1 e2 g2 i2 k2 m2 q2 a3 e3 l3 m3 r3 s3
   refine Lib.hid ?_
   intro b0 b8 e0 w' d0 rs
   have m1:=d0.size
   have hHeld:=i0.out _ d0
   have r0:=hT.out;subst r0;have q0:=hA.out;subst q0;clear hT hA
   change wpAnyH _ _ _ _ _ 6 _ _ _
   try simp only [Ep]
   refine Rdy2 3 4 rfl rfl (fun K hK=>?_) (fun K hK=>?_)
   ·have HO:=rs.own (Re 0 b0:RowK) Mh
    have b1:=fun q hq=>(HO.lt q hq).1
    refine step_aps tInts rfl _ _ rfl (w1.heap.size) _ 0 ([]) rfl HO _ (c.vars.length) (ints c.vars) rfl ((x3.out _ d0).a) (one_ints c.vars) (by omega) (by omega) ?_
    intro vA wA oA v0 w0 _
    try simp only [Nat.zero_add,List.nil_append] at oA
    obtain ⟨p3,t3,rfl⟩:=Oh oA
    have j0:=tot_chg d0 v0 b1
    have i1:=RowSet.push rs (Re 0 b0:RowK) Mh oA v0 w0 (l':=[Rn 8 b8,Rb e0 [.slice none 0 0,.slice none 0 0,.slice none 0 0]]) (oth_cons (Mt Mh) (show (8:Nat)≠0 by decide) (oth_cons (Mt (Mt Mh)) (show (13:Nat)≠0 by decide) oth_nil))
    clear HO b1 oA v0 w0
    refine hK.out _ _ (i0.out _ j0) (fun hHeld=>?_)
    clear hK K
    try simp only [Ep]
    have hM:=b3.out b0 p3 t3 b8 e0 _ j0 (RowSet.sub i1 (Sb Mh (Sb (Mt Mh) (Sb (Mt (Mt Mh)) sub_nil))))
    try simp only [Ep] at hM
    exact hM
   go_simp
   refine hK.out _ _ (i0.out _ (bal d0 _)) (fun hHeld=>?_)
   clear hK K
   try simp only [Ep]
   have hM:=c3.out b0 w'.heap.size b8 e0 _ (bal d0 _) (RowSet.sub (RowSet.lit rs 4 3 1 #[] 0 (by omega) (by unfold maxLen;omega) (by simp)) (Sb (Mt Mh) (Sb Mh (Sb (Mt (Mt Mh)) (Sb (Mt (Mt (Mt Mh))) sub_nil)))))
   try simp only [Ep] at hM
   exact hM
  have c4:Hid (∀ (b4:Nat) (b8:Nat) (e0:Nat) (w':World),Below w1.heap.size w1 w'→RowSet w' w1.heap.size [Re 4 b4,Rn 8 b8,Rb e0 [.slice none 0 0,.slice none 0 0,.slice none 0 0]]→T 6 #[false,true,true,false,true,true,true,false,true,true,true,false,false,true,false] (Act.put (Act.put (Act.put (Act.put (Act.put (Act.put (Act.put (Act.put (Act.put A0 (some 8) (.pointer (some ⟨w.heap.size,0,none⟩))) (some 9) (.slice a0 c.vars.length c0)) (some 11) (.slice (some ⟨b4,0,none⟩) 0 0)) (some 12) (.pointer (some ⟨w.heap.size,1,none⟩))) (some 13) (.slice a1 c.arrays.length c1)) (some 15) (.slice (some ⟨b8,0,none⟩) 0 0)) (some 16) (.pointer (some ⟨w.heap.size,2,none⟩))) (some 17) (.slice a2 c.list.length c2)) (some 5) (.pointer (some ⟨e0,0,none⟩))) w'):=by
   clear k1 l1 v1 e2 g2 i2 k2 m2 q2 a3 b3 e3 l3 m3 r3 s3 y3
   refine Lib.hid ?_
   intro b4 b8 e0 w' d0 rs
   have m1:=d0.size
   have hHeld:=i0.out _ d0
   have r0:=hT.out;subst r0;have q0:=hA.out;subst q0;clear hT hA
   change wpAnyH _ _ _ _ _ 6 _ _ _
   try simp only [Ep]
   refine Rdy 0 rfl (fun K hK=>?_)
   go_simp
   refine hK.out _ _ (i0.out _ (bal d0 _)) (fun hHeld=>?_)
   clear hK K
   try simp only [Ep]
   have hM:=c3.out w'.heap.size b4 b8 e0 _ (bal d0 _) (RowSet.sub (RowSet.lit rs 0 3 1 #[] 0 (by omega) (by unfold maxLen;omega) (by simp)) (Sb Mh (Sb (Mt Mh) (Sb (Mt (Mt Mh)) (Sb (Mt (Mt (Mt Mh))) sub_nil)))))
   try simp only [Ep] at hM
   exact hM
  have M5:Hid (∀ (b0:Nat) (p3:Option Addr) (t3:Nat) (w':World),Below w1.heap.size w1 w'→RowSet w' w1.heap.size [Rv c p3 t3]→T 7 #[true,true,true,true,false,true,true,false,false,true,true,false,false,false,false] (Act.put (Act.put (Act.put (Act.put (Act.put (Act.put (Act.put (Act.put A0 (some 7) (.slice (some ⟨b0,0,none⟩) 0 0)) (some 8) (.pointer (some ⟨w.heap.size,0,none⟩))) (some 9) (.slice a0 c.vars.length c0)) (some 10) (.slice p3 c.vars.length t3)) (some 12) (.pointer (some ⟨w.heap.size,1,none⟩))) (some 13) (.slice a1 c.arrays.length c1)) (some 16) (.pointer (some ⟨w.heap.size,2,none⟩))) (some 17) (.slice a2 c.list.length c2)) w'):=by
   clear k1 l1 v1 e2 g2 i2 k2 m2 q2 a3 b3 c3 r3 s3 y3 c4
   refine Lib.hid ?_
   intro b0 p3 t3 w' d0 rs
   have m1:=d0.size
   have hHeld:=i0.out _ d0
   have r0:=hT.out;subst r0;have q0:=hA.out;subst q0;clear hT hA
   change wpAnyH _ _ _ _ _ 7 _ _ _
   try simp only [Ep]
   refine Rdy3 4 8 13 rfl rfl rfl (fun K hK=>?_) (fun K hK=>?_) (fun K hK=>?_)
   ·go_simp
    refine hK.out _ _ (i0.out _ (bal d0 _)) (fun hHeld=>?_)
    clear hK K
    try simp only [Ep]
    have hM:=e3.out b0 p3 t3 w'.heap.size _ (bal d0 _) (RowSet.sub (RowSet.lit rs 4 3 1 #[] 0 (by omega) (by unfold maxLen;omega) (by simp)) (Sb (Mt Mh) (Sb Mh sub_nil)))
    try simp only [Ep] at hM
    exact hM
   ·go_simp
    refine hK.out _ _ (i0.out _ (bal d0 _)) (fun hHeld=>?_)
    clear hK K
    try simp only [Ep]
    have hM:=l3.out b0 p3 t3 w'.heap.size _ (bal d0 _) (RowSet.sub (RowSet.lit rs 8 32 5 #[] 0 (by omega) (by unfold maxLen;omega) (by simp)) (Sb (Mt Mh) (Sb Mh sub_nil)))
    try simp only [Ep] at hM
    exact hM
   go_simp
   refine hK.out _ _ (i0.out _ (bal d0 _)) (fun hHeld=>?_)
   clear hK K
   try simp only [Ep]
   have hM:=m3.out b0 p3 t3 w'.heap.size _ (bal d0 _) (RowSet.sub (RowSet.lit rs 13 26 3 #[.slice none 0 0,.slice none 0 0,.slice none 0 0] 1 (by omega) (by unfold maxLen;omega) (by simp)) (Sb (Mt Mh) (Sb Mh sub_nil)))
   try simp only [Ep] at hM
   exact hM
  have M6:Hid (∀ (b0:Nat) (b4:Nat) (w':World),Below w1.heap.size w1 w'→RowSet w' w1.heap.size [Re 0 b0,Re 4 b4]→T 7 #[true,true,true,false,true,true,true,false,false,true,true,false,false,false,false] (Act.put (Act.put (Act.put (Act.put (Act.put (Act.put (Act.put (Act.put A0 (some 7) (.slice (some ⟨b0,0,none⟩) 0 0)) (some 8) (.pointer (some ⟨w.heap.size,0,none⟩))) (some 9) (.slice a0 c.vars.length c0)) (some 11) (.slice (some ⟨b4,0,none⟩) 0 0)) (some 12) (.pointer (some ⟨w.heap.size,1,none⟩))) (some 13) (.slice a1 c.arrays.length c1)) (some 16) (.pointer (some ⟨w.heap.size,2,none⟩))) (some 17) (.slice a2 c.list.length c2)) w'):=by
   clear k1 l1 v1 e2 g2 i2 k2 m2 q2 a3 b3 c3 l3 m3 y3 c4 M5
   refine Lib.hid ?_
   intro b0 b4 w' d0 rs
   have m1:=d0.size
   have hHeld:=i0.out _ d0
   have r0:=hT.out;subst r0;have q0:=hA.out;subst q0;clear hT hA
   change wpAnyH _ _ _ _ _ 7 _ _ _
   try simp only [Ep]
   refine Rdy3 3 8 13 rfl rfl rfl (fun K hK=>?_) (fun K hK=>?_) (fun K hK=>?_)
   ·have HO:=rs.own (Re 0 b0:RowK) Mh
    have b1:=fun q hq=>(HO.lt q hq).1
    refine step_aps tInts rfl _ _ rfl (w1.heap.size) _ 0 ([]) rfl HO _ (c.vars.length) (ints c.vars) rfl ((x3.out _ d0).a) (one_ints c.vars) (by omega) (by omega) ?_
    intro vA wA oA v0 w0 _
    try simp only [Nat.zero_add,List.nil_append] at oA
    obtain ⟨p3,t3,rfl⟩:=Oh oA
    have j0:=tot_chg d0 v0 b1
    have i1:=RowSet.push rs (Re 0 b0:RowK) Mh oA v0 w0 (l':=[Re 4 b4]) (oth_cons (Mt Mh) (show (4:Nat)≠0 by decide) oth_nil)
    clear HO b1 oA v0 w0
    refine hK.out _ _ (i0.out _ j0) (fun hHeld=>?_)
    clear hK K
    try simp only [Ep]
    have hM:=e3.out b0 p3 t3 b4 _ j0 (RowSet.sub i1 (Sb Mh (Sb (Mt Mh) sub_nil)))
    try simp only [Ep] at hM
    exact hM
   ·go_simp
    refine hK.out _ _ (i0.out _ (bal d0 _)) (fun hHeld=>?_)
    clear hK K
    try simp only [Ep]
    have hM:=r3.out b0 b4 w'.heap.size _ (bal d0 _) (RowSet.sub (RowSet.lit rs 8 32 5 #[] 0 (by omega) (by unfold maxLen;omega) (by simp)) (Sb (Mt Mh) (Sb (Mt (Mt Mh)) (Sb Mh sub_nil))))
    try simp only [Ep] at hM
    exact hM
   go_simp
   refine hK.out _ _ (i0.out _ (bal d0 _)) (fun hHeld=>?_)
   clear hK K
   try simp only [Ep]
   have hM:=s3.out b0 b4 w'.heap.size _ (bal d0 _) (RowSet.sub (RowSet.lit rs 13 26 3 #[.slice none 0 0,.slice none 0 0,.slice none 0 0] 1 (by omega) (by unfold maxLen;omega) (by simp)) (Sb (Mt Mh) (Sb (Mt (Mt Mh)) (Sb Mh sub_nil))))
   try simp only [Ep] at hM
   exact hM
  have M7:Hid (∀ (b0:Nat) (b8:Nat) (w':World),Below w1.heap.size w1 w'→RowSet w' w1.heap.size [Re 0 b0,Rn 8 b8]→T 7 #[true,true,true,false,false,true,true,false,true,true,true,false,false,false,false] (Act.put (Act.put (Act.put (Act.put (Act.put (Act.put (Act.put (Act.put A0 (some 7) (.slice (some ⟨b0,0,none⟩) 0 0)) (some 8) (.pointer (some ⟨w.heap.size,0,none⟩))) (some 9) (.slice a0 c.vars.length c0)) (some 12) (.pointer (some ⟨w.heap.size,1,none⟩))) (some 13) (.slice a1 c.arrays.length c1)) (some 15) (.slice (some ⟨b8,0,none⟩) 0 0)) (some 16) (.pointer (some ⟨w.heap.size,2,none⟩))) (some 17) (.slice a2 c.list.length c2)) w'):=by
   clear k1 l1 v1 e2 g2 i2 k2 m2 q2 a3 b3 c3 e3 m3 s3 c4 M5 M6
   refine Lib.hid ?_
   intro b0 b8 w' d0 rs
   have m1:=d0.size
   have hHeld:=i0.out _ d0
   have r0:=hT.out;subst r0;have q0:=hA.out;subst q0;clear hT hA
   change wpAnyH _ _ _ _ _ 7 _ _ _
   try simp only [Ep]
   refine Rdy3 3 4 13 rfl rfl rfl (fun K hK=>?_) (fun K hK=>?_) (fun K hK=>?_)
   ·have HO:=rs.own (Re 0 b0:RowK) Mh
    have b1:=fun q hq=>(HO.lt q hq).1
    refine step_aps tInts rfl _ _ rfl (w1.heap.size) _ 0 ([]) rfl HO _ (c.vars.length) (ints c.vars) rfl ((x3.out _ d0).a) (one_ints c.vars) (by omega) (by omega) ?_
    intro vA wA oA v0 w0 _
    try simp only [Nat.zero_add,List.nil_append] at oA
    obtain ⟨p3,t3,rfl⟩:=Oh oA
    have j0:=tot_chg d0 v0 b1
    have i1:=RowSet.push rs (Re 0 b0:RowK) Mh oA v0 w0 (l':=[Rn 8 b8]) (oth_cons (Mt Mh) (show (8:Nat)≠0 by decide) oth_nil)
    clear HO b1 oA v0 w0
    refine hK.out _ _ (i0.out _ j0) (fun hHeld=>?_)
    clear hK K
    try simp only [Ep]
    have hM:=l3.out b0 p3 t3 b8 _ j0 (RowSet.sub i1 (Sb Mh (Sb (Mt Mh) sub_nil)))
    try simp only [Ep] at hM
    exact hM
   ·go_simp
    refine hK.out _ _ (i0.out _ (bal d0 _)) (fun hHeld=>?_)
    clear hK K
    try simp only [Ep]
    have hM:=r3.out b0 w'.heap.size b8 _ (bal d0 _) (RowSet.sub (RowSet.lit rs 4 3 1 #[] 0 (by omega) (by unfold maxLen;omega) (by simp)) (Sb (Mt Mh) (Sb Mh (Sb (Mt (Mt Mh)) sub_nil))))
    try simp only [Ep] at hM
    exact hM
   go_simp
   refine hK.out _ _ (i0.out _ (bal d0 _)) (fun hHeld=>?_)
   clear hK K
   try simp only [Ep]
   have hM:=y3.out b0 b8 w'.heap.size _ (bal d0 _) (RowSet.sub (RowSet.lit rs 13 26 3 #[.slice none 0 0,.slice none 0 0,.slice none 0 0] 1 (by omega) (by unfold maxLen;omega) (by simp)) (Sb (Mt Mh) (Sb (Mt (Mt Mh)) (Sb Mh sub_nil))))
   try simp only [Ep] at hM
   exact hM
  have M8:Hid (∀ (b0:Nat) (e0:Nat) (w':World),Below w1.heap.size w1 w'→RowSet w' w1.heap.size [Re 0 b0,Rb e0 [.slice none 0 0,.slice none 0 0,.slice none 0 0]]→T 7 #[true,true,true,false,false,true,true,false,false,true,true,false,false,true,false] (Act.put (Act.put (Act.put (Act.put (Act.put (Act.put (Act.put (Act.put A0 (some 7) (.slice (some ⟨b0,0,none⟩) 0 0)) (some 8) (.pointer (some ⟨w.heap.size,0,none⟩))) (some 9) (.slice a0 c.vars.length c0)) (some 12) (.pointer (some ⟨w.heap.size,1,none⟩))) (some 13) (.slice a1 c.arrays.length c1)) (some 16) (.pointer (some ⟨w.heap.size,2,none⟩))) (some 17) (.slice a2 c.list.length c2)) (some 5) (.pointer (some ⟨e0,0,none⟩))) w'):=by
   clear k1 l1 v1 e2 g2 i2 k2 m2 q2 a3 b3 c3 e3 l3 r3 c4 M5 M6 M7
   refine Lib.hid ?_
   intro b0 e0 w' d0 rs
   have m1:=d0.size
   have hHeld:=i0.out _ d0
   have r0:=hT.out;subst r0;have q0:=hA.out;subst q0;clear hT hA
   change wpAnyH _ _ _ _ _ 7 _ _ _
   try simp only [Ep]
   refine Rdy3 3 4 8 rfl rfl rfl (fun K hK=>?_) (fun K hK=>?_) (fun K hK=>?_)
   ·have HO:=rs.own (Re 0 b0:RowK) Mh
    have b1:=fun q hq=>(HO.lt q hq).1
    refine step_aps tInts rfl _ _ rfl (w1.heap.size) _ 0 ([]) rfl HO _ (c.vars.length) (ints c.vars) rfl ((x3.out _ d0).a) (one_ints c.vars) (by omega) (by omega) ?_
    intro vA wA oA v0 w0 _
    try simp only [Nat.zero_add,List.nil_append] at oA
    obtain ⟨p3,t3,rfl⟩:=Oh oA
    have j0:=tot_chg d0 v0 b1
    have i1:=RowSet.push rs (Re 0 b0:RowK) Mh oA v0 w0 (l':=[Rb e0 [.slice none 0 0,.slice none 0 0,.slice none 0 0]]) (oth_cons (Mt Mh) (show (13:Nat)≠0 by decide) oth_nil)
    clear HO b1 oA v0 w0
    refine hK.out _ _ (i0.out _ j0) (fun hHeld=>?_)
    clear hK K
    try simp only [Ep]
    have hM:=m3.out b0 p3 t3 e0 _ j0 (RowSet.sub i1 (Sb Mh (Sb (Mt Mh) sub_nil)))
    try simp only [Ep] at hM
    exact hM
   ·go_simp
    refine hK.out _ _ (i0.out _ (bal d0 _)) (fun hHeld=>?_)
    clear hK K
    try simp only [Ep]
    have hM:=s3.out b0 w'.heap.size e0 _ (bal d0 _) (RowSet.sub (RowSet.lit rs 4 3 1 #[] 0 (by omega) (by unfold maxLen;omega) (by simp)) (Sb (Mt Mh) (Sb Mh (Sb (Mt (Mt Mh)) sub_nil))))
    try simp only [Ep] at hM
    exact hM
   go_simp
   refine hK.out _ _ (i0.out _ (bal d0 _)) (fun hHeld=>?_)
   clear hK K
   try simp only [Ep]
   have hM:=y3.out b0 w'.heap.size e0 _ (bal d0 _) (RowSet.sub (RowSet.lit rs 8 32 5 #[] 0 (by omega) (by unfold maxLen;omega) (by simp)) (Sb (Mt Mh) (Sb Mh (Sb (Mt (Mt Mh)) sub_nil))))
   try simp only [Ep] at hM
   exact hM
  have M9:Hid (∀ (b4:Nat) (b8:Nat) (w':World),Below w1.heap.size w1 w'→RowSet w' w1.heap.size [Re 4 b4,Rn 8 b8]→T 7 #[false,true,true,false,true,true,true,false,true,true,true,false,false,false,false] (Act.put (Act.put (Act.put (Act.put (Act.put (Act.put (Act.put (Act.put A0 (some 8) (.pointer (some ⟨w.heap.size,0,none⟩))) (some 9) (.slice a0 c.vars.length c0)) (some 11) (.slice (some ⟨b4,0,none⟩) 0 0)) (some 12) (.pointer (some ⟨w.heap.size,1,none⟩))) (some 13) (.slice a1 c.arrays.length c1)) (some 15) (.slice (some ⟨b8,0,none⟩) 0 0)) (some 16) (.pointer (some ⟨w.heap.size,2,none⟩))) (some 17) (.slice a2 c.list.length c2)) w'):=by
   clear k1 l1 v1 e2 g2 i2 k2 m2 q2 a3 b3 c3 e3 l3 m3 s3 y3 M5 M6 M7 M8
   refine Lib.hid ?_
   intro b4 b8 w' d0 rs
   have m1:=d0.size
   have hHeld:=i0.out _ d0
   have r0:=hT.out;subst r0;have q0:=hA.out;subst q0;clear hT hA
   change wpAnyH _ _ _ _ _ 7 _ _ _
   try simp only [Ep]
   refine Rdy2 0 13 rfl rfl (fun K hK=>?_) (fun K hK=>?_)
   ·go_simp
    refine hK.out _ _ (i0.out _ (bal d0 _)) (fun hHeld=>?_)
    clear hK K
    try simp only [Ep]
    have hM:=r3.out w'.heap.size b4 b8 _ (bal d0 _) (RowSet.sub (RowSet.lit rs 0 3 1 #[] 0 (by omega) (by unfold maxLen;omega) (by simp)) (Sb Mh (Sb (Mt Mh) (Sb (Mt (Mt Mh)) sub_nil))))
    try simp only [Ep] at hM
    exact hM
   go_simp
   refine hK.out _ _ (i0.out _ (bal d0 _)) (fun hHeld=>?_)
   clear hK K
   try simp only [Ep]
   have hM:=c4.out b4 b8 w'.heap.size _ (bal d0 _) (RowSet.sub (RowSet.lit rs 13 26 3 #[.slice none 0 0,.slice none 0 0,.slice none 0 0] 1 (by omega) (by unfold maxLen;omega) (by simp)) (Sb (Mt Mh) (Sb (Mt (Mt Mh)) (Sb Mh sub_nil))))
   try simp only [Ep] at hM
   exact hM
  have f6:Hid (∀ (b4:Nat) (e0:Nat) (w':World),Below w1.heap.size w1 w'→RowSet w' w1.heap.size [Re 4 b4,Rb e0 [.slice none 0 0,.slice none 0 0,.slice none 0 0]]→T 7 #[false,true,true,false,true,true,true,false,false,true,true,false,false,true,false] (Act.put (Act.put (Act.put (Act.put (Act.put (Act.put (Act.put (Act.put A0 (some 8) (.pointer (some ⟨w.heap.size,0,none⟩))) (some 9) (.slice a0 c.vars.length c0)) (some 11) (.slice (some ⟨b4,0,none⟩) 0 0)) (some 12) (.pointer (some ⟨w.heap.size,1,none⟩))) (some 13) (.slice a1 c.arrays.length c1)) (some 16) (.pointer (some ⟨w.heap.size,2,none⟩))) (some 17) (.slice a2 c.list.length c2)) (some 5) (.pointer (some ⟨e0,0,none⟩))) w'):=by
   clear k1 l1 v1 e2 g2 i2 k2 m2 q2 a3 b3 c3 e3 l3 m3 r3 y3 M5 M6 M7 M8 M9
   refine Lib.hid ?_
   intro b4 e0 w' d0 rs
   have m1:=d0.size
   have hHeld:=i0.out _ d0
   have r0:=hT.out;subst r0;have q0:=hA.out;subst q0;clear hT hA
   change wpAnyH _ _ _ _ _ 7 _ _ _
   try simp only [Ep]
   refine Rdy2 0 8 rfl rfl (fun K hK=>?_) (fun K hK=>?_)
   ·go_simp
    refine hK.out _ _ (i0.out _ (bal d0 _)) (fun hHeld=>?_)
    clear hK K
    try simp only [Ep]
    have hM:=s3.out w'.heap.size b4 e0 _ (bal d0 _) (RowSet.sub (RowSet.lit rs 0 3 1 #[] 0 (by omega) (by unfold maxLen;omega) (by simp)) (Sb Mh (Sb (Mt Mh) (Sb (Mt (Mt Mh)) sub_nil))))
    try simp only [Ep] at hM
    exact hM
   go_simp
   refine hK.out _ _ (i0.out _ (bal d0 _)) (fun hHeld=>?_)
   clear hK K
   try simp only [Ep]
   have hM:=c4.out b4 w'.heap.size e0 _ (bal d0 _) (RowSet.sub (RowSet.lit rs 8 32 5 #[] 0 (by omega) (by unfold maxLen;omega) (by simp)) (Sb (Mt Mh) (Sb Mh (Sb (Mt (Mt Mh)) sub_nil))))
   try simp only [Ep] at hM
   exact hM
  have r6:Hid (∀ (b8:Nat) (e0:Nat) (w':World),Below w1.heap.size w1 w'→RowSet w' w1.heap.size [Rn 8 b8,Rb e0 [.slice none 0 0,.slice none 0 0,.slice none 0 0]]→T 7 #[false,true,true,false,false,true,true,false,true,true,true,false,false,true,false] (Act.put (Act.put (Act.put (Act.put (Act.put (Act.put (Act.put (Act.put A0 (some 8) (.pointer (some ⟨w.heap.size,0,none⟩))) (some 9) (.slice a0 c.vars.length c0)) (some 12) (.pointer (some ⟨w.heap.size,1,none⟩))) (some 13) (.slice a1 c.arrays.length c1)) (some 15) (.slice (some ⟨b8,0,none⟩) 0 0)) (some 16) (.pointer (some ⟨w.heap.size,2,none⟩))) (some 17) (.slice a2 c.list.length c2)) (some 5) (.pointer (some ⟨e0,0,none⟩))) w'):=by
   clear k1 l1 v1 e2 g2 i2 k2 m2 q2 a3 b3 c3 e3 l3 m3 r3 s3 M5 M6 M7 M8 M9 f6
   refine Lib.hid ?_
   intro b8 e0 w' d0 rs
   have m1:=d0.size
   have hHeld:=i0.out _ d0
   have r0:=hT.out;subst r0;have q0:=hA.out;subst q0;clear hT hA
   change wpAnyH _ _ _ _ _ 7 _ _ _
   try simp only [Ep]
   refine Rdy2 0 4 rfl rfl (fun K hK=>?_) (fun K hK=>?_)
   ·go_simp
    refine hK.out _ _ (i0.out _ (bal d0 _)) (fun hHeld=>?_)
    clear hK K
    try simp only [Ep]
    have hM:=y3.out w'.heap.size b8 e0 _ (bal d0 _) (RowSet.sub (RowSet.lit rs 0 3 1 #[] 0 (by omega) (by unfold maxLen;omega) (by simp)) (Sb Mh (Sb (Mt Mh) (Sb (Mt (Mt Mh)) sub_nil))))
    try simp only [Ep] at hM
    exact hM
   go_simp
   refine hK.out _ _ (i0.out _ (bal d0 _)) (fun hHeld=>?_)
   clear hK K
   try simp only [Ep]
   have hM:=c4.out w'.heap.size b8 e0 _ (bal d0 _) (RowSet.sub (RowSet.lit rs 4 3 1 #[] 0 (by omega) (by unfold maxLen;omega) (by simp)) (Sb Mh (Sb (Mt Mh) (Sb (Mt (Mt Mh)) sub_nil))))
   try simp only [Ep] at hM
   exact hM
  have M1:Hid (∀ (b0:Nat) (w':World),Below w1.heap.size w1 w'→RowSet w' w1.heap.size [Re 0 b0]→T 8 #[true,true,true,false,false,true,true,false,false,true,true,false,false,false,false] (Act.put (Act.put (Act.put (Act.put (Act.put (Act.put (Act.put A0 (some 7) (.slice (some ⟨b0,0,none⟩) 0 0)) (some 8) (.pointer (some ⟨w.heap.size,0,none⟩))) (some 9) (.slice a0 c.vars.length c0)) (some 12) (.pointer (some ⟨w.heap.size,1,none⟩))) (some 13) (.slice a1 c.arrays.length c1)) (some 16) (.pointer (some ⟨w.heap.size,2,none⟩))) (some 17) (.slice a2 c.list.length c2)) w'):=by
   clear k1 l1 v1 e2 g2 i2 k2 m2 q2 a3 b3 c3 e3 l3 m3 r3 s3 y3 c4 M9 f6 r6
   refine Lib.hid ?_
   intro b0 w' d0 rs
   have m1:=d0.size
   have hHeld:=i0.out _ d0
   have r0:=hT.out;subst r0;have q0:=hA.out;subst q0;clear hT hA
   change wpAnyH _ _ _ _ _ 8 _ _ _
   try simp only [Ep]
   refine Rdy4 3 4 8 13 rfl rfl rfl rfl (fun K hK=>?_) (fun K hK=>?_) (fun K hK=>?_) (fun K hK=>?_)
   ·have HO:=rs.own (Re 0 b0:RowK) Mh
    have b1:=fun q hq=>(HO.lt q hq).1
    refine step_aps tInts rfl _ _ rfl (w1.heap.size) _ 0 ([]) rfl HO _ (c.vars.length) (ints c.vars) rfl ((x3.out _ d0).a) (one_ints c.vars) (by omega) (by omega) ?_
    intro vA wA oA v0 w0 _
    try simp only [Nat.zero_add,List.nil_append] at oA
    obtain ⟨p3,t3,rfl⟩:=Oh oA
    have j0:=tot_chg d0 v0 b1
    have i1:=RowSet.push rs (Re 0 b0:RowK) Mh oA v0 w0 (l':=[]) oth_nil
    clear HO b1 oA v0 w0
    refine hK.out _ _ (i0.out _ j0) (fun hHeld=>?_)
    clear hK K
    try simp only [Ep]
    have hM:=M5.out b0 p3 t3 _ j0 (RowSet.sub i1 (Sb Mh sub_nil))
    try simp only [Ep] at hM
    exact hM
   ·go_simp
    refine hK.out _ _ (i0.out _ (bal d0 _)) (fun hHeld=>?_)
    clear hK K
    try simp only [Ep]
    have hM:=M6.out b0 w'.heap.size _ (bal d0 _) (RowSet.sub (RowSet.lit rs 4 3 1 #[] 0 (by omega) (by unfold maxLen;omega) (by simp)) (Sb (Mt Mh) (Sb Mh sub_nil)))
    try simp only [Ep] at hM
    exact hM
   ·go_simp
    refine hK.out _ _ (i0.out _ (bal d0 _)) (fun hHeld=>?_)
    clear hK K
    try simp only [Ep]
    have hM:=M7.out b0 w'.heap.size _ (bal d0 _) (RowSet.sub (RowSet.lit rs 8 32 5 #[] 0 (by omega) (by unfold maxLen;omega) (by simp)) (Sb (Mt Mh) (Sb Mh sub_nil)))
    try simp only [Ep] at hM
    exact hM
   go_simp
   refine hK.out _ _ (i0.out _ (bal d0 _)) (fun hHeld=>?_)
   clear hK K
   try simp only [Ep]
   have hM:=M8.out b0 w'.heap.size _ (bal d0 _) (RowSet.sub (RowSet.lit rs 13 26 3 #[.slice none 0 0,.slice none 0 0,.slice none 0 0] 1 (by omega) (by unfold maxLen;omega) (by simp)) (Sb (Mt Mh) (Sb Mh sub_nil)))
   try simp only [Ep] at hM
   exact hM
  have M2:Hid (∀ (b4:Nat) (w':World),Below w1.heap.size w1 w'→RowSet w' w1.heap.size [Re 4 b4]→T 8 #[false,true,true,false,true,true,true,false,false,true,true,false,false,false,false] (Act.put (Act.put (Act.put (Act.put (Act.put (Act.put (Act.put A0 (some 8) (.pointer (some ⟨w.heap.size,0,none⟩))) (some 9) (.slice a0 c.vars.length c0)) (some 11) (.slice (some ⟨b4,0,none⟩) 0 0)) (some 12) (.pointer (some ⟨w.heap.size,1,none⟩))) (some 13) (.slice a1 c.arrays.length c1)) (some 16) (.pointer (some ⟨w.heap.size,2,none⟩))) (some 17) (.slice a2 c.list.length c2)) w'):=by
   clear k1 l1 v1 e2 g2 i2 k2 m2 q2 a3 b3 c3 e3 l3 m3 r3 s3 y3 c4 M5 M7 M8 r6 M1
   refine Lib.hid ?_
   intro b4 w' d0 rs
   have m1:=d0.size
   have hHeld:=i0.out _ d0
   have r0:=hT.out;subst r0;have q0:=hA.out;subst q0;clear hT hA
   change wpAnyH _ _ _ _ _ 8 _ _ _
   try simp only [Ep]
   refine Rdy3 0 8 13 rfl rfl rfl (fun K hK=>?_) (fun K hK=>?_) (fun K hK=>?_)
   ·go_simp
    refine hK.out _ _ (i0.out _ (bal d0 _)) (fun hHeld=>?_)
    clear hK K
    try simp only [Ep]
    have hM:=M6.out w'.heap.size b4 _ (bal d0 _) (RowSet.sub (RowSet.lit rs 0 3 1 #[] 0 (by omega) (by unfold maxLen;omega) (by simp)) (Sb Mh (Sb (Mt Mh) sub_nil)))
    try simp only [Ep] at hM
    exact hM
   ·go_simp
    refine hK.out _ _ (i0.out _ (bal d0 _)) (fun hHeld=>?_)
    clear hK K
    try simp only [Ep]
    have hM:=M9.out b4 w'.heap.size _ (bal d0 _) (RowSet.sub (RowSet.lit rs 8 32 5 #[] 0 (by omega) (by unfold maxLen;omega) (by simp)) (Sb (Mt Mh) (Sb Mh sub_nil)))
    try simp only [Ep] at hM
    exact hM
   go_simp
   refine hK.out _ _ (i0.out _ (bal d0 _)) (fun hHeld=>?_)
   clear hK K
   try simp only [Ep]
   have hM:=f6.out b4 w'.heap.size _ (bal d0 _) (RowSet.sub (RowSet.lit rs 13 26 3 #[.slice none 0 0,.slice none 0 0,.slice none 0 0] 1 (by omega) (by unfold maxLen;omega) (by simp)) (Sb (Mt Mh) (Sb Mh sub_nil)))
   try simp only [Ep] at hM
   exact hM
  have M3:Hid (∀ (b8:Nat) (w':World),Below w1.heap.size w1 w'→RowSet w' w1.heap.size [Rn 8 b8]→T 8 #[false,true,true,false,false,true,true,false,true,true,true,false,false,false,false] (Act.put (Act.put (Act.put (Act.put (Act.put (Act.put (Act.put A0 (some 8) (.pointer (some ⟨w.heap.size,0,none⟩))) (some 9) (.slice a0 c.vars.length c0)) (some 12) (.pointer (some ⟨w.heap.size,1,none⟩))) (some 13) (.slice a1 c.arrays.length c1)) (some 15) (.slice (some ⟨b8,0,none⟩) 0 0)) (some 16) (.pointer (some ⟨w.heap.size,2,none⟩))) (some 17) (.slice a2 c.list.length c2)) w'):=by
   clear k1 l1 v1 e2 g2 i2 k2 m2 q2 a3 b3 c3 e3 l3 m3 r3 s3 y3 c4 M5 M6 M8 f6 M1 M2
   refine Lib.hid ?_
   intro b8 w' d0 rs
   have m1:=d0.size
   have hHeld:=i0.out _ d0
   have r0:=hT.out;subst r0;have q0:=hA.out;subst q0;clear hT hA
   change wpAnyH _ _ _ _ _ 8 _ _ _
   try simp only [Ep]
   refine Rdy3 0 4 13 rfl rfl rfl (fun K hK=>?_) (fun K hK=>?_) (fun K hK=>?_)
   ·go_simp
    refine hK.out _ _ (i0.out _ (bal d0 _)) (fun hHeld=>?_)
    clear hK K
    try simp only [Ep]
    have hM:=M7.out w'.heap.size b8 _ (bal d0 _) (RowSet.sub (RowSet.lit rs 0 3 1 #[] 0 (by omega) (by unfold maxLen;omega) (by simp)) (Sb Mh (Sb (Mt Mh) sub_nil)))
    try simp only [Ep] at hM
    exact hM
   ·go_simp
    refine hK.out _ _ (i0.out _ (bal d0 _)) (fun hHeld=>?_)
    clear hK K
    try simp only [Ep]
    have hM:=M9.out w'.heap.size b8 _ (bal d0 _) (RowSet.sub (RowSet.lit rs 4 3 1 #[] 0 (by omega) (by unfold maxLen;omega) (by simp)) (Sb Mh (Sb (Mt Mh) sub_nil)))
    try simp only [Ep] at hM
    exact hM
   go_simp
   refine hK.out _ _ (i0.out _ (bal d0 _)) (fun hHeld=>?_)
   clear hK K
   try simp only [Ep]
   have hM:=r6.out b8 w'.heap.size _ (bal d0 _) (RowSet.sub (RowSet.lit rs 13 26 3 #[.slice none 0 0,.slice none 0 0,.slice none 0 0] 1 (by omega) (by unfold maxLen;omega) (by simp)) (Sb (Mt Mh) (Sb Mh sub_nil)))
   try simp only [Ep] at hM
   exact hM
  have M4:Hid (∀ (e0:Nat) (w':World),Below w1.heap.size w1 w'→RowSet w' w1.heap.size [Rb e0 [.slice none 0 0,.slice none 0 0,.slice none 0 0]]→T 8 #[false,true,true,false,false,true,true,false,false,true,true,false,false,true,false] (Act.put (Act.put (Act.put (Act.put (Act.put (Act.put (Act.put A0 (some 8) (.pointer (some ⟨w.heap.size,0,none⟩))) (some 9) (.slice a0 c.vars.length c0)) (some 12) (.pointer (some ⟨w.heap.size,1,none⟩))) (some 13) (.slice a1 c.arrays.length c1)) (some 16) (.pointer (some ⟨w.heap.size,2,none⟩))) (some 17) (.slice a2 c.list.length c2)) (some 5) (.pointer (some ⟨e0,0,none⟩))) w'):=by
   clear k1 l1 v1 e2 g2 i2 k2 m2 q2 a3 b3 c3 e3 l3 m3 r3 s3 y3 c4 M5 M6 M7 M9 M1 M2 M3
   refine Lib.hid ?_
   intro e0 w' d0 rs
   have m1:=d0.size
   have hHeld:=i0.out _ d0
   have r0:=hT.out;subst r0;have q0:=hA.out;subst q0;clear hT hA
   change wpAnyH _ _ _ _ _ 8 _ _ _
   try simp only [Ep]
   refine Rdy3 0 4 8 rfl rfl rfl (fun K hK=>?_) (fun K hK=>?_) (fun K hK=>?_)
   ·go_simp
    refine hK.out _ _ (i0.out _ (bal d0 _)) (fun hHeld=>?_)
    clear hK K
    try simp only [Ep]
    have hM:=M8.out w'.heap.size e0 _ (bal d0 _) (RowSet.sub (RowSet.lit rs 0 3 1 #[] 0 (by omega) (by unfold maxLen;omega) (by simp)) (Sb Mh (Sb (Mt Mh) sub_nil)))
    try simp only [Ep] at hM
    exact hM
   ·go_simp
    refine hK.out _ _ (i0.out _ (bal d0 _)) (fun hHeld=>?_)
    clear hK K
    try simp only [Ep]
    have hM:=f6.out w'.heap.size e0 _ (bal d0 _) (RowSet.sub (RowSet.lit rs 4 3 1 #[] 0 (by omega) (by unfold maxLen;omega) (by simp)) (Sb Mh (Sb (Mt Mh) sub_nil)))
    try simp only [Ep] at hM
    exact hM
   go_simp
   refine hK.out _ _ (i0.out _ (bal d0 _)) (fun hHeld=>?_)
   clear hK K
   try simp only [Ep]
   have hM:=r6.out w'.heap.size e0 _ (bal d0 _) (RowSet.sub (RowSet.lit rs 8 32 5 #[] 0 (by omega) (by unfold maxLen;omega) (by simp)) (Sb Mh (Sb (Mt Mh) sub_nil)))
   try simp only [Ep] at hM
   exact hM
  have M0:Hid (∀ (w':World),Below w1.heap.size w1 w'→RowSet w' w1.heap.size []→T 9 #[false,true,true,false,false,true,true,false,false,true,true,false,false,false,false] (Act.put (Act.put (Act.put (Act.put (Act.put (Act.put A0 (some 8) (.pointer (some ⟨w.heap.size,0,none⟩))) (some 9) (.slice a0 c.vars.length c0)) (some 12) (.pointer (some ⟨w.heap.size,1,none⟩))) (some 13) (.slice a1 c.arrays.length c1)) (some 16) (.pointer (some ⟨w.heap.size,2,none⟩))) (some 17) (.slice a2 c.list.length c2)) w'):=by
   clear k1 l1 v1 e2 g2 i2 k2 m2 q2 a3 b3 c3 e3 l3 m3 r3 s3 y3 c4 M5 M6 M7 M8 M9 f6 r6
   refine Lib.hid ?_
   intro w' d0 rs
   have m1:=d0.size
   have hHeld:=i0.out _ d0
   have r0:=hT.out;subst r0;have q0:=hA.out;subst q0;clear hT hA
   change wpAnyH _ _ _ _ _ 9 _ _ _
   try simp only [Ep]
   refine Rdy4 0 4 8 13 rfl rfl rfl rfl (fun K hK=>?_) (fun K hK=>?_) (fun K hK=>?_) (fun K hK=>?_)
   ·go_simp
    refine hK.out _ _ (i0.out _ (bal d0 _)) (fun hHeld=>?_)
    clear hK K
    try simp only [Ep]
    have hM:=M1.out w'.heap.size _ (bal d0 _) (RowSet.sub (RowSet.lit rs 0 3 1 #[] 0 (by omega) (by unfold maxLen;omega) (by simp)) (Sb Mh sub_nil))
    try simp only [Ep] at hM
    exact hM
   ·go_simp
    refine hK.out _ _ (i0.out _ (bal d0 _)) (fun hHeld=>?_)
    clear hK K
    try simp only [Ep]
    have hM:=M2.out w'.heap.size _ (bal d0 _) (RowSet.sub (RowSet.lit rs 4 3 1 #[] 0 (by omega) (by unfold maxLen;omega) (by simp)) (Sb Mh sub_nil))
    try simp only [Ep] at hM
    exact hM
   ·go_simp
    refine hK.out _ _ (i0.out _ (bal d0 _)) (fun hHeld=>?_)
    clear hK K
    try simp only [Ep]
    have hM:=M3.out w'.heap.size _ (bal d0 _) (RowSet.sub (RowSet.lit rs 8 32 5 #[] 0 (by omega) (by unfold maxLen;omega) (by simp)) (Sb Mh sub_nil))
    try simp only [Ep] at hM
    exact hM
   go_simp
   refine hK.out _ _ (i0.out _ (bal d0 _)) (fun hHeld=>?_)
   clear hK K
   try simp only [Ep]
   have hM:=M4.out w'.heap.size _ (bal d0 _) (RowSet.sub (RowSet.lit rs 13 26 3 #[.slice none 0 0,.slice none 0 0,.slice none 0 0] 1 (by omega) (by unfold maxLen;omega) (by simp)) (Sb Mh sub_nil))
   try simp only [Ep] at hM
   exact hM
  clear k1 l1 v1 e2 g2 i2 k2 m2 q2 a3 b3 c3 e3 l3 m3 r3 s3 y3 c4 M5 M6 M7 M8 M9 f6 r6 M1 M2 M3 M4
  have hHeld:=i0.out _ p6
  have r0:=hT.out;subst r0;have q0:=hA.out;subst q0;clear hT hA
  change wpAnyH _ _ _ _ _ 15 _ _ _
  try simp only [Ep]
  refine tq 1 8 rfl rfl ?_ ?_ ?_
  rotate_left
  ·intro W' hSw;(try clear i1);(try clear rs);(try clear j0);(try clear d0);(try clear M0);obtain ⟨s0,s1,s2⟩:=hSw;go_simp;try with_reducible rfl
  try simp only [Ep]
  refine tq 2 9 rfl rfl ?_ ?_ ?_
  rotate_left
  ·intro W' hSw;(try clear i1);(try clear rs);(try clear j0);(try clear d0);(try clear M0);obtain ⟨s0,s1,s2⟩:=hSw;go_simp;try with_reducible rfl
  try simp only [Ep]
  refine tq 5 12 rfl rfl ?_ ?_ ?_
  rotate_left
  ·intro W' hSw;(try clear i1);(try clear rs);(try clear j0);(try clear d0);(try clear M0);obtain ⟨s0,s1,s2⟩:=hSw;go_simp;try with_reducible rfl
  try simp only [Ep]
  refine tq 6 13 rfl rfl ?_ ?_ ?_
  rotate_left
  ·intro W' hSw;(try clear i1);(try clear rs);(try clear j0);(try clear d0);(try clear M0);obtain ⟨s0,s1,s2⟩:=hSw;go_simp;try with_reducible rfl
  try simp only [Ep]
  refine tq 9 16 rfl rfl ?_ ?_ ?_
  rotate_left
  ·intro W' hSw;(try clear i1);(try clear rs);(try clear j0);(try clear d0);(try clear M0);obtain ⟨s0,s1,s2⟩:=hSw;go_simp;try with_reducible rfl
  try simp only [Ep]
  refine tq 10 17 rfl rfl ?_ ?_ ?_
  rotate_left
  ·intro W' hSw;(try clear i1);(try clear rs);(try clear j0);(try clear d0);(try clear M0);obtain ⟨s0,s1,s2⟩:=hSw;go_simp;try with_reducible rfl
  try simp only [Ep]
  have hM:=M0.out wd p6 RowSet.nil
  try simp only [Ep] at hM
  exact hM
 obtain ⟨w2,rfl⟩:∃ W,W=wc:=⟨_,rfl⟩
 clear hR hC h7 iR s6 x6
 obtain ⟨b5,p0,p1,p2,t0,t1,t2,rfl,l0,m0,g0,v7,c9,hR,hC,qE⟩:=hcut
 have pE:w.heap.size≤w1.heap.size∧w.heap.size+1 < w1.heap.size∧w.heap.size≤w.heap.size+1:=by omega
 have hb5l:=Bk.lt l0 (show 0 < 3 by decide)
 have iD:∀ q,OwnB (.slice p0 c.vars.length t0) (.slice p1 c.arrays.length t1) (.slice p2 c.list.length t2) q→w1.heap.size≤q∧q < w2.heap.size∧¬q=b5:=fun q h=>by have:=g0.lt q h;have:=v7 q h;omega
 clear v7
 obtain ⟨nv,e9⟩:∃ nv,c.vars.length=nv:=⟨_,rfl⟩;rw [e9] at g0 iD l0;have eC:nv≤c.vars.length:=(by omega);clear e9
 obtain ⟨na,j8⟩:∃ na,c.arrays.length=na:=⟨_,rfl⟩;rw [j8] at g0 iD l0 h1;have d5:=Lib.hid j8;clear j8
 obtain ⟨nl,k8⟩:∃ nl,c.list.length=nl:=⟨_,rfl⟩;rw [k8] at g0 iD l0 h2;have e5:=Lib.hid k8;clear k8
 have u6:=Bk.lz l0
 have v6:=Bk.lz m0
 by_cases hz:nl < 1
 ·have nC:((nl:Int) == 0)=true:=by rw [beq_iff_eq];omega
  obtain ⟨xE,yE⟩:=Bk.cf l0 2 rfl
  go_upto_region 4 with (fail)
  have d3:=Lib.hid (DrawC.keep (DrawC.keep (DrawC.keep g0 (C1 (w.heap.size+1) (0) (.slice p0 nv t0)) (fun gq h h2=>by have:=iD gq h;omega)) (C1 (w.heap.size+1) (1) (.slice p1 na t1)) (fun gq h h2=>by have:=iD gq h;omega)) (C1 (w.heap.size+1) (2) (.slice p2 nl t2)) (fun gq h h2=>by have:=iD gq h;omega));have f5:=Lib.hid iD;clear g0
  obtain ⟨oC,mD,pC,nD⟩:=Bk.f2 l0 0 1 rfl rfl
  obtain ⟨qC,oD,rC,pD,sC,qD⟩:=Bk.f3 m0 0 1 2 rfl rfl rfl
  have q1:=((((Chg.refl (fun q=>q=w.heap.size+1) w2).setCell (w.heap.size+1) 0 (.slice p0 nv t0) (fun _=>rfl)).setCell (w.heap.size+1) 1 (.slice p1 na t1) (fun _=>rfl)).setCell (w.heap.size+1) 2 (.slice p2 nl t2) (fun _=>rfl))
  have y1:=(Bk.at (Bk.at (Bk.at m0 0 (.slice p0 nv t0)) 1 (.slice p1 na t1)) 2 (.slice p2 nl t2))
  obtain ⟨i3,j3,k3⟩:=Bk.g3 y1
  have r1:=Lib.hid q1;clear q1 y1
  have u1:=Lib.hid (And.intro hC hR);clear hC hR
  go_wp2
  exact bodyPost_ret (v:=.agg #[.slice p0 nv t0,.slice p1 na t1,.slice p2 nl t2]) (by simp [results,Try.results48,go_sem,i3,j3,k3]) rfl (by exact (by unfold MutP;rw [d5.out,e5.out];exact ⟨_,_,_,nv,p,rfl,DrawC.mono d3.out (by omega),by omega,u1.out.2.keep r1.out (fun h=>by omega) (fun k hk h=>by omega),by omega,chg_app u1.out.1 r1.out (fun q hq h=>by omega)⟩))
 have nC:((nl:Int) == 0)=false:=by rw [beq_eq_false_iff_ne];omega
 obtain ⟨n1,rfl⟩:∃ n1,nl=n1+1:=⟨nl-1,by omega⟩
 obtain ⟨gl,rfl⟩:=g0.pos (by omega)
 have mE:=iD gl (Or.inr (Or.inr rfl))
 have nE:(((n1+1:Nat):Int)-1)=(n1:Int):=by omega
 obtain ⟨v8,y8⟩:=Bk.cf l0 2 rfl
 go_wp2_with fail
 refine (pick_any _ _ B g (p) hR (by omega) (by omega) (by omega)).mono ?_
 rintro e w3 ⟨z,z0,z1,rfl,b2,hc⟩
 replace hC:=(hC).trans hc
 replace hR:=b2;clear b2
 replace g0:=DrawC.keep g0 hc (fun q h h2=>by have:=iD q h;have:=y2 q h2;omega)
 have f9:=hc.size
 clear y8 v8
 replace l0:=Bk.kg l0 hc
 replace m0:=Bk.kg m0 hc
 clear hc
 replace u6:=Bk.lz l0
 replace v6:=Bk.lz m0
 by_cases hk0:z=0
 ·subst hk0
  go_upto_region 7 with (fail)
  have l2:=Bk.cell l0 2 (v:=.slice (some ⟨gl,0,none⟩) (n1+1) t2) rfl
  refine wp_region_noPanic ?_
  refine wp_region_held_drew (S:=(fun W'=>W'.cell? ⟨b5,2,none⟩=some (.slice (some ⟨gl,0,none⟩) (n1+1) t2))) (by kernel_rfl) (Kc (Below.drew (Bs w3)) l2) (fun hHeld=>?_)
  obtain ⟨w4,y4⟩:∃ X,X=World.drew w3:=⟨_,rfl⟩
  rw [← y4] at hHeld ⊢
  have hb:Below w3.heap.size w3 w4:=by rw [y4];exact Below.drew (Bs _)
  clear y4
  replace hC:=(hC).trans (Chg.of_below hb)
  replace hR:=hR.below hb
  replace g0:=DrawC.below g0 hb
  have g9:=hb.size
  replace l2:=Kc hb l2
  replace l0:=Bk.below l0 hb
  replace m0:=Bk.below m0 hb
  clear hb
  replace u6:=Bk.lz l0
  replace v6:=Bk.lz m0
  refine (tq 0 30 rfl rfl ?_ ?_ (tq 1 31 rfl rfl ?_ ?_ (tq 2 32 rfl rfl ?_ ?_ ?_)))
  iterate 3 (rotate_left;intro W' hSw;(try dsimp only at hSw);go_simp;try with_reducible rfl)
  try simp only [Ep]
  refine Rdy 3 rfl (fun K hK=>?_)
  go_simp
  obtain ⟨w5,y0,hb⟩:=nmw (World.alloc w4 (.cells #[.int .i64 0,.int .i64 14,.int .i64 1,.int .i64 12] 3))
  replace hC:=((hC.trans (Chg.of_below (bal (Bs _) _)))).trans (Chg.of_below hb)
  replace hR:=(hR.below (bal (Bs _) _)).below hb
  have u3:=Ob (World.ownsRow_lit (base:=(w4).heap.size) (e:=3) (size:=1) (w4) #[.int .i64 0,.int .i64 14,.int .i64 1,.int .i64 12] 4 (Nat.le_refl _) (by unfold maxLen;omega) (by simp)) hb
  try simp only [Sa,Ss] at u3
  replace g0:=DrawC.below (DrawC.below g0 (bal (Bs _) _)) hb
  have i7:=hb.size
  simp only [Sa] at i7
  replace l2:=Kc hb (Ac l2 _)
  replace l0:=Bk.below (Bk.al l0 _) hb
  replace m0:=Bk.below (Bk.al m0 _) hb
  have d4:Bk w5 (w4.heap.size) [.int .i64 0,.int .i64 14,.int .i64 1,.int .i64 12]:=Bk.below (Bk.nw (by simp) rfl) hb
  clear hb
  have n6:=u3.lt
  try simp only [Sa] at n6
  rw [← y0]
  clear y0
  have gC:=Bk.lz d4
  refine hK.out _ _ (l2) (fun hHeld=>?_)
  clear hK K
  try simp only [Ep]
  refine Rdy 4 rfl (fun K hK=>?_)
  go_simp
  refine (num_any _ [0,14,1,12] _ B g (p+1) hR (Ro u3 (by simp)) (fun b o c hb=>by simp at hb;omega) (by simp) (by simp) (by omega)).mono ?_
  rintro e w6 ⟨vv,h5,rfl,b2,hc⟩
  replace hC:=(hC).trans hc
  replace hR:=b2;clear b2
  replace g0:=DrawC.keep g0 hc (fun q h h2=>by have:=iD q h;have:=y2 q h2;omega)
  have h9:=hc.size
  replace l2:=Gg hc l2
  replace u3:=Ow u3 hc (fun gq h h2=>by have:=n6 gq h;have:=y2 gq h2;omega)
  replace l0:=Bk.kg l0 hc
  replace m0:=Bk.kg m0 hc
  replace d4:=Bk.kg d4 hc
  clear hc
  clear h5
  refine hK.out _ _ (l2) (fun hHeld=>?_)
  clear hK K
  try simp only [Ep]
  refine (tq 5 35 rfl rfl ?_ ?_ (tq 6 36 rfl rfl ?_ ?_ ?_))
  iterate 2 (rotate_left;intro W' hSw;(try dsimp only at hSw);go_simp;try with_reducible rfl)
  try simp only [Ep]
  refine Rdy 7 rfl (fun K hK=>?_)
  obtain ⟨⟨x7,t5⟩,i5⟩:=g0.at (0) 0 (by omega) (by omega)
  replace t5:w6.cell? ⟨gl,0,none⟩=some (.int .i64 x7):=t5;replace i5:w6.frozen? ⟨gl,0,none⟩=false:=i5
  go_simp
  obtain ⟨w7,y0,hb⟩:=nmw (World.setCell w6 ⟨gl,0,none⟩ (.int .i64 vv))
  replace hC:=((hC.sN _ _ _)).trans (Chg.of_below hb)
  replace hR:=(hR.kC _ _ _).below hb
  replace g0:=DrawC.below (DrawC.put g0 0 0 (by omega) (by omega) (vv)) hb
  have j7:=hb.size
  simp only [Ss] at j7
  replace l2:=Kc hb (Nn l2 _)
  replace u3:=Ob (Oe u3 _ _ (fun h=>by have:=n6 _ h;omega) _) hb
  replace l0:=Bk.below (Bk.nn l0 _) hb
  replace m0:=Bk.below (Bk.nn m0 _) hb
  replace d4:=Bk.below (Bk.nn d4 _) hb
  clear hb
  rw [← y0]
  clear y0
  refine hK.out _ _ (l2) (fun hHeld=>?_)
  clear hK K
  try simp only [Ep]
  refine Dn ?_
  clear hHeld
  obtain ⟨⟨y7,u5⟩,j5⟩:=g0.at (0) 0 (by omega) (by omega)
  replace u5:w7.cell? ⟨gl,0,none⟩=some (.int .i64 y7):=u5;replace j5:w7.frozen? ⟨gl,0,none⟩=false:=j5
  go_upto_region 18 with (fail)
  clear d4
  have d3:=Lib.hid (DrawC.keep (DrawC.keep (DrawC.keep g0 (C1 (w.heap.size+1) (0) (.slice p0 nv t0)) (fun gq h h2=>by have:=iD gq h;omega)) (C1 (w.heap.size+1) (1) (.slice p1 na t1)) (fun gq h h2=>by have:=iD gq h;omega)) (C1 (w.heap.size+1) (2) (.slice (some ⟨gl,0,none⟩) (n1+1) t2)) (fun gq h h2=>by have:=iD gq h;omega));have f5:=Lib.hid iD;clear g0
  obtain ⟨tC,rD,uC,sD⟩:=Bk.f2 l0 0 1 rfl rfl
  obtain ⟨vC,tD,wC,uD,xC,vD⟩:=Bk.f3 m0 0 1 2 rfl rfl rfl
  have q1:=((((Chg.refl (fun q=>q=w.heap.size+1) w7).setCell (w.heap.size+1) 0 (.slice p0 nv t0) (fun _=>rfl)).setCell (w.heap.size+1) 1 (.slice p1 na t1) (fun _=>rfl)).setCell (w.heap.size+1) 2 (.slice (some ⟨gl,0,none⟩) (n1+1) t2) (fun _=>rfl))
  have y1:=(Bk.at (Bk.at (Bk.at m0 0 (.slice p0 nv t0)) 1 (.slice p1 na t1)) 2 (.slice (some ⟨gl,0,none⟩) (n1+1) t2))
  obtain ⟨i3,j3,k3⟩:=Bk.g3 y1
  have r1:=Lib.hid q1;clear q1 y1
  have u1:=Lib.hid (And.intro hC hR);clear hC hR
  go_wp2
  exact bodyPost_ret (v:=.agg #[.slice p0 nv t0,.slice p1 na t1,.slice (some ⟨gl,0,none⟩) (n1+1) t2]) (by simp [results,Try.results48,go_sem,i3,j3,k3]) rfl (by exact (by unfold MutP;rw [d5.out,e5.out];exact ⟨_,_,_,nv,p+1+1,rfl,DrawC.mono d3.out (by omega),by omega,u1.out.2.keep r1.out (fun h=>by omega) (fun k hk h=>by omega),by omega,chg_app u1.out.1 r1.out (fun q hq h=>by omega)⟩))
 have rE:(z == 0)=false:=by simp [hk0]
 by_cases hk1:z=1
 ·subst hk1
  go_upto_region 9 with (fail)
  have u0:=Bk.cell l0 2 (v:=.slice (some ⟨gl,0,none⟩) (n1+1) t2) rfl
  refine wp_region_noPanic ?_
  refine wp_region_held_drew (S:=(fun W'=>W'.cell? ⟨b5,2,none⟩=some (.slice (some ⟨gl,0,none⟩) (n1+1) t2))) (by kernel_rfl) (Kc (Below.drew (Bs w3)) u0) (fun hHeld=>?_)
  obtain ⟨w4,y4⟩:∃ X,X=World.drew w3:=⟨_,rfl⟩
  rw [← y4] at hHeld ⊢
  have hb:Below w3.heap.size w3 w4:=by rw [y4];exact Below.drew (Bs _)
  clear y4
  replace hC:=(hC).trans (Chg.of_below hb)
  replace hR:=hR.below hb
  replace g0:=DrawC.below g0 hb
  have i9:=hb.size
  replace u0:=Kc hb u0
  replace l0:=Bk.below l0 hb
  replace m0:=Bk.below m0 hb
  clear hb
  replace u6:=Bk.lz l0
  replace v6:=Bk.lz m0
  refine (tq 0 39 rfl rfl ?_ ?_ (tq 1 40 rfl rfl ?_ ?_ (tq 2 41 rfl rfl ?_ ?_ (tq 3 42 rfl rfl ?_ ?_ (tq 5 44 rfl rfl ?_ ?_ ?_)))))
  iterate 5 (rotate_left;intro W' hSw;(try dsimp only at hSw);go_simp;try with_reducible rfl)
  try simp only [Ep]
  refine Rdy2 4 6 rfl rfl (fun K hK=>?_) (fun K hK=>?_)
  ·go_simp
   refine (pick_any _ _ B g (p+1) hR (by omega) (by omega) (by omega)).mono ?_
   rintro e w5 ⟨zi,c5,q6,rfl,b2,hc⟩
   replace hC:=(hC).trans hc
   replace hR:=b2;clear b2
   replace g0:=DrawC.keep g0 hc (fun q h h2=>by have:=iD q h;have:=y2 q h2;omega)
   have j9:=hc.size
   replace u0:=Gg hc u0
   replace l0:=Bk.kg l0 hc
   replace m0:=Bk.kg m0 hc
   clear hc
   obtain ⟨ti,rfl⟩:=Int.eq_ofNat_of_zero_le c5
   have r8:ti < n1+1:=by omega
   have m6:(ti:Int) < (n1:Int)+1:=by omega
   clear c5 q6
   replace u6:=Bk.lz l0
   replace v6:=Bk.lz m0
   refine hK.out _ _ (u0) (fun hHeld=>?_)
   clear hK K
   try simp only [Ep]
   refine Rdy 6 rfl (fun K hK=>?_)
   go_simp
   obtain ⟨w6,y0,hb⟩:=nmw (World.alloc w5 (.cells #[.int .i64 (-1),.int .i64 14,.int .i64 0,.int .i64 400] 3))
   replace hC:=((hC.trans (Chg.of_below (bal (Bs _) _)))).trans (Chg.of_below hb)
   replace hR:=(hR.below (bal (Bs _) _)).below hb
   have v3:=Ob (World.ownsRow_lit (base:=(w5).heap.size) (e:=3) (size:=1) (w5) #[.int .i64 (-1),.int .i64 14,.int .i64 0,.int .i64 400] 4 (Nat.le_refl _) (by unfold maxLen;omega) (by simp)) hb
   try simp only [Sa,Ss] at v3
   replace g0:=DrawC.below (DrawC.below g0 (bal (Bs _) _)) hb
   have k7:=hb.size
   simp only [Sa] at k7
   replace u0:=Kc hb (Ac u0 _)
   replace l0:=Bk.below (Bk.al l0 _) hb
   replace m0:=Bk.below (Bk.al m0 _) hb
   have e4:Bk w6 (w5.heap.size) [.int .i64 (-1),.int .i64 14,.int .i64 0,.int .i64 400]:=Bk.below (Bk.nw (by simp) rfl) hb
   clear hb
   have o6:=v3.lt
   try simp only [Sa] at o6
   rw [← y0]
   clear y0
   have lC:=Bk.lz e4
   refine hK.out _ _ (u0) (fun hHeld=>?_)
   clear hK K
   try simp only [Ep]
   refine Rdy 7 rfl (fun K hK=>?_)
   go_simp
   refine (num_any _ [-1,14,0,400] _ B g (p+1+1) hR (Ro v3 (by simp)) (fun b o c hb=>by simp at hb;omega) (by simp) (by simp) (by omega)).mono ?_
   rintro e w7 ⟨vv,h5,rfl,b2,hc⟩
   replace hC:=(hC).trans hc
   replace hR:=b2;clear b2
   replace g0:=DrawC.keep g0 hc (fun q h h2=>by have:=iD q h;have:=y2 q h2;omega)
   have k9:=hc.size
   replace u0:=Gg hc u0
   replace v3:=Ow v3 hc (fun gq h h2=>by have:=o6 gq h;have:=y2 gq h2;omega)
   replace l0:=Bk.kg l0 hc
   replace m0:=Bk.kg m0 hc
   replace e4:=Bk.kg e4 hc
   clear hc
   clear h5
   refine hK.out _ _ (u0) (fun hHeld=>?_)
   clear hK K
   try simp only [Ep]
   refine (tq 8 47 rfl rfl ?_ ?_ (tq 9 48 rfl rfl ?_ ?_ ?_))
   iterate 2 (rotate_left;intro W' hSw;(try dsimp only at hSw);go_simp;try with_reducible rfl)
   try simp only [Ep]
   refine Rdy 10 rfl (fun K hK=>?_)
   obtain ⟨⟨z7,v5⟩,k5⟩:=g0.at (ti) 1 (by omega) (by omega)
   replace v5:w7.cell? ⟨gl,ti*5+1,none⟩=some (.int .i64 z7):=v5;replace k5:w7.frozen? ⟨gl,ti*5+1,none⟩=false:=k5
   go_simp
   obtain ⟨w8,y0,hb⟩:=nmw (World.setCell w7 ⟨gl,ti*5+1,none⟩ (.int .i64 vv))
   replace hC:=((hC.sN _ _ _)).trans (Chg.of_below hb)
   replace hR:=(hR.kC _ _ _).below hb
   replace g0:=DrawC.below (DrawC.put g0 (ti) 1 (by omega) (by omega) (vv)) hb
   have l7:=hb.size
   simp only [Ss] at l7
   replace u0:=Kc hb (Nn u0 _)
   replace v3:=Ob (Oe v3 _ _ (fun h=>by have:=o6 _ h;omega) _) hb
   replace l0:=Bk.below (Bk.nn l0 _) hb
   replace m0:=Bk.below (Bk.nn m0 _) hb
   replace e4:=Bk.below (Bk.nn e4 _) hb
   clear hb
   rw [← y0]
   clear y0
   refine hK.out _ _ (u0) (fun hHeld=>?_)
   clear hK K
   try simp only [Ep]
   refine Dn ?_
   clear hHeld
   obtain ⟨⟨a8,x5⟩,l5⟩:=g0.at (ti) 1 (by omega) (by omega)
   replace x5:w8.cell? ⟨gl,ti*5+1,none⟩=some (.int .i64 a8):=x5;replace l5:w8.frozen? ⟨gl,ti*5+1,none⟩=false:=l5
   go_upto_region 18 with (fail)
   clear e4
   have d3:=Lib.hid (DrawC.keep (DrawC.keep (DrawC.keep g0 (C1 (w.heap.size+1) (0) (.slice p0 nv t0)) (fun gq h h2=>by have:=iD gq h;omega)) (C1 (w.heap.size+1) (1) (.slice p1 na t1)) (fun gq h h2=>by have:=iD gq h;omega)) (C1 (w.heap.size+1) (2) (.slice (some ⟨gl,0,none⟩) (n1+1) t2)) (fun gq h h2=>by have:=iD gq h;omega));have f5:=Lib.hid iD;clear g0
   obtain ⟨yC,wD,zC,xD⟩:=Bk.f2 l0 0 1 rfl rfl
   obtain ⟨aD,yD,bD,zD,cD,aE⟩:=Bk.f3 m0 0 1 2 rfl rfl rfl
   have q1:=((((Chg.refl (fun q=>q=w.heap.size+1) w8).setCell (w.heap.size+1) 0 (.slice p0 nv t0) (fun _=>rfl)).setCell (w.heap.size+1) 1 (.slice p1 na t1) (fun _=>rfl)).setCell (w.heap.size+1) 2 (.slice (some ⟨gl,0,none⟩) (n1+1) t2) (fun _=>rfl))
   have y1:=(Bk.at (Bk.at (Bk.at m0 0 (.slice p0 nv t0)) 1 (.slice p1 na t1)) 2 (.slice (some ⟨gl,0,none⟩) (n1+1) t2))
   obtain ⟨i3,j3,k3⟩:=Bk.g3 y1
   have r1:=Lib.hid q1;clear q1 y1
   have u1:=Lib.hid (And.intro hC hR);clear hC hR
   go_wp2
   exact bodyPost_ret (v:=.agg #[.slice p0 nv t0,.slice p1 na t1,.slice (some ⟨gl,0,none⟩) (n1+1) t2]) (by simp [results,Try.results48,go_sem,i3,j3,k3]) rfl (by exact (by unfold MutP;rw [d5.out,e5.out];exact ⟨_,_,_,nv,p+1+1+1,rfl,DrawC.mono d3.out (by omega),by omega,u1.out.2.keep r1.out (fun h=>by omega) (fun k hk h=>by omega),by omega,chg_app u1.out.1 r1.out (fun q hq h=>by omega)⟩))
  go_simp
  obtain ⟨w5,y0,hb⟩:=nmw (World.alloc w4 (.cells #[.int .i64 (-1),.int .i64 14,.int .i64 0,.int .i64 400] 3))
  replace hC:=((hC.trans (Chg.of_below (bal (Bs _) _)))).trans (Chg.of_below hb)
  replace hR:=(hR.below (bal (Bs _) _)).below hb
  have h3:=Ob (World.ownsRow_lit (base:=(w4).heap.size) (e:=3) (size:=1) (w4) #[.int .i64 (-1),.int .i64 14,.int .i64 0,.int .i64 400] 4 (Nat.le_refl _) (by unfold maxLen;omega) (by simp)) hb
  try simp only [Sa,Ss] at h3
  replace g0:=DrawC.below (DrawC.below g0 (bal (Bs _) _)) hb
  have m7:=hb.size
  simp only [Sa] at m7
  replace u0:=Kc hb (Ac u0 _)
  replace l0:=Bk.below (Bk.al l0 _) hb
  replace m0:=Bk.below (Bk.al m0 _) hb
  have q3:Bk w5 (w4.heap.size) [.int .i64 (-1),.int .i64 14,.int .i64 0,.int .i64 400]:=Bk.below (Bk.nw (by simp) rfl) hb
  clear hb
  have g5:=h3.lt
  try simp only [Sa] at g5
  rw [← y0]
  clear y0
  have mC:=Bk.lz q3
  refine hK.out _ _ (u0) (fun hHeld=>?_)
  clear hK K
  try simp only [Ep]
  refine Rdy 4 rfl (fun K hK=>?_)
  go_simp
  refine (pick_any _ _ B g (p+1) hR (by omega) (by omega) (by omega)).mono ?_
  rintro e w6 ⟨zi,c5,q6,rfl,b2,hc⟩
  replace hC:=(hC).trans hc
  replace hR:=b2;clear b2
  replace g0:=DrawC.keep g0 hc (fun q h h2=>by have:=iD q h;have:=y2 q h2;omega)
  have l9:=hc.size
  replace u0:=Gg hc u0
  replace h3:=Ow h3 hc (fun gq h h2=>by have:=g5 gq h;have:=y2 gq h2;omega)
  replace l0:=Bk.kg l0 hc
  replace m0:=Bk.kg m0 hc
  replace q3:=Bk.kg q3 hc
  clear hc
  obtain ⟨ti,rfl⟩:=Int.eq_ofNat_of_zero_le c5
  have r8:ti < n1+1:=by omega
  have m6:(ti:Int) < (n1:Int)+1:=by omega
  clear c5 q6
  refine hK.out _ _ (u0) (fun hHeld=>?_)
  clear hK K
  try simp only [Ep]
  refine Rdy 7 rfl (fun K hK=>?_)
  go_simp
  refine (num_any _ [-1,14,0,400] _ B g (p+1+1) hR (Ro h3 (by simp)) (fun b o c hb=>by simp at hb;omega) (by simp) (by simp) (by omega)).mono ?_
  rintro e w7 ⟨vv,h5,rfl,b2,hc⟩
  replace hC:=(hC).trans hc
  replace hR:=b2;clear b2
  replace g0:=DrawC.keep g0 hc (fun q h h2=>by have:=iD q h;have:=y2 q h2;omega)
  have m9:=hc.size
  replace u0:=Gg hc u0
  replace h3:=Ow h3 hc (fun gq h h2=>by have:=g5 gq h;have:=y2 gq h2;omega)
  replace l0:=Bk.kg l0 hc
  replace m0:=Bk.kg m0 hc
  replace q3:=Bk.kg q3 hc
  clear hc
  clear h5
  refine hK.out _ _ (u0) (fun hHeld=>?_)
  clear hK K
  try simp only [Ep]
  refine (tq 8 47 rfl rfl ?_ ?_ (tq 9 48 rfl rfl ?_ ?_ ?_))
  iterate 2 (rotate_left;intro W' hSw;(try dsimp only at hSw);go_simp;try with_reducible rfl)
  try simp only [Ep]
  refine Rdy 10 rfl (fun K hK=>?_)
  obtain ⟨⟨c8,y5⟩,m5⟩:=g0.at (ti) 1 (by omega) (by omega)
  replace y5:w7.cell? ⟨gl,ti*5+1,none⟩=some (.int .i64 c8):=y5;replace m5:w7.frozen? ⟨gl,ti*5+1,none⟩=false:=m5
  go_simp
  obtain ⟨w8,y0,hb⟩:=nmw (World.setCell w7 ⟨gl,ti*5+1,none⟩ (.int .i64 vv))
  replace hC:=((hC.sN _ _ _)).trans (Chg.of_below hb)
  replace hR:=(hR.kC _ _ _).below hb
  replace g0:=DrawC.below (DrawC.put g0 (ti) 1 (by omega) (by omega) (vv)) hb
  have n7:=hb.size
  simp only [Ss] at n7
  replace u0:=Kc hb (Nn u0 _)
  replace h3:=Ob (Oe h3 _ _ (fun h=>by have:=g5 _ h;omega) _) hb
  replace l0:=Bk.below (Bk.nn l0 _) hb
  replace m0:=Bk.below (Bk.nn m0 _) hb
  replace q3:=Bk.below (Bk.nn q3 _) hb
  clear hb
  rw [← y0]
  clear y0
  refine hK.out _ _ (u0) (fun hHeld=>?_)
  clear hK K
  try simp only [Ep]
  refine Dn ?_
  clear hHeld
  obtain ⟨⟨d8,z5⟩,n5⟩:=g0.at (ti) 1 (by omega) (by omega)
  replace z5:w8.cell? ⟨gl,ti*5+1,none⟩=some (.int .i64 d8):=z5;replace n5:w8.frozen? ⟨gl,ti*5+1,none⟩=false:=n5
  go_upto_region 18 with (fail)
  clear q3
  have d3:=Lib.hid (DrawC.keep (DrawC.keep (DrawC.keep g0 (C1 (w.heap.size+1) (0) (.slice p0 nv t0)) (fun gq h h2=>by have:=iD gq h;omega)) (C1 (w.heap.size+1) (1) (.slice p1 na t1)) (fun gq h h2=>by have:=iD gq h;omega)) (C1 (w.heap.size+1) (2) (.slice (some ⟨gl,0,none⟩) (n1+1) t2)) (fun gq h h2=>by have:=iD gq h;omega));have f5:=Lib.hid iD;clear g0
  obtain ⟨dD,bE,eD,cE⟩:=Bk.f2 l0 0 1 rfl rfl
  obtain ⟨fD,dE,gD,eE,hD,fE⟩:=Bk.f3 m0 0 1 2 rfl rfl rfl
  have q1:=((((Chg.refl (fun q=>q=w.heap.size+1) w8).setCell (w.heap.size+1) 0 (.slice p0 nv t0) (fun _=>rfl)).setCell (w.heap.size+1) 1 (.slice p1 na t1) (fun _=>rfl)).setCell (w.heap.size+1) 2 (.slice (some ⟨gl,0,none⟩) (n1+1) t2) (fun _=>rfl))
  have y1:=(Bk.at (Bk.at (Bk.at m0 0 (.slice p0 nv t0)) 1 (.slice p1 na t1)) 2 (.slice (some ⟨gl,0,none⟩) (n1+1) t2))
  obtain ⟨i3,j3,k3⟩:=Bk.g3 y1
  have r1:=Lib.hid q1;clear q1 y1
  have u1:=Lib.hid (And.intro hC hR);clear hC hR
  go_wp2
  exact bodyPost_ret (v:=.agg #[.slice p0 nv t0,.slice p1 na t1,.slice (some ⟨gl,0,none⟩) (n1+1) t2]) (by simp [results,Try.results48,go_sem,i3,j3,k3]) rfl (by exact (by unfold MutP;rw [d5.out,e5.out];exact ⟨_,_,_,nv,p+1+1+1,rfl,DrawC.mono d3.out (by omega),by omega,u1.out.2.keep r1.out (fun h=>by omega) (fun k hk h=>by omega),by omega,chg_app u1.out.1 r1.out (fun q hq h=>by omega)⟩))
 have sE:(z == 1)=false:=by simp [hk1]
 by_cases hk2:z=2
 ·subst hk2
  obtain ⟨⟨e8,a6⟩,o5⟩:=g0.at (n1) 0 (by omega) (by omega)
  replace a6:w3.cell? ⟨gl,n1*5,none⟩=some (.int .i64 e8):=a6;replace o5:w3.frozen? ⟨gl,n1*5,none⟩=false:=o5
  obtain ⟨⟨f8,b6⟩,p5⟩:=g0.at (n1) 1 (by omega) (by omega)
  replace b6:w3.cell? ⟨gl,n1*5+1,none⟩=some (.int .i64 f8):=b6;replace p5:w3.frozen? ⟨gl,n1*5+1,none⟩=false:=p5
  obtain ⟨⟨g8,c6⟩,q5⟩:=g0.at (n1) 2 (by omega) (by omega)
  replace c6:w3.cell? ⟨gl,n1*5+2,none⟩=some (.int .i64 g8):=c6;replace q5:w3.frozen? ⟨gl,n1*5+2,none⟩=false:=q5
  obtain ⟨⟨h8,d6⟩,r5⟩:=g0.at (n1) 3 (by omega) (by omega)
  replace d6:w3.cell? ⟨gl,n1*5+3,none⟩=some (.int .i64 h8):=d6;replace r5:w3.frozen? ⟨gl,n1*5+3,none⟩=false:=r5
  obtain ⟨⟨i8,e6⟩,s5⟩:=g0.at (n1) 4 (by omega) (by omega)
  replace e6:w3.cell? ⟨gl,n1*5+4,none⟩=some (.int .i64 i8):=e6;replace s5:w3.frozen? ⟨gl,n1*5+4,none⟩=false:=s5
  obtain ⟨x8,z8⟩:=Bk.cf l0 2 rfl
  go_upto_region 18 with (fail)
  obtain ⟨w4,y0,hb⟩:=nmw (World.setCell (World.setCell (World.setCell (World.setCell (World.setCell w3 ⟨gl,n1*5,none⟩ (.int .i64 12)) ⟨gl,n1*5+1,none⟩ (.int .i64 0)) ⟨gl,n1*5+2,none⟩ (.int .i64 0)) ⟨gl,n1*5+3,none⟩ (.int .i64 0)) ⟨gl,n1*5+4,none⟩ (.int .i64 0))
  replace hC:=((((((hC.sN _ _ _).sN _ _ _).sN _ _ _).sN _ _ _).sN _ _ _)).trans (Chg.of_below hb)
  replace hR:=(((((hR.kC _ _ _).kC _ _ _).kC _ _ _).kC _ _ _).kC _ _ _).below hb
  replace g0:=DrawC.below (DrawC.put (DrawC.put (DrawC.put (DrawC.put (DrawC.put g0 (n1) 0 (by omega) (by omega) (12)) (n1) 1 (by omega) (by omega) (0)) (n1) 2 (by omega) (by omega) (0)) (n1) 3 (by omega) (by omega) (0)) (n1) 4 (by omega) (by omega) (0)) hb
  have o7:=hb.size
  simp only [Ss] at o7
  clear z8 x8
  replace l0:=Bk.below (Bk.nn (Bk.nn (Bk.nn (Bk.nn (Bk.nn l0 _) _) _) _) _) hb
  replace m0:=Bk.below (Bk.nn (Bk.nn (Bk.nn (Bk.nn (Bk.nn m0 _) _) _) _) _) hb
  clear hb
  rw [← y0]
  clear y0
  have d3:=Lib.hid (DrawC.keep (DrawC.keep (DrawC.keep g0 (C1 (w.heap.size+1) (0) (.slice p0 nv t0)) (fun gq h h2=>by have:=iD gq h;omega)) (C1 (w.heap.size+1) (1) (.slice p1 na t1)) (fun gq h h2=>by have:=iD gq h;omega)) (C1 (w.heap.size+1) (2) (.slice (some ⟨gl,0,none⟩) (n1+1) t2)) (fun gq h h2=>by have:=iD gq h;omega));have f5:=Lib.hid iD;clear g0
  obtain ⟨jD,gE,kD,hE,lD,iE⟩:=Bk.f3 l0 0 1 2 rfl rfl rfl
  obtain ⟨p9,yA,q9,zA,r9,aB⟩:=Bk.f3 m0 0 1 2 rfl rfl rfl
  have q1:=((((Chg.refl (fun q=>q=w.heap.size+1) w4).setCell (w.heap.size+1) 0 (.slice p0 nv t0) (fun _=>rfl)).setCell (w.heap.size+1) 1 (.slice p1 na t1) (fun _=>rfl)).setCell (w.heap.size+1) 2 (.slice (some ⟨gl,0,none⟩) (n1+1) t2) (fun _=>rfl))
  have y1:=(Bk.at (Bk.at (Bk.at m0 0 (.slice p0 nv t0)) 1 (.slice p1 na t1)) 2 (.slice (some ⟨gl,0,none⟩) (n1+1) t2))
  obtain ⟨i3,j3,k3⟩:=Bk.g3 y1
  have r1:=Lib.hid q1;clear q1 y1
  have u1:=Lib.hid (And.intro hC hR);clear hC hR
  go_wp2
  exact bodyPost_ret (v:=.agg #[.slice p0 nv t0,.slice p1 na t1,.slice (some ⟨gl,0,none⟩) (n1+1) t2]) (by simp [results,Try.results48,go_sem,i3,j3,k3]) rfl (by exact (by unfold MutP;rw [d5.out,e5.out];exact ⟨_,_,_,nv,p+1,rfl,DrawC.mono d3.out (by omega),by omega,u1.out.2.keep r1.out (fun h=>by omega) (fun k hk h=>by omega),by omega,chg_app u1.out.1 r1.out (fun q hq h=>by omega)⟩))
 have tE:(z == 2)=false:=by simp [hk2]
 by_cases hk3:z=3
 ·subst hk3
  obtain ⟨⟨y6,o4⟩,f4⟩:=g0.at (n1) 0 (by omega) (by omega)
  replace o4:w3.cell? ⟨gl,n1*5,none⟩=some (.int .i64 y6):=o4;replace f4:w3.frozen? ⟨gl,n1*5,none⟩=false:=f4
  obtain ⟨⟨z6,p4⟩,g4⟩:=g0.at (n1) 1 (by omega) (by omega)
  replace p4:w3.cell? ⟨gl,n1*5+1,none⟩=some (.int .i64 z6):=p4;replace g4:w3.frozen? ⟨gl,n1*5+1,none⟩=false:=g4
  obtain ⟨⟨a7,q4⟩,h4⟩:=g0.at (n1) 2 (by omega) (by omega)
  replace q4:w3.cell? ⟨gl,n1*5+2,none⟩=some (.int .i64 a7):=q4;replace h4:w3.frozen? ⟨gl,n1*5+2,none⟩=false:=h4
  obtain ⟨⟨b7,r4⟩,i4⟩:=g0.at (n1) 3 (by omega) (by omega)
  replace r4:w3.cell? ⟨gl,n1*5+3,none⟩=some (.int .i64 b7):=r4;replace i4:w3.frozen? ⟨gl,n1*5+3,none⟩=false:=i4
  obtain ⟨⟨c7,s4⟩,j4⟩:=g0.at (n1) 4 (by omega) (by omega)
  replace s4:w3.cell? ⟨gl,n1*5+4,none⟩=some (.int .i64 c7):=s4;replace j4:w3.frozen? ⟨gl,n1*5+4,none⟩=false:=j4
  obtain ⟨q7,s7⟩:=Bk.cf l0 2 rfl
  go_upto_region 18 with (fail)
  obtain ⟨w4,y0,hb⟩:=nmw (World.setCell (World.setCell (World.setCell (World.setCell (World.setCell w3 ⟨gl,n1*5,none⟩ (.int .i64 8)) ⟨gl,n1*5+1,none⟩ (.int .i64 0)) ⟨gl,n1*5+2,none⟩ (.int .i64 0)) ⟨gl,n1*5+3,none⟩ (.int .i64 0)) ⟨gl,n1*5+4,none⟩ (.int .i64 0))
  replace hC:=((((((hC.sN _ _ _).sN _ _ _).sN _ _ _).sN _ _ _).sN _ _ _)).trans (Chg.of_below hb)
  replace hR:=(((((hR.kC _ _ _).kC _ _ _).kC _ _ _).kC _ _ _).kC _ _ _).below hb
  replace g0:=DrawC.below (DrawC.put (DrawC.put (DrawC.put (DrawC.put (DrawC.put g0 (n1) 0 (by omega) (by omega) (8)) (n1) 1 (by omega) (by omega) (0)) (n1) 2 (by omega) (by omega) (0)) (n1) 3 (by omega) (by omega) (0)) (n1) 4 (by omega) (by omega) (0)) hb
  have g6:=hb.size
  simp only [Ss] at g6
  clear s7 q7
  replace l0:=Bk.below (Bk.nn (Bk.nn (Bk.nn (Bk.nn (Bk.nn l0 _) _) _) _) _) hb
  replace m0:=Bk.below (Bk.nn (Bk.nn (Bk.nn (Bk.nn (Bk.nn m0 _) _) _) _) _) hb
  clear hb
  rw [← y0]
  clear y0
  have d3:=Lib.hid (DrawC.keep (DrawC.keep (DrawC.keep g0 (C1 (w.heap.size+1) (0) (.slice p0 nv t0)) (fun gq h h2=>by have:=iD gq h;omega)) (C1 (w.heap.size+1) (1) (.slice p1 na t1)) (fun gq h h2=>by have:=iD gq h;omega)) (C1 (w.heap.size+1) (2) (.slice (some ⟨gl,0,none⟩) (n1+1) t2)) (fun gq h h2=>by have:=iD gq h;omega));have f5:=Lib.hid iD;clear g0
  obtain ⟨s9,bB,t9,cB,u9,dB⟩:=Bk.f3 l0 0 1 2 rfl rfl rfl
  obtain ⟨v9,eB,w9,fB,x9,gB⟩:=Bk.f3 m0 0 1 2 rfl rfl rfl
  have q1:=((((Chg.refl (fun q=>q=w.heap.size+1) w4).setCell (w.heap.size+1) 0 (.slice p0 nv t0) (fun _=>rfl)).setCell (w.heap.size+1) 1 (.slice p1 na t1) (fun _=>rfl)).setCell (w.heap.size+1) 2 (.slice (some ⟨gl,0,none⟩) (n1+1) t2) (fun _=>rfl))
  have y1:=(Bk.at (Bk.at (Bk.at m0 0 (.slice p0 nv t0)) 1 (.slice p1 na t1)) 2 (.slice (some ⟨gl,0,none⟩) (n1+1) t2))
  obtain ⟨i3,j3,k3⟩:=Bk.g3 y1
  have r1:=Lib.hid q1;clear q1 y1
  have u1:=Lib.hid (And.intro hC hR);clear hC hR
  go_wp2
  exact bodyPost_ret (v:=.agg #[.slice p0 nv t0,.slice p1 na t1,.slice (some ⟨gl,0,none⟩) (n1+1) t2]) (by simp [results,Try.results48,go_sem,i3,j3,k3]) rfl (by exact (by unfold MutP;rw [d5.out,e5.out];exact ⟨_,_,_,nv,p+1,rfl,DrawC.mono d3.out (by omega),by omega,u1.out.2.keep r1.out (fun h=>by omega) (fun k hk h=>by omega),by omega,chg_app u1.out.1 r1.out (fun q hq h=>by omega)⟩))
 have uE:(z == 3)=false:=by simp [hk3]
 by_cases hk4:z=4
 ·subst hk4
  go_upto_region 15 with (fail)
  have k0:=Bk.cell l0 2 (v:=.slice (some ⟨gl,0,none⟩) (n1+1) t2) rfl
  refine wp_region_noPanic ?_
  refine wp_region_held_drew (S:=(fun W'=>W'.cell? ⟨b5,2,none⟩=some (.slice (some ⟨gl,0,none⟩) (n1+1) t2))) (by kernel_rfl) (Kc (Below.drew (Bs w3)) k0) (fun hHeld=>?_)
  obtain ⟨w4,y4⟩:∃ X,X=World.drew w3:=⟨_,rfl⟩
  rw [← y4] at hHeld ⊢
  have hb:Below w3.heap.size w3 w4:=by rw [y4];exact Below.drew (Bs _)
  clear y4
  replace hC:=(hC).trans (Chg.of_below hb)
  replace hR:=hR.below hb
  replace g0:=DrawC.below g0 hb
  have m8:=hb.size
  replace k0:=Kc hb k0
  replace l0:=Bk.below l0 hb
  replace m0:=Bk.below m0 hb
  clear hb
  replace u6:=Bk.lz l0
  replace v6:=Bk.lz m0
  refine (tq 0 67 rfl rfl ?_ ?_ (tq 1 68 rfl rfl ?_ ?_ (tq 2 69 rfl rfl ?_ ?_ (tq 3 70 rfl rfl ?_ ?_ (tq 5 72 rfl rfl ?_ ?_ ?_)))))
  iterate 5 (rotate_left;intro W' hSw;(try dsimp only at hSw);go_simp;try with_reducible rfl)
  try simp only [Ep]
  refine Rdy2 4 6 rfl rfl (fun K hK=>?_) (fun K hK=>?_)
  ·go_simp
   refine (pick_any _ _ B g (p+1) hR (by omega) (by omega) (by omega)).mono ?_
   rintro e w5 ⟨zi,c5,q6,rfl,b2,hc⟩
   replace hC:=(hC).trans hc
   replace hR:=b2;clear b2
   replace g0:=DrawC.keep g0 hc (fun q h h2=>by have:=iD q h;have:=y2 q h2;omega)
   have n8:=hc.size
   replace k0:=Gg hc k0
   replace l0:=Bk.kg l0 hc
   replace m0:=Bk.kg m0 hc
   clear hc
   obtain ⟨ti,rfl⟩:=Int.eq_ofNat_of_zero_le c5
   have r8:ti < n1+1:=by omega
   have m6:(ti:Int) < (n1:Int)+1:=by omega
   clear c5 q6
   replace u6:=Bk.lz l0
   replace v6:=Bk.lz m0
   refine hK.out _ _ (k0) (fun hHeld=>?_)
   clear hK K
   try simp only [Ep]
   refine Rdy 6 rfl (fun K hK=>?_)
   go_simp
   obtain ⟨w6,y0,hb⟩:=nmw (World.alloc w5 (.cells #[.int .i64 1,.int .i64 (-1)] 3))
   replace hC:=((hC.trans (Chg.of_below (bal (Bs _) _)))).trans (Chg.of_below hb)
   replace hR:=(hR.below (bal (Bs _) _)).below hb
   have z2:=Ob (World.ownsRow_lit (base:=(w5).heap.size) (e:=3) (size:=1) (w5) #[.int .i64 1,.int .i64 (-1)] 2 (Nat.le_refl _) (by unfold maxLen;omega) (by simp)) hb
   try simp only [Sa,Ss] at z2
   replace g0:=DrawC.below (DrawC.below g0 (bal (Bs _) _)) hb
   have h6:=hb.size
   simp only [Sa] at h6
   replace k0:=Kc hb (Ac k0 _)
   replace l0:=Bk.below (Bk.al l0 _) hb
   replace m0:=Bk.below (Bk.al m0 _) hb
   have j2:w6.cell? ⟨w5.heap.size,0,none⟩=some (.int .i64 1):=Kc hb (Wc (by simp) (by rfl))
   have n3:w6.frozen? ⟨w5.heap.size,0,none⟩=false:=Kf hb (by simp <;> omega) (Fn (by simp))
   have v2:w6.cell? ⟨w5.heap.size,1,none⟩=some (.int .i64 (-1)):=Kc hb (Wc (by simp) (by rfl))
   have o3:w6.frozen? ⟨w5.heap.size,1,none⟩=false:=Kf hb (by simp <;> omega) (Fn (by simp))
   clear hb
   have z4:=z2.lt
   try simp only [Sa] at z4
   rw [← y0]
   clear y0
   have n9:=Lc j2
   refine hK.out _ _ (k0) (fun hHeld=>?_)
   clear hK K
   try simp only [Ep]
   refine Rdy 7 rfl (fun K hK=>?_)
   go_simp
   refine (num_any _ [1,-1] _ B g (p+1+1) hR (Ro z2 (by simp)) (fun b o c hb=>by simp at hb;omega) (by simp) (by simp) (by omega)).mono ?_
   rintro e w7 ⟨vv,h5,rfl,b2,hc⟩
   replace hC:=(hC).trans hc
   replace hR:=b2;clear b2
   replace g0:=DrawC.keep g0 hc (fun q h h2=>by have:=iD q h;have:=y2 q h2;omega)
   have o8:=hc.size
   replace n3:=Gf hc (Lc j2) n3 (fun h=>by have:=y2 _ h;omega)
   replace o3:=Gf hc (Lc v2) o3 (fun h=>by have:=y2 _ h;omega)
   replace k0:=Gg hc k0
   replace j2:=Gg hc j2
   replace v2:=Gg hc v2
   replace z2:=Ow z2 hc (fun gq h h2=>by have:=z4 gq h;have:=y2 gq h2;omega)
   replace l0:=Bk.kg l0 hc
   replace m0:=Bk.kg m0 hc
   clear hc
   clear h5
   refine hK.out _ _ (k0) (fun hHeld=>?_)
   clear hK K
   try simp only [Ep]
   refine (tq 8 75 rfl rfl ?_ ?_ (tq 9 76 rfl rfl ?_ ?_ ?_))
   iterate 2 (rotate_left;intro W' hSw;(try dsimp only at hSw);go_simp;try with_reducible rfl)
   try simp only [Ep]
   refine Rdy 10 rfl (fun K hK=>?_)
   obtain ⟨⟨d7,t4⟩,k4⟩:=g0.at (ti) 4 (by omega) (by omega)
   replace t4:w7.cell? ⟨gl,ti*5+4,none⟩=some (.int .i64 d7):=t4;replace k4:w7.frozen? ⟨gl,ti*5+4,none⟩=false:=k4
   go_simp
   obtain ⟨w8,y0,hb⟩:=nmw (World.setCell w7 ⟨gl,ti*5+4,none⟩ (.int .i64 vv))
   replace hC:=((hC.sN _ _ _)).trans (Chg.of_below hb)
   replace hR:=(hR.kC _ _ _).below hb
   replace g0:=DrawC.below (DrawC.put g0 (ti) 4 (by omega) (by omega) (vv)) hb
   have i6:=hb.size
   simp only [Ss] at i6
   replace n3:=Kf hb (Lc (Nn j2 _)) (Fs n3 _)
   replace o3:=Kf hb (Lc (Nn v2 _)) (Fs o3 _)
   replace k0:=Kc hb (Nn k0 _)
   replace j2:=Kc hb (Nn j2 _)
   replace v2:=Kc hb (Nn v2 _)
   replace z2:=Ob (Oe z2 _ _ (fun h=>by have:=z4 _ h;omega) _) hb
   replace l0:=Bk.below (Bk.nn l0 _) hb
   replace m0:=Bk.below (Bk.nn m0 _) hb
   clear hb
   rw [← y0]
   clear y0
   refine hK.out _ _ (k0) (fun hHeld=>?_)
   clear hK K
   try simp only [Ep]
   refine Dn ?_
   clear hHeld
   obtain ⟨⟨e7,u4⟩,l4⟩:=g0.at (ti) 4 (by omega) (by omega)
   replace u4:w8.cell? ⟨gl,ti*5+4,none⟩=some (.int .i64 e7):=u4;replace l4:w8.frozen? ⟨gl,ti*5+4,none⟩=false:=l4
   go_upto_region 18 with (fail)
   clear j2 n3 v2 o3
   have d3:=Lib.hid (DrawC.keep (DrawC.keep (DrawC.keep g0 (C1 (w.heap.size+1) (0) (.slice p0 nv t0)) (fun gq h h2=>by have:=iD gq h;omega)) (C1 (w.heap.size+1) (1) (.slice p1 na t1)) (fun gq h h2=>by have:=iD gq h;omega)) (C1 (w.heap.size+1) (2) (.slice (some ⟨gl,0,none⟩) (n1+1) t2)) (fun gq h h2=>by have:=iD gq h;omega));have f5:=Lib.hid iD;clear g0
   obtain ⟨y9,hB,z9,iB⟩:=Bk.f2 l0 0 1 rfl rfl
   obtain ⟨aA,jB,bA,kB,cA,lB⟩:=Bk.f3 m0 0 1 2 rfl rfl rfl
   have q1:=((((Chg.refl (fun q=>q=w.heap.size+1) w8).setCell (w.heap.size+1) 0 (.slice p0 nv t0) (fun _=>rfl)).setCell (w.heap.size+1) 1 (.slice p1 na t1) (fun _=>rfl)).setCell (w.heap.size+1) 2 (.slice (some ⟨gl,0,none⟩) (n1+1) t2) (fun _=>rfl))
   have y1:=(Bk.at (Bk.at (Bk.at m0 0 (.slice p0 nv t0)) 1 (.slice p1 na t1)) 2 (.slice (some ⟨gl,0,none⟩) (n1+1) t2))
   obtain ⟨i3,j3,k3⟩:=Bk.g3 y1
   have r1:=Lib.hid q1;clear q1 y1
   have u1:=Lib.hid (And.intro hC hR);clear hC hR
   go_wp2
   exact bodyPost_ret (v:=.agg #[.slice p0 nv t0,.slice p1 na t1,.slice (some ⟨gl,0,none⟩) (n1+1) t2]) (by simp [results,Try.results48,go_sem,i3,j3,k3]) rfl (by exact (by unfold MutP;rw [d5.out,e5.out];exact ⟨_,_,_,nv,p+1+1+1,rfl,DrawC.mono d3.out (by omega),by omega,u1.out.2.keep r1.out (fun h=>by omega) (fun k hk h=>by omega),by omega,chg_app u1.out.1 r1.out (fun q hq h=>by omega)⟩))
  go_simp
  obtain ⟨w5,y0,hb⟩:=nmw (World.alloc w4 (.cells #[.int .i64 1,.int .i64 (-1)] 3))
  replace hC:=((hC.trans (Chg.of_below (bal (Bs _) _)))).trans (Chg.of_below hb)
  replace hR:=(hR.below (bal (Bs _) _)).below hb
  have d2:=Ob (World.ownsRow_lit (base:=(w4).heap.size) (e:=3) (size:=1) (w4) #[.int .i64 1,.int .i64 (-1)] 2 (Nat.le_refl _) (by unfold maxLen;omega) (by simp)) hb
  try simp only [Sa,Ss] at d2
  replace g0:=DrawC.below (DrawC.below g0 (bal (Bs _) _)) hb
  have j6:=hb.size
  simp only [Sa] at j6
  replace k0:=Kc hb (Ac k0 _)
  replace l0:=Bk.below (Bk.al l0 _) hb
  replace m0:=Bk.below (Bk.al m0 _) hb
  have g1:w5.cell? ⟨w4.heap.size,0,none⟩=some (.int .i64 1):=Kc hb (Wc (by simp) (by rfl))
  have r2:w5.frozen? ⟨w4.heap.size,0,none⟩=false:=Kf hb (by simp <;> omega) (Fn (by simp))
  have j1:w5.cell? ⟨w4.heap.size,1,none⟩=some (.int .i64 (-1)):=Kc hb (Wc (by simp) (by rfl))
  have u2:w5.frozen? ⟨w4.heap.size,1,none⟩=false:=Kf hb (by simp <;> omega) (Fn (by simp))
  clear hb
  have z3:=d2.lt
  try simp only [Sa] at z3
  rw [← y0]
  clear y0
  have o9:=Lc g1
  refine hK.out _ _ (k0) (fun hHeld=>?_)
  clear hK K
  try simp only [Ep]
  refine Rdy 4 rfl (fun K hK=>?_)
  go_simp
  refine (pick_any _ _ B g (p+1) hR (by omega) (by omega) (by omega)).mono ?_
  rintro e w6 ⟨zi,c5,q6,rfl,b2,hc⟩
  replace hC:=(hC).trans hc
  replace hR:=b2;clear b2
  replace g0:=DrawC.keep g0 hc (fun q h h2=>by have:=iD q h;have:=y2 q h2;omega)
  have p8:=hc.size
  replace r2:=Gf hc (Lc g1) r2 (fun h=>by have:=y2 _ h;omega)
  replace u2:=Gf hc (Lc j1) u2 (fun h=>by have:=y2 _ h;omega)
  replace k0:=Gg hc k0
  replace g1:=Gg hc g1
  replace j1:=Gg hc j1
  replace d2:=Ow d2 hc (fun gq h h2=>by have:=z3 gq h;have:=y2 gq h2;omega)
  replace l0:=Bk.kg l0 hc
  replace m0:=Bk.kg m0 hc
  clear hc
  obtain ⟨ti,rfl⟩:=Int.eq_ofNat_of_zero_le c5
  have r8:ti < n1+1:=by omega
  have m6:(ti:Int) < (n1:Int)+1:=by omega
  clear c5 q6
  refine hK.out _ _ (k0) (fun hHeld=>?_)
  clear hK K
  try simp only [Ep]
  refine Rdy 7 rfl (fun K hK=>?_)
  go_simp
  refine (num_any _ [1,-1] _ B g (p+1+1) hR (Ro d2 (by simp)) (fun b o c hb=>by simp at hb;omega) (by simp) (by simp) (by omega)).mono ?_
  rintro e w7 ⟨vv,h5,rfl,b2,hc⟩
  replace hC:=(hC).trans hc
  replace hR:=b2;clear b2
  replace g0:=DrawC.keep g0 hc (fun q h h2=>by have:=iD q h;have:=y2 q h2;omega)
  have q8:=hc.size
  replace r2:=Gf hc (Lc g1) r2 (fun h=>by have:=y2 _ h;omega)
  replace u2:=Gf hc (Lc j1) u2 (fun h=>by have:=y2 _ h;omega)
  replace k0:=Gg hc k0
  replace g1:=Gg hc g1
  replace j1:=Gg hc j1
  replace d2:=Ow d2 hc (fun gq h h2=>by have:=z3 gq h;have:=y2 gq h2;omega)
  replace l0:=Bk.kg l0 hc
  replace m0:=Bk.kg m0 hc
  clear hc
  clear h5
  refine hK.out _ _ (k0) (fun hHeld=>?_)
  clear hK K
  try simp only [Ep]
  refine (tq 8 75 rfl rfl ?_ ?_ (tq 9 76 rfl rfl ?_ ?_ ?_))
  iterate 2 (rotate_left;intro W' hSw;(try dsimp only at hSw);go_simp;try with_reducible rfl)
  try simp only [Ep]
  refine Rdy 10 rfl (fun K hK=>?_)
  obtain ⟨⟨f7,v4⟩,m4⟩:=g0.at (ti) 4 (by omega) (by omega)
  replace v4:w7.cell? ⟨gl,ti*5+4,none⟩=some (.int .i64 f7):=v4;replace m4:w7.frozen? ⟨gl,ti*5+4,none⟩=false:=m4
  go_simp
  obtain ⟨w8,y0,hb⟩:=nmw (World.setCell w7 ⟨gl,ti*5+4,none⟩ (.int .i64 vv))
  replace hC:=((hC.sN _ _ _)).trans (Chg.of_below hb)
  replace hR:=(hR.kC _ _ _).below hb
  replace g0:=DrawC.below (DrawC.put g0 (ti) 4 (by omega) (by omega) (vv)) hb
  have k6:=hb.size
  simp only [Ss] at k6
  replace r2:=Kf hb (Lc (Nn g1 _)) (Fs r2 _)
  replace u2:=Kf hb (Lc (Nn j1 _)) (Fs u2 _)
  replace k0:=Kc hb (Nn k0 _)
  replace g1:=Kc hb (Nn g1 _)
  replace j1:=Kc hb (Nn j1 _)
  replace d2:=Ob (Oe d2 _ _ (fun h=>by have:=z3 _ h;omega) _) hb
  replace l0:=Bk.below (Bk.nn l0 _) hb
  replace m0:=Bk.below (Bk.nn m0 _) hb
  clear hb
  rw [← y0]
  clear y0
  refine hK.out _ _ (k0) (fun hHeld=>?_)
  clear hK K
  try simp only [Ep]
  refine Dn ?_
  clear hHeld
  obtain ⟨⟨g7,x4⟩,n4⟩:=g0.at (ti) 4 (by omega) (by omega)
  replace x4:w8.cell? ⟨gl,ti*5+4,none⟩=some (.int .i64 g7):=x4;replace n4:w8.frozen? ⟨gl,ti*5+4,none⟩=false:=n4
  go_upto_region 18 with (fail)
  clear g1 r2 j1 u2
  have d3:=Lib.hid (DrawC.keep (DrawC.keep (DrawC.keep g0 (C1 (w.heap.size+1) (0) (.slice p0 nv t0)) (fun gq h h2=>by have:=iD gq h;omega)) (C1 (w.heap.size+1) (1) (.slice p1 na t1)) (fun gq h h2=>by have:=iD gq h;omega)) (C1 (w.heap.size+1) (2) (.slice (some ⟨gl,0,none⟩) (n1+1) t2)) (fun gq h h2=>by have:=iD gq h;omega));have f5:=Lib.hid iD;clear g0
  obtain ⟨dA,mB,eA,nB⟩:=Bk.f2 l0 0 1 rfl rfl
  obtain ⟨fA,oB,gA,pB,iA,qB⟩:=Bk.f3 m0 0 1 2 rfl rfl rfl
  have q1:=((((Chg.refl (fun q=>q=w.heap.size+1) w8).setCell (w.heap.size+1) 0 (.slice p0 nv t0) (fun _=>rfl)).setCell (w.heap.size+1) 1 (.slice p1 na t1) (fun _=>rfl)).setCell (w.heap.size+1) 2 (.slice (some ⟨gl,0,none⟩) (n1+1) t2) (fun _=>rfl))
  have y1:=(Bk.at (Bk.at (Bk.at m0 0 (.slice p0 nv t0)) 1 (.slice p1 na t1)) 2 (.slice (some ⟨gl,0,none⟩) (n1+1) t2))
  obtain ⟨i3,j3,k3⟩:=Bk.g3 y1
  have r1:=Lib.hid q1;clear q1 y1
  have u1:=Lib.hid (And.intro hC hR);clear hC hR
  go_wp2
  exact bodyPost_ret (v:=.agg #[.slice p0 nv t0,.slice p1 na t1,.slice (some ⟨gl,0,none⟩) (n1+1) t2]) (by simp [results,Try.results48,go_sem,i3,j3,k3]) rfl (by exact (by unfold MutP;rw [d5.out,e5.out];exact ⟨_,_,_,nv,p+1+1+1,rfl,DrawC.mono d3.out (by omega),by omega,u1.out.2.keep r1.out (fun h=>by omega) (fun k hk h=>by omega),by omega,chg_app u1.out.1 r1.out (fun q hq h=>by omega)⟩))
 have vE:(z == 4)=false:=by simp [hk4]
 by_cases hk5:z=5
 ·subst hk5
  obtain ⟨r7,u7⟩:=Bk.cf l0 0 rfl
  go_upto_region 18 with (fail)
  obtain ⟨w4,y0,hb⟩:=nmw (World.alloc (World.setCell w3 ⟨b5,0,none⟩ (.slice (some ⟨w3.heap.size,0,none⟩) 0 0)) (.cells #[] 3))
  replace hC:=(((hC.sN _ _ _).trans (Chg.of_below (bal (Bs _) _)))).trans (Chg.of_below hb)
  replace hR:=((hR.kC _ _ _).below (bal (Bs _) _)).below hb
  have a4:=Ob (World.ownsRow_lit (base:=((World.setCell w3 ⟨b5,0,none⟩ (.slice (some ⟨w3.heap.size,0,none⟩) 0 0))).heap.size) (e:=3) (size:=1) ((World.setCell w3 ⟨b5,0,none⟩ (.slice (some ⟨w3.heap.size,0,none⟩) 0 0))) #[] 0 (Nat.le_refl _) (by unfold maxLen;omega) (by simp)) hb
  try simp only [Sa,Ss] at a4
  replace g0:=DrawC.below (DrawC.below (DrawC.keep g0 (C1 _ _ _) (fun gq h h2=>by have:=iD gq h;omega)) (bal (Bs _) _)) hb
  have l6:=hb.size
  simp only [Sa,Ss] at l6
  clear u7 r7
  replace l0:Bk w4 (b5) [.slice (some ⟨w3.heap.size,0,none⟩) 0 0,.slice p1 na t1,.slice (some ⟨gl,0,none⟩) (n1+1) t2]:=Bk.below (Bk.al (Bk.at l0 0 (.slice (some ⟨w3.heap.size,0,none⟩) 0 0)) _) hb
  replace m0:=Bk.below (Bk.al (Bk.nn m0 _) _) hb
  clear hb
  have a5:=a4.lt
  try simp only [Sa,Ss] at a5
  rw [← y0]
  clear y0
  have d9:=DrawC.novars g0 (Om a4 (by omega)) (fun q h h2=>by have:=a5 q h;have:=iD q (Or.inr (Or.inl h2));omega)
  have iV:∀ q,OwnB (.slice (some ⟨w3.heap.size,0,none⟩) 0 0) (.slice p1 na t1) (.slice (some ⟨gl,0,none⟩) (n1+1) t2) q→¬q=b5∧¬q=w.heap.size+1:=fun q h=>by
   rcases h with h | h | h
   ·have:=a5 q h;omega
   ·have:=iD q (Or.inr (Or.inl h));omega
   have:=iD q (Or.inr (Or.inr h));omega
  clear g0 a4
  have d3:=Lib.hid (DrawC.keep (DrawC.keep (DrawC.keep d9 (C1 (w.heap.size+1) (0) (.slice (some ⟨w3.heap.size,0,none⟩) 0 0)) (fun gq h h2=>by have:=iV gq h;omega)) (C1 (w.heap.size+1) (1) (.slice p1 na t1)) (fun gq h h2=>by have:=iV gq h;omega)) (C1 (w.heap.size+1) (2) (.slice (some ⟨gl,0,none⟩) (n1+1) t2)) (fun gq h h2=>by have:=iV gq h;omega));have f5:=Lib.hid iV;clear d9
  obtain ⟨jA,rB,kA,sB,lA,tB⟩:=Bk.f3 l0 0 1 2 rfl rfl rfl
  obtain ⟨mA,uB,nA,vB,pA,wB⟩:=Bk.f3 m0 0 1 2 rfl rfl rfl
  have q1:=((((Chg.refl (fun q=>q=w.heap.size+1) w4).setCell (w.heap.size+1) 0 (.slice (some ⟨w3.heap.size,0,none⟩) 0 0) (fun _=>rfl)).setCell (w.heap.size+1) 1 (.slice p1 na t1) (fun _=>rfl)).setCell (w.heap.size+1) 2 (.slice (some ⟨gl,0,none⟩) (n1+1) t2) (fun _=>rfl))
  have y1:=(Bk.at (Bk.at (Bk.at m0 0 (.slice (some ⟨w3.heap.size,0,none⟩) 0 0)) 1 (.slice p1 na t1)) 2 (.slice (some ⟨gl,0,none⟩) (n1+1) t2))
  obtain ⟨i3,j3,k3⟩:=Bk.g3 y1
  have r1:=Lib.hid q1;clear q1 y1
  have u1:=Lib.hid (And.intro hC hR);clear hC hR
  go_wp2
  exact bodyPost_ret (v:=.agg #[.slice (some ⟨w3.heap.size,0,none⟩) 0 0,.slice p1 na t1,.slice (some ⟨gl,0,none⟩) (n1+1) t2]) (by simp [results,Try.results48,go_sem,i3,j3,k3]) rfl (by exact (by unfold MutP;rw [d5.out,e5.out];exact ⟨_,_,_,0,p+1,rfl,DrawC.mono d3.out (by omega),by omega,u1.out.2.keep r1.out (fun h=>by omega) (fun k hk h=>by omega),by omega,chg_app u1.out.1 r1.out (fun q hq h=>by omega)⟩))
 have wE:(z == 5)=false:=by simp [hk5]
 go_upto_region 18 with (fail)
 have d3:=Lib.hid (DrawC.keep (DrawC.keep (DrawC.keep g0 (C1 (w.heap.size+1) (0) (.slice p0 nv t0)) (fun gq h h2=>by have:=iD gq h;omega)) (C1 (w.heap.size+1) (1) (.slice p1 na t1)) (fun gq h h2=>by have:=iD gq h;omega)) (C1 (w.heap.size+1) (2) (.slice (some ⟨gl,0,none⟩) (n1+1) t2)) (fun gq h h2=>by have:=iD gq h;omega));have f5:=Lib.hid iD;clear g0
 obtain ⟨qA,xB,rA,yB,sA,zB⟩:=Bk.f3 l0 0 1 2 rfl rfl rfl
 obtain ⟨tA,aC,uA,bC,xA,cC⟩:=Bk.f3 m0 0 1 2 rfl rfl rfl
 have q1:=((((Chg.refl (fun q=>q=w.heap.size+1) w3).setCell (w.heap.size+1) 0 (.slice p0 nv t0) (fun _=>rfl)).setCell (w.heap.size+1) 1 (.slice p1 na t1) (fun _=>rfl)).setCell (w.heap.size+1) 2 (.slice (some ⟨gl,0,none⟩) (n1+1) t2) (fun _=>rfl))
 have y1:=(Bk.at (Bk.at (Bk.at m0 0 (.slice p0 nv t0)) 1 (.slice p1 na t1)) 2 (.slice (some ⟨gl,0,none⟩) (n1+1) t2))
 obtain ⟨i3,j3,k3⟩:=Bk.g3 y1
 have r1:=Lib.hid q1;clear q1 y1
 have u1:=Lib.hid (And.intro hC hR);clear hC hR
 go_wp2
 exact bodyPost_ret (v:=.agg #[.slice p0 nv t0,.slice p1 na t1,.slice (some ⟨gl,0,none⟩) (n1+1) t2]) (by simp [results,Try.results48,go_sem,i3,j3,k3]) rfl (by exact (by unfold MutP;rw [d5.out,e5.out];exact ⟨_,_,_,nv,p+1,rfl,DrawC.mono d3.out (by omega),by omega,u1.out.2.keep r1.out (fun h=>by omega) (fun k hk h=>by omega),by omega,chg_app u1.out.1 r1.out (fun q hq h=>by omega)⟩))
end Go.Proofs.Ytkjedgnepnbkpaa
