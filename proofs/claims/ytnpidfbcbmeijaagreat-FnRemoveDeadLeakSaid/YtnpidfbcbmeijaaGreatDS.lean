/-
 Parts of the proofs of the laws FnRemoveDead,FnRemoveDeadLeak,FnSpecFenced,FnSpecMemory.
-/
import Derived.Test.YtnpidfbcbmeijaaGreatDW
set_option linter.all false
namespace Go.Proofs.YtnpidfbcbmeijaaGreat
open Go.RowKit
set_option maxHeartbeats 40000000 in
set_option maxRecDepth 100000 in
theorem l12Drop_any (va vb vc v:Value) (c:Cd) (D:List Bool) (w:World) (hr:ReadsC w va vb vc c) (hD:Reads w 1 v D.length (bools D)) (hDl:D.length=c.list.length) (hok:codeOk c=true) :
  Calls Tryz.prog 62 #[.agg #[va,vb,vc],v] w fun e w'=>∃ ua ub uc,e=.returned (.agg #[ua,ub,uc])∧OwnC w' w.heap.size ua ub uc (wout c (dOf D))∧Below w.heap.size w w':=by
 obtain ⟨a0,c0,a1,c1,a2,c2,rfl,rfl,rfl⟩:=hr.shape;obtain ⟨l1,l2⟩:=codeOk_len hok;obtain ⟨l3,l4⟩:=declOk_len (codeOk_decl hok);have r6:=Hi (fun k hk h0=>tgt_in (codeOk_all hok k hk) h0);have y5:=Hi (fun k hk=>dOf_at D k hk);have HR:Hid (wout c (dOf D)=⟨c.vars,c.arrays,outTo c.list (dOf D) c.list.length⟩):=Hi rfl;generalize wout c (dOf D)=R at *
 generalize dOf D=d at *
 have z6:=hr.l;obtain ⟨_,hn,aa,s7,b,w0,hv,u6,ha,f6⟩:=z6;simp only [Value.slice.injEq,true_and] at hv;obtain ⟨rfl,rfl⟩:=hv;obtain ⟨rfl,t6⟩:=ha (by omega);obtain ⟨_,y6,ad,v3,bd,h3,rfl,x3,d6,w3⟩:=hD;obtain ⟨rfl,v7⟩:=d6 (by omega);have z5:=Hi (fun k (h:k < c.list.length)=>show w.cell? ⟨bd,h3+k,none⟩=some (.bool (d k)) from by have h2:=w3 k (by rw [bools_length];omega);rw [bools_get] at h2;rw [y5.out k (by omega)];exact h2);have f4:Value.slice (some ⟨bd,h3,none⟩) D.length v3=Value.slice (some ⟨bd,h3,none⟩) c.list.length v3:=by rw [hDl]
 rw [f4];clear w3 d6 y6 x3 f4 y5 ha;clear hDl;have HC:=Hi (reads_Instr f6);clear f6;have i8:=hr.lt;have x7:b < w.heap.size:=t6;go_enter Tryz.func62,Tryz.ntmps62
 go_upto_region 1 with (fail)
 obtain ⟨w2,j6,hb⟩:=nmw (World.alloc (World.alloc w (.cells #[.slice a0 c.vars.length c0,.slice a1 c.arrays.length c1,.slice (some ⟨b,w0,none⟩) c.list.length c2] 26)) (.cells #[.slice none 0 0,.slice none 0 0,.slice none 0 0] 26));have k5:=hb.size;simp only [Sa] at k5;replace hr:=((hr.below (bal (Bs _) _)).below (bal (Bs _) _)).below hb;have b3:w2.cell? ⟨w.heap.size,0,none⟩=some (.slice a0 c.vars.length c0):=Kc hb (Ac (Wc (by simp) (by rfl)) _);have c3:w2.cell? ⟨w.heap.size,1,none⟩=some (.slice a1 c.arrays.length c1):=Kc hb (Ac (Wc (by simp) (by rfl)) _);have s2:w2.cell? ⟨w.heap.size,2,none⟩=some (.slice (some ⟨b,w0,none⟩) c.list.length c2):=Kc hb (Ac (Wc (by simp) (by rfl)) _);have v2:w2.cell? ⟨w.heap.size+1,0,none⟩=some (.slice none 0 0):=Kc hb (Wc (by simp) (by rfl));have n3:w2.frozen? ⟨w.heap.size+1,0,none⟩=false:=Kf hb (by simp <;> omega) (Fn (by simp));have y2:w2.cell? ⟨w.heap.size+1,1,none⟩=some (.slice none 0 0):=Kc hb (Wc (by simp) (by rfl));have o3:w2.frozen? ⟨w.heap.size+1,1,none⟩=false:=Kf hb (by simp <;> omega) (Fn (by simp));have a3:w2.cell? ⟨w.heap.size+1,2,none⟩=some (.slice none 0 0):=Kc hb (Wc (by simp) (by rfl));have w1:w2.frozen? ⟨w.heap.size+1,2,none⟩=false:=Kf hb (by simp <;> omega) (Fn (by simp));have g0:=btr (bal (bal (Bs w) (.cells #[.slice a0 c.vars.length c0,.slice a1 c.arrays.length c1,.slice (some ⟨b,w0,none⟩) c.list.length c2] 26)) (.cells #[.slice none 0 0,.slice none 0 0,.slice none 0 0] 26)) hb;clear hb;rw [← j6];clear j6;have h4:=Lc b3;have i4:=Lc c3;have l5:=Lc s2;have m5:=Lc v2;have n5:=Lc y2;have p5:=Lc a3;have n6:=own_nil_rows w2 3 1;have b6:=bal (Bs w2) (.cells #[] 3);have j4:=Hi (fun k (h:k < c.list.length)=>Kc g0 (z5.out k h));have s4:Hid (∀ k (h:k < c.list.length),w2.cell? ⟨b,w0+k*5,none⟩=some (.int .i64 c.list[k].op)∧w2.cell? ⟨b,w0+k*5+1,none⟩=some (.int .i64 c.list[k].a)∧w2.cell? ⟨b,w0+k*5+2,none⟩=some (.int .i64 c.list[k].b)∧w2.cell? ⟨b,w0+k*5+3,none⟩=some (.int .i64 c.list[k].c)∧w2.cell? ⟨b,w0+k*5+4,none⟩=some (.int .i64 c.list[k].d)):=Hi (fun k h=>by obtain ⟨e0,e1,e2,e3,e4⟩:=HC.out k h;exact ⟨Kc g0 e0,Kc g0 e1,Kc g0 e2,Kc g0 e3,Kc g0 e4⟩);clear HC z5;go_wp2
 go_loopw [5,6,7] (fun av cn i wr=>∃ k:Nat,k≤c.list.length∧cn=.int .i64 (stay d k:Nat)∧i=.int .i64 k∧wr.ownsRow w2.heap.size 3 1 av k (ints (stays d k))∧Below w2.heap.size w2 wr) (fun _ _ i _=>c.list.length-(intOf i).toNat)
 case atStart=>exact ⟨0,Nat.zero_le _,rfl,rfl,n6,b6⟩
 case round =>
  obtain ⟨k,hk,rfl,rfl,oA,hB⟩:=hrel;have g8:=hB.size;have v6:=stay_le d k;clear n6 b6;by_cases hlt:k < c.list.length
  ·have yM:=Kc hB (j4.out k hlt);have ky:=Lc yM;have a4:stay d (k+1)=stay d k+(if d k=true then 0 else 1):=rfl;obtain ⟨q,g3⟩:∃ q,d k=q:=⟨_,rfl⟩;rw [g3] at yM;have HV:=Hi g3;have j3:=Hi a4;clear g3 a4 s4 j4;go_wp2_with (at_builtin;refine wpList_ap tInts rfl _ _ rfl w2.heap.size _ k _ rfl oA [.int .i64 (stay d k:Nat)] rfl rfl (one_ints [((stay d k:Nat):Int)]) (by omega) (by omega) ?_)
   intro g4 c4 wy o4 i5 x6;have iA:=oA.lt;have c6:=hB.trans (i5.below w2.heap.size hB.size (fun q hq h=>by have:=iA q h;omega));replace yM:=Gc i5 yM (fun h=>by have:=iA _ h;omega);rw [show ints (stays d k)++[Value.int .i64 (stay d k:Nat)]=ints (stays d (k+1)) from by rw [stays_succ,ints_append];rfl] at o4;clear oA i5 x6 hB
   cases q with
   | true =>
    go_wp2
    go_roundw
    case rel=>exact ⟨k+1,by omega,by rw [j3.out,HV.out];rfl,by go_num,o4,c6⟩
    case measure=>simp [intOf];omega
   | false =>
    go_wp2
    go_roundw
    case rel=>exact ⟨k+1,by omega,by rw [j3.out,HV.out];rfl,by go_num,o4,c6⟩
    case measure=>simp [intOf];omega
  have e:k=c.list.length:=by omega
  subst e;have b2:=g0.trans (hB.mono g0.size);replace b3:=Kc hB b3;replace c3:=Kc hB c3;replace s2:=Kc hB s2;replace v2:=Kc hB v2;replace y2:=Kc hB y2;replace a3:=Kc hB a3;replace n3:=Kf hB (by omega) n3;replace o3:=Kf hB (by omega) o3;replace w1:=Kf hB (by omega) w1;have t4:Hid (∀ k (h:k < c.list.length),wr.cell? ⟨b,w0+k*5,none⟩=some (.int .i64 c.list[k].op)∧wr.cell? ⟨b,w0+k*5+1,none⟩=some (.int .i64 c.list[k].a)∧wr.cell? ⟨b,w0+k*5+2,none⟩=some (.int .i64 c.list[k].b)∧wr.cell? ⟨b,w0+k*5+3,none⟩=some (.int .i64 c.list[k].c)∧wr.cell? ⟨b,w0+k*5+4,none⟩=some (.int .i64 c.list[k].d)):=Hi (fun k h=>by obtain ⟨e0,e1,e2,e3,e4⟩:=s4.out k h;exact ⟨Kc hB e0,Kc hB e1,Kc hB e2,Kc hB e3,Kc hB e4⟩);have x4:=Hi (fun k (h:k < c.list.length)=>Kc hB (j4.out k h));have r:=hr.below hB;obtain ⟨pa,ta,rfl⟩:=Oh oA;clear s4 j4 hr hB g0;obtain ⟨w4,rfl⟩:∃ X,X=wr:=⟨_,rfl⟩;replace h4:=Lc b3;replace i4:=Lc c3;replace l5:=Lc s2;replace m5:=Lc v2;replace n5:=Lc y2;replace p5:=Lc a3;go_upto_region 9 with (fail)
  go_cut [8] (fun s wx=>∃ (bb:Nat) (p0:Option Addr) (t0:Nat) (p1:Option Addr) (t1:Nat),s=.pointer (some ⟨bb,0,none⟩)∧wx.cell? ⟨bb,0,none⟩=some (.slice p0 c.vars.length t0)∧wx.cell? ⟨bb,1,none⟩=some (.slice p1 c.arrays.length t1)∧wx.cell? ⟨bb,2,none⟩=some (.slice none 0 0)∧wx.frozen? ⟨bb,2,none⟩=false∧w4.heap.size≤bb∧bb < wx.heap.size∧wx.ownsRow w4.heap.size 3 1 (.slice p0 c.vars.length t0) c.vars.length (ints c.vars)∧wx.ownsRow w4.heap.size 3 1 (.slice p1 c.arrays.length t1) c.arrays.length (ints c.arrays)∧(∀ q,(Value.slice p0 c.vars.length t0).ownBlock=some q→(Value.slice p1 c.arrays.length t1).ownBlock=some q→False)∧(∀ q,(Value.slice p0 c.vars.length t0).ownBlock=some q→¬q=bb)∧(∀ q,(Value.slice p1 c.arrays.length t1).ownBlock=some q→¬q=bb)∧Below w4.heap.size w4 wx)
  case first =>
   have k3:=Hi (fun W' (hW:Below w4.heap.size w4 W')=>r.below hW);clear v2 y2 a3 n3 o3 w1 s2 b2 oA t4 x4 r;have j0:Hid (∀ W',Below w4.heap.size w4 W'→W'.cell? ⟨w.heap.size,0,none⟩=some (.slice a0 c.vars.length c0)∧W'.cell? ⟨w.heap.size,1,none⟩=some (.slice a1 c.arrays.length c1)):=Hi (fun W' hW=>⟨Kc hW b3,Kc hW c3⟩);refine wp_region_noPanic ?_;refine wp_region_held_drew (S:=(fun W'=>W'.cell? ⟨w.heap.size,0,none⟩=some (.slice a0 c.vars.length c0)∧W'.cell? ⟨w.heap.size,1,none⟩=some (.slice a1 c.arrays.length c1))) (by kernel_rfl) (j0.out _ (Bd (Bs w4))) (fun _=>?_);have i3:Below w4.heap.size w4 (World.drew w4):=Bd (Bs _);generalize World.drew w4=wd at i3 ⊢
   refine name_H (fun T hT A0 hA=>?_)
   have h1:Hid (∀ (b0:Nat) (p3:Option Addr) (t3:Nat) (b4:Nat) (p7:Option Addr) (t7:Nat) (b9:Nat) (w':World),Below w4.heap.size w4 w'→RowSet w' w4.heap.size [Rv c p3 t3,Ry c p7 t7,⟨9,26,3,.slice (some ⟨b9,0,none⟩) 1 1,1,[.slice p3 c.vars.length t3,.slice p7 c.arrays.length t7,.slice none 0 0]⟩]→T 0 #[true,true,true,true,true,true,true,true,true,true,true] (Act.put (Act.put (Act.put (Act.put (Act.put (Act.put (Act.put (Act.put (Act.put (Act.put A0 (some 29) (.slice (some ⟨b0,0,none⟩) 0 0)) (some 30) (.pointer (some ⟨w.heap.size,0,none⟩))) (some 31) (.slice a0 c.vars.length c0)) (some 32) (.slice p3 c.vars.length t3)) (some 33) (.slice (some ⟨b4,0,none⟩) 0 0)) (some 34) (.pointer (some ⟨w.heap.size,1,none⟩))) (some 35) (.slice a1 c.arrays.length c1)) (some 36) (.slice p7 c.arrays.length t7)) (some 37) (.agg #[.slice p3 c.vars.length t3,.slice p7 c.arrays.length t7,.slice none 0 0])) (some 8) (.pointer (some ⟨b9,0,none⟩))) w'):=by
    refine Hi ?_;intro b0 p3 t3 b4 p7 t7 b9 w' g0 rs;have k1:=g0.size;have hHeld:=j0.out _ g0;have l0:=hT.out;subst l0;have k0:=hA.out;subst k0;clear hT hA;change wpAnyH _ _ _ _ _ 0 _ _ _
    try simp only [Ep]
    refine Dn ?_;clear hHeld;have o0:=rs.own (Rv c p3 t3:RowK) (by simp);have o1:=rs.own (Ry c p7 t7:RowK) (by simp);have a6:=rs.own (⟨9,26,3,.slice (some ⟨b9,0,none⟩) 1 1,1,[.slice p3 c.vars.length t3,.slice p7 c.arrays.length t7,.slice none 0 0]⟩:RowK) (by simp);have j2:=a6.lt b9 rfl;have KB:=Bk.of_own a6;go_wp2_with fail
    go_meet
    exact ⟨_,_,_,_,_,rfl,KB.cell 0 rfl,KB.cell 1 rfl,KB.cell 2 rfl,KB.froz 2 (by simp),j2.1,j2.2,o0,o1,rs.dj (Rv c p3 t3:RowK) (by simp) (Ry c p7 t7:RowK) (by simp) (by simp),(fun q h e=>rs.dj (Rv c p3 t3:RowK) (by simp) (⟨9,26,3,.slice (some ⟨b9,0,none⟩) 1 1,1,[.slice p3 c.vars.length t3,.slice p7 c.arrays.length t7,.slice none 0 0]⟩:RowK) (by simp) (by simp) q h (by rw [e];rfl)),(fun q h e=>rs.dj (Ry c p7 t7:RowK) (by simp) (⟨9,26,3,.slice (some ⟨b9,0,none⟩) 1 1,1,[.slice p3 c.vars.length t3,.slice p7 c.arrays.length t7,.slice none 0 0]⟩:RowK) (by simp) (by simp) q h (by rw [e];rfl)),g0⟩
   have j1:Hid (∀ (b0:Nat) (p3:Option Addr) (t3:Nat) (b4:Nat) (p7:Option Addr) (t7:Nat) (b9:Nat) (w':World),Below w4.heap.size w4 w'→RowSet w' w4.heap.size [Rv c p3 t3,Ry c p7 t7,⟨9,26,3,.slice (some ⟨b9,0,none⟩) 1 1,1,[.slice none 0 0,.slice none 0 0,.slice none 0 0]⟩]→T 1 #[true,true,true,true,true,true,true,true,true,true,false] (Act.put (Act.put (Act.put (Act.put (Act.put (Act.put (Act.put (Act.put (Act.put (Act.put A0 (some 29) (.slice (some ⟨b0,0,none⟩) 0 0)) (some 30) (.pointer (some ⟨w.heap.size,0,none⟩))) (some 31) (.slice a0 c.vars.length c0)) (some 32) (.slice p3 c.vars.length t3)) (some 33) (.slice (some ⟨b4,0,none⟩) 0 0)) (some 34) (.pointer (some ⟨w.heap.size,1,none⟩))) (some 35) (.slice a1 c.arrays.length c1)) (some 36) (.slice p7 c.arrays.length t7)) (some 37) (.agg #[.slice p3 c.vars.length t3,.slice p7 c.arrays.length t7,.slice none 0 0])) (some 8) (.pointer (some ⟨b9,0,none⟩))) w'):=by
    refine Hi ?_;intro b0 p3 t3 b4 p7 t7 b9 w' g0 rs;have k1:=g0.size;have hHeld:=j0.out _ g0;have l0:=hT.out;subst l0;have k0:=hA.out;subst k0;clear hT hA;change wpAnyH _ _ _ _ _ 1 _ _ _
    try simp only [Ep]
    refine Rdy 10 rfl (fun K hK=>?_);have HO:=rs.own (⟨9,26,3,.slice (some ⟨b9,0,none⟩) 1 1,1,[.slice none 0 0,.slice none 0 0,.slice none 0 0]⟩:RowK) (Mt (Mt Mh));have q3:w4.heap.size≤b9:=(HO.lt b9 rfl).1;have kb:=Lc ((Bk.of_own HO).cell 0 rfl);have x0:=(Bk.of_own HO).cell 0 (v:=.slice none 0 0) rfl;have f0:=(Bk.of_own HO).froz 0 (show 0 < 3 by decide);have x1:=(Bk.of_own HO).cell 1 (v:=.slice none 0 0) rfl;have f1:=(Bk.of_own HO).froz 1 (show 1 < 3 by decide);have x2:=(Bk.of_own HO).cell 2 (v:=.slice none 0 0) rfl;have f2:=(Bk.of_own HO).froz 2 (show 2 < 3 by decide);go_simp
    have t5:RowSet _ w4.heap.size [Rv c p3 t3,Ry c p7 t7,⟨9,26,3,.slice (some ⟨b9,0,none⟩) 1 1,1,[.slice p3 c.vars.length t3,.slice none 0 0,.slice none 0 0]⟩]:=RowSet.sub (RowSet.set rs (⟨9,26,3,.slice (some ⟨b9,0,none⟩) 1 1,1,[.slice none 0 0,.slice none 0 0,.slice none 0 0]⟩:RowK) (Mt (Mt Mh)) rfl rfl 0 (.slice p3 c.vars.length t3) (l':=[Rv c p3 t3,Ry c p7 t7]) (Oc Mh (Oc (Mt Mh) On))) (Sb (Mt Mh) (Sb (Mt (Mt Mh)) (Sb Mh Sz)));have u5:RowSet _ w4.heap.size [Rv c p3 t3,Ry c p7 t7,⟨9,26,3,.slice (some ⟨b9,0,none⟩) 1 1,1,[.slice p3 c.vars.length t3,.slice p7 c.arrays.length t7,.slice none 0 0]⟩]:=RowSet.sub (RowSet.set t5 (⟨9,26,3,.slice (some ⟨b9,0,none⟩) 1 1,1,[.slice p3 c.vars.length t3,.slice none 0 0,.slice none 0 0]⟩:RowK) (Mt (Mt Mh)) rfl rfl 1 (.slice p7 c.arrays.length t7) (l':=[Rv c p3 t3,Ry c p7 t7]) (Oc Mh (Oc (Mt Mh) On))) (Sb (Mt Mh) (Sb (Mt (Mt Mh)) (Sb Mh Sz)));have v5:RowSet _ w4.heap.size [Rv c p3 t3,Ry c p7 t7,⟨9,26,3,.slice (some ⟨b9,0,none⟩) 1 1,1,[.slice p3 c.vars.length t3,.slice p7 c.arrays.length t7,.slice none 0 0]⟩]:=RowSet.sub (RowSet.set u5 (⟨9,26,3,.slice (some ⟨b9,0,none⟩) 1 1,1,[.slice p3 c.vars.length t3,.slice p7 c.arrays.length t7,.slice none 0 0]⟩:RowK) (Mt (Mt Mh)) rfl rfl 2 (.slice none 0 0) (l':=[Rv c p3 t3,Ry c p7 t7]) (Oc Mh (Oc (Mt Mh) On))) (Sb (Mt Mh) (Sb (Mt (Mt Mh)) (Sb Mh Sz)));clear HO kb x0 f0 x1 f1 x2 f2;refine hK.out _ _ (j0.out _ (bst (bst (bst g0 b9 0 q3 (.slice p3 c.vars.length t3)) b9 1 q3 (.slice p7 c.arrays.length t7)) b9 2 q3 (.slice none 0 0))) (fun hHeld=>?_);clear hK K;try simp only [Ep]
    have hM:=h1.out b0 p3 t3 b4 p7 t7 b9 _ (bst (bst (bst g0 b9 0 q3 (.slice p3 c.vars.length t3)) b9 1 q3 (.slice p7 c.arrays.length t7)) b9 2 q3 (.slice none 0 0)) v5;try simp only [Ep] at hM
    exact hM
   have v1:Hid (∀ (b0:Nat) (p3:Option Addr) (t3:Nat) (b4:Nat) (p7:Option Addr) (t7:Nat) (w':World),Below w4.heap.size w4 w'→RowSet w' w4.heap.size [Rv c p3 t3,Ry c p7 t7]→T 2 #[true,true,true,true,true,true,true,true,true,false,false] (Act.put (Act.put (Act.put (Act.put (Act.put (Act.put (Act.put (Act.put (Act.put A0 (some 29) (.slice (some ⟨b0,0,none⟩) 0 0)) (some 30) (.pointer (some ⟨w.heap.size,0,none⟩))) (some 31) (.slice a0 c.vars.length c0)) (some 32) (.slice p3 c.vars.length t3)) (some 33) (.slice (some ⟨b4,0,none⟩) 0 0)) (some 34) (.pointer (some ⟨w.heap.size,1,none⟩))) (some 35) (.slice a1 c.arrays.length c1)) (some 36) (.slice p7 c.arrays.length t7)) (some 37) (.agg #[.slice p3 c.vars.length t3,.slice p7 c.arrays.length t7,.slice none 0 0])) w'):=by
    clear h1;refine Hi ?_;intro b0 p3 t3 b4 p7 t7 w' g0 rs;have k1:=g0.size;have hHeld:=j0.out _ g0;have l0:=hT.out;subst l0;have k0:=hA.out;subst k0;clear hT hA;change wpAnyH _ _ _ _ _ 2 _ _ _
    try simp only [Ep]
    refine Rdy 9 rfl (fun K hK=>?_);go_simp
    refine hK.out _ _ (j0.out _ (bal g0 _)) (fun hHeld=>?_);clear hK K;try simp only [Ep]
    have hM:=j1.out b0 p3 t3 b4 p7 t7 w'.heap.size _ (bal g0 _) (RowSet.sub (RowSet.lit rs 9 26 3 #[.slice none 0 0,.slice none 0 0,.slice none 0 0] 1 (by omega) (by unfold maxLen;omega) (by simp)) (Sb (Mt Mh) (Sb (Mt (Mt Mh)) (Sb Mh Sz))));try simp only [Ep] at hM
    exact hM
   have g2:Hid (∀ (b0:Nat) (p3:Option Addr) (t3:Nat) (b4:Nat) (b9:Nat) (w':World),Below w4.heap.size w4 w'→RowSet w' w4.heap.size [Rv c p3 t3,Re 4 b4,⟨9,26,3,.slice (some ⟨b9,0,none⟩) 1 1,1,[.slice none 0 0,.slice none 0 0,.slice none 0 0]⟩]→T 3 #[true,true,true,true,true,true,true,false,false,true,false] (Act.put (Act.put (Act.put (Act.put (Act.put (Act.put (Act.put (Act.put A0 (some 29) (.slice (some ⟨b0,0,none⟩) 0 0)) (some 30) (.pointer (some ⟨w.heap.size,0,none⟩))) (some 31) (.slice a0 c.vars.length c0)) (some 32) (.slice p3 c.vars.length t3)) (some 33) (.slice (some ⟨b4,0,none⟩) 0 0)) (some 34) (.pointer (some ⟨w.heap.size,1,none⟩))) (some 35) (.slice a1 c.arrays.length c1)) (some 8) (.pointer (some ⟨b9,0,none⟩))) w'):=by
    clear h1 v1;refine Hi ?_;intro b0 p3 t3 b4 b9 w' g0 rs;have k1:=g0.size;have hHeld:=j0.out _ g0;have l0:=hT.out;subst l0;have k0:=hA.out;subst k0;clear hT hA;change wpAnyH _ _ _ _ _ 3 _ _ _
    try simp only [Ep]
    refine Rdy 7 rfl (fun K hK=>?_);have HO:=rs.own (Re 4 b4:RowK) (Mt Mh);have g1:=fun q hq=>(HO.lt q hq).1
    refine step_aps tInts rfl _ _ rfl (w4.heap.size) _ 0 ([]) rfl HO _ (c.arrays.length) (ints c.arrays) rfl ((k3.out _ g0).b) (one_ints c.arrays) (by omega) (by omega) ?_;intro vA wA oA n0 b1 _;try simp only [Nat.zero_add,List.nil_append] at oA
    obtain ⟨p7,t7,rfl⟩:=Oh oA;have i0:=Tg g0 n0 g1;have i1:=RowSet.push rs (Re 4 b4:RowK) (Mt Mh) oA n0 b1 (l':=[Rv c p3 t3,⟨9,26,3,.slice (some ⟨b9,0,none⟩) 1 1,1,[.slice none 0 0,.slice none 0 0,.slice none 0 0]⟩]) (Oc Mh (Oc (Mt (Mt Mh)) On));clear HO g1 oA n0 b1;refine hK.out _ _ (j0.out _ i0) (fun hHeld=>?_);clear hK K;try simp only [Ep]
    refine take_d (i:=8) (d:=37) (v:=.agg #[.slice p3 c.vars.length t3,.slice p7 c.arrays.length t7,.slice none 0 0]) rfl rfl (by kernel_rfl) (by kernel_rfl) (by kernel_rfl) (fun _ _ _ h=>h) (Or.inl ⟨by rfl,fun W' _=>by kernel_rfl⟩) (by assumption) ?_;try simp only [Ep]
    have hM:=j1.out b0 p3 t3 b4 p7 t7 b9 _ i0 (RowSet.sub i1 (Sb (Mt Mh) (Sb Mh (Sb (Mt (Mt Mh)) Sz))));try simp only [Ep] at hM
    exact hM
   have M8:Hid (∀ (b0:Nat) (p3:Option Addr) (t3:Nat) (b4:Nat) (w':World),Below w4.heap.size w4 w'→RowSet w' w4.heap.size [Rv c p3 t3,Re 4 b4]→T 4 #[true,true,true,true,true,true,true,false,false,false,false] (Act.put (Act.put (Act.put (Act.put (Act.put (Act.put (Act.put A0 (some 29) (.slice (some ⟨b0,0,none⟩) 0 0)) (some 30) (.pointer (some ⟨w.heap.size,0,none⟩))) (some 31) (.slice a0 c.vars.length c0)) (some 32) (.slice p3 c.vars.length t3)) (some 33) (.slice (some ⟨b4,0,none⟩) 0 0)) (some 34) (.pointer (some ⟨w.heap.size,1,none⟩))) (some 35) (.slice a1 c.arrays.length c1)) w'):=by
    clear h1 j1;refine Hi ?_;intro b0 p3 t3 b4 w' g0 rs;have k1:=g0.size;have hHeld:=j0.out _ g0;have l0:=hT.out;subst l0;have k0:=hA.out;subst k0;clear hT hA;change wpAnyH _ _ _ _ _ 4 _ _ _
    try simp only [Ep]
    refine Rdy2 7 9 rfl rfl (fun K hK=>?_) (fun K hK=>?_)
    ·have HO:=rs.own (Re 4 b4:RowK) (Mt Mh);have g1:=fun q hq=>(HO.lt q hq).1
     refine step_aps tInts rfl _ _ rfl (w4.heap.size) _ 0 ([]) rfl HO _ (c.arrays.length) (ints c.arrays) rfl ((k3.out _ g0).b) (one_ints c.arrays) (by omega) (by omega) ?_;intro vA wA oA n0 b1 _;try simp only [Nat.zero_add,List.nil_append] at oA
     obtain ⟨p7,t7,rfl⟩:=Oh oA;have i0:=Tg g0 n0 g1;have i1:=RowSet.push rs (Re 4 b4:RowK) (Mt Mh) oA n0 b1 (l':=[Rv c p3 t3]) (Oc Mh On);clear HO g1 oA n0 b1;refine hK.out _ _ (j0.out _ i0) (fun hHeld=>?_);clear hK K;try simp only [Ep]
     refine take_d (i:=8) (d:=37) (v:=.agg #[.slice p3 c.vars.length t3,.slice p7 c.arrays.length t7,.slice none 0 0]) rfl rfl (by kernel_rfl) (by kernel_rfl) (by kernel_rfl) (fun _ _ _ h=>h) (Or.inl ⟨by rfl,fun W' _=>by kernel_rfl⟩) (by assumption) ?_;try simp only [Ep]
     have hM:=v1.out b0 p3 t3 b4 p7 t7 _ i0 (RowSet.sub i1 (Sb (Mt Mh) (Sb Mh Sz)));try simp only [Ep] at hM
     exact hM
    go_simp
    refine hK.out _ _ (j0.out _ (bal g0 _)) (fun hHeld=>?_);clear hK K;try simp only [Ep]
    have hM:=g2.out b0 p3 t3 b4 w'.heap.size _ (bal g0 _) (RowSet.sub (RowSet.lit rs 9 26 3 #[.slice none 0 0,.slice none 0 0,.slice none 0 0] 1 (by omega) (by unfold maxLen;omega) (by simp)) (Sb (Mt Mh) (Sb (Mt (Mt Mh)) (Sb Mh Sz))));try simp only [Ep] at hM
    exact hM
   have M9:Hid (∀ (b0:Nat) (p3:Option Addr) (t3:Nat) (b9:Nat) (w':World),Below w4.heap.size w4 w'→RowSet w' w4.heap.size [Rv c p3 t3,⟨9,26,3,.slice (some ⟨b9,0,none⟩) 1 1,1,[.slice none 0 0,.slice none 0 0,.slice none 0 0]⟩]→T 4 #[true,true,true,true,false,true,true,false,false,true,false] (Act.put (Act.put (Act.put (Act.put (Act.put (Act.put (Act.put A0 (some 29) (.slice (some ⟨b0,0,none⟩) 0 0)) (some 30) (.pointer (some ⟨w.heap.size,0,none⟩))) (some 31) (.slice a0 c.vars.length c0)) (some 32) (.slice p3 c.vars.length t3)) (some 34) (.pointer (some ⟨w.heap.size,1,none⟩))) (some 35) (.slice a1 c.arrays.length c1)) (some 8) (.pointer (some ⟨b9,0,none⟩))) w'):=by
    clear h1 j1 v1 M8;refine Hi ?_;intro b0 p3 t3 b9 w' g0 rs;have k1:=g0.size;have hHeld:=j0.out _ g0;have l0:=hT.out;subst l0;have k0:=hA.out;subst k0;clear hT hA;change wpAnyH _ _ _ _ _ 4 _ _ _
    try simp only [Ep]
    refine Rdy 4 rfl (fun K hK=>?_);go_simp
    refine hK.out _ _ (j0.out _ (bal g0 _)) (fun hHeld=>?_);clear hK K;try simp only [Ep]
    have hM:=g2.out b0 p3 t3 w'.heap.size b9 _ (bal g0 _) (RowSet.sub (RowSet.lit rs 4 3 1 #[] 0 (by omega) (by unfold maxLen;omega) (by simp)) (Sb (Mt Mh) (Sb Mh (Sb (Mt (Mt Mh)) Sz))));try simp only [Ep] at hM
    exact hM
   have p2:Hid (∀ (b0:Nat) (b4:Nat) (b9:Nat) (w':World),Below w4.heap.size w4 w'→RowSet w' w4.heap.size [Re 0 b0,Re 4 b4,⟨9,26,3,.slice (some ⟨b9,0,none⟩) 1 1,1,[.slice none 0 0,.slice none 0 0,.slice none 0 0]⟩]→T 4 #[true,true,true,false,true,true,true,false,false,true,false] (Act.put (Act.put (Act.put (Act.put (Act.put (Act.put (Act.put A0 (some 29) (.slice (some ⟨b0,0,none⟩) 0 0)) (some 30) (.pointer (some ⟨w.heap.size,0,none⟩))) (some 31) (.slice a0 c.vars.length c0)) (some 33) (.slice (some ⟨b4,0,none⟩) 0 0)) (some 34) (.pointer (some ⟨w.heap.size,1,none⟩))) (some 35) (.slice a1 c.arrays.length c1)) (some 8) (.pointer (some ⟨b9,0,none⟩))) w'):=by
    clear h1 j1 v1 M8 M9;refine Hi ?_;intro b0 b4 b9 w' g0 rs;have k1:=g0.size;have hHeld:=j0.out _ g0;have l0:=hT.out;subst l0;have k0:=hA.out;subst k0;clear hT hA;change wpAnyH _ _ _ _ _ 4 _ _ _
    try simp only [Ep]
    refine Rdy 3 rfl (fun K hK=>?_);have HO:=rs.own (Re 0 b0:RowK) Mh;have g1:=fun q hq=>(HO.lt q hq).1
    refine step_aps tInts rfl _ _ rfl (w4.heap.size) _ 0 ([]) rfl HO _ (c.vars.length) (ints c.vars) rfl ((k3.out _ g0).a) (one_ints c.vars) (by omega) (by omega) ?_;intro vA wA oA n0 b1 _;try simp only [Nat.zero_add,List.nil_append] at oA
    obtain ⟨p3,t3,rfl⟩:=Oh oA;have i0:=Tg g0 n0 g1;have i1:=RowSet.push rs (Re 0 b0:RowK) Mh oA n0 b1 (l':=[Re 4 b4,⟨9,26,3,.slice (some ⟨b9,0,none⟩) 1 1,1,[.slice none 0 0,.slice none 0 0,.slice none 0 0]⟩]) (Oc (Mt Mh) (Oc (Mt (Mt Mh)) On));clear HO g1 oA n0 b1;refine hK.out _ _ (j0.out _ i0) (fun hHeld=>?_);clear hK K;try simp only [Ep]
    have hM:=g2.out b0 p3 t3 b4 b9 _ i0 (RowSet.sub i1 (Sb Mh (Sb (Mt Mh) (Sb (Mt (Mt Mh)) Sz))));try simp only [Ep] at hM
    exact hM
   have M4:Hid (∀ (b0:Nat) (p3:Option Addr) (t3:Nat) (w':World),Below w4.heap.size w4 w'→RowSet w' w4.heap.size [Rv c p3 t3]→T 5 #[true,true,true,true,false,true,true,false,false,false,false] (Act.put (Act.put (Act.put (Act.put (Act.put (Act.put A0 (some 29) (.slice (some ⟨b0,0,none⟩) 0 0)) (some 30) (.pointer (some ⟨w.heap.size,0,none⟩))) (some 31) (.slice a0 c.vars.length c0)) (some 32) (.slice p3 c.vars.length t3)) (some 34) (.pointer (some ⟨w.heap.size,1,none⟩))) (some 35) (.slice a1 c.arrays.length c1)) w'):=by
    clear h1 j1 v1 g2 p2;refine Hi ?_;intro b0 p3 t3 w' g0 rs;have k1:=g0.size;have hHeld:=j0.out _ g0;have l0:=hT.out;subst l0;have k0:=hA.out;subst k0;clear hT hA;change wpAnyH _ _ _ _ _ 5 _ _ _
    try simp only [Ep]
    refine Rdy2 4 9 rfl rfl (fun K hK=>?_) (fun K hK=>?_)
    ·go_simp
     refine hK.out _ _ (j0.out _ (bal g0 _)) (fun hHeld=>?_);clear hK K;try simp only [Ep]
     have hM:=M8.out b0 p3 t3 w'.heap.size _ (bal g0 _) (RowSet.sub (RowSet.lit rs 4 3 1 #[] 0 (by omega) (by unfold maxLen;omega) (by simp)) (Sb (Mt Mh) (Sb Mh Sz)));try simp only [Ep] at hM
     exact hM
    go_simp
    refine hK.out _ _ (j0.out _ (bal g0 _)) (fun hHeld=>?_);clear hK K;try simp only [Ep]
    have hM:=M9.out b0 p3 t3 w'.heap.size _ (bal g0 _) (RowSet.sub (RowSet.lit rs 9 26 3 #[.slice none 0 0,.slice none 0 0,.slice none 0 0] 1 (by omega) (by unfold maxLen;omega) (by simp)) (Sb (Mt Mh) (Sb Mh Sz)));try simp only [Ep] at hM
    exact hM
   have M5:Hid (∀ (b0:Nat) (b4:Nat) (w':World),Below w4.heap.size w4 w'→RowSet w' w4.heap.size [Re 0 b0,Re 4 b4]→T 5 #[true,true,true,false,true,true,true,false,false,false,false] (Act.put (Act.put (Act.put (Act.put (Act.put (Act.put A0 (some 29) (.slice (some ⟨b0,0,none⟩) 0 0)) (some 30) (.pointer (some ⟨w.heap.size,0,none⟩))) (some 31) (.slice a0 c.vars.length c0)) (some 33) (.slice (some ⟨b4,0,none⟩) 0 0)) (some 34) (.pointer (some ⟨w.heap.size,1,none⟩))) (some 35) (.slice a1 c.arrays.length c1)) w'):=by
    clear h1 j1 v1 g2 M9 M4;refine Hi ?_;intro b0 b4 w' g0 rs;have k1:=g0.size;have hHeld:=j0.out _ g0;have l0:=hT.out;subst l0;have k0:=hA.out;subst k0;clear hT hA;change wpAnyH _ _ _ _ _ 5 _ _ _
    try simp only [Ep]
    refine Rdy2 3 9 rfl rfl (fun K hK=>?_) (fun K hK=>?_)
    ·have HO:=rs.own (Re 0 b0:RowK) Mh;have g1:=fun q hq=>(HO.lt q hq).1
     refine step_aps tInts rfl _ _ rfl (w4.heap.size) _ 0 ([]) rfl HO _ (c.vars.length) (ints c.vars) rfl ((k3.out _ g0).a) (one_ints c.vars) (by omega) (by omega) ?_;intro vA wA oA n0 b1 _;try simp only [Nat.zero_add,List.nil_append] at oA
     obtain ⟨p3,t3,rfl⟩:=Oh oA;have i0:=Tg g0 n0 g1;have i1:=RowSet.push rs (Re 0 b0:RowK) Mh oA n0 b1 (l':=[Re 4 b4]) (Oc (Mt Mh) On);clear HO g1 oA n0 b1;refine hK.out _ _ (j0.out _ i0) (fun hHeld=>?_);clear hK K;try simp only [Ep]
     have hM:=M8.out b0 p3 t3 b4 _ i0 (RowSet.sub i1 (Sb Mh (Sb (Mt Mh) Sz)));try simp only [Ep] at hM
     exact hM
    go_simp
    refine hK.out _ _ (j0.out _ (bal g0 _)) (fun hHeld=>?_);clear hK K;try simp only [Ep]
    have hM:=p2.out b0 b4 w'.heap.size _ (bal g0 _) (RowSet.sub (RowSet.lit rs 9 26 3 #[.slice none 0 0,.slice none 0 0,.slice none 0 0] 1 (by omega) (by unfold maxLen;omega) (by simp)) (Sb (Mt Mh) (Sb (Mt (Mt Mh)) (Sb Mh Sz))));try simp only [Ep] at hM
    exact hM
   have M6:Hid (∀ (b0:Nat) (b9:Nat) (w':World),Below w4.heap.size w4 w'→RowSet w' w4.heap.size [Re 0 b0,⟨9,26,3,.slice (some ⟨b9,0,none⟩) 1 1,1,[.slice none 0 0,.slice none 0 0,.slice none 0 0]⟩]→T 5 #[true,true,true,false,false,true,true,false,false,true,false] (Act.put (Act.put (Act.put (Act.put (Act.put (Act.put A0 (some 29) (.slice (some ⟨b0,0,none⟩) 0 0)) (some 30) (.pointer (some ⟨w.heap.size,0,none⟩))) (some 31) (.slice a0 c.vars.length c0)) (some 34) (.pointer (some ⟨w.heap.size,1,none⟩))) (some 35) (.slice a1 c.arrays.length c1)) (some 8) (.pointer (some ⟨b9,0,none⟩))) w'):=by
    clear h1 j1 v1 g2 M8 M4 M5;refine Hi ?_;intro b0 b9 w' g0 rs;have k1:=g0.size;have hHeld:=j0.out _ g0;have l0:=hT.out;subst l0;have k0:=hA.out;subst k0;clear hT hA;change wpAnyH _ _ _ _ _ 5 _ _ _
    try simp only [Ep]
    refine Rdy2 3 4 rfl rfl (fun K hK=>?_) (fun K hK=>?_)
    ·have HO:=rs.own (Re 0 b0:RowK) Mh;have g1:=fun q hq=>(HO.lt q hq).1
     refine step_aps tInts rfl _ _ rfl (w4.heap.size) _ 0 ([]) rfl HO _ (c.vars.length) (ints c.vars) rfl ((k3.out _ g0).a) (one_ints c.vars) (by omega) (by omega) ?_;intro vA wA oA n0 b1 _;try simp only [Nat.zero_add,List.nil_append] at oA
     obtain ⟨p3,t3,rfl⟩:=Oh oA;have i0:=Tg g0 n0 g1;have i1:=RowSet.push rs (Re 0 b0:RowK) Mh oA n0 b1 (l':=[⟨9,26,3,.slice (some ⟨b9,0,none⟩) 1 1,1,[.slice none 0 0,.slice none 0 0,.slice none 0 0]⟩]) (Oc (Mt Mh) On);clear HO g1 oA n0 b1;refine hK.out _ _ (j0.out _ i0) (fun hHeld=>?_);clear hK K;try simp only [Ep]
     have hM:=M9.out b0 p3 t3 b9 _ i0 (RowSet.sub i1 (Sb Mh (Sb (Mt Mh) Sz)));try simp only [Ep] at hM
     exact hM
    go_simp
    refine hK.out _ _ (j0.out _ (bal g0 _)) (fun hHeld=>?_);clear hK K;try simp only [Ep]
    have hM:=p2.out b0 w'.heap.size b9 _ (bal g0 _) (RowSet.sub (RowSet.lit rs 4 3 1 #[] 0 (by omega) (by unfold maxLen;omega) (by simp)) (Sb (Mt Mh) (Sb Mh (Sb (Mt (Mt Mh)) Sz))));try simp only [Ep] at hM
    exact hM
   have M7:Hid (∀ (b4:Nat) (b9:Nat) (w':World),Below w4.heap.size w4 w'→RowSet w' w4.heap.size [Re 4 b4,⟨9,26,3,.slice (some ⟨b9,0,none⟩) 1 1,1,[.slice none 0 0,.slice none 0 0,.slice none 0 0]⟩]→T 5 #[false,true,true,false,true,true,true,false,false,true,false] (Act.put (Act.put (Act.put (Act.put (Act.put (Act.put A0 (some 30) (.pointer (some ⟨w.heap.size,0,none⟩))) (some 31) (.slice a0 c.vars.length c0)) (some 33) (.slice (some ⟨b4,0,none⟩) 0 0)) (some 34) (.pointer (some ⟨w.heap.size,1,none⟩))) (some 35) (.slice a1 c.arrays.length c1)) (some 8) (.pointer (some ⟨b9,0,none⟩))) w'):=by
    clear h1 j1 v1 g2 M8 M9 M4 M5 M6;refine Hi ?_;intro b4 b9 w' g0 rs;have k1:=g0.size;have hHeld:=j0.out _ g0;have l0:=hT.out;subst l0;have k0:=hA.out;subst k0;clear hT hA;change wpAnyH _ _ _ _ _ 5 _ _ _
    try simp only [Ep]
    refine Rdy 0 rfl (fun K hK=>?_);go_simp
    refine hK.out _ _ (j0.out _ (bal g0 _)) (fun hHeld=>?_);clear hK K;try simp only [Ep]
    have hM:=p2.out w'.heap.size b4 b9 _ (bal g0 _) (RowSet.sub (RowSet.lit rs 0 3 1 #[] 0 (by omega) (by unfold maxLen;omega) (by simp)) (Sb Mh (Sb (Mt Mh) (Sb (Mt (Mt Mh)) Sz))));try simp only [Ep] at hM
    exact hM
   have M1:Hid (∀ (b0:Nat) (w':World),Below w4.heap.size w4 w'→RowSet w' w4.heap.size [Re 0 b0]→T 6 #[true,true,true,false,false,true,true,false,false,false,false] (Act.put (Act.put (Act.put (Act.put (Act.put A0 (some 29) (.slice (some ⟨b0,0,none⟩) 0 0)) (some 30) (.pointer (some ⟨w.heap.size,0,none⟩))) (some 31) (.slice a0 c.vars.length c0)) (some 34) (.pointer (some ⟨w.heap.size,1,none⟩))) (some 35) (.slice a1 c.arrays.length c1)) w'):=by
    clear h1 j1 v1 g2 M8 M9 p2 M7;refine Hi ?_;intro b0 w' g0 rs;have k1:=g0.size;have hHeld:=j0.out _ g0;have l0:=hT.out;subst l0;have k0:=hA.out;subst k0;clear hT hA;change wpAnyH _ _ _ _ _ 6 _ _ _
    try simp only [Ep]
    refine Rdy3 3 4 9 rfl rfl rfl (fun K hK=>?_) (fun K hK=>?_) (fun K hK=>?_)
    ·have HO:=rs.own (Re 0 b0:RowK) Mh;have g1:=fun q hq=>(HO.lt q hq).1
     refine step_aps tInts rfl _ _ rfl (w4.heap.size) _ 0 ([]) rfl HO _ (c.vars.length) (ints c.vars) rfl ((k3.out _ g0).a) (one_ints c.vars) (by omega) (by omega) ?_;intro vA wA oA n0 b1 _;try simp only [Nat.zero_add,List.nil_append] at oA
     obtain ⟨p3,t3,rfl⟩:=Oh oA;have i0:=Tg g0 n0 g1;have i1:=RowSet.push rs (Re 0 b0:RowK) Mh oA n0 b1 (l':=[]) On;clear HO g1 oA n0 b1;refine hK.out _ _ (j0.out _ i0) (fun hHeld=>?_);clear hK K;try simp only [Ep]
     have hM:=M4.out b0 p3 t3 _ i0 (RowSet.sub i1 (Sb Mh Sz));try simp only [Ep] at hM
     exact hM
    ·go_simp
     refine hK.out _ _ (j0.out _ (bal g0 _)) (fun hHeld=>?_);clear hK K;try simp only [Ep]
     have hM:=M5.out b0 w'.heap.size _ (bal g0 _) (RowSet.sub (RowSet.lit rs 4 3 1 #[] 0 (by omega) (by unfold maxLen;omega) (by simp)) (Sb (Mt Mh) (Sb Mh Sz)));try simp only [Ep] at hM
     exact hM
    go_simp
    refine hK.out _ _ (j0.out _ (bal g0 _)) (fun hHeld=>?_);clear hK K;try simp only [Ep]
    have hM:=M6.out b0 w'.heap.size _ (bal g0 _) (RowSet.sub (RowSet.lit rs 9 26 3 #[.slice none 0 0,.slice none 0 0,.slice none 0 0] 1 (by omega) (by unfold maxLen;omega) (by simp)) (Sb (Mt Mh) (Sb Mh Sz)));try simp only [Ep] at hM
    exact hM
   have M2:Hid (∀ (b4:Nat) (w':World),Below w4.heap.size w4 w'→RowSet w' w4.heap.size [Re 4 b4]→T 6 #[false,true,true,false,true,true,true,false,false,false,false] (Act.put (Act.put (Act.put (Act.put (Act.put A0 (some 30) (.pointer (some ⟨w.heap.size,0,none⟩))) (some 31) (.slice a0 c.vars.length c0)) (some 33) (.slice (some ⟨b4,0,none⟩) 0 0)) (some 34) (.pointer (some ⟨w.heap.size,1,none⟩))) (some 35) (.slice a1 c.arrays.length c1)) w'):=by
    clear h1 j1 v1 g2 M8 M9 p2 M4 M6 M1;refine Hi ?_;intro b4 w' g0 rs;have k1:=g0.size;have hHeld:=j0.out _ g0;have l0:=hT.out;subst l0;have k0:=hA.out;subst k0;clear hT hA;change wpAnyH _ _ _ _ _ 6 _ _ _
    try simp only [Ep]
    refine Rdy2 0 9 rfl rfl (fun K hK=>?_) (fun K hK=>?_)
    ·go_simp
     refine hK.out _ _ (j0.out _ (bal g0 _)) (fun hHeld=>?_);clear hK K;try simp only [Ep]
     have hM:=M5.out w'.heap.size b4 _ (bal g0 _) (RowSet.sub (RowSet.lit rs 0 3 1 #[] 0 (by omega) (by unfold maxLen;omega) (by simp)) (Sb Mh (Sb (Mt Mh) Sz)));try simp only [Ep] at hM
     exact hM
    go_simp
    refine hK.out _ _ (j0.out _ (bal g0 _)) (fun hHeld=>?_);clear hK K;try simp only [Ep]
    have hM:=M7.out b4 w'.heap.size _ (bal g0 _) (RowSet.sub (RowSet.lit rs 9 26 3 #[.slice none 0 0,.slice none 0 0,.slice none 0 0] 1 (by omega) (by unfold maxLen;omega) (by simp)) (Sb (Mt Mh) (Sb Mh Sz)));try simp only [Ep] at hM
    exact hM
   have M3:Hid (∀ (b9:Nat) (w':World),Below w4.heap.size w4 w'→RowSet w' w4.heap.size [⟨9,26,3,.slice (some ⟨b9,0,none⟩) 1 1,1,[.slice none 0 0,.slice none 0 0,.slice none 0 0]⟩]→T 6 #[false,true,true,false,false,true,true,false,false,true,false] (Act.put (Act.put (Act.put (Act.put (Act.put A0 (some 30) (.pointer (some ⟨w.heap.size,0,none⟩))) (some 31) (.slice a0 c.vars.length c0)) (some 34) (.pointer (some ⟨w.heap.size,1,none⟩))) (some 35) (.slice a1 c.arrays.length c1)) (some 8) (.pointer (some ⟨b9,0,none⟩))) w'):=by
    clear h1 j1 v1 g2 M8 M9 p2 M4 M5 M1 M2;refine Hi ?_;intro b9 w' g0 rs;have k1:=g0.size;have hHeld:=j0.out _ g0;have l0:=hT.out;subst l0;have k0:=hA.out;subst k0;clear hT hA;change wpAnyH _ _ _ _ _ 6 _ _ _
    try simp only [Ep]
    refine Rdy2 0 4 rfl rfl (fun K hK=>?_) (fun K hK=>?_)
    ·go_simp
     refine hK.out _ _ (j0.out _ (bal g0 _)) (fun hHeld=>?_);clear hK K;try simp only [Ep]
     have hM:=M6.out w'.heap.size b9 _ (bal g0 _) (RowSet.sub (RowSet.lit rs 0 3 1 #[] 0 (by omega) (by unfold maxLen;omega) (by simp)) (Sb Mh (Sb (Mt Mh) Sz)));try simp only [Ep] at hM
     exact hM
    go_simp
    refine hK.out _ _ (j0.out _ (bal g0 _)) (fun hHeld=>?_);clear hK K;try simp only [Ep]
    have hM:=M7.out w'.heap.size b9 _ (bal g0 _) (RowSet.sub (RowSet.lit rs 4 3 1 #[] 0 (by omega) (by unfold maxLen;omega) (by simp)) (Sb Mh (Sb (Mt Mh) Sz)));try simp only [Ep] at hM
    exact hM
   have M0:Hid (∀ (w':World),Below w4.heap.size w4 w'→RowSet w' w4.heap.size []→T 7 #[false,true,true,false,false,true,true,false,false,false,false] (Act.put (Act.put (Act.put (Act.put A0 (some 30) (.pointer (some ⟨w.heap.size,0,none⟩))) (some 31) (.slice a0 c.vars.length c0)) (some 34) (.pointer (some ⟨w.heap.size,1,none⟩))) (some 35) (.slice a1 c.arrays.length c1)) w'):=by
    clear h1 j1 v1 g2 M8 M9 p2 M4 M5 M6 M7;refine Hi ?_;intro w' g0 rs;have k1:=g0.size;have hHeld:=j0.out _ g0;have l0:=hT.out;subst l0;have k0:=hA.out;subst k0;clear hT hA;change wpAnyH _ _ _ _ _ 7 _ _ _
    try simp only [Ep]
    refine Rdy3 0 4 9 rfl rfl rfl (fun K hK=>?_) (fun K hK=>?_) (fun K hK=>?_)
    ·go_simp
     refine hK.out _ _ (j0.out _ (bal g0 _)) (fun hHeld=>?_);clear hK K;try simp only [Ep]
     have hM:=M1.out w'.heap.size _ (bal g0 _) (RowSet.sub (RowSet.lit rs 0 3 1 #[] 0 (by omega) (by unfold maxLen;omega) (by simp)) (Sb Mh Sz));try simp only [Ep] at hM
     exact hM
    ·go_simp
     refine hK.out _ _ (j0.out _ (bal g0 _)) (fun hHeld=>?_);clear hK K;try simp only [Ep]
     have hM:=M2.out w'.heap.size _ (bal g0 _) (RowSet.sub (RowSet.lit rs 4 3 1 #[] 0 (by omega) (by unfold maxLen;omega) (by simp)) (Sb Mh Sz));try simp only [Ep] at hM
     exact hM
    go_simp
    refine hK.out _ _ (j0.out _ (bal g0 _)) (fun hHeld=>?_);clear hK K;try simp only [Ep]
    have hM:=M3.out w'.heap.size _ (bal g0 _) (RowSet.sub (RowSet.lit rs 9 26 3 #[.slice none 0 0,.slice none 0 0,.slice none 0 0] 1 (by omega) (by unfold maxLen;omega) (by simp)) (Sb Mh Sz));try simp only [Ep] at hM
    exact hM
   clear h1 j1 v1 g2 M8 M9 p2 M4 M5 M6 M7 M1 M2 M3;have hHeld:=j0.out _ i3;have l0:=hT.out;subst l0;have k0:=hA.out;subst k0;clear hT hA;change wpAnyH _ _ _ _ _ 11 _ _ _
   try simp only [Ep]
   refine tq 1 30 rfl rfl ?_ ?_ ?_;rotate_left
   ·intro W' hSw;(try clear i1);(try clear rs);(try clear i0);(try clear g0);(try clear M0);obtain ⟨s0,s1⟩:=hSw;go_simp;try with_reducible rfl
   try simp only [Ep]
   refine tq 2 31 rfl rfl ?_ ?_ ?_;rotate_left
   ·intro W' hSw;(try clear i1);(try clear rs);(try clear i0);(try clear g0);(try clear M0);obtain ⟨s0,s1⟩:=hSw;go_simp;try with_reducible rfl
   try simp only [Ep]
   refine tq 5 34 rfl rfl ?_ ?_ ?_;rotate_left
   ·intro W' hSw;(try clear i1);(try clear rs);(try clear i0);(try clear g0);(try clear M0);obtain ⟨s0,s1⟩:=hSw;go_simp;try with_reducible rfl
   try simp only [Ep]
   refine tq 6 35 rfl rfl ?_ ?_ ?_;rotate_left
   ·intro W' hSw;(try clear i1);(try clear rs);(try clear i0);(try clear g0);(try clear M0);obtain ⟨s0,s1⟩:=hSw;go_simp;try with_reducible rfl
   try simp only [Ep]
   have hM:=M0.out wd i3 RowSet.nil;try simp only [Ep] at hM
   exact hM
  obtain ⟨w7,rfl⟩:∃ W,W=wc:=⟨_,rfl⟩;obtain ⟨bb,p0,t0,p1,t1,rfl,x0,x1,x2,xf,u7,y7,y0,y1,s6,i7,j7,hD⟩:=hcut;replace b3:=Kc hD b3;replace c3:=Kc hD c3;replace s2:=Kc hD s2;replace v2:=Kc hD v2;replace y2:=Kc hD y2;replace a3:=Kc hD a3;replace n3:=Kf hD (by omega) n3;replace o3:=Kf hD (by omega) o3;replace w1:=Kf hD (by omega) w1;have r5:∀ q,(Value.slice pa c.list.length ta).ownBlock=some q→q < w4.heap.size:=fun q h=>(oA.lt q h).2
  replace oA:=Ob oA hD;replace b2:=b2.trans (hD.mono b2.size);have y4:=Hi (fun k (h:k < c.list.length)=>Kc hD (x4.out k h));have iA:=oA.lt;have s5:∀ q,(Value.slice pa c.list.length ta).ownBlock=some q→q < w4.heap.size:=r5;have v4:Hid (∀ k (h:k < c.list.length),w7.cell? ⟨b,w0+k*5,none⟩=some (.int .i64 c.list[k].op)∧w7.cell? ⟨b,w0+k*5+1,none⟩=some (.int .i64 c.list[k].a)∧w7.cell? ⟨b,w0+k*5+2,none⟩=some (.int .i64 c.list[k].b)∧w7.cell? ⟨b,w0+k*5+3,none⟩=some (.int .i64 c.list[k].c)∧w7.cell? ⟨b,w0+k*5+4,none⟩=some (.int .i64 c.list[k].d)):=Hi (fun k h=>by obtain ⟨e0,e1,e2,e3,e4⟩:=t4.out k h;exact ⟨Kc hD e0,Kc hD e1,Kc hD e2,Kc hD e3,Kc hD e4⟩);have e8:=hD.size;clear t4 x4 r hD;replace h4:=Lc b3;replace i4:=Lc c3;have e7:=Lc s2;have f7:=Lc v2;have g7:=Lc y2;have h7:=Lc a3;go_wp2
  go_loopw [9] (fun i wr=>∃ (k:Nat) (lv:Value),k≤c.list.length∧i=.int .i64 k∧wr.cell? ⟨bb,2,none⟩=some lv∧wr.frozen? ⟨bb,2,none⟩=false∧wr.cell? ⟨bb,0,none⟩=some (.slice p0 c.vars.length t0)∧wr.cell? ⟨bb,1,none⟩=some (.slice p1 c.arrays.length t1)∧wr.ownsRow w7.heap.size 62 5 lv (stay d k) (inss (outTo c.list d k))∧Chg (fun q=>q=bb) w7 wr) (fun i _=>c.list.length-(intOf i).toNat)
  case atStart=>exact ⟨0,_,Nat.zero_le _,rfl,x2,xf,x0,x1,World.ownsRow_nil _ _ _ _,Chg.refl _ _⟩
  case round =>
   obtain ⟨k,lv,hk,rfl,m2,mf,m0,m1,ho,hC⟩:=hrel;have h8:=hC.size;have iv:=ho.lt;have v6:=stay_le d k;have n2:=Gc hC s2 (by omega);have k2:=Lc n2;have km:=Lc m2;obtain ⟨la,lc,rfl⟩:=Oh ho;by_cases hlt:k < c.list.length
   ·obtain ⟨e0,e1,e2,e3,e4⟩:=v4.out k hlt;replace e0:=Gc hC e0 (by omega);replace e1:=Gc hC e1 (by omega);replace e2:=Gc hC e2 (by omega);replace e3:=Gc hC e3 (by omega);replace e4:=Gc hC e4 (by omega);have yM:=Gc hC (y4.out k hlt) (by omega);have i6:=outTo_succ c.list d k hlt;have a4:stay d (k+1)=stay d k+(if d k=true then 0 else 1):=rfl;have l6:=r6.out k hlt;obtain ⟨q,g3⟩:∃ q,d k=q:=⟨_,rfl⟩;rw [g3] at yM;have HV:=Hi g3;generalize c.list[k]=x at *
    have b5:=Hi i6;have j3:=Hi a4;have HT:=Hi l6;clear g3 i6 a4 l6 v4 y4;have ke:=Lc e0;have ky:=Lc yM;go_upto_region 14 with (fail)
    obtain ⟨w5,n1⟩:∃ X,X=World.alloc wr (.cells #[.int .i64 x.op,.int .i64 x.a,.int .i64 x.b,.int .i64 x.c,.int .i64 x.d] 62):=⟨_,rfl⟩;rw [← n1];have j2:Below wr.heap.size wr w5:=by rw [n1];exact bal (Bs wr) _
    have c8:wr.heap.size+1≤w5.heap.size:=by rw [n1];simp
    have d0:w5.cell? ⟨wr.heap.size,0,none⟩=some (.int .i64 x.op):=by rw [n1];exact Wc rfl rfl
    have z0:w5.frozen? ⟨wr.heap.size,0,none⟩=false:=by rw [n1];exact Fn rfl
    have d1:w5.cell? ⟨wr.heap.size,1,none⟩=some (.int .i64 x.a):=by rw [n1];exact Wc rfl rfl
    have z1:w5.frozen? ⟨wr.heap.size,1,none⟩=false:=by rw [n1];exact Fn rfl
    have d2:w5.cell? ⟨wr.heap.size,2,none⟩=some (.int .i64 x.b):=by rw [n1];exact Wc rfl rfl
    have z2:w5.frozen? ⟨wr.heap.size,2,none⟩=false:=by rw [n1];exact Fn rfl
    have d3:w5.cell? ⟨wr.heap.size,3,none⟩=some (.int .i64 x.c):=by rw [n1];exact Wc rfl rfl
    have z3:w5.frozen? ⟨wr.heap.size,3,none⟩=false:=by rw [n1];exact Fn rfl
    have d4:w5.cell? ⟨wr.heap.size,4,none⟩=some (.int .i64 x.d):=by rw [n1];exact Wc rfl rfl
    have z4:w5.frozen? ⟨wr.heap.size,4,none⟩=false:=by rw [n1];exact Fn rfl
    clear n1 e0 e1 e2 e3 e4 n2;replace yM:=Kc j2 yM;replace mf:=Kf j2 km mf;replace m0:=Kc j2 m0;replace m1:=Kc j2 m1;replace m2:=Kc j2 m2;have q8:=Lc yM;have kd:=Lc d0;have q4:=Lc m2;have h5:=hC.trans (Cb (S:=fun q=>q=bb) j2);have o5:=Ob ho j2;clear j2 ho hC
    cases q with
    | true =>
     have f3:stay d k=stay d (k+1):=by rw [j3.out,HV.out];rfl
     have h6:outTo c.list d k=outTo c.list d (k+1):=by rw [b5.out,HV.out];simp
     have s3:=Hi f3;have q6:=Hi h6;clear f3 h6;go_wp2
     go_roundw
     case rel=>exact ⟨k+1,_,by omega,by go_num,m2,mf,m0,m1,by rw [← s3.out,← q6.out];exact o5,h5⟩
     case measure=>simp [intOf];omega
    | false =>
     go_wp2_with fail
     refine (l8Target_any x _).mono ?_;rintro e w6 ⟨rfl,v0⟩;replace d0:=Kc v0 d0;replace z0:=Kf v0 (by omega) z0;replace d1:=Kc v0 d1;replace z1:=Kf v0 (by omega) z1;replace d2:=Kc v0 d2;replace z2:=Kf v0 (by omega) z2;replace d3:=Kc v0 d3;replace z3:=Kf v0 (by omega) z3;replace d4:=Kc v0 d4;replace z4:=Kf v0 (by omega) z4;replace m0:=Kc v0 m0;replace m1:=Kc v0 m1;replace mf:=Kf v0 (by omega) mf;replace m2:=Kc v0 m2;have o6:=Ob o5 v0;have C6:=h5.trans (Cb (S:=fun q=>q=bb) v0);have d8:=v0.size;have k6:=Lc d0;have d7:=Lc m2;replace q4:=d7;clear v0 o5 h5;by_cases ht:0≤tgt x
     ·obtain ⟨t1,t2⟩:=HT.out ht;obtain ⟨nt,p4⟩:∃ nt:Nat,tgt x=nt:=⟨(tgt x).toNat,by omega⟩;have a5:Hid (dx d x=aim x (stay d nt:Nat)):=Hi (by unfold dx;rw [if_pos ht,p4,Int.toNat_natCast]);have c5:=Hi p4;rw [p4] at t1 ⊢;have j5:nt < c.list.length:=by omega
      have hq:(nt:Int) < (c.list.length:Int):=by omega
      have z7:(0:Int)≤(nt:Int):=by omega
      have q5:=Ow oA C6 (fun q h h2=>by have:=iA q h;have:=s5 q h;omega);obtain ⟨ga,r8,e6⟩:=own_pos q5 (by omega);simp only [Value.slice.injEq,true_and] at e6;obtain ⟨rfl,rfl⟩:=e6;have yP:=q5.cellAt nt (by omega);rw [ints_at _ _ (by rw [stays_len];exact j5),stays_get] at yP;have kP:=Lc yP;have k4:=Hi t2;clear t1 t2 ht p4 q5;go_upto_region 16 with (fail)
      have D:=Bd (Bs w6);go_cut [63] (fun _ wx=>wx.cell? ⟨wr.heap.size,0,none⟩=some (.int .i64 (aim x (stay d nt:Nat)).op)∧wx.cell? ⟨wr.heap.size,1,none⟩=some (.int .i64 (aim x (stay d nt:Nat)).a)∧wx.cell? ⟨wr.heap.size,2,none⟩=some (.int .i64 (aim x (stay d nt:Nat)).b)∧wx.cell? ⟨wr.heap.size,3,none⟩=some (.int .i64 (aim x (stay d nt:Nat)).c)∧wx.cell? ⟨wr.heap.size,4,none⟩=some (.int .i64 (aim x (stay d nt:Nat)).d)∧Chg (fun q=>q=wr.heap.size) w6 wx)
      case first =>
       refine wp_region_noPanic ?_;refine wp_region_held_drew (S:=fun _=>True) (by kernel_rfl) trivial (fun hHeld=>?_);obtain ⟨wd,m6⟩:∃ X,X=World.drew w6:=⟨_,rfl⟩;rw [← m6] at D ⊢;clear m6;have m4:=Kc D d0;have d5:=Kc D d1;have e5:=Kc D d2;have f5:=Kc D d3;have g5:=Kc D d4;have n4:=Kc D yP;have m8:=Lc m4;have p8:=Lc n4;refine tq 1 58 rfl rfl ?_ ?_ ?_;rotate_left
       ·intro W' hSw;go_simp;try with_reducible rfl
       try simp only [Ep]
       refine wpAnyH_ready (rs:=[0,2]) (by kernel_rfl) (by simp) ?_;refine AllReadyH.cons rfl (fun K hK=>?_) ?_
       ·go_simp
        refine hK.out _ _ trivial (fun hHeld=>?_);clear hK K;refine wpAnyH_ready (rs:=[2]) (by kernel_rfl) (by simp) ?_;refine AllReadyH.cons rfl (fun K hK=>?_) ?_
        ·go_simp
         refine hK.out _ _ trivial (fun hHeld=>?_);clear hK K;refine wpAnyH_ready (rs:=[3]) (by kernel_rfl) (by simp) ?_;refine AllReadyH.cons rfl (fun K hK=>?_) ?_
         ·go_simp
          go_at_call 36
          refine (l8Target_any x _).mono ?_;rw [c5.out];rintro e y3 ⟨rfl,hb⟩;have d0_3:=Kc hb m4;have d1_3:=Kc hb d5;have d2_3:=Kc hb e5;have d3_3:=Kc hb f5;have d4_3:=Kc hb g5;have dP_3:=Kc hb n4;have D3:=btr D hb;have n8:=Lc d0_3;have j8:=Lc dP_3;clear hb;go_wp2_with fail
          refine hK.out _ _ trivial (fun hHeld=>?_);clear hK K;refine tq 4 61 rfl rfl ?_ ?_ ?_;rotate_left
          ·intro W' hSw;go_simp;try with_reducible rfl
          try simp only [Ep]
          refine wpAnyH_ready (rs:=[5]) (by kernel_rfl) (by simp) ?_;refine AllReadyH.cons rfl (fun K hK=>?_) ?_
          ·go_simp
           refine hK.out _ _ trivial (fun hHeld=>?_);clear hK K;refine Rdy 6 rfl (fun K hK=>?_);go_simp
           go_at_call 37
           refine (l8Aim_any x _ _ k4.out).mono ?_;rintro e w8 ⟨rfl,b8⟩;have v8:=btr D3 b8;have u0:=Kc v8 d0;have r0:=Kf v8 k6 z0;have u1:=Kc v8 d1;have r1:=Kf v8 k6 z1;have u2:=Kc v8 d2;have r2:=Kf v8 k6 z2;have u3:=Kc v8 d3;have r3:=Kf v8 k6 z3;have u4:=Kc v8 d4;have r4:=Kf v8 k6 z4;have k8:=Lc u0;go_wp2_with fail
           refine hK.out _ _ trivial (fun hHeld=>?_);clear hK K;refine Rdy 7 rfl (fun K hK=>?_);go_simp
           refine hK.out _ _ trivial (fun hHeld=>?_);clear hK K;refine Dn ?_;go_wp2_with fail
           go_meet
           exact set5 u0 u1 u2 u3 u4 (Cb v8)
          exact AllReadyH.nil
         exact AllReadyH.nil
        exact AllReadyH.nil
       refine AllReadyH.cons rfl (fun K hK=>?_) ?_
       ·go_simp
        refine hK.out _ _ trivial (fun hHeld=>?_);clear hK K;refine wpAnyH_ready (rs:=[0,3]) (by kernel_rfl) (by simp) ?_;refine AllReadyH.cons rfl (fun K hK=>?_) ?_
        ·go_simp
         refine hK.out _ _ trivial (fun hHeld=>?_);clear hK K;refine wpAnyH_ready (rs:=[3]) (by kernel_rfl) (by simp) ?_;refine AllReadyH.cons rfl (fun K hK=>?_) ?_
         ·go_simp
          go_at_call 36
          refine (l8Target_any x _).mono ?_;rw [c5.out];rintro e y8 ⟨rfl,hb⟩;have d0_8:=Kc hb m4;have d1_8:=Kc hb d5;have d2_8:=Kc hb e5;have d3_8:=Kc hb f5;have d4_8:=Kc hb g5;have dP_8:=Kc hb n4;have D8:=btr D hb;have o8:=Lc d0_8;have l8:=Lc dP_8;clear hb;go_wp2_with fail
          refine hK.out _ _ trivial (fun hHeld=>?_);clear hK K;refine tq 4 61 rfl rfl ?_ ?_ ?_;rotate_left
          ·intro W' hSw;go_simp;try with_reducible rfl
          try simp only [Ep]
          refine wpAnyH_ready (rs:=[5]) (by kernel_rfl) (by simp) ?_;refine AllReadyH.cons rfl (fun K hK=>?_) ?_
          ·go_simp
           refine hK.out _ _ trivial (fun hHeld=>?_);clear hK K;refine Rdy 6 rfl (fun K hK=>?_);go_simp
           go_at_call 37
           refine (l8Aim_any x _ _ k4.out).mono ?_;rintro e w8 ⟨rfl,b8⟩;have v8:=btr D8 b8;have u0:=Kc v8 d0;have r0:=Kf v8 k6 z0;have u1:=Kc v8 d1;have r1:=Kf v8 k6 z1;have u2:=Kc v8 d2;have r2:=Kf v8 k6 z2;have u3:=Kc v8 d3;have r3:=Kf v8 k6 z3;have u4:=Kc v8 d4;have r4:=Kf v8 k6 z4;have k8:=Lc u0;go_wp2_with fail
           refine hK.out _ _ trivial (fun hHeld=>?_);clear hK K;refine Rdy 7 rfl (fun K hK=>?_);go_simp
           refine hK.out _ _ trivial (fun hHeld=>?_);clear hK K;refine Dn ?_;go_wp2_with fail
           go_meet
           exact set5 u0 u1 u2 u3 u4 (Cb v8)
          exact AllReadyH.nil
         exact AllReadyH.nil
        refine AllReadyH.cons rfl (fun K hK=>?_) ?_
        ·go_simp
         go_at_call 36
         refine (l8Target_any x _).mono ?_;rw [c5.out];rintro e s8 ⟨rfl,hb⟩;have d0_11:=Kc hb m4;have d1_11:=Kc hb d5;have d2_11:=Kc hb e5;have d3_11:=Kc hb f5;have d4_11:=Kc hb g5;have dP_11:=Kc hb n4;have x5:=btr D hb;have b7:=Lc d0_11;have a7:=Lc dP_11;clear hb;go_wp2_with fail
         refine hK.out _ _ trivial (fun hHeld=>?_);clear hK K;refine tq 4 61 rfl rfl ?_ ?_ ?_;rotate_left
         ·intro W' hSw;go_simp;try with_reducible rfl
         try simp only [Ep]
         refine wpAnyH_ready (rs:=[0,5]) (by kernel_rfl) (by simp) ?_;refine AllReadyH.cons rfl (fun K hK=>?_) ?_
         ·go_simp
          refine hK.out _ _ trivial (fun hHeld=>?_);clear hK K;refine wpAnyH_ready (rs:=[5]) (by kernel_rfl) (by simp) ?_;refine AllReadyH.cons rfl (fun K hK=>?_) ?_
          ·go_simp
           refine hK.out _ _ trivial (fun hHeld=>?_);clear hK K;refine Rdy 6 rfl (fun K hK=>?_);go_simp
           go_at_call 37
           refine (l8Aim_any x _ _ k4.out).mono ?_;rintro e w8 ⟨rfl,b8⟩;have v8:=btr x5 b8;have u0:=Kc v8 d0;have r0:=Kf v8 k6 z0;have u1:=Kc v8 d1;have r1:=Kf v8 k6 z1;have u2:=Kc v8 d2;have r2:=Kf v8 k6 z2;have u3:=Kc v8 d3;have r3:=Kf v8 k6 z3;have u4:=Kc v8 d4;have r4:=Kf v8 k6 z4;have k8:=Lc u0;go_wp2_with fail
           refine hK.out _ _ trivial (fun hHeld=>?_);clear hK K;refine Rdy 7 rfl (fun K hK=>?_);go_simp
           refine hK.out _ _ trivial (fun hHeld=>?_);clear hK K;refine Dn ?_;go_wp2_with fail
           go_meet
           exact set5 u0 u1 u2 u3 u4 (Cb v8)
          exact AllReadyH.nil
         refine AllReadyH.cons rfl (fun K hK=>?_) ?_
         ·go_simp
          refine hK.out _ _ trivial (fun hHeld=>?_);clear hK K;refine wpAnyH_ready (rs:=[0]) (by kernel_rfl) (by simp) ?_;refine AllReadyH.cons rfl (fun K hK=>?_) ?_
          ·go_simp
           refine hK.out _ _ trivial (fun hHeld=>?_);clear hK K;refine Rdy 6 rfl (fun K hK=>?_);go_simp
           go_at_call 37
           refine (l8Aim_any x _ _ k4.out).mono ?_;rintro e w8 ⟨rfl,b8⟩;have v8:=btr x5 b8;have u0:=Kc v8 d0;have r0:=Kf v8 k6 z0;have u1:=Kc v8 d1;have r1:=Kf v8 k6 z1;have u2:=Kc v8 d2;have r2:=Kf v8 k6 z2;have u3:=Kc v8 d3;have r3:=Kf v8 k6 z3;have u4:=Kc v8 d4;have r4:=Kf v8 k6 z4;have k8:=Lc u0;go_wp2_with fail
           refine hK.out _ _ trivial (fun hHeld=>?_);clear hK K;refine Rdy 7 rfl (fun K hK=>?_);go_simp
           refine hK.out _ _ trivial (fun hHeld=>?_);clear hK K;refine Dn ?_;go_wp2_with fail
           go_meet
           exact set5 u0 u1 u2 u3 u4 (Cb v8)
          exact AllReadyH.nil
         exact AllReadyH.nil
        exact AllReadyH.nil
       exact AllReadyH.nil
      obtain ⟨w9,rfl⟩:∃ W,W=wc:=⟨_,rfl⟩;obtain ⟨d0,d1,d2,d3,d4,i2⟩:=hcut;replace m0:=Gc i2 m0 (by omega);replace m1:=Gc i2 m1 (by omega);replace mf:=Gf i2 (by omega) mf (by omega);replace m2:=Gc i2 m2 (by omega);have C9:Chg (fun q=>q=bb) w7 w9:=⟨i2.os.trans C6.os,i2.tape.trans C6.tape,i2.output.trans C6.output,by have:=i2.size;omega,fun q hq hn=>(i2.block q (by omega) (by omega)).trans (C6.block q hq hn)⟩;have o9:=Ow o6 i2 (fun q h h2=>by have:=iv q h;omega);have f8:=i2.size;have k9:=Lc d0;replace q4:=Lc m2;clear i2 C6 o6 D;go_wp2_with (at_builtin;refine wpList_ap tInstrs rfl _ _ rfl w7.heap.size _ (stay d k) _ rfl o9 [.int .i64 ((aim x (stay d nt:Nat))).op,.int .i64 ((aim x (stay d nt:Nat))).a,.int .i64 ((aim x (stay d nt:Nat))).b,.int .i64 ((aim x (stay d nt:Nat))).c,.int .i64 ((aim x (stay d nt:Nat))).d] rfl rfl (one_insc ((aim x (stay d nt:Nat)))) (by omega) (by omega) ?_)
      intro g9 c9 wz ho hc hg;have o2:=o9.lt;have r7:=hc.size;replace m2:=Gc hc m2 (fun h=>by have:=o2 _ h;omega);replace mf:=Gf hc q4 mf (fun h=>by have:=o2 _ h;omega);replace m0:=Nn (b:=bb) (j:=2) (Gc hc m0 (fun h=>by have:=o2 _ h;omega)) (.slice (some ⟨g9,0,none⟩) (stay d k+1) c9);replace m1:=Nn (b:=bb) (j:=2) (Gc hc m1 (fun h=>by have:=o2 _ h;omega)) (.slice (some ⟨g9,0,none⟩) (stay d k+1) c9);have m3:=Tc wz bb 2 (.slice (some ⟨g9,0,none⟩) (stay d k+1) c9) m2;have mg:=Fs (b:=⟨bb,2,none⟩) mf (.slice (some ⟨g9,0,none⟩) (stay d k+1) c9);have oo:=Oe ho bb 2 (fun h=>by have e:g9=bb:=Si h;have:=ho.lt _ rfl;simp only at this;omega) (.slice (some ⟨g9,0,none⟩) (stay d k+1) c9);have C2:Chg (fun q=>q=bb) w7 wz:=⟨hc.os.trans C9.os,hc.tape.trans C9.tape,hc.output.trans C9.output,by omega,fun q hq hn=>(hc.block q (by omega) (fun h=>by have:=o2 _ h;omega)).trans (C9.block q hq hn)⟩;have C3:=C2.setCell bb 2 (.slice (some ⟨g9,0,none⟩) (stay d k+1) c9) (fun _=>rfl);have c7:=Lc m2;clear hc hg ho C9 C2 o9;rw [show inss (outTo c.list d k)++[Value.int .i64 ((aim x (stay d nt:Nat))).op,Value.int .i64 ((aim x (stay d nt:Nat))).a,Value.int .i64 ((aim x (stay d nt:Nat))).b,Value.int .i64 ((aim x (stay d nt:Nat))).c,Value.int .i64 ((aim x (stay d nt:Nat))).d]=inss (outTo c.list d (k+1)) from by rw [b5.out,a5.out,HV.out];simp [rows_append,rows];rfl] at oo;have f3:stay d k+1=stay d (k+1):=by rw [j3.out,HV.out];rfl
      have s3:=Hi f3;clear f3;go_wp2
      go_roundw
      case rel=>exact ⟨k+1,_,by omega,by go_num,m3,mg,m0,m1,by rw [← s3.out];exact oo,C3⟩
      case measure=>simp [intOf];omega
     have a5:Hid (dx d x=x):=Hi (by unfold dx;rw [if_neg ht]);have a8:¬0≤tgt x:=ht;go_wp2_with (at_builtin;refine wpList_ap tInstrs rfl _ _ rfl w7.heap.size _ (stay d k) _ rfl o6 [.int .i64 (x).op,.int .i64 (x).a,.int .i64 (x).b,.int .i64 (x).c,.int .i64 (x).d] rfl rfl (one_insc (x)) (by omega) (by omega) ?_)
     intro g9 c9 wz ho hc hg;have o2:=o6.lt;have r7:=hc.size;replace m2:=Gc hc m2 (fun h=>by have:=o2 _ h;omega);replace mf:=Gf hc q4 mf (fun h=>by have:=o2 _ h;omega);replace m0:=Nn (b:=bb) (j:=2) (Gc hc m0 (fun h=>by have:=o2 _ h;omega)) (.slice (some ⟨g9,0,none⟩) (stay d k+1) c9);replace m1:=Nn (b:=bb) (j:=2) (Gc hc m1 (fun h=>by have:=o2 _ h;omega)) (.slice (some ⟨g9,0,none⟩) (stay d k+1) c9);have m3:=Tc wz bb 2 (.slice (some ⟨g9,0,none⟩) (stay d k+1) c9) m2;have mg:=Fs (b:=⟨bb,2,none⟩) mf (.slice (some ⟨g9,0,none⟩) (stay d k+1) c9);have oo:=Oe ho bb 2 (fun h=>by have e:g9=bb:=Si h;have:=ho.lt _ rfl;simp only at this;omega) (.slice (some ⟨g9,0,none⟩) (stay d k+1) c9);have C2:Chg (fun q=>q=bb) w7 wz:=⟨hc.os.trans C6.os,hc.tape.trans C6.tape,hc.output.trans C6.output,by omega,fun q hq hn=>(hc.block q (by omega) (fun h=>by have:=o2 _ h;omega)).trans (C6.block q hq hn)⟩;have C3:=C2.setCell bb 2 (.slice (some ⟨g9,0,none⟩) (stay d k+1) c9) (fun _=>rfl);have c7:=Lc m2;clear hc hg ho C6 C2 o6;rw [show inss (outTo c.list d k)++[Value.int .i64 (x).op,Value.int .i64 (x).a,Value.int .i64 (x).b,Value.int .i64 (x).c,Value.int .i64 (x).d]=inss (outTo c.list d (k+1)) from by rw [b5.out,a5.out,HV.out];simp [rows_append,rows];rfl] at oo;have f3:stay d k+1=stay d (k+1):=by rw [j3.out,HV.out];rfl
     have s3:=Hi f3;clear f3;go_wp2
     go_roundw
     case rel=>exact ⟨k+1,_,by omega,by go_num,m3,mg,m0,m1,by rw [← s3.out];exact oo,C3⟩
     case measure=>simp [intOf];omega
   have e:k=c.list.length:=by omega
   subst e;have r0:=Gc hC v2 (by omega);have q0:=Gf hC (by omega) n3 (by omega);have r1:=Gc hC y2 (by omega);have q1:=Gf hC (by omega) o3 (by omega);have r2:=Gc hC a3 (by omega);have q2:=Gf hC (by omega) w1 (by omega);have oa:=Ow y0 hC (fun q h h2=>i7 q h h2);have ob:=Ow y1 hC (fun q h h2=>j7 q h h2);have tt:=b2.trans (hC.below w.heap.size b2.size (fun q hq h=>by omega));have k9:=Lc r0;have ia:=oa.lt;have ib:=ob.lt;have il:=ho.lt;have k7:=(Nn (b:=(w.heap.size+1)) (j:=2) (Nn (b:=(w.heap.size+1)) (j:=1) (Tc _ (w.heap.size+1) 0 (.slice p0 c.vars.length t0) r0) (.slice p1 c.arrays.length t1)) (.slice la (stay d c.list.length) lc));have l7:=(Nn (b:=(w.heap.size+1)) (j:=2) (Tc _ (w.heap.size+1) 1 (.slice p1 c.arrays.length t1) (Nn (b:=(w.heap.size+1)) (j:=0) r1 (.slice p0 c.vars.length t0))) (.slice la (stay d c.list.length) lc));have m7:=(Tc _ (w.heap.size+1) 2 (.slice la (stay d c.list.length) lc) (Nn (b:=(w.heap.size+1)) (j:=1) (Nn (b:=(w.heap.size+1)) (j:=0) r2 (.slice p0 c.vars.length t0)) (.slice p1 c.arrays.length t1)));have n7:=(Oe (Oe (Oe oa (w.heap.size+1) 0 (fun h=>by have:=ia _ h;omega) (.slice p0 c.vars.length t0)) (w.heap.size+1) 1 (fun h=>by have:=ia _ h;omega) (.slice p1 c.arrays.length t1)) (w.heap.size+1) 2 (fun h=>by have:=ia _ h;omega) (.slice la (stay d c.list.length) lc));have o7:=(Oe (Oe (Oe ob (w.heap.size+1) 0 (fun h=>by have:=ib _ h;omega) (.slice p0 c.vars.length t0)) (w.heap.size+1) 1 (fun h=>by have:=ib _ h;omega) (.slice p1 c.arrays.length t1)) (w.heap.size+1) 2 (fun h=>by have:=ib _ h;omega) (.slice la (stay d c.list.length) lc));have q7:=(Oe (Oe (Oe ho (w.heap.size+1) 0 (fun h=>by have:=il _ h;omega) (.slice p0 c.vars.length t0)) (w.heap.size+1) 1 (fun h=>by have:=il _ h;omega) (.slice p1 c.arrays.length t1)) (w.heap.size+1) 2 (fun h=>by have:=il _ h;omega) (.slice la (stay d c.list.length) lc));have tz:=(bst (bst (bst tt (w.heap.size+1) 0 (by omega) (.slice p0 c.vars.length t0)) (w.heap.size+1) 1 (by omega) (.slice p1 c.arrays.length t1)) (w.heap.size+1) 2 (by omega) (.slice la (stay d c.list.length) lc));have g6:=outTo_len c.list d c.list.length Lr;have p6:=Hi g6;clear g6 oa ob ho tt oA v4 y4 y0 y1;go_wp2
   exact bodyPost_ret (v:=.agg #[.slice p0 c.vars.length t0,.slice p1 c.arrays.length t1,.slice la (stay d c.list.length) lc]) (by simp [results,Tryz.results62,go_sem,k7,l7,m7]) rfl (by rw [HR.out];exact ⟨_,_,_,rfl,⟨Om n7 (by omega),Om o7 (by omega),by show World.ownsRow _ _ _ _ _ (outTo c.list d c.list.length).length (inss (outTo c.list d c.list.length));rw [p6.out];exact Om q7 (by omega),s6⟩,tz⟩)
end Go.Proofs.YtnpidfbcbmeijaaGreat
