/-
 Parts of the proofs of the laws FnCompactRegs,FnFenceCode,FnRunTimeSteps.
-/
import Derived.Test.YtkjedgnepnbkpaaGreatZJ
set_option linter.all false
namespace Go.Proofs.YtkjedgnepnbkpaaGreat
open Go.RowKit
def SpreadP (c:Cd) (g:Nat) (w:World) (r:Ending) (w':World):Prop:=∃ (ua ub ul:Value),r=.returned (.agg #[ua,ub,ul])∧DrawC w' w.heap.size ua ub ul c.vars.length c.arrays.length c.list.length∧Chg (fun q=>q=g) w w'
set_option maxHeartbeats 6400000 in
set_option maxRecDepth 100000 in
theorem l12Spread_any (va vb vc:Value) (c:Cd) (B g p:Nat) (w:World) (hr:ReadsC w va vb vc c) (hq:∀ q,ReadB va vb vc c q→¬q=g) (hok:codeOk c=true) (hR:Rnd w B g p) (hp:p+5≤1000000000) :
  Calls Tryz.prog 73 #[.pointer (some ⟨g,0,none⟩),.agg #[va,vb,vc]] w fun r w'=>SpreadP c g w r w':=by
 obtain ⟨a0,c0,a1,c1,a2,c2,rfl,rfl,rfl⟩:=hr.shape
 have iR:∀ q,ReadB (.slice a0 c.vars.length c0) (.slice a1 c.arrays.length c1) (.slice a2 c.list.length c2) c q→q < w.heap.size∧¬q=g:=fun q h=>⟨hr.lt q h,hq q h⟩
 have b2:=hr;clear hr hq
 obtain ⟨n5,o5⟩:=codeOk_len hok
 obtain ⟨p5,q5⟩:=declOk_len (codeOk_decl hok)
 have a4:=Lib.hid (fun k h=>codeOk_all hok k h);clear hok
 have hg:=hR.lt
 have hC:Chg (fun k=>k=g) w w:=Chg.refl _ _
 have r3:∀ q,(fun k=>k=g) q→q=g:=fun q h=>h
 go_enter Tryz.func73,Tryz.ntmps73
 go_wp2_with fail
 have p2:=num_any _ [0,5,8,2] _ B g (p) (((hR.below (bal (Bs _) (.cells #[.slice a0 c.vars.length c0,.slice a1 c.arrays.length c1,.slice a2 c.list.length c2] 26))).below (bal (Bs _) (.cells #[.slice none 0 0,.slice none 0 0,.slice none 0 0] 26))).below (bal (Bs _) (.cells #[.int .i64 0,.int .i64 5,.int .i64 8,.int .i64 2] 3))) (Ro (World.ownsRow_lit (base:=((World.alloc (World.alloc w (.cells #[.slice a0 c.vars.length c0,.slice a1 c.arrays.length c1,.slice a2 c.list.length c2] 26)) (.cells #[.slice none 0 0,.slice none 0 0,.slice none 0 0] 26))).heap.size) (e:=3) (size:=1) ((World.alloc (World.alloc w (.cells #[.slice a0 c.vars.length c0,.slice a1 c.arrays.length c1,.slice a2 c.list.length c2] 26)) (.cells #[.slice none 0 0,.slice none 0 0,.slice none 0 0] 26))) #[.int .i64 0,.int .i64 5,.int .i64 8,.int .i64 2] 4 (Nat.le_refl _) (by unfold maxLen;omega) (by simp)) (by simp)) (fun b o c hb=>by simp at hb;omega) (by simp) (by simp) (by omega)
 simp only [Sa] at p2
 refine (p2).mono ?_
 rintro e w1 ⟨sh,v3,rfl,k3,hc⟩
 clear p2
 replace hC:=((((hC.trans (Chg.of_below (bal (Bs _) _))).trans (Chg.of_below (bal (Bs _) _))).trans (Chg.of_below (bal (Bs _) _)))).trans hc
 replace hR:=k3;clear k3
 have q2:=hc.size
 simp only [Sa] at q2
 replace b2:=(((b2.below (bal (Bs _) _)).below (bal (Bs _) _)).below (bal (Bs _) _)).keep hc (fun gq h h2=>by have:=iR gq h;have:=r3 gq h2;omega)
 have o0:Bk w1 (w.heap.size) [.slice a0 c.vars.length c0,.slice a1 c.arrays.length c1,.slice a2 c.list.length c2]:=Bk.keep (Bk.al (Bk.al (Bk.nw (by simp) rfl) (.cells #[.slice none 0 0,.slice none 0 0,.slice none 0 0] 26)) (.cells #[.int .i64 0,.int .i64 5,.int .i64 8,.int .i64 2] 3)) hc (fun h=>by have:=r3 _ h;omega)
 have i2:Bk w1 (w.heap.size+1) [.slice none 0 0,.slice none 0 0,.slice none 0 0]:=Bk.kg (Bk.al (Bk.nw (by simp) rfl) (.cells #[.int .i64 0,.int .i64 5,.int .i64 8,.int .i64 2] 3)) hc
 have r0:Bk w1 (w.heap.size+1+1) [.int .i64 0,.int .i64 5,.int .i64 8,.int .i64 2]:=Bk.kg (Bk.nw (by simp) rfl) hc
 clear hc
 have t3:=Bk.lz o0
 have a6:=Bk.lz i2
 have u3:=Bk.lz r0
 have u5:0≤sh∧sh≤8:=by simp only [List.mem_cons,List.not_mem_nil,or_false] at v3;omega
 clear v3
 have g2:=Lib.hid (fun W (hW:Below w1.heap.size w1 W)=>b2.below hW);have b4:=Lib.hid (fun W (hW:Below w1.heap.size w1 W)=>Bk.below i2 hW);have x3:=Lib.hid hC;have k5:w.heap.size≤w.heap.size∧w.heap.size < w1.heap.size∧w.heap.size≤w.heap.size+1∧w.heap.size+1 < w1.heap.size∧¬w.heap.size=w.heap.size+1∧w.heap.size≤w1.heap.size:=by have:=hC.size;omega
 clear b2 hR hC iR i2
 have tb:=Bs w1
 obtain ⟨u4,b3,s2,c3,t2,d3⟩:=Bk.f3 o0 0 1 2 rfl rfl rfl
 go_wp2_with fail
 refine (l8Copy_any _ _ _ c _ (g2.out _ tb) (by omega) (by omega) (by omega)).mono ?_
 rintro e w2 ⟨ua,ub,uc,rfl,oF,hb⟩
 have hd:=DrawC.of oF;clear oF
 obtain ⟨h0,k0,i0,l0,j0,f0,rfl,rfl,rfl⟩:=hd.shape
 replace tb:=btr tb hb
 have m3:=hb.size
 clear b3 u4 c3 s2 d3 t2
 replace o0:=Bk.below o0 hb
 replace r0:=Bk.below r0 hb
 clear hb
 replace t3:=Bk.lz o0
 replace u3:=Bk.lz r0
 have iD:=hd.lt
 go_upto_region 3 with (fail)
 obtain ⟨w3,o1,hb⟩:=nmw (World.alloc w2 (.cells #[.slice h0 c.vars.length k0,.slice i0 c.arrays.length l0,.slice j0 c.list.length f0] 26))
 replace tb:=btr (bal tb _) hb
 have p1:=hb.size
 simp only [Sa] at p1
 replace hd:=(hd.below (bal (Bs _) _)).below hb
 replace o0:=Bk.below (Bk.al o0 _) hb
 replace r0:=Bk.below (Bk.al r0 _) hb
 have j1:Bk w3 (w2.heap.size) [.slice h0 c.vars.length k0,.slice i0 c.arrays.length l0,.slice j0 c.list.length f0]:=Bk.below (Bk.nw (by simp) rfl) hb
 clear hb
 rw [← o1]
 clear o1
 replace t3:=Bk.lz o0
 replace u3:=Bk.lz r0
 have k4:=Bk.lz j1
 have x5:w1.heap.size≤w2.heap.size∧w2.heap.size < w3.heap.size:=by omega
 have v5:w1.heap.size≤w3.heap.size:=by omega
 have r1:∀ q,OwnB (.slice h0 c.vars.length k0) (.slice i0 c.arrays.length l0) (.slice j0 c.list.length f0) q→w1.heap.size≤q∧q < w2.heap.size:=fun q h=>by have:=iD q h;omega
 clear iD
 have i3:Hid (∃ k:Nat,Value.int .i64 0=.int .i64 k∧k≤c.list.length∧DrawC w3 w1.heap.size (.slice h0 c.vars.length k0) (.slice i0 c.arrays.length l0) (.slice j0 c.list.length f0) c.vars.length c.arrays.length c.list.length∧Bk w3 (w.heap.size) [.slice a0 c.vars.length c0,.slice a1 c.arrays.length c1,.slice a2 c.list.length c2]∧Bk w3 (w2.heap.size) [.slice h0 c.vars.length k0,.slice i0 c.arrays.length l0,.slice j0 c.list.length f0]∧Below w1.heap.size w1 w3∧w3.heap.size≤w3.heap.size):=Lib.hid ⟨0,rfl,Nat.zero_le _,hd,o0,j1,tb,Nat.le_refl _⟩
 clear o0 r0 tb hd j1
 go_wp2_with fail
 go_loopw [7] (fun i wr=>∃ k:Nat,i=.int .i64 k∧k≤c.list.length∧DrawC wr w1.heap.size (.slice h0 c.vars.length k0) (.slice i0 c.arrays.length l0) (.slice j0 c.list.length f0) c.vars.length c.arrays.length c.list.length∧Bk wr (w.heap.size) [.slice a0 c.vars.length c0,.slice a1 c.arrays.length c1,.slice a2 c.list.length c2]∧Bk wr (w2.heap.size) [.slice h0 c.vars.length k0,.slice i0 c.arrays.length l0,.slice j0 c.list.length f0]∧Below w1.heap.size w1 wr∧w3.heap.size≤wr.heap.size) (fun i _=>c.list.length-(intOf i).toNat)
 case atStart=>exact i3.out
 case round =>
  obtain ⟨k,rfl,hk,hd,d0,g0,tb,z5⟩:=hrel
  clear i3
  obtain ⟨wl,rfl⟩:∃ X,X=wr:=⟨_,rfl⟩
  have l4:=Bk.lz d0
  have m4:=Bk.lz g0
  by_cases hlt:k < c.list.length
  ·have hq:(k:Int) < (c.list.length:Int):=by omega
   obtain ⟨gl,rfl⟩:=hd.pos (by omega)
   have i5:=r1 gl (Or.inr (Or.inr rfl))
   obtain ⟨g4,h4,aa,g5,b0,f2,q3,m1,l3,l1⟩:=(g2.out _ tb).l
   simp only [Value.slice.injEq,true_and] at q3
   obtain ⟨rfl,rfl⟩:=q3
   obtain ⟨rfl,c4⟩:=l3 (by omega)
   obtain ⟨e0,e1,e2,e3,e4⟩:=reads_Instr l1 k hlt
   clear l1 l3 h4 m1 g4
   have j4:=insOk_op (a4.out k hlt)
   generalize c.list[k]=x at *
   have i4:¬(x.op < 1∨13 < x.op):=by omega
   have h5:=(g2.out _ (Bs w1)).lt b0 (Or.inr (Or.inr ⟨f2,c2,by omega,rfl⟩))
   obtain ⟨u2,g3⟩:=Bk.cf d0 2 rfl
   go_wp2_with fail
   refine (l6Parts_any x _).mono ?_
   rintro e w4 ⟨gp,rfl,d2,hb⟩
   try simp only [Sa] at d2
   have j5:=d2.lt gp rfl
   have oP:OwnI w4 _ gp 4 4:=⟨flds x,rfl,d2⟩
   clear d2
   replace tb:=btr tb hb
   have n3:=hb.size
   clear g3 u2
   replace hd:=hd.below hb
   replace e0:=Kc hb e0
   replace e1:=Kc hb e1
   replace e2:=Kc hb e2
   replace e3:=Kc hb e3
   replace e4:=Kc hb e4
   replace d0:=Bk.below d0 hb
   replace g0:=Bk.below g0 hb
   clear hb
   have n4:=Lc e0
   clear e1
   clear e2
   clear e3
   clear e4
   obtain ⟨v2,h3⟩:=Bk.cf d0 2 rfl
   go_wp2_with fail
   refine (l12Kind_any x.op _ i4).mono ?_
   rintro e w5 ⟨rfl,hb⟩
   obtain ⟨S,hS⟩:∃ S:ByteArray,S=⟨(knl x.op).toArray⟩:=⟨_,rfl⟩
   rw [← hS]
   have HZ:Hid (S.size=(knl x.op).length):=Lib.hid (by rw [hS];simp [ByteArray.size])
   have HG:Hid (∀ (k:Nat) (h:k < (knl x.op).length) (h':k < S.size),S[k]'h'=(knl x.op)[k]):=Lib.hid (by subst hS;exact str_get _)
   have HL:=Lib.hid (And.intro (knl_len x.op) (knl_kinds x.op))
   clear hS
   replace tb:=btr tb hb
   replace oP:=OwnI.below oP hb
   have o3:=hb.size
   clear h3 v2
   replace hd:=hd.below hb
   replace e0:=Kc hb e0
   replace d0:=Bk.below d0 hb
   replace g0:=Bk.below g0 hb
   clear hb
   go_upto_region 8 with (fail)
   have j3:Hid (∃ q:Nat,Value.int .i64 0=.int .i64 q∧q≤(knl x.op).length∧(∃ bs:Nat,OwnI w5 bs gp 4 4)∧Chg (fun z=>z=gp) w5 w5):=Lib.hid ⟨0,rfl,Nat.zero_le _,⟨_,oP⟩,Chg.refl _ _⟩
   clear oP
   go_wp2_with fail
   go_loopw [10] (fun j wr=>∃ q:Nat,j=.int .i64 q∧q≤(knl x.op).length∧(∃ bs:Nat,OwnI wr bs gp 4 4)∧Chg (fun z=>z=gp) w5 wr) (fun j _=>(knl x.op).length-(intOf j).toNat)
   case atStart=>exact j3.out
   case round =>
    clear j3
    obtain ⟨q,rfl,r5,⟨bs,oP⟩,p0⟩:=hrel
    obtain ⟨wj,rfl⟩:∃ X,X=wr:=⟨_,rfl⟩
    have l5:q≤4:=by have:=HL.out.1;omega
    by_cases hlq:q < (knl x.op).length
    ·have hk4q:q < 4:=by have:=HL.out.1;omega
     have hS:∀ h',S[q]'h'=(knl x.op)[q]:=HG.out q hlq
     have m5:q < S.size:=by rw [HZ.out];exact hlq
     have n1:(q:Int) < (S.size:Int):=by omega
     have o2:decide (S.size≤q)=false:=decide_eq_false (by omega)
     have f4:¬((S.size:Int)≤(q:Int)):=by omega
     have d4:=HL.out.2 _ (List.getElem_mem hlq)
     obtain ⟨⟨y,hy⟩,fy⟩:=oP.at q hk4q
     have t5:(q:Int) < 4:=by omega
     generalize (knl x.op)[q]=kd at *
     have t1:=Lib.hid oP;have s1:=Lib.hid p0;clear oP p0
     rcases d4 with rfl | rfl | rfl | rfl
     ·go_wp2
      go_roundw
      case rel=>exact ⟨q+1,by go_num,by omega,⟨_,t1.out⟩,s1.out⟩
      case measure=>simp [intOf];omega
     ·go_wp2
      go_roundw
      case rel=>exact ⟨q+1,by go_num,by omega,⟨_,OwnI.put t1.out q _⟩,s1.out.setCell gp q _ (fun _=>rfl)⟩
      case measure=>simp [intOf];omega
     ·go_wp2
      go_roundw
      case rel=>exact ⟨q+1,by go_num,by omega,⟨_,OwnI.put t1.out q _⟩,s1.out.setCell gp q _ (fun _=>rfl)⟩
      case measure=>simp [intOf];omega
     go_wp2
     go_roundw
     case rel=>exact ⟨q+1,by go_num,by omega,⟨_,OwnI.put t1.out q _⟩,s1.out.setCell gp q _ (fun _=>rfl)⟩
     case measure=>simp [intOf];omega
    have n1:¬((q:Int) < (S.size:Int)):=by rw [HZ.out];omega
    have o2:decide ((q:Int) < (S.size:Int))=false:=decide_eq_false n1
    clear HZ HG HL
    replace hd:=hd.keep p0 (fun gq h h2=>by have:=r1 gq h;omega)
    replace d0:=Bk.keep d0 p0 (fun h=>by omega)
    replace g0:=Bk.keep g0 p0 (fun h=>by omega)
    replace tb:=tb.trans (p0.below w1.heap.size (by have:=tb.size;omega) (fun gq hgq h=>by omega))
    replace e0:=Gc p0 e0 (fun h=>by omega)
    have y5:=p0.size;clear p0
    obtain ⟨⟨y0,q0⟩,u1⟩:=oP.at 0 (by omega)
    obtain ⟨⟨y1,g1⟩,v1⟩:=oP.at 1 (by omega)
    obtain ⟨⟨y2,h1⟩,x1⟩:=oP.at 2 (by omega)
    obtain ⟨⟨y3,i1⟩,z1⟩:=oP.at 3 (by omega)
    clear oP
    go_upto_region 13 with (fail)
    have m0:=Bk.cell g0 2 (v:=.slice (some ⟨gl,0,none⟩) c.list.length f0) rfl
    have n0:=Bk.cell d0 2 (v:=.slice (some ⟨b0,f2,none⟩) c.list.length c2) rfl
    have o4:=Lc q0
    refine wp_region_noPanic ?_
    refine wp_region_held_drew (S:=(fun W'=>W'.cell? ⟨w2.heap.size,2,none⟩=some (.slice (some ⟨gl,0,none⟩) c.list.length f0)∧W'.cell? ⟨w.heap.size,2,none⟩=some (.slice (some ⟨b0,f2,none⟩) c.list.length c2)∧W'.cell? ⟨b0,f2+k*5,none⟩=some (.int .i64 x.op)∧W'.cell? ⟨gp,0,none⟩=some (.int .i64 y0)∧W'.cell? ⟨gp,1,none⟩=some (.int .i64 y1)∧W'.cell? ⟨gp,2,none⟩=some (.int .i64 y2)∧W'.cell? ⟨gp,3,none⟩=some (.int .i64 y3))) (by kernel_rfl) ⟨Kc (Below.drew (Bs wj)) m0,Kc (Below.drew (Bs wj)) n0,Kc (Below.drew (Bs wj)) e0,Kc (Below.drew (Bs wj)) q0,Kc (Below.drew (Bs wj)) g1,Kc (Below.drew (Bs wj)) h1,Kc (Below.drew (Bs wj)) i1⟩ (fun hHeld=>?_)
    obtain ⟨w6,r2⟩:∃ X,X=World.drew wj:=⟨_,rfl⟩
    rw [← r2] at hHeld ⊢
    have hb:Below wj.heap.size wj w6:=by rw [r2];exact Below.drew (Bs _)
    clear r2
    replace tb:=btr tb hb
    replace hd:=DrawC.below hd hb
    have p3:=hb.size
    replace u1:=Kf hb (Lc q0) u1
    replace v1:=Kf hb (Lc g1) v1
    replace x1:=Kf hb (Lc h1) x1
    replace z1:=Kf hb (Lc i1) z1
    replace e0:=Kc hb e0
    replace q0:=Kc hb q0
    replace g1:=Kc hb g1
    replace h1:=Kc hb h1
    replace i1:=Kc hb i1
    replace m0:=Kc hb m0
    replace n0:=Kc hb n0
    replace d0:=Bk.below d0 hb
    replace g0:=Bk.below g0 hb
    clear hb
    refine (tq 0 56 rfl rfl ?_ ?_ (tq 1 57 rfl rfl ?_ ?_ (tq 2 58 rfl rfl ?_ ?_ (tq 3 59 rfl rfl ?_ ?_ (tq 4 60 rfl rfl ?_ ?_ (tq 5 61 rfl rfl ?_ ?_ (tq 6 62 rfl rfl ?_ ?_ (tq 7 63 rfl rfl ?_ ?_ (tq 8 64 rfl rfl ?_ ?_ (tq 9 65 rfl rfl ?_ ?_ (tq 10 66 rfl rfl ?_ ?_ (tq 11 67 rfl rfl ?_ ?_ (tq 12 68 rfl rfl ?_ ?_ (tq 13 69 rfl rfl ?_ ?_ (tq 14 70 rfl rfl ?_ ?_ (tq 15 71 rfl rfl ?_ ?_ (tq 16 72 rfl rfl ?_ ?_ (tq 17 73 rfl rfl ?_ ?_ (tq 18 74 rfl rfl ?_ ?_ (tq 19 75 rfl rfl ?_ ?_ (tq 20 76 rfl rfl ?_ ?_ (tq 21 77 rfl rfl (.agg #[.int .i64 x.op,.int .i64 y0,.int .i64 y1,.int .i64 y2,.int .i64 y3]) (fun W' _=>by kernel_rfl) (tq 22 78 rfl rfl ?_ ?_ ?_)))))))))))))))))))))))
    iterate 22 (rotate_left;intro W' hSw;(try dsimp only at hSw);go_simp;try with_reducible rfl)
    try simp only [Ep]
    refine Rdy 23 rfl (fun K hK=>?_)
    obtain ⟨⟨j2,x0⟩,s0⟩:=hd.at (k) 0 (by omega) (by omega)
    replace x0:w6.cell? ⟨gl,k*5,none⟩=some (.int .i64 j2):=x0;replace s0:w6.frozen? ⟨gl,k*5,none⟩=false:=s0
    obtain ⟨⟨k2,z0⟩,t0⟩:=hd.at (k) 1 (by omega) (by omega)
    replace z0:w6.cell? ⟨gl,k*5+1,none⟩=some (.int .i64 k2):=z0;replace t0:w6.frozen? ⟨gl,k*5+1,none⟩=false:=t0
    obtain ⟨⟨l2,b1⟩,u0⟩:=hd.at (k) 2 (by omega) (by omega)
    replace b1:w6.cell? ⟨gl,k*5+2,none⟩=some (.int .i64 l2):=b1;replace u0:w6.frozen? ⟨gl,k*5+2,none⟩=false:=u0
    obtain ⟨⟨m2,d1⟩,v0⟩:=hd.at (k) 3 (by omega) (by omega)
    replace d1:w6.cell? ⟨gl,k*5+3,none⟩=some (.int .i64 m2):=d1;replace v0:w6.frozen? ⟨gl,k*5+3,none⟩=false:=v0
    obtain ⟨⟨n2,f1⟩,w0⟩:=hd.at (k) 4 (by omega) (by omega)
    replace f1:w6.cell? ⟨gl,k*5+4,none⟩=some (.int .i64 n2):=f1;replace w0:w6.frozen? ⟨gl,k*5+4,none⟩=false:=w0
    go_simp
    obtain ⟨w7,o1,hb⟩:=nmw (World.setCell (World.setCell (World.setCell (World.setCell (World.setCell w6 ⟨gl,k*5,none⟩ (.int .i64 x.op)) ⟨gl,k*5+1,none⟩ (.int .i64 y0)) ⟨gl,k*5+2,none⟩ (.int .i64 y1)) ⟨gl,k*5+3,none⟩ (.int .i64 y2)) ⟨gl,k*5+4,none⟩ (.int .i64 y3))
    replace tb:=btr (bst (bst (bst (bst (bst tb (gl) (k*5) (by omega) (.int .i64 x.op)) (gl) (k*5+1) (by omega) (.int .i64 y0)) (gl) (k*5+2) (by omega) (.int .i64 y1)) (gl) (k*5+3) (by omega) (.int .i64 y2)) (gl) (k*5+4) (by omega) (.int .i64 y3)) hb
    replace hd:=DrawC.below (DrawC.put (DrawC.put (DrawC.put (DrawC.put (DrawC.put hd (k) 0 (by omega) (by omega) (x.op)) (k) 1 (by omega) (by omega) (y0)) (k) 2 (by omega) (by omega) (y1)) (k) 3 (by omega) (by omega) (y2)) (k) 4 (by omega) (by omega) (y3)) hb
    have q1:=hb.size
    simp only [Ss] at q1
    replace u1:=Kf hb (Lc (Nn (Nn (Nn (Nn (Nn q0 _) _) _) _) _)) (Fs (Fs (Fs (Fs (Fs u1 _) _) _) _) _)
    replace v1:=Kf hb (Lc (Nn (Nn (Nn (Nn (Nn g1 _) _) _) _) _)) (Fs (Fs (Fs (Fs (Fs v1 _) _) _) _) _)
    replace x1:=Kf hb (Lc (Nn (Nn (Nn (Nn (Nn h1 _) _) _) _) _)) (Fs (Fs (Fs (Fs (Fs x1 _) _) _) _) _)
    replace z1:=Kf hb (Lc (Nn (Nn (Nn (Nn (Nn i1 _) _) _) _) _)) (Fs (Fs (Fs (Fs (Fs z1 _) _) _) _) _)
    replace e0:=Kc hb (Nn (Nn (Nn (Nn (Nn e0 _) _) _) _) _)
    replace q0:=Kc hb (Nn (Nn (Nn (Nn (Nn q0 _) _) _) _) _)
    replace g1:=Kc hb (Nn (Nn (Nn (Nn (Nn g1 _) _) _) _) _)
    replace h1:=Kc hb (Nn (Nn (Nn (Nn (Nn h1 _) _) _) _) _)
    replace i1:=Kc hb (Nn (Nn (Nn (Nn (Nn i1 _) _) _) _) _)
    replace m0:=Kc hb (Nn (Nn (Nn (Nn (Nn m0 _) _) _) _) _)
    replace n0:=Kc hb (Nn (Nn (Nn (Nn (Nn n0 _) _) _) _) _)
    replace d0:=Bk.below (Bk.nn (Bk.nn (Bk.nn (Bk.nn (Bk.nn d0 _) _) _) _) _) hb
    replace g0:=Bk.below (Bk.nn (Bk.nn (Bk.nn (Bk.nn (Bk.nn g0 _) _) _) _) _) hb
    clear hb
    rw [← o1]
    clear o1
    refine hK.out _ _ ⟨m0,n0,e0,q0,g1,h1,i1⟩ (fun hHeld=>?_)
    clear hK K
    try simp only [Ep]
    refine Dn ?_
    clear hHeld
    have k1:=Lib.hid (And.intro hd (And.intro d0 (And.intro g0 tb)));clear hd
    go_wp2_with fail
    go_roundw
    case rel=>exact ⟨k+1,by go_num,by omega,k1.out.1,k1.out.2.1,k1.out.2.2.1,k1.out.2.2.2,by omega⟩
    case measure=>simp [intOf];omega
  have hq:decide ((k:Int) < (c.list.length:Int))=false:=decide_eq_false (by omega)
  have s5:¬(k:Int) < (c.list.length:Int):=by omega
  have s3:=b4.out _ tb
  have p4:=Bk.lz s3
  have k1:=Lib.hid (DrawC.mono (((hd.keep (C1 (w.heap.size+1) 0 (.slice h0 c.vars.length k0)) (fun gq h h2=>by have:=r1 gq h;omega)).keep (C1 (w.heap.size+1) 1 (.slice i0 c.arrays.length l0)) (fun gq h h2=>by have:=r1 gq h;omega)).keep (C1 (w.heap.size+1) 2 (.slice j0 c.list.length f0)) (fun gq h h2=>by have:=r1 gq h;omega)) (show w.heap.size≤w1.heap.size by omega))
  clear hd
  have z3:=Lib.hid ((((x3.out.trans (Chg.of_below tb)).sN (w.heap.size+1) (0) (.slice h0 c.vars.length k0)).sN (w.heap.size+1) (1) (.slice i0 c.arrays.length l0)).sN (w.heap.size+1) (2) (.slice j0 c.list.length f0))
  obtain ⟨q4,v4⟩:=Bk.cf d0 2 rfl
  obtain ⟨r4,x4,s4,y4,t4,z4⟩:=Bk.f3 g0 0 1 2 rfl rfl rfl
  obtain ⟨x2,a5,z2,b5,a3,c5⟩:=Bk.f3 s3 0 1 2 rfl rfl rfl
  have d5:=(Nn (b:=(w.heap.size+1)) (j:=2) (Nn (b:=(w.heap.size+1)) (j:=1) (Tc _ (w.heap.size+1) 0 (.slice h0 c.vars.length k0) x2) (.slice i0 c.arrays.length l0)) (.slice j0 c.list.length f0))
  have e5:=(Nn (b:=(w.heap.size+1)) (j:=2) (Tc _ (w.heap.size+1) 1 (.slice i0 c.arrays.length l0) (Nn (b:=(w.heap.size+1)) (j:=0) z2 (.slice h0 c.vars.length k0))) (.slice j0 c.list.length f0))
  have f5:=(Tc _ (w.heap.size+1) 2 (.slice j0 c.list.length f0) (Nn (b:=(w.heap.size+1)) (j:=1) (Nn (b:=(w.heap.size+1)) (j:=0) a3 (.slice h0 c.vars.length k0)) (.slice i0 c.arrays.length l0)))
  have tt:=True.intro
  go_wp2
  exact bodyPost_ret (v:=.agg #[.slice h0 c.vars.length k0,.slice i0 c.arrays.length l0,.slice j0 c.list.length f0]) (by simp [results,Tryz.results73,go_sem,d5,e5,f5]) rfl (by exact by unfold SpreadP;exact ⟨_,_,_,rfl,k1.out,z3.out⟩)
end Go.Proofs.YtkjedgnepnbkpaaGreat
