/-
 Parts of the proofs of the laws FnCodeFenced,FnCountBranches.
-/
import Derived.Test.YtkjedgnepnbkpaaQJ
import Derived.Test.YtkjedgnepnbkpaaPY
set_option linter.all false
namespace Go.Proofs.Ytkjedgnepnbkpaa
open Go.RowKit
theorem knd_let {op:Int} (h:1≤op∧op≤12) (k:Nat) (hk:k < (knd op).length):((knd op)[k]=114∨(knd op)[k]=99∨(knd op)[k]=118∨(knd op)[k]=97∨(knd op)[k]=111∨(knd op)[k]=116)∧((knd op)[k]=97→op=4∨op=5):=by
 have hc:op=1∨op=2∨op=3∨op=4∨op=5∨op=6∨op=7∨op=8∨op=9∨op=10∨op=11∨op=12:=by omega
 rcases hc with rfl | rfl | rfl | rfl | rfl | rfl | rfl | rfl | rfl | rfl | rfl | rfl
 all_goals
  revert hk
  match k with
  | 0=>first | (intro hk;revert hk;decide) | (intro hk;simp [knd])
  | 1=>first | (intro hk;revert hk;decide) | (intro hk;simp [knd])
  | 2=>first | (intro hk;revert hk;decide) | (intro hk;simp [knd])
  | 3=>first | (intro hk;revert hk;decide) | (intro hk;simp [knd])
  | n+4=>intro hk;exact absurd hk (Nat.not_lt.2 (Nat.le_trans (knd_len (by omega)) (by omega)))
set_option maxHeartbeats 6400000 in
set_option maxRecDepth 100000 in
theorem l6Random_any (pv pa pl:Option Addr) (nv cv na ca nl cl:Nat) (B g p ka n:Nat) (w:World) (hR:Rnd w B g p) (hp:p+5≤1000000000) (hnv:1≤nv∧nv≤1000) (hna:na≤1000) (hkn:ka+1 < n) (hn:n≤1000) :
  Calls Try.prog 145 #[.pointer (some ⟨g,0,none⟩),.agg #[.slice pv nv cv,.slice pa na ca,.slice pl nl cl],.int .i64 (ka:Int),.int .i64 (n:Int)] w fun r w'=>∃ (x0 x1 x2 x3 x4:Int) (p':Nat),r=.returned (.agg #[.int .i64 x0,.int .i64 x1,.int .i64 x2,.int .i64 x3,.int .i64 x4])∧Rnd w' B g p'∧p'≤p+5∧Chg (fun q=>q=g) w w':=by
 have hg:=hR.lt
 have hC:Chg (fun k=>k=g) w w:=Chg.refl _ _
 have k0:∀ q,(fun k=>k=g) q→q=g:=fun q h=>h
 go_enter Try.func145,Try.ntmps145
 go_wp2_with fail
 have v1:=num_any _ [1,2,3,6,2,7,9,4,5,11,8,12] _ B g (p) (((hR.below (bal (Bs _) (.cells #[.slice pv nv cv,.slice pa na ca,.slice pl nl cl] 26))).below (bal (Bs _) (.cells #[.int .i64 0,.int .i64 0,.int .i64 0,.int .i64 0,.int .i64 0] 32))).below (bal (Bs _) (.cells #[.int .i64 1,.int .i64 2,.int .i64 3,.int .i64 6,.int .i64 2,.int .i64 7,.int .i64 9,.int .i64 4,.int .i64 5,.int .i64 11,.int .i64 8,.int .i64 12] 3))) (Ro (World.ownsRow_lit (base:=((World.alloc (World.alloc w (.cells #[.slice pv nv cv,.slice pa na ca,.slice pl nl cl] 26)) (.cells #[.int .i64 0,.int .i64 0,.int .i64 0,.int .i64 0,.int .i64 0] 32))).heap.size) (e:=3) (size:=1) ((World.alloc (World.alloc w (.cells #[.slice pv nv cv,.slice pa na ca,.slice pl nl cl] 26)) (.cells #[.int .i64 0,.int .i64 0,.int .i64 0,.int .i64 0,.int .i64 0] 32))) #[.int .i64 1,.int .i64 2,.int .i64 3,.int .i64 6,.int .i64 2,.int .i64 7,.int .i64 9,.int .i64 4,.int .i64 5,.int .i64 11,.int .i64 8,.int .i64 12] 12 (Nat.le_refl _) (by unfold maxLen;omega) (by simp)) (by simp)) (fun b o c hb=>by simp at hb;omega) (by simp) (by simp) (by omega)
 simp only [Sa] at v1
 refine (v1).mono ?_
 rintro e w1 ⟨op,a5,rfl,e0,hc⟩
 clear v1
 replace hC:=((((hC.trans (Chg.of_below (bal (Bs _) _))).trans (Chg.of_below (bal (Bs _) _))).trans (Chg.of_below (bal (Bs _) _)))).trans hc
 replace hR:=e0;clear e0
 have a2:=hc.size
 simp only [Sa] at a2
 have h0:Bk w1 (w.heap.size) [.slice pv nv cv,.slice pa na ca,.slice pl nl cl]:=Bk.keep (Bk.al (Bk.al (Bk.nw (by simp) rfl) (.cells #[.int .i64 0,.int .i64 0,.int .i64 0,.int .i64 0,.int .i64 0] 32)) (.cells #[.int .i64 1,.int .i64 2,.int .i64 3,.int .i64 6,.int .i64 2,.int .i64 7,.int .i64 9,.int .i64 4,.int .i64 5,.int .i64 11,.int .i64 8,.int .i64 12] 3)) hc (fun h=>by have:=k0 _ h;omega)
 have i0:Bk w1 (w.heap.size+1) [.int .i64 0,.int .i64 0,.int .i64 0,.int .i64 0,.int .i64 0]:=Bk.kg (Bk.al (Bk.nw (by simp) rfl) (.cells #[.int .i64 1,.int .i64 2,.int .i64 3,.int .i64 6,.int .i64 2,.int .i64 7,.int .i64 9,.int .i64 4,.int .i64 5,.int .i64 11,.int .i64 8,.int .i64 12] 3)) hc
 have c5:Bk w1 (w.heap.size+1+1) [.int .i64 1,.int .i64 2,.int .i64 3,.int .i64 6,.int .i64 2,.int .i64 7,.int .i64 9,.int .i64 4,.int .i64 5,.int .i64 11,.int .i64 8,.int .i64 12]:=Bk.kg (Bk.nw (by simp) rfl) hc
 clear hc
 clear c5
 have g2:=Bk.lz h0
 have i2:=Bk.lz i0
 have v6:1≤op∧op≤12:=by simp only [List.mem_cons,List.not_mem_nil,or_false] at a5;omega
 clear a5
 go_upto_region 2 with (fail)
 obtain ⟨w2,q0,hb⟩:=nmw (World.alloc w1 (.cells #[.int .i64 op,.int .i64 0,.int .i64 0,.int .i64 0,.int .i64 0] 32))
 replace hC:=((hC.trans (Chg.of_below (bal (Bs _) _)))).trans (Chg.of_below hb)
 replace hR:=(hR.below (bal (Bs _) _)).below hb
 have b2:=hb.size
 simp only [Sa] at b2
 replace h0:=Bk.below (Bk.al h0 _) hb
 replace i0:=Bk.below (Bk.al i0 _) hb
 have j0:Bk w2 (w1.heap.size) [.int .i64 op,.int .i64 0,.int .i64 0,.int .i64 0,.int .i64 0]:=Bk.below (Bk.nw (by simp) rfl) hb
 clear hb
 rw [← q0]
 clear q0
 replace g2:=Bk.lz h0
 replace i2:=Bk.lz i0
 have m1:=Bk.lz j0
 have z3:=Bk.cell j0 0 (v:=.int .i64 op) rfl
 have a4:=Bk.cell h0 1 (v:=.slice pa na ca) rfl
 go_cut [30] (fun s wx=>(∃ t:Bool,s=.bool t∧(t=false→(op=4∨op=5)→1≤na))∧wx=w2)
 case first =>
  by_cases hz:na=0
  ·have q1:((na:Int) == 0)=true:=by simp [hz]
   by_cases h4:op=4
   ·have q4:(op == 4)=true:=by simp [h4]
    go_wp2_with fail;go_meet;exact ⟨⟨true,rfl,fun h=>by cases h⟩,rfl⟩
   have q4:(op == 4)=false:=by simp [h4]
   by_cases h5:op=5
   ·have q5:(op == 5)=true:=by simp [h5]
    go_wp2_with fail;go_meet;exact ⟨⟨true,rfl,fun h=>by cases h⟩,rfl⟩
   have q5:(op == 5)=false:=by simp [h5]
   go_wp2_with fail;go_meet;exact ⟨⟨false,rfl,fun _ h=>by omega⟩,rfl⟩
  have q1:((na:Int) == 0)=false:=by simp;omega
  go_wp2_with fail;go_meet;exact ⟨⟨false,rfl,fun _ h=>by omega⟩,rfl⟩
 obtain ⟨⟨tb,rfl,d2⟩,z4⟩:=hcut;have n0:=z4.symm;subst n0;clear z4 z3 a4
 cases tb with
 | true =>
  clear d2
  obtain ⟨j2,e3⟩:=Bk.cf h0 1 rfl
  obtain ⟨k2,f3,l2,g3,m2,h3,n2,i3,o2,j3⟩:=Bk.f5 j0 0 1 2 3 4 rfl rfl rfl rfl rfl
  go_wp2_with fail
  refine (l6Fields_any (2) _ (by omega)).mono ?_
  rintro e w3 ⟨rfl,hb⟩
  replace hC:=((hC.sN _ _ _)).trans (Chg.of_below hb)
  replace hR:=(hR.kC _ _ _).below hb
  have f1:=hb.size
  simp only [Ss] at f1
  clear e3 j2 f3 k2 g3 l2 h3 m2 i3 n2 j3 o2
  replace h0:=Bk.below (Bk.nn h0 _) hb
  replace i0:=Bk.below (Bk.nn i0 _) hb
  replace j0:Bk w3 (w1.heap.size) [.int .i64 2,.int .i64 0,.int .i64 0,.int .i64 0,.int .i64 0]:=Bk.below (Bk.at j0 0 (.int .i64 2)) hb
  clear hb
  obtain ⟨S,hS⟩:∃ S:ByteArray,S=⟨(knd (2)).toArray⟩:=⟨_,rfl⟩
  rw [← hS]
  have HZ:Hid (S.size=(knd (2)).length):=Lib.hid (by rw [hS];simp [ByteArray.size])
  have HG:Hid (∀ (k:Nat) (h:k < (knd (2)).length) (h':k < S.size),S[k]'h'=(knd (2))[k]):=Lib.hid (by subst hS;exact str_get _)
  have HK:Hid (S.size≤4):=Lib.hid (by rw [HZ.out];exact knd_len (by omega))
  have HL:Hid (∀ (k:Nat) (h:k < S.size),(S[k]'h=114∨S[k]'h=99∨S[k]'h=118∨S[k]'h=97∨S[k]'h=111∨S[k]'h=116)∧(S[k]'h=97→1≤na)):=Lib.hid (fun k h=>by have h1:k < (knd (2)).length:=(by rw [← HZ.out];exact h);rw [HG.out k h1 h];have h2:=knd_let (op:=2) (by omega) k h1;exact ⟨h2.1,fun e=>by have:=h2.2 e;omega⟩)
  clear hS HG HZ
  replace g2:=Bk.lz h0
  replace i2:=Bk.lz i0
  replace m1:=Bk.lz j0
  go_upto_region 6 with (fail)
  obtain ⟨w4,q0,hb⟩:=nmw (World.alloc w3 (.cells #[.int .i64 0,.int .i64 0,.int .i64 0,.int .i64 0] 3))
  replace hC:=((hC.trans (Chg.of_below (bal (Bs _) _)))).trans (Chg.of_below hb)
  replace hR:=(hR.below (bal (Bs _) _)).below hb
  have v0:=Ob (World.ownsRow_lit (base:=(w3).heap.size) (e:=3) (size:=1) (w3) #[.int .i64 0,.int .i64 0,.int .i64 0,.int .i64 0] 4 (Nat.le_refl _) (by unfold maxLen;omega) (by simp)) hb
  try simp only [Sa,Ss] at v0
  have g1:=hb.size
  simp only [Sa] at g1
  replace h0:=Bk.below (Bk.al h0 _) hb
  replace i0:=Bk.below (Bk.al i0 _) hb
  replace j0:=Bk.below (Bk.al j0 _) hb
  have r0:Bk w4 (w3.heap.size) [.int .i64 0,.int .i64 0,.int .i64 0,.int .i64 0]:=Bk.below (Bk.nw (by simp) rfl) hb
  clear hb
  have e2:=v0.lt
  try simp only [Sa] at e2
  rw [← q0]
  clear q0
  have r5:=Bk.lz r0
  clear v0
  have ri:=RowI.of (xs:=[0,0,0,0]) (n:=4) r0 rfl
  clear r0
  have c1:Hid (∃ (k pk:Nat),Value.int .i64 0=.int .i64 k∧k≤S.size∧RowI w4 (w3.heap.size) 4∧Bk w4 (w.heap.size) [.slice pv nv cv,.slice pa na ca,.slice pl nl cl]∧Bk w4 (w1.heap.size) [.int .i64 2,.int .i64 0,.int .i64 0,.int .i64 0,.int .i64 0]∧Bk w4 (w.heap.size+1) [.int .i64 0,.int .i64 0,.int .i64 0,.int .i64 0,.int .i64 0]∧Rnd w4 B g pk∧pk≤p+1+k∧Chg (fun q=>q=g) w w4∧w4.heap.size≤w4.heap.size):=Lib.hid ⟨0,p+1,rfl,Nat.zero_le _,ri,h0,j0,i0,hR,by omega,hC,Nat.le_refl _⟩
  have c2:w.heap.size+4≤w4.heap.size:=by omega
  clear hR hC ri h0 i0 j0
  go_wp2_with fail
  go_loopw [12] (fun i wr=>∃ (k pk:Nat),i=.int .i64 k∧k≤S.size∧RowI wr (w3.heap.size) 4∧Bk wr (w.heap.size) [.slice pv nv cv,.slice pa na ca,.slice pl nl cl]∧Bk wr (w1.heap.size) [.int .i64 2,.int .i64 0,.int .i64 0,.int .i64 0,.int .i64 0]∧Bk wr (w.heap.size+1) [.int .i64 0,.int .i64 0,.int .i64 0,.int .i64 0,.int .i64 0]∧Rnd wr B g pk∧pk≤p+1+k∧Chg (fun q=>q=g) w wr∧w4.heap.size≤wr.heap.size) (fun i _=>S.size-(intOf i).toNat)
  case atStart=>exact c1.out
  case round =>
   obtain ⟨k,pk,rfl,hk,ri,b0,d0,c0,hR,n5,hC,p5⟩:=hrel
   clear c1
   obtain ⟨wl,rfl⟩:∃ X,X=wr:=⟨_,rfl⟩
   have d5:=HK.out
   have s5:=Bk.lz b0
   have t5:=Bk.lz d0
   have u5:=Bk.lz c0
   by_cases hlt:k < S.size
   ·have t1:(k:Int) < (S.size:Int):=by omega
    have j5:¬((S.size:Int)≤(k:Int)):=by omega
    have u1:¬(S.size≤k):=by omega
    have i5:decide (S.size≤k)=false:=decide_eq_false u1
    obtain ⟨s1,e1⟩:=HL.out k hlt
    have HA:=Lib.hid e1;clear e1 HL
    generalize hzz:S[k]=z at *
    rcases s1 with rfl | rfl | rfl | rfl | rfl | rfl
    ·skip
     go_wp2_with fail
     refine (pick_any _ _ B g (pk) hR (by omega) (by omega) (by omega)).mono ?_
     rintro e w5 ⟨z1,o0,p0,rfl,e0,hc⟩
     replace hC:=(hC).trans hc
     replace hR:=e0;clear e0
     replace ri:=RowI.keep ri hc (fun h=>by have:=k0 _ h;omega)
     have g4:=hc.size
     replace b0:=Bk.kg b0 hc
     replace d0:=Bk.kg d0 hc
     replace c0:=Bk.kg c0 hc
     clear hc
     obtain ⟨yk,m0,l0⟩:=ri.at k (by omega)
     have f0:=Lib.hid (RowI.put ri ((k:Nat)) (z1));have a0:=Lib.hid (And.intro (Bk.nn (b':=(w3.heap.size)) (j':=(k:Nat)) b0 (.int .i64 z1)) (And.intro (Bk.nn (b':=(w3.heap.size)) (j':=(k:Nat)) d0 (.int .i64 z1)) (And.intro (Bk.nn (b':=(w3.heap.size)) (j':=(k:Nat)) c0 (.int .i64 z1)) (And.intro (hR.kC (w3.heap.size) ((k:Nat)) (.int .i64 z1)) (hC.sN (w3.heap.size) ((k:Nat)) (.int .i64 z1))))))
     have g0:=Lib.hid (show wl.heap.size≤w5.heap.size by omega)
     clear hR hC
     go_wp2
     go_roundw
     case rel=>exact ⟨k+1,pk+1,by go_num,by omega,f0.out,a0.out.1,a0.out.2.1,a0.out.2.2.1,a0.out.2.2.2.1,by omega,a0.out.2.2.2.2,by have:=g0.out;simp only [Ss];omega⟩
     case measure=>simp [intOf];omega
    ·skip
     go_wp2_with fail
     refine (l3Value_any B g (pk) _ hR (by omega)).mono ?_
     rintro e w5 ⟨z1,rfl,o5,e0,hc⟩
     replace hC:=(hC).trans hc
     replace hR:=e0;clear e0
     replace ri:=RowI.keep ri hc (fun h=>by have:=k0 _ h;omega)
     have i4:=hc.size
     replace b0:=Bk.kg b0 hc
     replace d0:=Bk.kg d0 hc
     replace c0:=Bk.kg c0 hc
     clear hc
     obtain ⟨yk,m0,l0⟩:=ri.at k (by omega)
     have f0:=Lib.hid (RowI.put ri ((k:Nat)) (z1));have a0:=Lib.hid (And.intro (Bk.nn (b':=(w3.heap.size)) (j':=(k:Nat)) b0 (.int .i64 z1)) (And.intro (Bk.nn (b':=(w3.heap.size)) (j':=(k:Nat)) d0 (.int .i64 z1)) (And.intro (Bk.nn (b':=(w3.heap.size)) (j':=(k:Nat)) c0 (.int .i64 z1)) (And.intro (hR.kC (w3.heap.size) ((k:Nat)) (.int .i64 z1)) (hC.sN (w3.heap.size) ((k:Nat)) (.int .i64 z1))))))
     have g0:=Lib.hid (show wl.heap.size≤w5.heap.size by omega)
     clear hR hC
     go_wp2
     go_roundw
     case rel=>exact ⟨k+1,pk+1,by go_num,by omega,f0.out,a0.out.1,a0.out.2.1,a0.out.2.2.1,a0.out.2.2.2.1,by omega,a0.out.2.2.2.2,by have:=g0.out;simp only [Ss];omega⟩
     case measure=>simp [intOf];omega
    ·skip
     obtain ⟨p2,k3⟩:=Bk.cf b0 0 rfl
     go_wp2_with fail
     refine (pick_any _ _ B g (pk) hR (by omega) (by omega) (by omega)).mono ?_
     rintro e w5 ⟨z1,o0,p0,rfl,e0,hc⟩
     replace hC:=(hC).trans hc
     replace hR:=e0;clear e0
     replace ri:=RowI.keep ri hc (fun h=>by have:=k0 _ h;omega)
     have j4:=hc.size
     clear k3 p2
     replace b0:=Bk.kg b0 hc
     replace d0:=Bk.kg d0 hc
     replace c0:=Bk.kg c0 hc
     clear hc
     obtain ⟨yk,m0,l0⟩:=ri.at k (by omega)
     have f0:=Lib.hid (RowI.put ri ((k:Nat)) (z1));have a0:=Lib.hid (And.intro (Bk.nn (b':=(w3.heap.size)) (j':=(k:Nat)) b0 (.int .i64 z1)) (And.intro (Bk.nn (b':=(w3.heap.size)) (j':=(k:Nat)) d0 (.int .i64 z1)) (And.intro (Bk.nn (b':=(w3.heap.size)) (j':=(k:Nat)) c0 (.int .i64 z1)) (And.intro (hR.kC (w3.heap.size) ((k:Nat)) (.int .i64 z1)) (hC.sN (w3.heap.size) ((k:Nat)) (.int .i64 z1))))))
     have g0:=Lib.hid (show wl.heap.size≤w5.heap.size by omega)
     clear hR hC
     go_wp2
     go_roundw
     case rel=>exact ⟨k+1,pk+1,by go_num,by omega,f0.out,a0.out.1,a0.out.2.1,a0.out.2.2.1,a0.out.2.2.2.1,by omega,a0.out.2.2.2.2,by have:=g0.out;simp only [Ss];omega⟩
     case measure=>simp [intOf];omega
    ·skip
     have e5:1≤na:=HA.out rfl
     obtain ⟨q2,l3⟩:=Bk.cf b0 1 rfl
     go_wp2_with fail
     refine (pick_any _ _ B g (pk) hR (by omega) (by omega) (by omega)).mono ?_
     rintro e w5 ⟨z1,o0,p0,rfl,e0,hc⟩
     replace hC:=(hC).trans hc
     replace hR:=e0;clear e0
     replace ri:=RowI.keep ri hc (fun h=>by have:=k0 _ h;omega)
     have k4:=hc.size
     clear l3 q2
     replace b0:=Bk.kg b0 hc
     replace d0:=Bk.kg d0 hc
     replace c0:=Bk.kg c0 hc
     clear hc
     obtain ⟨yk,m0,l0⟩:=ri.at k (by omega)
     have f0:=Lib.hid (RowI.put ri ((k:Nat)) (z1));have a0:=Lib.hid (And.intro (Bk.nn (b':=(w3.heap.size)) (j':=(k:Nat)) b0 (.int .i64 z1)) (And.intro (Bk.nn (b':=(w3.heap.size)) (j':=(k:Nat)) d0 (.int .i64 z1)) (And.intro (Bk.nn (b':=(w3.heap.size)) (j':=(k:Nat)) c0 (.int .i64 z1)) (And.intro (hR.kC (w3.heap.size) ((k:Nat)) (.int .i64 z1)) (hC.sN (w3.heap.size) ((k:Nat)) (.int .i64 z1))))))
     have g0:=Lib.hid (show wl.heap.size≤w5.heap.size by omega)
     clear hR hC
     go_wp2
     go_roundw
     case rel=>exact ⟨k+1,pk+1,by go_num,by omega,f0.out,a0.out.1,a0.out.2.1,a0.out.2.2.1,a0.out.2.2.2.1,by omega,a0.out.2.2.2.2,by have:=g0.out;simp only [Ss];omega⟩
     case measure=>simp [intOf];omega
    ·skip
     go_wp2_with fail
     refine (pick_any _ _ B g (pk) hR (by omega) (by omega) (by omega)).mono ?_
     rintro e w5 ⟨z1,o0,p0,rfl,e0,hc⟩
     replace hC:=(hC).trans hc
     replace hR:=e0;clear e0
     replace ri:=RowI.keep ri hc (fun h=>by have:=k0 _ h;omega)
     have l4:=hc.size
     replace b0:=Bk.kg b0 hc
     replace d0:=Bk.kg d0 hc
     replace c0:=Bk.kg c0 hc
     clear hc
     obtain ⟨yk,m0,l0⟩:=ri.at k (by omega)
     have f0:=Lib.hid (RowI.put ri ((k:Nat)) ((4+z1)));have a0:=Lib.hid (And.intro (Bk.nn (b':=(w3.heap.size)) (j':=(k:Nat)) b0 (.int .i64 (4+z1))) (And.intro (Bk.nn (b':=(w3.heap.size)) (j':=(k:Nat)) d0 (.int .i64 (4+z1))) (And.intro (Bk.nn (b':=(w3.heap.size)) (j':=(k:Nat)) c0 (.int .i64 (4+z1))) (And.intro (hR.kC (w3.heap.size) ((k:Nat)) (.int .i64 (4+z1))) (hC.sN (w3.heap.size) ((k:Nat)) (.int .i64 (4+z1)))))))
     have g0:=Lib.hid (show wl.heap.size≤w5.heap.size by omega)
     clear hR hC
     go_wp2
     go_roundw
     case rel=>exact ⟨k+1,pk+1,by go_num,by omega,f0.out,a0.out.1,a0.out.2.1,a0.out.2.2.1,a0.out.2.2.2.1,by omega,a0.out.2.2.2.2,by have:=g0.out;simp only [Ss];omega⟩
     case measure=>simp [intOf];omega
    skip
    go_wp2_with fail
    refine (pick_any _ _ B g (pk) hR (by omega) (by omega) (by omega)).mono ?_
    rintro e w5 ⟨z1,o0,p0,rfl,e0,hc⟩
    replace hC:=(hC).trans hc
    replace hR:=e0;clear e0
    replace ri:=RowI.keep ri hc (fun h=>by have:=k0 _ h;omega)
    have m4:=hc.size
    replace b0:=Bk.kg b0 hc
    replace d0:=Bk.kg d0 hc
    replace c0:=Bk.kg c0 hc
    clear hc
    obtain ⟨yk,m0,l0⟩:=ri.at k (by omega)
    have f0:=Lib.hid (RowI.put ri ((k:Nat)) (((ka:Int)+1+z1)));have a0:=Lib.hid (And.intro (Bk.nn (b':=(w3.heap.size)) (j':=(k:Nat)) b0 (.int .i64 ((ka:Int)+1+z1))) (And.intro (Bk.nn (b':=(w3.heap.size)) (j':=(k:Nat)) d0 (.int .i64 ((ka:Int)+1+z1))) (And.intro (Bk.nn (b':=(w3.heap.size)) (j':=(k:Nat)) c0 (.int .i64 ((ka:Int)+1+z1))) (And.intro (hR.kC (w3.heap.size) ((k:Nat)) (.int .i64 ((ka:Int)+1+z1))) (hC.sN (w3.heap.size) ((k:Nat)) (.int .i64 ((ka:Int)+1+z1)))))))
    have g0:=Lib.hid (show wl.heap.size≤w5.heap.size by omega)
    clear hR hC
    go_wp2
    go_roundw
    case rel=>exact ⟨k+1,pk+1,by go_num,by omega,f0.out,a0.out.1,a0.out.2.1,a0.out.2.2.1,a0.out.2.2.2.1,by omega,a0.out.2.2.2.2,by have:=g0.out;simp only [Ss];omega⟩
    case measure=>simp [intOf];omega
   have l5:k=S.size:=by omega
   have t1:¬(k:Int) < (S.size:Int):=by omega
   have k5:decide (k < S.size)=false:=decide_eq_false hlt
   obtain ⟨y0,u0,n1⟩:=ri.at 0 (by omega)
   obtain ⟨y1,j1,o1⟩:=ri.at 1 (by omega)
   obtain ⟨y2,k1,p1⟩:=ri.at 2 (by omega)
   obtain ⟨y3,l1,r1⟩:=ri.at 3 (by omega)
   clear ri n1 o1 p1 r1
   go_upto_region 21 with (fail)
   have v5:=Lc u0
   have t0:True:=trivial
   obtain ⟨r2,m3⟩:=Bk.cf d0 0 rfl
   refine wp_region_still_tail 14 (by kernel_rfl) (by kernel_rfl) ?_
   simp only [List.take_succ_cons,List.take_zero,List.drop_succ_cons,List.drop_zero]
   repeat still_step
   refine wpStill_nil ?_
   change wpList _ _ _ _ _ (World.drew wl)
   obtain ⟨w5,n0⟩:∃ X,X=World.drew wl:=⟨_,rfl⟩
   rw [← n0]
   have hb:Below wl.heap.size wl w5:=by rw [n0];exact Below.drew (Bs _)
   clear n0 t0
   replace hC:=(hC).trans (Chg.of_below hb)
   replace hR:=hR.below hb
   have n4:=hb.size
   clear m3 r2
   replace u0:=Kc hb u0
   replace j1:=Kc hb j1
   replace k1:=Kc hb k1
   replace l1:=Kc hb l1
   replace b0:=Bk.below b0 hb
   replace d0:=Bk.below d0 hb
   replace c0:=Bk.below c0 hb
   clear hb
   obtain ⟨c6,m6,d6,n6,e6,o6,f6,p6,g6,q6⟩:=Bk.f5 c0 0 1 2 3 4 rfl rfl rfl rfl rfl
   have z0:=((((((Chg.refl (fun q=>q=w.heap.size+1) w5).setCell (w.heap.size+1) 0 (.int .i64 2) (fun _=>rfl)).setCell (w.heap.size+1) 1 (.int .i64 y0) (fun _=>rfl)).setCell (w.heap.size+1) 2 (.int .i64 y1) (fun _=>rfl)).setCell (w.heap.size+1) 3 (.int .i64 y2) (fun _=>rfl)).setCell (w.heap.size+1) 4 (.int .i64 y3) (fun _=>rfl))
   have d1:=(Bk.at (Bk.at (Bk.at (Bk.at (Bk.at c0 0 (.int .i64 2)) 1 (.int .i64 y0)) 2 (.int .i64 y1)) 3 (.int .i64 y2)) 4 (.int .i64 y3))
   obtain ⟨b4,c4,d4,e4,f4⟩:=Bk.g5 d1
   have a1:=Lib.hid z0;clear z0 d1
   have b1:=Lib.hid (And.intro hC hR);clear hC hR
   go_wp2
   exact bodyPost_ret (v:=.agg #[.int .i64 2,.int .i64 y0,.int .i64 y1,.int .i64 y2,.int .i64 y3]) (by simp [results,Try.results145,go_sem,b4,c4,d4,e4,f4]) rfl (by exact ⟨⟨_,_,_,_,_,rfl⟩,pk,b1.out.2.keep a1.out (fun h=>by omega) (fun k hk h=>by omega),by omega,chg_app b1.out.1 a1.out (fun q hq h=>by omega)⟩)
 | false =>
  have m5:=d2 rfl;clear d2
  obtain ⟨s2,n3⟩:=Bk.cf h0 1 rfl
  obtain ⟨t2,o3,u2,p3,v2,q3,z2,r3,a3,s3⟩:=Bk.f5 j0 0 1 2 3 4 rfl rfl rfl rfl rfl
  go_wp2_with fail
  refine (l6Fields_any (op) _ (by omega)).mono ?_
  rintro e w3 ⟨rfl,hb⟩
  replace hC:=(hC).trans (Chg.of_below hb)
  replace hR:=hR.below hb
  have o4:=hb.size
  clear n3 s2 o3 t2 p3 u2 q3 v2 r3 z2 s3 a3
  replace h0:=Bk.below h0 hb
  replace i0:=Bk.below i0 hb
  replace j0:=Bk.below j0 hb
  clear hb
  obtain ⟨S,hS⟩:∃ S:ByteArray,S=⟨(knd (op)).toArray⟩:=⟨_,rfl⟩
  rw [← hS]
  have HZ:Hid (S.size=(knd (op)).length):=Lib.hid (by rw [hS];simp [ByteArray.size])
  have HG:Hid (∀ (k:Nat) (h:k < (knd (op)).length) (h':k < S.size),S[k]'h'=(knd (op))[k]):=Lib.hid (by subst hS;exact str_get _)
  have HK:Hid (S.size≤4):=Lib.hid (by rw [HZ.out];exact knd_len (by omega))
  have HL:Hid (∀ (k:Nat) (h:k < S.size),(S[k]'h=114∨S[k]'h=99∨S[k]'h=118∨S[k]'h=97∨S[k]'h=111∨S[k]'h=116)∧(S[k]'h=97→1≤na)):=Lib.hid (fun k h=>by have h1:k < (knd (op)).length:=(by rw [← HZ.out];exact h);rw [HG.out k h1 h];have h2:=knd_let (op:=op) (by omega) k h1;exact ⟨h2.1,fun e=>by have:=h2.2 e;omega⟩)
  clear hS HG HZ
  replace g2:=Bk.lz h0
  replace i2:=Bk.lz i0
  replace m1:=Bk.lz j0
  go_upto_region 6 with (fail)
  obtain ⟨w4,q0,hb⟩:=nmw (World.alloc w3 (.cells #[.int .i64 0,.int .i64 0,.int .i64 0,.int .i64 0] 3))
  replace hC:=((hC.trans (Chg.of_below (bal (Bs _) _)))).trans (Chg.of_below hb)
  replace hR:=(hR.below (bal (Bs _) _)).below hb
  have w0:=Ob (World.ownsRow_lit (base:=(w3).heap.size) (e:=3) (size:=1) (w3) #[.int .i64 0,.int .i64 0,.int .i64 0,.int .i64 0] 4 (Nat.le_refl _) (by unfold maxLen;omega) (by simp)) hb
  try simp only [Sa,Ss] at w0
  have i1:=hb.size
  simp only [Sa] at i1
  replace h0:=Bk.below (Bk.al h0 _) hb
  replace i0:=Bk.below (Bk.al i0 _) hb
  replace j0:=Bk.below (Bk.al j0 _) hb
  have s0:Bk w4 (w3.heap.size) [.int .i64 0,.int .i64 0,.int .i64 0,.int .i64 0]:=Bk.below (Bk.nw (by simp) rfl) hb
  clear hb
  have f2:=w0.lt
  try simp only [Sa] at f2
  rw [← q0]
  clear q0
  have x5:=Bk.lz s0
  clear w0
  have ri:=RowI.of (xs:=[0,0,0,0]) (n:=4) s0 rfl
  clear s0
  have c1:Hid (∃ (k pk:Nat),Value.int .i64 0=.int .i64 k∧k≤S.size∧RowI w4 (w3.heap.size) 4∧Bk w4 (w.heap.size) [.slice pv nv cv,.slice pa na ca,.slice pl nl cl]∧Bk w4 (w1.heap.size) [.int .i64 op,.int .i64 0,.int .i64 0,.int .i64 0,.int .i64 0]∧Bk w4 (w.heap.size+1) [.int .i64 0,.int .i64 0,.int .i64 0,.int .i64 0,.int .i64 0]∧Rnd w4 B g pk∧pk≤p+1+k∧Chg (fun q=>q=g) w w4∧w4.heap.size≤w4.heap.size):=Lib.hid ⟨0,p+1,rfl,Nat.zero_le _,ri,h0,j0,i0,hR,by omega,hC,Nat.le_refl _⟩
  have c2:w.heap.size+4≤w4.heap.size:=by omega
  clear hR hC ri h0 i0 j0
  go_wp2_with fail
  go_loopw [12] (fun i wr=>∃ (k pk:Nat),i=.int .i64 k∧k≤S.size∧RowI wr (w3.heap.size) 4∧Bk wr (w.heap.size) [.slice pv nv cv,.slice pa na ca,.slice pl nl cl]∧Bk wr (w1.heap.size) [.int .i64 op,.int .i64 0,.int .i64 0,.int .i64 0,.int .i64 0]∧Bk wr (w.heap.size+1) [.int .i64 0,.int .i64 0,.int .i64 0,.int .i64 0,.int .i64 0]∧Rnd wr B g pk∧pk≤p+1+k∧Chg (fun q=>q=g) w wr∧w4.heap.size≤wr.heap.size) (fun i _=>S.size-(intOf i).toNat)
  case atStart=>exact c1.out
  case round =>
   obtain ⟨k,pk,rfl,hk,ri,b0,d0,c0,hR,n5,hC,p5⟩:=hrel
   clear c1
   obtain ⟨wl,rfl⟩:∃ X,X=wr:=⟨_,rfl⟩
   have d5:=HK.out
   have y5:=Bk.lz b0
   have z5:=Bk.lz d0
   have a6:=Bk.lz c0
   by_cases hlt:k < S.size
   ·have t1:(k:Int) < (S.size:Int):=by omega
    have j5:¬((S.size:Int)≤(k:Int)):=by omega
    have u1:¬(S.size≤k):=by omega
    have i5:decide (S.size≤k)=false:=decide_eq_false u1
    obtain ⟨s1,e1⟩:=HL.out k hlt
    have HA:=Lib.hid e1;clear e1 HL
    generalize hzz:S[k]=z at *
    rcases s1 with rfl | rfl | rfl | rfl | rfl | rfl
    ·skip
     go_wp2_with fail
     refine (pick_any _ _ B g (pk) hR (by omega) (by omega) (by omega)).mono ?_
     rintro e w5 ⟨z1,o0,p0,rfl,e0,hc⟩
     replace hC:=(hC).trans hc
     replace hR:=e0;clear e0
     replace ri:=RowI.keep ri hc (fun h=>by have:=k0 _ h;omega)
     have p4:=hc.size
     replace b0:=Bk.kg b0 hc
     replace d0:=Bk.kg d0 hc
     replace c0:=Bk.kg c0 hc
     clear hc
     obtain ⟨yk,m0,l0⟩:=ri.at k (by omega)
     have f0:=Lib.hid (RowI.put ri ((k:Nat)) (z1));have a0:=Lib.hid (And.intro (Bk.nn (b':=(w3.heap.size)) (j':=(k:Nat)) b0 (.int .i64 z1)) (And.intro (Bk.nn (b':=(w3.heap.size)) (j':=(k:Nat)) d0 (.int .i64 z1)) (And.intro (Bk.nn (b':=(w3.heap.size)) (j':=(k:Nat)) c0 (.int .i64 z1)) (And.intro (hR.kC (w3.heap.size) ((k:Nat)) (.int .i64 z1)) (hC.sN (w3.heap.size) ((k:Nat)) (.int .i64 z1))))))
     have g0:=Lib.hid (show wl.heap.size≤w5.heap.size by omega)
     clear hR hC
     go_wp2
     go_roundw
     case rel=>exact ⟨k+1,pk+1,by go_num,by omega,f0.out,a0.out.1,a0.out.2.1,a0.out.2.2.1,a0.out.2.2.2.1,by omega,a0.out.2.2.2.2,by have:=g0.out;simp only [Ss];omega⟩
     case measure=>simp [intOf];omega
    ·skip
     go_wp2_with fail
     refine (l3Value_any B g (pk) _ hR (by omega)).mono ?_
     rintro e w5 ⟨z1,rfl,o5,e0,hc⟩
     replace hC:=(hC).trans hc
     replace hR:=e0;clear e0
     replace ri:=RowI.keep ri hc (fun h=>by have:=k0 _ h;omega)
     have r4:=hc.size
     replace b0:=Bk.kg b0 hc
     replace d0:=Bk.kg d0 hc
     replace c0:=Bk.kg c0 hc
     clear hc
     obtain ⟨yk,m0,l0⟩:=ri.at k (by omega)
     have f0:=Lib.hid (RowI.put ri ((k:Nat)) (z1));have a0:=Lib.hid (And.intro (Bk.nn (b':=(w3.heap.size)) (j':=(k:Nat)) b0 (.int .i64 z1)) (And.intro (Bk.nn (b':=(w3.heap.size)) (j':=(k:Nat)) d0 (.int .i64 z1)) (And.intro (Bk.nn (b':=(w3.heap.size)) (j':=(k:Nat)) c0 (.int .i64 z1)) (And.intro (hR.kC (w3.heap.size) ((k:Nat)) (.int .i64 z1)) (hC.sN (w3.heap.size) ((k:Nat)) (.int .i64 z1))))))
     have g0:=Lib.hid (show wl.heap.size≤w5.heap.size by omega)
     clear hR hC
     go_wp2
     go_roundw
     case rel=>exact ⟨k+1,pk+1,by go_num,by omega,f0.out,a0.out.1,a0.out.2.1,a0.out.2.2.1,a0.out.2.2.2.1,by omega,a0.out.2.2.2.2,by have:=g0.out;simp only [Ss];omega⟩
     case measure=>simp [intOf];omega
    ·skip
     obtain ⟨b3,t3⟩:=Bk.cf b0 0 rfl
     go_wp2_with fail
     refine (pick_any _ _ B g (pk) hR (by omega) (by omega) (by omega)).mono ?_
     rintro e w5 ⟨z1,o0,p0,rfl,e0,hc⟩
     replace hC:=(hC).trans hc
     replace hR:=e0;clear e0
     replace ri:=RowI.keep ri hc (fun h=>by have:=k0 _ h;omega)
     have s4:=hc.size
     clear t3 b3
     replace b0:=Bk.kg b0 hc
     replace d0:=Bk.kg d0 hc
     replace c0:=Bk.kg c0 hc
     clear hc
     obtain ⟨yk,m0,l0⟩:=ri.at k (by omega)
     have f0:=Lib.hid (RowI.put ri ((k:Nat)) (z1));have a0:=Lib.hid (And.intro (Bk.nn (b':=(w3.heap.size)) (j':=(k:Nat)) b0 (.int .i64 z1)) (And.intro (Bk.nn (b':=(w3.heap.size)) (j':=(k:Nat)) d0 (.int .i64 z1)) (And.intro (Bk.nn (b':=(w3.heap.size)) (j':=(k:Nat)) c0 (.int .i64 z1)) (And.intro (hR.kC (w3.heap.size) ((k:Nat)) (.int .i64 z1)) (hC.sN (w3.heap.size) ((k:Nat)) (.int .i64 z1))))))
     have g0:=Lib.hid (show wl.heap.size≤w5.heap.size by omega)
     clear hR hC
     go_wp2
     go_roundw
     case rel=>exact ⟨k+1,pk+1,by go_num,by omega,f0.out,a0.out.1,a0.out.2.1,a0.out.2.2.1,a0.out.2.2.2.1,by omega,a0.out.2.2.2.2,by have:=g0.out;simp only [Ss];omega⟩
     case measure=>simp [intOf];omega
    ·skip
     have e5:1≤na:=HA.out rfl
     obtain ⟨c3,u3⟩:=Bk.cf b0 1 rfl
     go_wp2_with fail
     refine (pick_any _ _ B g (pk) hR (by omega) (by omega) (by omega)).mono ?_
     rintro e w5 ⟨z1,o0,p0,rfl,e0,hc⟩
     replace hC:=(hC).trans hc
     replace hR:=e0;clear e0
     replace ri:=RowI.keep ri hc (fun h=>by have:=k0 _ h;omega)
     have t4:=hc.size
     clear u3 c3
     replace b0:=Bk.kg b0 hc
     replace d0:=Bk.kg d0 hc
     replace c0:=Bk.kg c0 hc
     clear hc
     obtain ⟨yk,m0,l0⟩:=ri.at k (by omega)
     have f0:=Lib.hid (RowI.put ri ((k:Nat)) (z1));have a0:=Lib.hid (And.intro (Bk.nn (b':=(w3.heap.size)) (j':=(k:Nat)) b0 (.int .i64 z1)) (And.intro (Bk.nn (b':=(w3.heap.size)) (j':=(k:Nat)) d0 (.int .i64 z1)) (And.intro (Bk.nn (b':=(w3.heap.size)) (j':=(k:Nat)) c0 (.int .i64 z1)) (And.intro (hR.kC (w3.heap.size) ((k:Nat)) (.int .i64 z1)) (hC.sN (w3.heap.size) ((k:Nat)) (.int .i64 z1))))))
     have g0:=Lib.hid (show wl.heap.size≤w5.heap.size by omega)
     clear hR hC
     go_wp2
     go_roundw
     case rel=>exact ⟨k+1,pk+1,by go_num,by omega,f0.out,a0.out.1,a0.out.2.1,a0.out.2.2.1,a0.out.2.2.2.1,by omega,a0.out.2.2.2.2,by have:=g0.out;simp only [Ss];omega⟩
     case measure=>simp [intOf];omega
    ·skip
     go_wp2_with fail
     refine (pick_any _ _ B g (pk) hR (by omega) (by omega) (by omega)).mono ?_
     rintro e w5 ⟨z1,o0,p0,rfl,e0,hc⟩
     replace hC:=(hC).trans hc
     replace hR:=e0;clear e0
     replace ri:=RowI.keep ri hc (fun h=>by have:=k0 _ h;omega)
     have u4:=hc.size
     replace b0:=Bk.kg b0 hc
     replace d0:=Bk.kg d0 hc
     replace c0:=Bk.kg c0 hc
     clear hc
     obtain ⟨yk,m0,l0⟩:=ri.at k (by omega)
     have f0:=Lib.hid (RowI.put ri ((k:Nat)) ((4+z1)));have a0:=Lib.hid (And.intro (Bk.nn (b':=(w3.heap.size)) (j':=(k:Nat)) b0 (.int .i64 (4+z1))) (And.intro (Bk.nn (b':=(w3.heap.size)) (j':=(k:Nat)) d0 (.int .i64 (4+z1))) (And.intro (Bk.nn (b':=(w3.heap.size)) (j':=(k:Nat)) c0 (.int .i64 (4+z1))) (And.intro (hR.kC (w3.heap.size) ((k:Nat)) (.int .i64 (4+z1))) (hC.sN (w3.heap.size) ((k:Nat)) (.int .i64 (4+z1)))))))
     have g0:=Lib.hid (show wl.heap.size≤w5.heap.size by omega)
     clear hR hC
     go_wp2
     go_roundw
     case rel=>exact ⟨k+1,pk+1,by go_num,by omega,f0.out,a0.out.1,a0.out.2.1,a0.out.2.2.1,a0.out.2.2.2.1,by omega,a0.out.2.2.2.2,by have:=g0.out;simp only [Ss];omega⟩
     case measure=>simp [intOf];omega
    skip
    go_wp2_with fail
    refine (pick_any _ _ B g (pk) hR (by omega) (by omega) (by omega)).mono ?_
    rintro e w5 ⟨z1,o0,p0,rfl,e0,hc⟩
    replace hC:=(hC).trans hc
    replace hR:=e0;clear e0
    replace ri:=RowI.keep ri hc (fun h=>by have:=k0 _ h;omega)
    have v4:=hc.size
    replace b0:=Bk.kg b0 hc
    replace d0:=Bk.kg d0 hc
    replace c0:=Bk.kg c0 hc
    clear hc
    obtain ⟨yk,m0,l0⟩:=ri.at k (by omega)
    have f0:=Lib.hid (RowI.put ri ((k:Nat)) (((ka:Int)+1+z1)));have a0:=Lib.hid (And.intro (Bk.nn (b':=(w3.heap.size)) (j':=(k:Nat)) b0 (.int .i64 ((ka:Int)+1+z1))) (And.intro (Bk.nn (b':=(w3.heap.size)) (j':=(k:Nat)) d0 (.int .i64 ((ka:Int)+1+z1))) (And.intro (Bk.nn (b':=(w3.heap.size)) (j':=(k:Nat)) c0 (.int .i64 ((ka:Int)+1+z1))) (And.intro (hR.kC (w3.heap.size) ((k:Nat)) (.int .i64 ((ka:Int)+1+z1))) (hC.sN (w3.heap.size) ((k:Nat)) (.int .i64 ((ka:Int)+1+z1)))))))
    have g0:=Lib.hid (show wl.heap.size≤w5.heap.size by omega)
    clear hR hC
    go_wp2
    go_roundw
    case rel=>exact ⟨k+1,pk+1,by go_num,by omega,f0.out,a0.out.1,a0.out.2.1,a0.out.2.2.1,a0.out.2.2.2.1,by omega,a0.out.2.2.2.2,by have:=g0.out;simp only [Ss];omega⟩
    case measure=>simp [intOf];omega
   have l5:k=S.size:=by omega
   have t1:¬(k:Int) < (S.size:Int):=by omega
   have k5:decide (k < S.size)=false:=decide_eq_false hlt
   obtain ⟨y0,u0,n1⟩:=ri.at 0 (by omega)
   obtain ⟨y1,j1,o1⟩:=ri.at 1 (by omega)
   obtain ⟨y2,k1,p1⟩:=ri.at 2 (by omega)
   obtain ⟨y3,l1,r1⟩:=ri.at 3 (by omega)
   clear ri n1 o1 p1 r1
   go_upto_region 21 with (fail)
   have b6:=Lc u0
   have t0:True:=trivial
   obtain ⟨d3,v3⟩:=Bk.cf d0 0 rfl
   refine wp_region_still_tail 14 (by kernel_rfl) (by kernel_rfl) ?_
   simp only [List.take_succ_cons,List.take_zero,List.drop_succ_cons,List.drop_zero]
   repeat still_step
   refine wpStill_nil ?_
   change wpList _ _ _ _ _ (World.drew wl)
   obtain ⟨w5,n0⟩:∃ X,X=World.drew wl:=⟨_,rfl⟩
   rw [← n0]
   have hb:Below wl.heap.size wl w5:=by rw [n0];exact Below.drew (Bs _)
   clear n0 t0
   replace hC:=(hC).trans (Chg.of_below hb)
   replace hR:=hR.below hb
   have y4:=hb.size
   clear v3 d3
   replace u0:=Kc hb u0
   replace j1:=Kc hb j1
   replace k1:=Kc hb k1
   replace l1:=Kc hb l1
   replace b0:=Bk.below b0 hb
   replace d0:=Bk.below d0 hb
   replace c0:=Bk.below c0 hb
   clear hb
   obtain ⟨h6,r6,i6,s6,j6,t6,k6,u6,l6,b5⟩:=Bk.f5 c0 0 1 2 3 4 rfl rfl rfl rfl rfl
   have z0:=((((((Chg.refl (fun q=>q=w.heap.size+1) w5).setCell (w.heap.size+1) 0 (.int .i64 op) (fun _=>rfl)).setCell (w.heap.size+1) 1 (.int .i64 y0) (fun _=>rfl)).setCell (w.heap.size+1) 2 (.int .i64 y1) (fun _=>rfl)).setCell (w.heap.size+1) 3 (.int .i64 y2) (fun _=>rfl)).setCell (w.heap.size+1) 4 (.int .i64 y3) (fun _=>rfl))
   have d1:=(Bk.at (Bk.at (Bk.at (Bk.at (Bk.at c0 0 (.int .i64 op)) 1 (.int .i64 y0)) 2 (.int .i64 y1)) 3 (.int .i64 y2)) 4 (.int .i64 y3))
   obtain ⟨b4,c4,d4,e4,f4⟩:=Bk.g5 d1
   have a1:=Lib.hid z0;clear z0 d1
   have b1:=Lib.hid (And.intro hC hR);clear hC hR
   go_wp2
   exact bodyPost_ret (v:=.agg #[.int .i64 op,.int .i64 y0,.int .i64 y1,.int .i64 y2,.int .i64 y3]) (by simp [results,Try.results145,go_sem,b4,c4,d4,e4,f4]) rfl (by exact ⟨⟨_,_,_,_,_,rfl⟩,pk,b1.out.2.keep a1.out (fun h=>by omega) (fun k hk h=>by omega),by omega,chg_app b1.out.1 a1.out (fun q hq h=>by omega)⟩)
end Go.Proofs.Ytkjedgnepnbkpaa
