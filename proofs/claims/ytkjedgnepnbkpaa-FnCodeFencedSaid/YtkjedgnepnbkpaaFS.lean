/-
 Parts of the proofs of the laws FnCodeFenced,FnCountBranches.
-/
import Derived.Test.YtkjedgnepnbkpaaTB
import Derived.Test.YtkjedgnepnbkpaaFG
set_option linter.all false
namespace Go.Proofs.Ytkjedgnepnbkpaa
open Go.RowKit
theorem set5 {a w:World} {b:Nat} {u0 u1 u2 u3 u4 v0 v1 v2 v3 v4:Value} (h0:w.cell? ⟨b,0,none⟩=some u0) (h1:w.cell? ⟨b,1,none⟩=some u1) (h2:w.cell? ⟨b,2,none⟩=some u2) (h3:w.cell? ⟨b,3,none⟩=some u3) (h4:w.cell? ⟨b,4,none⟩=some u4) (hC:Chg (fun q=>q=b) a w) :
  (((((w.setCell ⟨b,0,none⟩ v0).setCell ⟨b,1,none⟩ v1).setCell ⟨b,2,none⟩ v2).setCell ⟨b,3,none⟩ v3).setCell ⟨b,4,none⟩ v4).cell? ⟨b,0,none⟩=some v0∧(((((w.setCell ⟨b,0,none⟩ v0).setCell ⟨b,1,none⟩ v1).setCell ⟨b,2,none⟩ v2).setCell ⟨b,3,none⟩ v3).setCell ⟨b,4,none⟩ v4).cell? ⟨b,1,none⟩=some v1∧(((((w.setCell ⟨b,0,none⟩ v0).setCell ⟨b,1,none⟩ v1).setCell ⟨b,2,none⟩ v2).setCell ⟨b,3,none⟩ v3).setCell ⟨b,4,none⟩ v4).cell? ⟨b,2,none⟩=some v2∧(((((w.setCell ⟨b,0,none⟩ v0).setCell ⟨b,1,none⟩ v1).setCell ⟨b,2,none⟩ v2).setCell ⟨b,3,none⟩ v3).setCell ⟨b,4,none⟩ v4).cell? ⟨b,3,none⟩=some v3∧(((((w.setCell ⟨b,0,none⟩ v0).setCell ⟨b,1,none⟩ v1).setCell ⟨b,2,none⟩ v2).setCell ⟨b,3,none⟩ v3).setCell ⟨b,4,none⟩ v4).cell? ⟨b,4,none⟩=some v4∧Chg (fun q=>q=b) a (((((w.setCell ⟨b,0,none⟩ v0).setCell ⟨b,1,none⟩ v1).setCell ⟨b,2,none⟩ v2).setCell ⟨b,3,none⟩ v3).setCell ⟨b,4,none⟩ v4):=by
 have e0:=Tc w b 0 v0 h0
 have e1:=Tc _ b 1 v1 (Nn (b:=b) (j:=0) h1 v0)
 have e2:=Tc _ b 2 v2 (Nn (b:=b) (j:=1) (Nn (b:=b) (j:=0) h2 v0) v1)
 have e3:=Tc _ b 3 v3 (Nn (b:=b) (j:=2) (Nn (b:=b) (j:=1) (Nn (b:=b) (j:=0) h3 v0) v1) v2)
 have e4:=Tc _ b 4 v4 (Nn (b:=b) (j:=3) (Nn (b:=b) (j:=2) (Nn (b:=b) (j:=1) (Nn (b:=b) (j:=0) h4 v0) v1) v2) v3)
 exact ⟨(Nn (b:=b) (j:=4) (Nn (b:=b) (j:=3) (Nn (b:=b) (j:=2) (Nn (b:=b) (j:=1) e0 v1) v2) v3) v4),(Nn (b:=b) (j:=4) (Nn (b:=b) (j:=3) (Nn (b:=b) (j:=2) e1 v2) v3) v4),(Nn (b:=b) (j:=4) (Nn (b:=b) (j:=3) e2 v3) v4),(Nn (b:=b) (j:=4) e3 v4),e4,(((((hC.setCell b 0 v0 (fun _=>rfl)).setCell b 1 v1 (fun _=>rfl)).setCell b 2 v2 (fun _=>rfl)).setCell b 3 v3 (fun _=>rfl)).setCell b 4 v4 (fun _=>rfl))⟩
set_option maxHeartbeats 40000000 in
set_option maxRecDepth 100000 in
theorem sFence_any (va vb vc:Value) (c:Cd) (w:World) (hr:ReadsC w va vb vc c) :
  Calls Try.prog 50 #[.agg #[va,vb,vc]] w fun e w'=>∃ ua ub uc,e=.returned (.tuple #[.agg #[ua,ub,uc],.bool (fenceR c).2])∧OwnC w' w.heap.size ua ub uc (fenceR c).1∧Below w.heap.size w w':=by
 obtain ⟨a0,c0,a1,c1,a2,c2,rfl,rfl,rfl⟩:=hr.shape
 have y6:=fun h=>fenceR_no (c:=c) h
 have z6:=fun h=>fenceR_yes (c:=c) h
 generalize fenceR c=R at *
 have u6:=Lib.hid y6
 have y7:=Lib.hid z6
 clear y6 z6
 have l8:=hr.lt
 go_enter Try.func50,Try.ntmps50
 go_wp2_with fail
 refine (sCodeValid_any _ _ _ c _ ((hr.below (bal (Bs _) (.cells #[.slice a0 c.vars.length c0,.slice a1 c.arrays.length c1,.slice a2 c.list.length c2] 26))).below (bal (Bs _) (.cells #[.slice none 0 0,.slice none 0 0,.slice none 0 0] 26)))).mono ?_
 rintro e w1 ⟨rfl,hb⟩
 have j6:=hb.size
 simp only [Sa] at j6
 replace hr:=((hr.below (bal (Bs _) _)).below (bal (Bs _) _)).below hb
 have k4:w1.cell? ⟨w.heap.size,0,none⟩=some (.slice a0 c.vars.length c0):=Kc hb (Ac (Wc (by simp) (by rfl)) _)
 have m4:w1.cell? ⟨w.heap.size,1,none⟩=some (.slice a1 c.arrays.length c1):=Kc hb (Ac (Wc (by simp) (by rfl)) _)
 have j3:w1.cell? ⟨w.heap.size,2,none⟩=some (.slice a2 c.list.length c2):=Kc hb (Ac (Wc (by simp) (by rfl)) _)
 have s2:w1.cell? ⟨w.heap.size+1,0,none⟩=some (.slice none 0 0):=Kc hb (Wc (by simp) (by rfl))
 have e5:w1.frozen? ⟨w.heap.size+1,0,none⟩=false:=Kf hb (by simp <;> omega) (Fn (by simp))
 have y2:w1.cell? ⟨w.heap.size+1,1,none⟩=some (.slice none 0 0):=Kc hb (Wc (by simp) (by rfl))
 have f5:w1.frozen? ⟨w.heap.size+1,1,none⟩=false:=Kf hb (by simp <;> omega) (Fn (by simp))
 have a3:w1.cell? ⟨w.heap.size+1,2,none⟩=some (.slice none 0 0):=Kc hb (Wc (by simp) (by rfl))
 have g2:w1.frozen? ⟨w.heap.size+1,2,none⟩=false:=Kf hb (by simp <;> omega) (Fn (by simp))
 have g0:=btr (bal (bal (Bs w) (.cells #[.slice a0 c.vars.length c0,.slice a1 c.arrays.length c1,.slice a2 c.list.length c2] 26)) (.cells #[.slice none 0 0,.slice none 0 0,.slice none 0 0] 26)) hb
 clear hb
 have k5:=Lc k4
 have l5:=Lc m4
 have z5:=Lc j3
 have a6:=Lc s2
 have b6:=Lc y2
 have c6:=Lc a3
 cases hok:codeOk c
 ·have HO:=Lib.hid hok;clear hok hr
  have hR:=u6.out (fun h=>by have h2:=HO.out;rw [h.1] at h2;cases h2)
  have HR:=Lib.hid hR;clear hR
  have x0:=(Nn (b:=(w.heap.size+1)) (j:=2) (Nn (b:=(w.heap.size+1)) (j:=1) (Tc _ (w.heap.size+1) 0 (.slice none 0 0) s2) (.slice none 0 0)) (.slice none 0 0))
  have x1:=(Nn (b:=(w.heap.size+1)) (j:=2) (Tc _ (w.heap.size+1) 1 (.slice none 0 0) (Nn (b:=(w.heap.size+1)) (j:=0) y2 (.slice none 0 0))) (.slice none 0 0))
  have x2:=(Tc _ (w.heap.size+1) 2 (.slice none 0 0) (Nn (b:=(w.heap.size+1)) (j:=1) (Nn (b:=(w.heap.size+1)) (j:=0) a3 (.slice none 0 0)) (.slice none 0 0)))
  have tt:=(bst (bst (bst g0 (w.heap.size+1) 0 (by omega) (.slice none 0 0)) (w.heap.size+1) 1 (by omega) (.slice none 0 0)) (w.heap.size+1) 2 (by omega) (.slice none 0 0))
  go_wp2
  exact bodyPost_ret (v:=.tuple #[.agg #[.slice none 0 0,.slice none 0 0,.slice none 0 0],.bool false]) (by simp [results,Try.results50,go_sem,x0,x1,x2]) rfl (by rw [HR.out];exact ⟨_,_,_,rfl,noCode_own _ _,tt⟩)
 have HO:=Lib.hid hok;clear hok
 have i6:=codeOk_len HO.out
 have f8:=declOk_len (codeOk_decl HO.out)
 obtain ⟨l1,l2⟩:=i6
 obtain ⟨l3,l4⟩:=f8
 go_wp2_with fail
 refine (l11Marks_any _ _ _ c _ hr HO.out).mono ?_
 rintro e w2 ⟨g1,rfl,oM,hb⟩
 have h7:=hb.size
 replace e5:=Kf hb (Lc s2) e5
 replace f5:=Kf hb (Lc y2) f5
 replace g2:=Kf hb (Lc a3) g2
 replace hr:=hr.below hb
 replace k4:=Kc hb k4
 replace m4:=Kc hb m4
 replace j3:=Kc hb j3
 replace s2:=Kc hb s2
 replace y2:=Kc hb y2
 replace a3:=Kc hb a3
 replace g0:=btr g0 hb
 clear hb
 have j8:=oM.lt
 replace k5:=Lc k4
 replace l5:=Lc m4
 replace z5:=Lc j3
 replace a6:=Lc s2
 replace b6:=Lc y2
 replace c6:=Lc a3
 have g8:=oM.lt _ rfl
 simp only at g8
 have i8:=hr.l
 obtain ⟨_,hn,aa,u9,b,a5,hv,d8,ha,a7⟩:=i8
 simp only [Value.slice.injEq,true_and] at hv
 obtain ⟨rfl,rfl⟩:=hv
 obtain ⟨rfl,x9⟩:=ha (by omega)
 have HC:=Lib.hid (reads_Instr a7)
 have y9:=l8 b (Or.inr (Or.inr ⟨a5,c2,by omega,rfl⟩))
 have d7:(marksOf c.list).length=c.list.length:=marksUpto_len _ _
 have p5:=Lib.hid d7
 have o7:=own_nil_rows w2 3 1
 have x6:=bal (Bs w2) (.cells #[] 3)
 clear a7 ha d7
 go_wp2
 go_loopw [5,6,7] (fun av cn i wr=>∃ k:Nat,k≤c.list.length∧cn=.int .i64 (cnt c.list k:Nat)∧i=.int .i64 k∧wr.ownsRow w2.heap.size 3 1 av k (ints (places c.list k))∧Below w2.heap.size w2 wr) (fun _ _ i _=>c.list.length-(intOf i).toNat)
 case atStart=>exact ⟨0,Nat.zero_le _,rfl,rfl,o7,x6⟩
 case round =>
  obtain ⟨k,hk,rfl,rfl,oA,hB⟩:=hrel
  have dA:=hB.size
  have e8:=cnt_le c.list k
  clear o7 x6
  have n0:=Kc hB j3
  have k0:=Lc n0
  by_cases hlt:k < c.list.length
  ·obtain ⟨e0,_⟩:=HC.out k hlt
   replace e0:=Kc hB e0
   have yM:=(Ob oM hB).cellAt k (by omega)
   rw [bools_at _ _ (by rw [p5.out];exact hlt)] at yM
   have ke:=Lc e0
   have ky:=Lc yM
   have v5:=needAt_eq (l:=c.list) (k:=k) (by rw [p5.out];exact hlt) hlt
   have u5:cnt c.list (k+1)=cnt c.list k+(if needAt c.list k=true then 2 else 1):=rfl
   generalize ((marksOf c.list)[k]'(by rw [p5.out];exact hlt))=m at *
   generalize c.list[k]=x at *
   have j5:=Lib.hid v5
   have b5:=Lib.hid u5
   clear v5 u5 HC
   go_wp2_with (at_builtin;refine wpList_ap tInts rfl _ _ rfl w2.heap.size _ k _ rfl oA [.int .i64 (cnt c.list k:Nat)] rfl rfl (one_ints [((cnt c.list k:Nat):Int)]) (by omega) (by omega) ?_)
   intro g4 c4 wy o4 f6 h8
   have iA:=oA.lt
   have e6:=hB.trans (f6.below w2.heap.size hB.size (fun q hq h=>by have:=iA q h;omega))
   have n1:=Kc (Below.refl _ _) (Kc e6 j3)
   replace e0:=Gc f6 e0 (fun h=>by have:=iA _ h;omega)
   replace yM:=Gc f6 yM (fun h=>by have:=iA _ h;omega)
   rw [show ints (places c.list k)++[Value.int .i64 (cnt c.list k:Nat)]=ints (places c.list (k+1)) from by rw [places_succ,ints_append];rfl] at o4
   have k1:=Lc n1
   clear oA f6 h8 hB n0 k0
   cases m with
   | false =>
    have HN:Hid (needAt c.list k=false):=Lib.hid (by rw [j5.out];rfl)
    go_wp2
    go_roundw
    case rel=>exact ⟨k+1,by omega,by rw [b5.out,HN.out];simp;try omega,by go_num,o4,e6⟩
    case measure=>simp [intOf];omega
   | true =>
    by_cases h12:(x.op == 12)=true
    ·have h1:(x.op != 12)=false:=by unfold bne;rw [h12];rfl
     have i5:=Lib.hid h12;clear h12
     have HN:Hid (needAt c.list k=false):=Lib.hid (by rw [j5.out,i5.out];rfl)
     go_wp2
     go_roundw
     case rel=>exact ⟨k+1,by omega,by rw [b5.out,HN.out];simp;try omega,by go_num,o4,e6⟩
     case measure=>simp [intOf];omega
    have h12f:(x.op == 12)=false:=by simpa using h12
    have h1:(x.op != 12)=true:=by unfold bne;rw [h12f];rfl
    have i5:=Lib.hid h12f;clear h12 h12f
    have HN:Hid (needAt c.list k=true):=Lib.hid (by rw [j5.out,i5.out];rfl)
    go_wp2
    go_roundw
    case rel=>exact ⟨k+1,by omega,by rw [b5.out,HN.out];simp;try omega,by go_num,o4,e6⟩
    case measure=>simp [intOf];omega
  have e:k=c.list.length:=by omega
  subst e
  have c3:=g0.trans (hB.mono g0.size)
  replace k4:=Kc hB k4
  replace m4:=Kc hB m4
  replace j3:=Kc hB j3
  replace s2:=Kc hB s2
  replace y2:=Kc hB y2
  replace a3:=Kc hB a3
  replace e5:=Kf hB (by omega) e5
  replace f5:=Kf hB (by omega) f5
  replace g2:=Kf hB (by omega) g2
  replace oM:=Ob oM hB
  have g6:Hid (∀ k (h:k < c.list.length),wr.cell? ⟨b,a5+k*5,none⟩=some (.int .i64 c.list[k].op)∧wr.cell? ⟨b,a5+k*5+1,none⟩=some (.int .i64 c.list[k].a)∧wr.cell? ⟨b,a5+k*5+2,none⟩=some (.int .i64 c.list[k].b)∧wr.cell? ⟨b,a5+k*5+3,none⟩=some (.int .i64 c.list[k].c)∧wr.cell? ⟨b,a5+k*5+4,none⟩=some (.int .i64 c.list[k].d)):=Lib.hid (fun k h=>by obtain ⟨e0,e1,e2,e3,e4⟩:=HC.out k h;exact ⟨Kc hB e0,Kc hB e1,Kc hB e2,Kc hB e3,Kc hB e4⟩)
  have r:=hr.below hB
  obtain ⟨pa,ta,rfl⟩:=Oh oA
  clear HC hr hB g0 n0 k0
  obtain ⟨w4,rfl⟩:∃ X,X=wr:=⟨_,rfl⟩
  by_cases h400:(400:Int) < (cnt c.list c.list.length:Nat)
  ·have hR:=u6.out (fun h=>by have:=h.2;omega)
   have HR:=Lib.hid hR;clear hR r oM oA
   have x0:=(Nn (b:=(w.heap.size+1)) (j:=2) (Nn (b:=(w.heap.size+1)) (j:=1) (Tc _ (w.heap.size+1) 0 (.slice none 0 0) s2) (.slice none 0 0)) (.slice none 0 0))
   have x1:=(Nn (b:=(w.heap.size+1)) (j:=2) (Tc _ (w.heap.size+1) 1 (.slice none 0 0) (Nn (b:=(w.heap.size+1)) (j:=0) y2 (.slice none 0 0))) (.slice none 0 0))
   have x2:=(Tc _ (w.heap.size+1) 2 (.slice none 0 0) (Nn (b:=(w.heap.size+1)) (j:=1) (Nn (b:=(w.heap.size+1)) (j:=0) a3 (.slice none 0 0)) (.slice none 0 0)))
   have tt:=(bst (bst (bst c3 (w.heap.size+1) 0 (by omega) (.slice none 0 0)) (w.heap.size+1) 1 (by omega) (.slice none 0 0)) (w.heap.size+1) 2 (by omega) (.slice none 0 0))
   go_wp2
   exact bodyPost_ret (v:=.tuple #[.agg #[.slice none 0 0,.slice none 0 0,.slice none 0 0],.bool false]) (by simp [results,Try.results50,go_sem,x0,x1,x2]) rfl (by rw [HR.out];exact ⟨_,_,_,rfl,noCode_own _ _,tt⟩)
  have a8:¬(400:Int) < (cnt c.list c.list.length:Nat):=h400
  have hR:=y7.out ⟨HO.out,by omega⟩
  have HR:=Lib.hid hR;clear hR h400
  have z7:=Lib.hid (fun k hk h0=>tgt_in (codeOk_all HO.out k hk) h0)
  replace k5:=Lc k4
  replace l5:=Lc m4
  replace z5:=Lc j3
  replace a6:=Lc s2
  replace b6:=Lc y2
  replace c6:=Lc a3
  go_upto_region 15 with (fail)
  go_cut [8] (fun s wx=>∃ (bb:Nat) (p0:Option Addr) (t0:Nat) (p1:Option Addr) (t1:Nat),s=.pointer (some ⟨bb,0,none⟩)∧wx.cell? ⟨bb,0,none⟩=some (.slice p0 c.vars.length t0)∧wx.cell? ⟨bb,1,none⟩=some (.slice p1 c.arrays.length t1)∧wx.cell? ⟨bb,2,none⟩=some (.slice none 0 0)∧wx.frozen? ⟨bb,2,none⟩=false∧w4.heap.size≤bb∧bb < wx.heap.size∧wx.ownsRow w4.heap.size 3 1 (.slice p0 c.vars.length t0) c.vars.length (ints c.vars)∧wx.ownsRow w4.heap.size 3 1 (.slice p1 c.arrays.length t1) c.arrays.length (ints c.arrays)∧(∀ q,(Value.slice p0 c.vars.length t0).ownBlock=some q→(Value.slice p1 c.arrays.length t1).ownBlock=some q→False)∧(∀ q,(Value.slice p0 c.vars.length t0).ownBlock=some q→¬q=bb)∧(∀ q,(Value.slice p1 c.arrays.length t1).ownBlock=some q→¬q=bb)∧Below w4.heap.size w4 wx)
  case first =>
   have r5:=Lib.hid (fun W' (hW:Below w4.heap.size w4 W')=>r.below hW)
   clear s2 y2 a3 e5 f5 g2 j3 c3 oM oA g6 r
   have l0:Hid (∀ W',Below w4.heap.size w4 W'→W'.cell? ⟨w.heap.size,0,none⟩=some (.slice a0 c.vars.length c0)∧W'.cell? ⟨w.heap.size,1,none⟩=some (.slice a1 c.arrays.length c1)):=Lib.hid (fun W' hW=>⟨Kc hW k4,Kc hW m4⟩)
   refine wp_region_noPanic ?_
   refine wp_region_held_drew (S:=(fun W'=>W'.cell? ⟨w.heap.size,0,none⟩=some (.slice a0 c.vars.length c0)∧W'.cell? ⟨w.heap.size,1,none⟩=some (.slice a1 c.arrays.length c1))) (by kernel_rfl) (l0.out _ (Below.drew (Bs w4))) (fun _=>?_)
   have n5:Below w4.heap.size w4 (World.drew w4):=Below.drew (Bs _)
   generalize World.drew w4=wd at n5 ⊢
   refine name_H (fun T hT A0 hA=>?_)
   have p2:Hid (∀ (b0:Nat) (p3:Option Addr) (t3:Nat) (b4:Nat) (p7:Option Addr) (t7:Nat) (b9:Nat) (w':World),Below w4.heap.size w4 w'→RowSet w' w4.heap.size [Rv c p3 t3,Ry c p7 t7,⟨9,26,3,.slice (some ⟨b9,0,none⟩) 1 1,1,[.slice p3 c.vars.length t3,.slice p7 c.arrays.length t7,.slice none 0 0]⟩]→T 0 #[true,true,true,true,true,true,true,true,true,true,true] (Act.put (Act.put (Act.put (Act.put (Act.put (Act.put (Act.put (Act.put (Act.put (Act.put A0 (some 49) (.slice (some ⟨b0,0,none⟩) 0 0)) (some 50) (.pointer (some ⟨w.heap.size,0,none⟩))) (some 51) (.slice a0 c.vars.length c0)) (some 52) (.slice p3 c.vars.length t3)) (some 53) (.slice (some ⟨b4,0,none⟩) 0 0)) (some 54) (.pointer (some ⟨w.heap.size,1,none⟩))) (some 55) (.slice a1 c.arrays.length c1)) (some 56) (.slice p7 c.arrays.length t7)) (some 57) (.agg #[.slice p3 c.vars.length t3,.slice p7 c.arrays.length t7,.slice none 0 0])) (some 8) (.pointer (some ⟨b9,0,none⟩))) w'):=by
    refine Lib.hid ?_
    intro b0 p3 t3 b4 p7 t7 b9 w' g0 rs
    have q3:=g0.size
    have hHeld:=l0.out _ g0
    have j1:=hT.out;subst j1;have i1:=hA.out;subst i1;clear hT hA
    change wpAnyH _ _ _ _ _ 0 _ _ _
    try simp only [Ep]
    refine Dn ?_
    clear hHeld
    have o0:=rs.own (Rv c p3 t3:RowK) (by simp)
    have o1:=rs.own (Ry c p7 t7:RowK) (by simp)
    have v6:=rs.own (⟨9,26,3,.slice (some ⟨b9,0,none⟩) 1 1,1,[.slice p3 c.vars.length t3,.slice p7 c.arrays.length t7,.slice none 0 0]⟩:RowK) (by simp)
    have t4:=v6.lt b9 rfl;have KB:=Bk.of_own v6
    go_wp2_with fail
    go_meet
    exact ⟨_,_,_,_,_,rfl,KB.cell 0 rfl,KB.cell 1 rfl,KB.cell 2 rfl,KB.froz 2 (by simp),t4.1,t4.2,o0,o1,rs.dj (Rv c p3 t3:RowK) (by simp) (Ry c p7 t7:RowK) (by simp) (by simp),(fun q h e=>rs.dj (Rv c p3 t3:RowK) (by simp) (⟨9,26,3,.slice (some ⟨b9,0,none⟩) 1 1,1,[.slice p3 c.vars.length t3,.slice p7 c.arrays.length t7,.slice none 0 0]⟩:RowK) (by simp) (by simp) q h (by rw [e];rfl)),(fun q h e=>rs.dj (Ry c p7 t7:RowK) (by simp) (⟨9,26,3,.slice (some ⟨b9,0,none⟩) 1 1,1,[.slice p3 c.vars.length t3,.slice p7 c.arrays.length t7,.slice none 0 0]⟩:RowK) (by simp) (by simp) q h (by rw [e];rfl)),g0⟩
   have i3:Hid (∀ (b0:Nat) (p3:Option Addr) (t3:Nat) (b4:Nat) (p7:Option Addr) (t7:Nat) (b9:Nat) (w':World),Below w4.heap.size w4 w'→RowSet w' w4.heap.size [Rv c p3 t3,Ry c p7 t7,⟨9,26,3,.slice (some ⟨b9,0,none⟩) 1 1,1,[.slice none 0 0,.slice none 0 0,.slice none 0 0]⟩]→T 1 #[true,true,true,true,true,true,true,true,true,true,false] (Act.put (Act.put (Act.put (Act.put (Act.put (Act.put (Act.put (Act.put (Act.put (Act.put A0 (some 49) (.slice (some ⟨b0,0,none⟩) 0 0)) (some 50) (.pointer (some ⟨w.heap.size,0,none⟩))) (some 51) (.slice a0 c.vars.length c0)) (some 52) (.slice p3 c.vars.length t3)) (some 53) (.slice (some ⟨b4,0,none⟩) 0 0)) (some 54) (.pointer (some ⟨w.heap.size,1,none⟩))) (some 55) (.slice a1 c.arrays.length c1)) (some 56) (.slice p7 c.arrays.length t7)) (some 57) (.agg #[.slice p3 c.vars.length t3,.slice p7 c.arrays.length t7,.slice none 0 0])) (some 8) (.pointer (some ⟨b9,0,none⟩))) w'):=by
    refine Lib.hid ?_
    intro b0 p3 t3 b4 p7 t7 b9 w' g0 rs
    have q3:=g0.size
    have hHeld:=l0.out _ g0
    have j1:=hT.out;subst j1;have i1:=hA.out;subst i1;clear hT hA
    change wpAnyH _ _ _ _ _ 1 _ _ _
    try simp only [Ep]
    refine Rdy 10 rfl (fun K hK=>?_)
    have HO:=rs.own (⟨9,26,3,.slice (some ⟨b9,0,none⟩) 1 1,1,[.slice none 0 0,.slice none 0 0,.slice none 0 0]⟩:RowK) (Mt (Mt Mh))
    have s5:w4.heap.size≤b9:=(HO.lt b9 rfl).1
    have kb:=Lc ((Bk.of_own HO).cell 0 rfl)
    have x0:=(Bk.of_own HO).cell 0 (v:=.slice none 0 0) rfl;have f0:=(Bk.of_own HO).froz 0 (show 0 < 3 by decide)
    have x1:=(Bk.of_own HO).cell 1 (v:=.slice none 0 0) rfl;have f1:=(Bk.of_own HO).froz 1 (show 1 < 3 by decide)
    have x2:=(Bk.of_own HO).cell 2 (v:=.slice none 0 0) rfl;have f2:=(Bk.of_own HO).froz 2 (show 2 < 3 by decide)
    go_simp
    have n6:RowSet _ w4.heap.size [Rv c p3 t3,Ry c p7 t7,⟨9,26,3,.slice (some ⟨b9,0,none⟩) 1 1,1,[.slice p3 c.vars.length t3,.slice none 0 0,.slice none 0 0]⟩]:=RowSet.sub (RowSet.set rs (⟨9,26,3,.slice (some ⟨b9,0,none⟩) 1 1,1,[.slice none 0 0,.slice none 0 0,.slice none 0 0]⟩:RowK) (Mt (Mt Mh)) rfl rfl 0 (.slice p3 c.vars.length t3) (l':=[Rv c p3 t3,Ry c p7 t7]) (oth_cons Mh (show (0:Nat)≠9 by decide) (oth_cons (Mt Mh) (show (4:Nat)≠9 by decide) oth_nil))) (Sb (Mt Mh) (Sb (Mt (Mt Mh)) (Sb Mh sub_nil)))
    have p6:RowSet _ w4.heap.size [Rv c p3 t3,Ry c p7 t7,⟨9,26,3,.slice (some ⟨b9,0,none⟩) 1 1,1,[.slice p3 c.vars.length t3,.slice p7 c.arrays.length t7,.slice none 0 0]⟩]:=RowSet.sub (RowSet.set n6 (⟨9,26,3,.slice (some ⟨b9,0,none⟩) 1 1,1,[.slice p3 c.vars.length t3,.slice none 0 0,.slice none 0 0]⟩:RowK) (Mt (Mt Mh)) rfl rfl 1 (.slice p7 c.arrays.length t7) (l':=[Rv c p3 t3,Ry c p7 t7]) (oth_cons Mh (show (0:Nat)≠9 by decide) (oth_cons (Mt Mh) (show (4:Nat)≠9 by decide) oth_nil))) (Sb (Mt Mh) (Sb (Mt (Mt Mh)) (Sb Mh sub_nil)))
    have q6:RowSet _ w4.heap.size [Rv c p3 t3,Ry c p7 t7,⟨9,26,3,.slice (some ⟨b9,0,none⟩) 1 1,1,[.slice p3 c.vars.length t3,.slice p7 c.arrays.length t7,.slice none 0 0]⟩]:=RowSet.sub (RowSet.set p6 (⟨9,26,3,.slice (some ⟨b9,0,none⟩) 1 1,1,[.slice p3 c.vars.length t3,.slice p7 c.arrays.length t7,.slice none 0 0]⟩:RowK) (Mt (Mt Mh)) rfl rfl 2 (.slice none 0 0) (l':=[Rv c p3 t3,Ry c p7 t7]) (oth_cons Mh (show (0:Nat)≠9 by decide) (oth_cons (Mt Mh) (show (4:Nat)≠9 by decide) oth_nil))) (Sb (Mt Mh) (Sb (Mt (Mt Mh)) (Sb Mh sub_nil)))
    clear HO kb x0 f0 x1 f1 x2 f2
    refine hK.out _ _ (l0.out _ (bst (bst (bst g0 b9 0 s5 (.slice p3 c.vars.length t3)) b9 1 s5 (.slice p7 c.arrays.length t7)) b9 2 s5 (.slice none 0 0))) (fun hHeld=>?_)
    clear hK K
    try simp only [Ep]
    have hM:=p2.out b0 p3 t3 b4 p7 t7 b9 _ (bst (bst (bst g0 b9 0 s5 (.slice p3 c.vars.length t3)) b9 1 s5 (.slice p7 c.arrays.length t7)) b9 2 s5 (.slice none 0 0)) q6
    try simp only [Ep] at hM
    exact hM
   have x3:Hid (∀ (b0:Nat) (p3:Option Addr) (t3:Nat) (b4:Nat) (p7:Option Addr) (t7:Nat) (w':World),Below w4.heap.size w4 w'→RowSet w' w4.heap.size [Rv c p3 t3,Ry c p7 t7]→T 2 #[true,true,true,true,true,true,true,true,true,false,false] (Act.put (Act.put (Act.put (Act.put (Act.put (Act.put (Act.put (Act.put (Act.put A0 (some 49) (.slice (some ⟨b0,0,none⟩) 0 0)) (some 50) (.pointer (some ⟨w.heap.size,0,none⟩))) (some 51) (.slice a0 c.vars.length c0)) (some 52) (.slice p3 c.vars.length t3)) (some 53) (.slice (some ⟨b4,0,none⟩) 0 0)) (some 54) (.pointer (some ⟨w.heap.size,1,none⟩))) (some 55) (.slice a1 c.arrays.length c1)) (some 56) (.slice p7 c.arrays.length t7)) (some 57) (.agg #[.slice p3 c.vars.length t3,.slice p7 c.arrays.length t7,.slice none 0 0])) w'):=by
    clear p2
    refine Lib.hid ?_
    intro b0 p3 t3 b4 p7 t7 w' g0 rs
    have q3:=g0.size
    have hHeld:=l0.out _ g0
    have j1:=hT.out;subst j1;have i1:=hA.out;subst i1;clear hT hA
    change wpAnyH _ _ _ _ _ 2 _ _ _
    try simp only [Ep]
    refine Rdy 9 rfl (fun K hK=>?_)
    go_simp
    refine hK.out _ _ (l0.out _ (bal g0 _)) (fun hHeld=>?_)
    clear hK K
    try simp only [Ep]
    have hM:=i3.out b0 p3 t3 b4 p7 t7 w'.heap.size _ (bal g0 _) (RowSet.sub (RowSet.lit rs 9 26 3 #[.slice none 0 0,.slice none 0 0,.slice none 0 0] 1 (by omega) (by unfold maxLen;omega) (by simp)) (Sb (Mt Mh) (Sb (Mt (Mt Mh)) (Sb Mh sub_nil))))
    try simp only [Ep] at hM
    exact hM
   have a4:Hid (∀ (b0:Nat) (p3:Option Addr) (t3:Nat) (b4:Nat) (b9:Nat) (w':World),Below w4.heap.size w4 w'→RowSet w' w4.heap.size [Rv c p3 t3,Re 4 b4,⟨9,26,3,.slice (some ⟨b9,0,none⟩) 1 1,1,[.slice none 0 0,.slice none 0 0,.slice none 0 0]⟩]→T 3 #[true,true,true,true,true,true,true,false,false,true,false] (Act.put (Act.put (Act.put (Act.put (Act.put (Act.put (Act.put (Act.put A0 (some 49) (.slice (some ⟨b0,0,none⟩) 0 0)) (some 50) (.pointer (some ⟨w.heap.size,0,none⟩))) (some 51) (.slice a0 c.vars.length c0)) (some 52) (.slice p3 c.vars.length t3)) (some 53) (.slice (some ⟨b4,0,none⟩) 0 0)) (some 54) (.pointer (some ⟨w.heap.size,1,none⟩))) (some 55) (.slice a1 c.arrays.length c1)) (some 8) (.pointer (some ⟨b9,0,none⟩))) w'):=by
    clear p2 x3
    refine Lib.hid ?_
    intro b0 p3 t3 b4 b9 w' g0 rs
    have q3:=g0.size
    have hHeld:=l0.out _ g0
    have j1:=hT.out;subst j1;have i1:=hA.out;subst i1;clear hT hA
    change wpAnyH _ _ _ _ _ 3 _ _ _
    try simp only [Ep]
    refine Rdy 7 rfl (fun K hK=>?_)
    have HO:=rs.own (Re 4 b4:RowK) (Mt Mh)
    have o2:=fun q hq=>(HO.lt q hq).1
    refine step_aps tInts rfl _ _ rfl (w4.heap.size) _ 0 ([]) rfl HO _ (c.arrays.length) (ints c.arrays) rfl ((r5.out _ g0).b) (one_ints c.arrays) (by omega) (by omega) ?_
    intro vA wA oA b2 j2 _
    try simp only [Nat.zero_add,List.nil_append] at oA
    obtain ⟨p7,t7,rfl⟩:=Oh oA
    have j0:=tot_chg g0 b2 o2
    have b3:=RowSet.push rs (Re 4 b4:RowK) (Mt Mh) oA b2 j2 (l':=[Rv c p3 t3,⟨9,26,3,.slice (some ⟨b9,0,none⟩) 1 1,1,[.slice none 0 0,.slice none 0 0,.slice none 0 0]⟩]) (oth_cons Mh (show (0:Nat)≠4 by decide) (oth_cons (Mt (Mt Mh)) (show (9:Nat)≠4 by decide) oth_nil))
    clear HO o2 oA b2 j2
    refine hK.out _ _ (l0.out _ j0) (fun hHeld=>?_)
    clear hK K
    try simp only [Ep]
    refine take_d (i:=8) (d:=57) (v:=.agg #[.slice p3 c.vars.length t3,.slice p7 c.arrays.length t7,.slice none 0 0]) rfl rfl (by kernel_rfl) (by kernel_rfl) (by kernel_rfl) (fun _ _ _ h=>h) (Or.inl ⟨by rfl,fun W' _=>by kernel_rfl⟩) (by assumption) ?_
    try simp only [Ep]
    have hM:=i3.out b0 p3 t3 b4 p7 t7 b9 _ j0 (RowSet.sub b3 (Sb (Mt Mh) (Sb Mh (Sb (Mt (Mt Mh)) sub_nil))))
    try simp only [Ep] at hM
    exact hM
   have M8:Hid (∀ (b0:Nat) (p3:Option Addr) (t3:Nat) (b4:Nat) (w':World),Below w4.heap.size w4 w'→RowSet w' w4.heap.size [Rv c p3 t3,Re 4 b4]→T 4 #[true,true,true,true,true,true,true,false,false,false,false] (Act.put (Act.put (Act.put (Act.put (Act.put (Act.put (Act.put A0 (some 49) (.slice (some ⟨b0,0,none⟩) 0 0)) (some 50) (.pointer (some ⟨w.heap.size,0,none⟩))) (some 51) (.slice a0 c.vars.length c0)) (some 52) (.slice p3 c.vars.length t3)) (some 53) (.slice (some ⟨b4,0,none⟩) 0 0)) (some 54) (.pointer (some ⟨w.heap.size,1,none⟩))) (some 55) (.slice a1 c.arrays.length c1)) w'):=by
    clear p2 i3
    refine Lib.hid ?_
    intro b0 p3 t3 b4 w' g0 rs
    have q3:=g0.size
    have hHeld:=l0.out _ g0
    have j1:=hT.out;subst j1;have i1:=hA.out;subst i1;clear hT hA
    change wpAnyH _ _ _ _ _ 4 _ _ _
    try simp only [Ep]
    refine Rdy2 7 9 rfl rfl (fun K hK=>?_) (fun K hK=>?_)
    ·have HO:=rs.own (Re 4 b4:RowK) (Mt Mh)
     have o2:=fun q hq=>(HO.lt q hq).1
     refine step_aps tInts rfl _ _ rfl (w4.heap.size) _ 0 ([]) rfl HO _ (c.arrays.length) (ints c.arrays) rfl ((r5.out _ g0).b) (one_ints c.arrays) (by omega) (by omega) ?_
     intro vA wA oA b2 j2 _
     try simp only [Nat.zero_add,List.nil_append] at oA
     obtain ⟨p7,t7,rfl⟩:=Oh oA
     have j0:=tot_chg g0 b2 o2
     have b3:=RowSet.push rs (Re 4 b4:RowK) (Mt Mh) oA b2 j2 (l':=[Rv c p3 t3]) (oth_cons Mh (show (0:Nat)≠4 by decide) oth_nil)
     clear HO o2 oA b2 j2
     refine hK.out _ _ (l0.out _ j0) (fun hHeld=>?_)
     clear hK K
     try simp only [Ep]
     refine take_d (i:=8) (d:=57) (v:=.agg #[.slice p3 c.vars.length t3,.slice p7 c.arrays.length t7,.slice none 0 0]) rfl rfl (by kernel_rfl) (by kernel_rfl) (by kernel_rfl) (fun _ _ _ h=>h) (Or.inl ⟨by rfl,fun W' _=>by kernel_rfl⟩) (by assumption) ?_
     try simp only [Ep]
     have hM:=x3.out b0 p3 t3 b4 p7 t7 _ j0 (RowSet.sub b3 (Sb (Mt Mh) (Sb Mh sub_nil)))
     try simp only [Ep] at hM
     exact hM
    go_simp
    refine hK.out _ _ (l0.out _ (bal g0 _)) (fun hHeld=>?_)
    clear hK K
    try simp only [Ep]
    have hM:=a4.out b0 p3 t3 b4 w'.heap.size _ (bal g0 _) (RowSet.sub (RowSet.lit rs 9 26 3 #[.slice none 0 0,.slice none 0 0,.slice none 0 0] 1 (by omega) (by unfold maxLen;omega) (by simp)) (Sb (Mt Mh) (Sb (Mt (Mt Mh)) (Sb Mh sub_nil))))
    try simp only [Ep] at hM
    exact hM
   have M9:Hid (∀ (b0:Nat) (p3:Option Addr) (t3:Nat) (b9:Nat) (w':World),Below w4.heap.size w4 w'→RowSet w' w4.heap.size [Rv c p3 t3,⟨9,26,3,.slice (some ⟨b9,0,none⟩) 1 1,1,[.slice none 0 0,.slice none 0 0,.slice none 0 0]⟩]→T 4 #[true,true,true,true,false,true,true,false,false,true,false] (Act.put (Act.put (Act.put (Act.put (Act.put (Act.put (Act.put A0 (some 49) (.slice (some ⟨b0,0,none⟩) 0 0)) (some 50) (.pointer (some ⟨w.heap.size,0,none⟩))) (some 51) (.slice a0 c.vars.length c0)) (some 52) (.slice p3 c.vars.length t3)) (some 54) (.pointer (some ⟨w.heap.size,1,none⟩))) (some 55) (.slice a1 c.arrays.length c1)) (some 8) (.pointer (some ⟨b9,0,none⟩))) w'):=by
    clear p2 i3 x3 M8
    refine Lib.hid ?_
    intro b0 p3 t3 b9 w' g0 rs
    have q3:=g0.size
    have hHeld:=l0.out _ g0
    have j1:=hT.out;subst j1;have i1:=hA.out;subst i1;clear hT hA
    change wpAnyH _ _ _ _ _ 4 _ _ _
    try simp only [Ep]
    refine Rdy 4 rfl (fun K hK=>?_)
    go_simp
    refine hK.out _ _ (l0.out _ (bal g0 _)) (fun hHeld=>?_)
    clear hK K
    try simp only [Ep]
    have hM:=a4.out b0 p3 t3 w'.heap.size b9 _ (bal g0 _) (RowSet.sub (RowSet.lit rs 4 3 1 #[] 0 (by omega) (by unfold maxLen;omega) (by simp)) (Sb (Mt Mh) (Sb Mh (Sb (Mt (Mt Mh)) sub_nil))))
    try simp only [Ep] at hM
    exact hM
   have c5:Hid (∀ (b0:Nat) (b4:Nat) (b9:Nat) (w':World),Below w4.heap.size w4 w'→RowSet w' w4.heap.size [Re 0 b0,Re 4 b4,⟨9,26,3,.slice (some ⟨b9,0,none⟩) 1 1,1,[.slice none 0 0,.slice none 0 0,.slice none 0 0]⟩]→T 4 #[true,true,true,false,true,true,true,false,false,true,false] (Act.put (Act.put (Act.put (Act.put (Act.put (Act.put (Act.put A0 (some 49) (.slice (some ⟨b0,0,none⟩) 0 0)) (some 50) (.pointer (some ⟨w.heap.size,0,none⟩))) (some 51) (.slice a0 c.vars.length c0)) (some 53) (.slice (some ⟨b4,0,none⟩) 0 0)) (some 54) (.pointer (some ⟨w.heap.size,1,none⟩))) (some 55) (.slice a1 c.arrays.length c1)) (some 8) (.pointer (some ⟨b9,0,none⟩))) w'):=by
    clear p2 i3 x3 M8 M9
    refine Lib.hid ?_
    intro b0 b4 b9 w' g0 rs
    have q3:=g0.size
    have hHeld:=l0.out _ g0
    have j1:=hT.out;subst j1;have i1:=hA.out;subst i1;clear hT hA
    change wpAnyH _ _ _ _ _ 4 _ _ _
    try simp only [Ep]
    refine Rdy 3 rfl (fun K hK=>?_)
    have HO:=rs.own (Re 0 b0:RowK) Mh
    have o2:=fun q hq=>(HO.lt q hq).1
    refine step_aps tInts rfl _ _ rfl (w4.heap.size) _ 0 ([]) rfl HO _ (c.vars.length) (ints c.vars) rfl ((r5.out _ g0).a) (one_ints c.vars) (by omega) (by omega) ?_
    intro vA wA oA b2 j2 _
    try simp only [Nat.zero_add,List.nil_append] at oA
    obtain ⟨p3,t3,rfl⟩:=Oh oA
    have j0:=tot_chg g0 b2 o2
    have b3:=RowSet.push rs (Re 0 b0:RowK) Mh oA b2 j2 (l':=[Re 4 b4,⟨9,26,3,.slice (some ⟨b9,0,none⟩) 1 1,1,[.slice none 0 0,.slice none 0 0,.slice none 0 0]⟩]) (oth_cons (Mt Mh) (show (4:Nat)≠0 by decide) (oth_cons (Mt (Mt Mh)) (show (9:Nat)≠0 by decide) oth_nil))
    clear HO o2 oA b2 j2
    refine hK.out _ _ (l0.out _ j0) (fun hHeld=>?_)
    clear hK K
    try simp only [Ep]
    have hM:=a4.out b0 p3 t3 b4 b9 _ j0 (RowSet.sub b3 (Sb Mh (Sb (Mt Mh) (Sb (Mt (Mt Mh)) sub_nil))))
    try simp only [Ep] at hM
    exact hM
   have M4:Hid (∀ (b0:Nat) (p3:Option Addr) (t3:Nat) (w':World),Below w4.heap.size w4 w'→RowSet w' w4.heap.size [Rv c p3 t3]→T 5 #[true,true,true,true,false,true,true,false,false,false,false] (Act.put (Act.put (Act.put (Act.put (Act.put (Act.put A0 (some 49) (.slice (some ⟨b0,0,none⟩) 0 0)) (some 50) (.pointer (some ⟨w.heap.size,0,none⟩))) (some 51) (.slice a0 c.vars.length c0)) (some 52) (.slice p3 c.vars.length t3)) (some 54) (.pointer (some ⟨w.heap.size,1,none⟩))) (some 55) (.slice a1 c.arrays.length c1)) w'):=by
    clear p2 i3 x3 a4 c5
    refine Lib.hid ?_
    intro b0 p3 t3 w' g0 rs
    have q3:=g0.size
    have hHeld:=l0.out _ g0
    have j1:=hT.out;subst j1;have i1:=hA.out;subst i1;clear hT hA
    change wpAnyH _ _ _ _ _ 5 _ _ _
    try simp only [Ep]
    refine Rdy2 4 9 rfl rfl (fun K hK=>?_) (fun K hK=>?_)
    ·go_simp
     refine hK.out _ _ (l0.out _ (bal g0 _)) (fun hHeld=>?_)
     clear hK K
     try simp only [Ep]
     have hM:=M8.out b0 p3 t3 w'.heap.size _ (bal g0 _) (RowSet.sub (RowSet.lit rs 4 3 1 #[] 0 (by omega) (by unfold maxLen;omega) (by simp)) (Sb (Mt Mh) (Sb Mh sub_nil)))
     try simp only [Ep] at hM
     exact hM
    go_simp
    refine hK.out _ _ (l0.out _ (bal g0 _)) (fun hHeld=>?_)
    clear hK K
    try simp only [Ep]
    have hM:=M9.out b0 p3 t3 w'.heap.size _ (bal g0 _) (RowSet.sub (RowSet.lit rs 9 26 3 #[.slice none 0 0,.slice none 0 0,.slice none 0 0] 1 (by omega) (by unfold maxLen;omega) (by simp)) (Sb (Mt Mh) (Sb Mh sub_nil)))
    try simp only [Ep] at hM
    exact hM
   have M5:Hid (∀ (b0:Nat) (b4:Nat) (w':World),Below w4.heap.size w4 w'→RowSet w' w4.heap.size [Re 0 b0,Re 4 b4]→T 5 #[true,true,true,false,true,true,true,false,false,false,false] (Act.put (Act.put (Act.put (Act.put (Act.put (Act.put A0 (some 49) (.slice (some ⟨b0,0,none⟩) 0 0)) (some 50) (.pointer (some ⟨w.heap.size,0,none⟩))) (some 51) (.slice a0 c.vars.length c0)) (some 53) (.slice (some ⟨b4,0,none⟩) 0 0)) (some 54) (.pointer (some ⟨w.heap.size,1,none⟩))) (some 55) (.slice a1 c.arrays.length c1)) w'):=by
    clear p2 i3 x3 a4 M9 M4
    refine Lib.hid ?_
    intro b0 b4 w' g0 rs
    have q3:=g0.size
    have hHeld:=l0.out _ g0
    have j1:=hT.out;subst j1;have i1:=hA.out;subst i1;clear hT hA
    change wpAnyH _ _ _ _ _ 5 _ _ _
    try simp only [Ep]
    refine Rdy2 3 9 rfl rfl (fun K hK=>?_) (fun K hK=>?_)
    ·have HO:=rs.own (Re 0 b0:RowK) Mh
     have o2:=fun q hq=>(HO.lt q hq).1
     refine step_aps tInts rfl _ _ rfl (w4.heap.size) _ 0 ([]) rfl HO _ (c.vars.length) (ints c.vars) rfl ((r5.out _ g0).a) (one_ints c.vars) (by omega) (by omega) ?_
     intro vA wA oA b2 j2 _
     try simp only [Nat.zero_add,List.nil_append] at oA
     obtain ⟨p3,t3,rfl⟩:=Oh oA
     have j0:=tot_chg g0 b2 o2
     have b3:=RowSet.push rs (Re 0 b0:RowK) Mh oA b2 j2 (l':=[Re 4 b4]) (oth_cons (Mt Mh) (show (4:Nat)≠0 by decide) oth_nil)
     clear HO o2 oA b2 j2
     refine hK.out _ _ (l0.out _ j0) (fun hHeld=>?_)
     clear hK K
     try simp only [Ep]
     have hM:=M8.out b0 p3 t3 b4 _ j0 (RowSet.sub b3 (Sb Mh (Sb (Mt Mh) sub_nil)))
     try simp only [Ep] at hM
     exact hM
    go_simp
    refine hK.out _ _ (l0.out _ (bal g0 _)) (fun hHeld=>?_)
    clear hK K
    try simp only [Ep]
    have hM:=c5.out b0 b4 w'.heap.size _ (bal g0 _) (RowSet.sub (RowSet.lit rs 9 26 3 #[.slice none 0 0,.slice none 0 0,.slice none 0 0] 1 (by omega) (by unfold maxLen;omega) (by simp)) (Sb (Mt Mh) (Sb (Mt (Mt Mh)) (Sb Mh sub_nil))))
    try simp only [Ep] at hM
    exact hM
   have M6:Hid (∀ (b0:Nat) (b9:Nat) (w':World),Below w4.heap.size w4 w'→RowSet w' w4.heap.size [Re 0 b0,⟨9,26,3,.slice (some ⟨b9,0,none⟩) 1 1,1,[.slice none 0 0,.slice none 0 0,.slice none 0 0]⟩]→T 5 #[true,true,true,false,false,true,true,false,false,true,false] (Act.put (Act.put (Act.put (Act.put (Act.put (Act.put A0 (some 49) (.slice (some ⟨b0,0,none⟩) 0 0)) (some 50) (.pointer (some ⟨w.heap.size,0,none⟩))) (some 51) (.slice a0 c.vars.length c0)) (some 54) (.pointer (some ⟨w.heap.size,1,none⟩))) (some 55) (.slice a1 c.arrays.length c1)) (some 8) (.pointer (some ⟨b9,0,none⟩))) w'):=by
    clear p2 i3 x3 a4 M8 M4 M5
    refine Lib.hid ?_
    intro b0 b9 w' g0 rs
    have q3:=g0.size
    have hHeld:=l0.out _ g0
    have j1:=hT.out;subst j1;have i1:=hA.out;subst i1;clear hT hA
    change wpAnyH _ _ _ _ _ 5 _ _ _
    try simp only [Ep]
    refine Rdy2 3 4 rfl rfl (fun K hK=>?_) (fun K hK=>?_)
    ·have HO:=rs.own (Re 0 b0:RowK) Mh
     have o2:=fun q hq=>(HO.lt q hq).1
     refine step_aps tInts rfl _ _ rfl (w4.heap.size) _ 0 ([]) rfl HO _ (c.vars.length) (ints c.vars) rfl ((r5.out _ g0).a) (one_ints c.vars) (by omega) (by omega) ?_
     intro vA wA oA b2 j2 _
     try simp only [Nat.zero_add,List.nil_append] at oA
     obtain ⟨p3,t3,rfl⟩:=Oh oA
     have j0:=tot_chg g0 b2 o2
     have b3:=RowSet.push rs (Re 0 b0:RowK) Mh oA b2 j2 (l':=[⟨9,26,3,.slice (some ⟨b9,0,none⟩) 1 1,1,[.slice none 0 0,.slice none 0 0,.slice none 0 0]⟩]) (oth_cons (Mt Mh) (show (9:Nat)≠0 by decide) oth_nil)
     clear HO o2 oA b2 j2
     refine hK.out _ _ (l0.out _ j0) (fun hHeld=>?_)
     clear hK K
     try simp only [Ep]
     have hM:=M9.out b0 p3 t3 b9 _ j0 (RowSet.sub b3 (Sb Mh (Sb (Mt Mh) sub_nil)))
     try simp only [Ep] at hM
     exact hM
    go_simp
    refine hK.out _ _ (l0.out _ (bal g0 _)) (fun hHeld=>?_)
    clear hK K
    try simp only [Ep]
    have hM:=c5.out b0 w'.heap.size b9 _ (bal g0 _) (RowSet.sub (RowSet.lit rs 4 3 1 #[] 0 (by omega) (by unfold maxLen;omega) (by simp)) (Sb (Mt Mh) (Sb Mh (Sb (Mt (Mt Mh)) sub_nil))))
    try simp only [Ep] at hM
    exact hM
   have M7:Hid (∀ (b4:Nat) (b9:Nat) (w':World),Below w4.heap.size w4 w'→RowSet w' w4.heap.size [Re 4 b4,⟨9,26,3,.slice (some ⟨b9,0,none⟩) 1 1,1,[.slice none 0 0,.slice none 0 0,.slice none 0 0]⟩]→T 5 #[false,true,true,false,true,true,true,false,false,true,false] (Act.put (Act.put (Act.put (Act.put (Act.put (Act.put A0 (some 50) (.pointer (some ⟨w.heap.size,0,none⟩))) (some 51) (.slice a0 c.vars.length c0)) (some 53) (.slice (some ⟨b4,0,none⟩) 0 0)) (some 54) (.pointer (some ⟨w.heap.size,1,none⟩))) (some 55) (.slice a1 c.arrays.length c1)) (some 8) (.pointer (some ⟨b9,0,none⟩))) w'):=by
    clear p2 i3 x3 a4 M8 M9 M4 M5 M6
    refine Lib.hid ?_
    intro b4 b9 w' g0 rs
    have q3:=g0.size
    have hHeld:=l0.out _ g0
    have j1:=hT.out;subst j1;have i1:=hA.out;subst i1;clear hT hA
    change wpAnyH _ _ _ _ _ 5 _ _ _
    try simp only [Ep]
    refine Rdy 0 rfl (fun K hK=>?_)
    go_simp
    refine hK.out _ _ (l0.out _ (bal g0 _)) (fun hHeld=>?_)
    clear hK K
    try simp only [Ep]
    have hM:=c5.out w'.heap.size b4 b9 _ (bal g0 _) (RowSet.sub (RowSet.lit rs 0 3 1 #[] 0 (by omega) (by unfold maxLen;omega) (by simp)) (Sb Mh (Sb (Mt Mh) (Sb (Mt (Mt Mh)) sub_nil))))
    try simp only [Ep] at hM
    exact hM
   have M1:Hid (∀ (b0:Nat) (w':World),Below w4.heap.size w4 w'→RowSet w' w4.heap.size [Re 0 b0]→T 6 #[true,true,true,false,false,true,true,false,false,false,false] (Act.put (Act.put (Act.put (Act.put (Act.put A0 (some 49) (.slice (some ⟨b0,0,none⟩) 0 0)) (some 50) (.pointer (some ⟨w.heap.size,0,none⟩))) (some 51) (.slice a0 c.vars.length c0)) (some 54) (.pointer (some ⟨w.heap.size,1,none⟩))) (some 55) (.slice a1 c.arrays.length c1)) w'):=by
    clear p2 i3 x3 a4 M8 M9 c5 M7
    refine Lib.hid ?_
    intro b0 w' g0 rs
    have q3:=g0.size
    have hHeld:=l0.out _ g0
    have j1:=hT.out;subst j1;have i1:=hA.out;subst i1;clear hT hA
    change wpAnyH _ _ _ _ _ 6 _ _ _
    try simp only [Ep]
    refine Rdy3 3 4 9 rfl rfl rfl (fun K hK=>?_) (fun K hK=>?_) (fun K hK=>?_)
    ·have HO:=rs.own (Re 0 b0:RowK) Mh
     have o2:=fun q hq=>(HO.lt q hq).1
     refine step_aps tInts rfl _ _ rfl (w4.heap.size) _ 0 ([]) rfl HO _ (c.vars.length) (ints c.vars) rfl ((r5.out _ g0).a) (one_ints c.vars) (by omega) (by omega) ?_
     intro vA wA oA b2 j2 _
     try simp only [Nat.zero_add,List.nil_append] at oA
     obtain ⟨p3,t3,rfl⟩:=Oh oA
     have j0:=tot_chg g0 b2 o2
     have b3:=RowSet.push rs (Re 0 b0:RowK) Mh oA b2 j2 (l':=[]) oth_nil
     clear HO o2 oA b2 j2
     refine hK.out _ _ (l0.out _ j0) (fun hHeld=>?_)
     clear hK K
     try simp only [Ep]
     have hM:=M4.out b0 p3 t3 _ j0 (RowSet.sub b3 (Sb Mh sub_nil))
     try simp only [Ep] at hM
     exact hM
    ·go_simp
     refine hK.out _ _ (l0.out _ (bal g0 _)) (fun hHeld=>?_)
     clear hK K
     try simp only [Ep]
     have hM:=M5.out b0 w'.heap.size _ (bal g0 _) (RowSet.sub (RowSet.lit rs 4 3 1 #[] 0 (by omega) (by unfold maxLen;omega) (by simp)) (Sb (Mt Mh) (Sb Mh sub_nil)))
     try simp only [Ep] at hM
     exact hM
    go_simp
    refine hK.out _ _ (l0.out _ (bal g0 _)) (fun hHeld=>?_)
    clear hK K
    try simp only [Ep]
    have hM:=M6.out b0 w'.heap.size _ (bal g0 _) (RowSet.sub (RowSet.lit rs 9 26 3 #[.slice none 0 0,.slice none 0 0,.slice none 0 0] 1 (by omega) (by unfold maxLen;omega) (by simp)) (Sb (Mt Mh) (Sb Mh sub_nil)))
    try simp only [Ep] at hM
    exact hM
   have M2:Hid (∀ (b4:Nat) (w':World),Below w4.heap.size w4 w'→RowSet w' w4.heap.size [Re 4 b4]→T 6 #[false,true,true,false,true,true,true,false,false,false,false] (Act.put (Act.put (Act.put (Act.put (Act.put A0 (some 50) (.pointer (some ⟨w.heap.size,0,none⟩))) (some 51) (.slice a0 c.vars.length c0)) (some 53) (.slice (some ⟨b4,0,none⟩) 0 0)) (some 54) (.pointer (some ⟨w.heap.size,1,none⟩))) (some 55) (.slice a1 c.arrays.length c1)) w'):=by
    clear p2 i3 x3 a4 M8 M9 c5 M4 M6 M1
    refine Lib.hid ?_
    intro b4 w' g0 rs
    have q3:=g0.size
    have hHeld:=l0.out _ g0
    have j1:=hT.out;subst j1;have i1:=hA.out;subst i1;clear hT hA
    change wpAnyH _ _ _ _ _ 6 _ _ _
    try simp only [Ep]
    refine Rdy2 0 9 rfl rfl (fun K hK=>?_) (fun K hK=>?_)
    ·go_simp
     refine hK.out _ _ (l0.out _ (bal g0 _)) (fun hHeld=>?_)
     clear hK K
     try simp only [Ep]
     have hM:=M5.out w'.heap.size b4 _ (bal g0 _) (RowSet.sub (RowSet.lit rs 0 3 1 #[] 0 (by omega) (by unfold maxLen;omega) (by simp)) (Sb Mh (Sb (Mt Mh) sub_nil)))
     try simp only [Ep] at hM
     exact hM
    go_simp
    refine hK.out _ _ (l0.out _ (bal g0 _)) (fun hHeld=>?_)
    clear hK K
    try simp only [Ep]
    have hM:=M7.out b4 w'.heap.size _ (bal g0 _) (RowSet.sub (RowSet.lit rs 9 26 3 #[.slice none 0 0,.slice none 0 0,.slice none 0 0] 1 (by omega) (by unfold maxLen;omega) (by simp)) (Sb (Mt Mh) (Sb Mh sub_nil)))
    try simp only [Ep] at hM
    exact hM
   have M3:Hid (∀ (b9:Nat) (w':World),Below w4.heap.size w4 w'→RowSet w' w4.heap.size [⟨9,26,3,.slice (some ⟨b9,0,none⟩) 1 1,1,[.slice none 0 0,.slice none 0 0,.slice none 0 0]⟩]→T 6 #[false,true,true,false,false,true,true,false,false,true,false] (Act.put (Act.put (Act.put (Act.put (Act.put A0 (some 50) (.pointer (some ⟨w.heap.size,0,none⟩))) (some 51) (.slice a0 c.vars.length c0)) (some 54) (.pointer (some ⟨w.heap.size,1,none⟩))) (some 55) (.slice a1 c.arrays.length c1)) (some 8) (.pointer (some ⟨b9,0,none⟩))) w'):=by
    clear p2 i3 x3 a4 M8 M9 c5 M4 M5 M1 M2
    refine Lib.hid ?_
    intro b9 w' g0 rs
    have q3:=g0.size
    have hHeld:=l0.out _ g0
    have j1:=hT.out;subst j1;have i1:=hA.out;subst i1;clear hT hA
    change wpAnyH _ _ _ _ _ 6 _ _ _
    try simp only [Ep]
    refine Rdy2 0 4 rfl rfl (fun K hK=>?_) (fun K hK=>?_)
    ·go_simp
     refine hK.out _ _ (l0.out _ (bal g0 _)) (fun hHeld=>?_)
     clear hK K
     try simp only [Ep]
     have hM:=M6.out w'.heap.size b9 _ (bal g0 _) (RowSet.sub (RowSet.lit rs 0 3 1 #[] 0 (by omega) (by unfold maxLen;omega) (by simp)) (Sb Mh (Sb (Mt Mh) sub_nil)))
     try simp only [Ep] at hM
     exact hM
    go_simp
    refine hK.out _ _ (l0.out _ (bal g0 _)) (fun hHeld=>?_)
    clear hK K
    try simp only [Ep]
    have hM:=M7.out w'.heap.size b9 _ (bal g0 _) (RowSet.sub (RowSet.lit rs 4 3 1 #[] 0 (by omega) (by unfold maxLen;omega) (by simp)) (Sb Mh (Sb (Mt Mh) sub_nil)))
    try simp only [Ep] at hM
    exact hM
   have M0:Hid (∀ (w':World),Below w4.heap.size w4 w'→RowSet w' w4.heap.size []→T 7 #[false,true,true,false,false,true,true,false,false,false,false] (Act.put (Act.put (Act.put (Act.put A0 (some 50) (.pointer (some ⟨w.heap.size,0,none⟩))) (some 51) (.slice a0 c.vars.length c0)) (some 54) (.pointer (some ⟨w.heap.size,1,none⟩))) (some 55) (.slice a1 c.arrays.length c1)) w'):=by
    clear p2 i3 x3 a4 M8 M9 c5 M4 M5 M6 M7
    refine Lib.hid ?_
    intro w' g0 rs
    have q3:=g0.size
    have hHeld:=l0.out _ g0
    have j1:=hT.out;subst j1;have i1:=hA.out;subst i1;clear hT hA
    change wpAnyH _ _ _ _ _ 7 _ _ _
    try simp only [Ep]
    refine Rdy3 0 4 9 rfl rfl rfl (fun K hK=>?_) (fun K hK=>?_) (fun K hK=>?_)
    ·go_simp
     refine hK.out _ _ (l0.out _ (bal g0 _)) (fun hHeld=>?_)
     clear hK K
     try simp only [Ep]
     have hM:=M1.out w'.heap.size _ (bal g0 _) (RowSet.sub (RowSet.lit rs 0 3 1 #[] 0 (by omega) (by unfold maxLen;omega) (by simp)) (Sb Mh sub_nil))
     try simp only [Ep] at hM
     exact hM
    ·go_simp
     refine hK.out _ _ (l0.out _ (bal g0 _)) (fun hHeld=>?_)
     clear hK K
     try simp only [Ep]
     have hM:=M2.out w'.heap.size _ (bal g0 _) (RowSet.sub (RowSet.lit rs 4 3 1 #[] 0 (by omega) (by unfold maxLen;omega) (by simp)) (Sb Mh sub_nil))
     try simp only [Ep] at hM
     exact hM
    go_simp
    refine hK.out _ _ (l0.out _ (bal g0 _)) (fun hHeld=>?_)
    clear hK K
    try simp only [Ep]
    have hM:=M3.out w'.heap.size _ (bal g0 _) (RowSet.sub (RowSet.lit rs 9 26 3 #[.slice none 0 0,.slice none 0 0,.slice none 0 0] 1 (by omega) (by unfold maxLen;omega) (by simp)) (Sb Mh sub_nil))
    try simp only [Ep] at hM
    exact hM
   clear p2 i3 x3 a4 M8 M9 c5 M4 M5 M6 M7 M1 M2 M3
   have hHeld:=l0.out _ n5
   have j1:=hT.out;subst j1;have i1:=hA.out;subst i1;clear hT hA
   change wpAnyH _ _ _ _ _ 11 _ _ _
   try simp only [Ep]
   refine tq 1 50 rfl rfl ?_ ?_ ?_
   rotate_left
   ·intro W' hSw;(try clear b3);(try clear rs);(try clear j0);(try clear g0);(try clear M0);obtain ⟨s0,s1⟩:=hSw;go_simp;try with_reducible rfl
   try simp only [Ep]
   refine tq 2 51 rfl rfl ?_ ?_ ?_
   rotate_left
   ·intro W' hSw;(try clear b3);(try clear rs);(try clear j0);(try clear g0);(try clear M0);obtain ⟨s0,s1⟩:=hSw;go_simp;try with_reducible rfl
   try simp only [Ep]
   refine tq 5 54 rfl rfl ?_ ?_ ?_
   rotate_left
   ·intro W' hSw;(try clear b3);(try clear rs);(try clear j0);(try clear g0);(try clear M0);obtain ⟨s0,s1⟩:=hSw;go_simp;try with_reducible rfl
   try simp only [Ep]
   refine tq 6 55 rfl rfl ?_ ?_ ?_
   rotate_left
   ·intro W' hSw;(try clear b3);(try clear rs);(try clear j0);(try clear g0);(try clear M0);obtain ⟨s0,s1⟩:=hSw;go_simp;try with_reducible rfl
   try simp only [Ep]
   have hM:=M0.out wd n5 RowSet.nil
   try simp only [Ep] at hM
   exact hM
  obtain ⟨w7,rfl⟩:∃ W,W=wc:=⟨_,rfl⟩
  obtain ⟨bb,p0,t0,p1,t1,rfl,x0,x1,x2,xf,v9,z9,y0,y1,c8,l9,m9,hD⟩:=hcut
  replace k4:=Kc hD k4
  replace m4:=Kc hD m4
  replace j3:=Kc hD j3
  replace s2:=Kc hD s2
  replace y2:=Kc hD y2
  replace a3:=Kc hD a3
  replace e5:=Kf hD (by omega) e5
  replace f5:=Kf hD (by omega) f5
  replace g2:=Kf hD (by omega) g2
  have m6:∀ q,(Value.slice pa c.list.length ta).ownBlock=some q→q < w4.heap.size:=fun q h=>(oA.lt q h).2
  replace oM:=Ob oM hD
  replace oA:=Ob oA hD
  replace c3:=c3.trans (hD.mono c3.size)
  have iM:=oM.lt _ rfl;simp only at iM
  have iA:=oA.lt
  have m5:∀ q,(Value.slice pa c.list.length ta).ownBlock=some q→q < w4.heap.size:=m6
  have h6:Hid (∀ k (h:k < c.list.length),w7.cell? ⟨b,a5+k*5,none⟩=some (.int .i64 c.list[k].op)∧w7.cell? ⟨b,a5+k*5+1,none⟩=some (.int .i64 c.list[k].a)∧w7.cell? ⟨b,a5+k*5+2,none⟩=some (.int .i64 c.list[k].b)∧w7.cell? ⟨b,a5+k*5+3,none⟩=some (.int .i64 c.list[k].c)∧w7.cell? ⟨b,a5+k*5+4,none⟩=some (.int .i64 c.list[k].d)):=Lib.hid (fun k h=>by obtain ⟨e0,e1,e2,e3,e4⟩:=g6.out k h;exact ⟨Kc hD e0,Kc hD e1,Kc hD e2,Kc hD e3,Kc hD e4⟩)
  have cA:=hD.size
  clear g6 r hD
  replace k5:=Lc k4
  replace l5:=Lc m4
  have f9:=Lc j3
  have h9:=Lc s2
  have i9:=Lc y2
  have j9:=Lc a3
  go_wp2
  go_loopw [9] (fun i wr=>∃ (k:Nat) (lv:Value),k≤c.list.length∧i=.int .i64 k∧wr.cell? ⟨bb,2,none⟩=some lv∧wr.frozen? ⟨bb,2,none⟩=false∧wr.cell? ⟨bb,0,none⟩=some (.slice p0 c.vars.length t0)∧wr.cell? ⟨bb,1,none⟩=some (.slice p1 c.arrays.length t1)∧wr.ownsRow w7.heap.size 32 5 lv (cnt c.list k) (inss (fenceTo c.list k))∧Chg (fun q=>q=bb) w7 wr) (fun i _=>c.list.length-(intOf i).toNat)
  case atStart=>exact ⟨0,_,Nat.zero_le _,rfl,x2,xf,x0,x1,World.ownsRow_nil _ _ _ _,Chg.refl _ _⟩
  case round =>
   obtain ⟨k,lv,hk,rfl,m2,mf,m0,m1,ho,hC⟩:=hrel
   have eA:=hC.size
   have iv:=ho.lt
   have e8:=cnt_le c.list k
   have n2:=Gc hC j3 (by omega)
   have k2:=Lc n2
   have km:=Lc m2
   obtain ⟨la,lc,rfl⟩:=Oh ho
   by_cases hlt:k < c.list.length
   ·obtain ⟨e0,e1,e2,e3,e4⟩:=h6.out k hlt
    replace e0:=Gc hC e0 (by omega)
    replace e1:=Gc hC e1 (by omega)
    replace e2:=Gc hC e2 (by omega)
    replace e3:=Gc hC e3 (by omega)
    replace e4:=Gc hC e4 (by omega)
    have yM:=(Ow oM hC (fun q h h2=>by have e:g1=q:=Option.some.inj h;omega)).cellAt k (by omega)
    rw [bools_at _ _ (by rw [p5.out];exact hlt)] at yM
    have v5:=needAt_eq (l:=c.list) (k:=k) (by rw [p5.out];exact hlt) hlt
    have e7:=fenceTo_succ c.list k hlt
    have u5:cnt c.list (k+1)=cnt c.list k+(if needAt c.list k=true then 2 else 1):=rfl
    have j7:=z7.out k hlt
    generalize ((marksOf c.list)[k]'(by rw [p5.out];exact hlt))=m at *
    generalize c.list[k]=x at *
    have j5:=Lib.hid v5
    have q5:=Lib.hid e7
    have b5:=Lib.hid u5
    have HT:=Lib.hid j7
    clear v5 e7 u5 j7 h6
    have ke:=Lc e0
    have ky:=Lc yM
    go_upto_region 20 with (fail)
    obtain ⟨w5,s3⟩:∃ X,X=World.alloc wr (.cells #[.int .i64 x.op,.int .i64 x.a,.int .i64 x.b,.int .i64 x.c,.int .i64 x.d] 32):=⟨_,rfl⟩
    rw [← s3]
    have t4:Below wr.heap.size wr w5:=by rw [s3];exact bal (Bs wr) _
    have bA:wr.heap.size+1≤w5.heap.size:=by rw [s3];simp
    have d0:w5.cell? ⟨wr.heap.size,0,none⟩=some (.int .i64 x.op):=by rw [s3];exact Wc rfl rfl
    have z0:w5.frozen? ⟨wr.heap.size,0,none⟩=false:=by rw [s3];exact Fn rfl
    have d1:w5.cell? ⟨wr.heap.size,1,none⟩=some (.int .i64 x.a):=by rw [s3];exact Wc rfl rfl
    have z1:w5.frozen? ⟨wr.heap.size,1,none⟩=false:=by rw [s3];exact Fn rfl
    have d2:w5.cell? ⟨wr.heap.size,2,none⟩=some (.int .i64 x.b):=by rw [s3];exact Wc rfl rfl
    have z2:w5.frozen? ⟨wr.heap.size,2,none⟩=false:=by rw [s3];exact Fn rfl
    have d3:w5.cell? ⟨wr.heap.size,3,none⟩=some (.int .i64 x.c):=by rw [s3];exact Wc rfl rfl
    have z3:w5.frozen? ⟨wr.heap.size,3,none⟩=false:=by rw [s3];exact Fn rfl
    have d4:w5.cell? ⟨wr.heap.size,4,none⟩=some (.int .i64 x.d):=by rw [s3];exact Wc rfl rfl
    have z4:w5.frozen? ⟨wr.heap.size,4,none⟩=false:=by rw [s3];exact Fn rfl
    clear s3 e0 e1 e2 e3 e4 n2
    replace yM:=Kc t4 yM
    replace mf:=Kf t4 km mf
    replace m0:=Kc t4 m0
    replace m1:=Kc t4 m1
    replace m2:=Kc t4 m2
    have mA:=Lc yM
    have kd:=Lc d0
    have w3:=Lc m2
    have d5:=hC.trans (Chg.of_below (S:=fun q=>q=bb) t4)
    have o5:=Ob ho t4
    clear t4 ho hC
    cases m with
    | false =>
     have f3:Hid (needAt c.list k=false):=Lib.hid (by rw [j5.out];rfl)
     go_wp2_with fail
     refine (l8Target_any x _).mono ?_
     rintro e w6 ⟨rfl,i0⟩
     replace d0:=Kc i0 d0;replace z0:=Kf i0 (by omega) z0
     replace d1:=Kc i0 d1;replace z1:=Kf i0 (by omega) z1
     replace d2:=Kc i0 d2;replace z2:=Kf i0 (by omega) z2
     replace d3:=Kc i0 d3;replace z3:=Kf i0 (by omega) z3
     replace d4:=Kc i0 d4;replace z4:=Kf i0 (by omega) z4
     replace m0:=Kc i0 m0;replace m1:=Kc i0 m1;replace mf:=Kf i0 (by omega) mf;replace m2:=Kc i0 m2
     have o6:=Ob o5 i0;have C6:=d5.trans (Chg.of_below (S:=fun q=>q=bb) i0)
     have k7:=i0.size;have k6:=Lc d0;have y5:=Lc m2;replace w3:=y5
     clear i0 o5 d5
     by_cases ht:0≤tgt x
     ·obtain ⟨t1,t2⟩:=HT.out ht
      obtain ⟨nt,o3⟩:∃ nt:Nat,tgt x=nt:=⟨(tgt x).toNat,by omega⟩
      have i4:Hid (fx c.list x=aim x (cnt c.list nt:Nat)):=Lib.hid (by unfold fx;rw [if_pos ht,o3,Int.toNat_natCast])
      have j4:=Lib.hid o3
      rw [o3] at t1 ⊢
      have x4:nt < c.list.length:=by omega
      have hq:(nt:Int) < (c.list.length:Int):=by omega
      have f7:(0:Int)≤(nt:Int):=by omega
      have y4:=Ow oA C6 (fun q h h2=>by have:=iA q h;have:=m5 q h;omega)
      obtain ⟨ga,q7,g5⟩:=own_pos y4 (by omega)
      simp only [Value.slice.injEq,true_and] at g5
      obtain ⟨rfl,rfl⟩:=g5
      have yP:=y4.cellAt nt (by omega)
      rw [ints_at _ _ (by rw [places_len];exact x4),places_get] at yP
      have kP:=Lc yP
      have g3:=Lib.hid t2
      clear t1 t2 ht o3 y4
      go_upto_region 23 with (fail)
      have D:=Below.drew (Bs w6)
      go_cut [94] (fun _ wx=>wx.cell? ⟨wr.heap.size,0,none⟩=some (.int .i64 (aim x (cnt c.list nt:Nat)).op)∧wx.cell? ⟨wr.heap.size,1,none⟩=some (.int .i64 (aim x (cnt c.list nt:Nat)).a)∧wx.cell? ⟨wr.heap.size,2,none⟩=some (.int .i64 (aim x (cnt c.list nt:Nat)).b)∧wx.cell? ⟨wr.heap.size,3,none⟩=some (.int .i64 (aim x (cnt c.list nt:Nat)).c)∧wx.cell? ⟨wr.heap.size,4,none⟩=some (.int .i64 (aim x (cnt c.list nt:Nat)).d)∧Chg (fun q=>q=wr.heap.size) w6 wx)
      case first =>
       refine wp_region_noPanic ?_
       refine wp_region_held_drew (S:=fun _=>True) (by kernel_rfl) trivial (fun hHeld=>?_)
       obtain ⟨wd,h5⟩:∃ X,X=World.drew w6:=⟨_,rfl⟩
       rw [← h5] at D ⊢
       clear h5
       have k3:=Kc D d0
       have n4:=Kc D d1
       have p4:=Kc D d2
       have q4:=Kc D d3
       have s4:=Kc D d4
       have n3:=Kc D yP
       have m7:=Lc k3;have n7:=Lc n3
       refine tq 1 89 rfl rfl ?_ ?_ ?_
       rotate_left
       ·intro W' hSw;go_simp;try with_reducible rfl
       try simp only [Ep]
       refine wpAnyH_ready (rs:=[0,2]) (by kernel_rfl) (by simp) ?_
       refine AllReadyH.cons rfl (fun K hK=>?_) ?_
       ·go_simp
        refine hK.out _ _ trivial (fun hHeld=>?_)
        clear hK K
        refine wpAnyH_ready (rs:=[2]) (by kernel_rfl) (by simp) ?_
        refine AllReadyH.cons rfl (fun K hK=>?_) ?_
        ·go_simp
         refine hK.out _ _ trivial (fun hHeld=>?_)
         clear hK K
         refine wpAnyH_ready (rs:=[3]) (by kernel_rfl) (by simp) ?_
         refine AllReadyH.cons rfl (fun K hK=>?_) ?_
         ·go_simp
          go_at_call 108
          refine (l8Target_any x _).mono ?_
          rw [j4.out]
          rintro e y3 ⟨rfl,hb⟩
          have d0_3:=Kc hb k3
          have d1_3:=Kc hb n4
          have d2_3:=Kc hb p4
          have d3_3:=Kc hb q4
          have d4_3:=Kc hb s4
          have dP_3:=Kc hb n3
          have D3:=btr D hb
          have kA:=Lc d0_3;have gA:=Lc dP_3
          clear hb
          go_wp2_with fail
          refine hK.out _ _ trivial (fun hHeld=>?_)
          clear hK K
          refine tq 4 92 rfl rfl ?_ ?_ ?_
          rotate_left
          ·intro W' hSw;go_simp;try with_reducible rfl
          try simp only [Ep]
          refine wpAnyH_ready (rs:=[5]) (by kernel_rfl) (by simp) ?_
          refine AllReadyH.cons rfl (fun K hK=>?_) ?_
          ·go_simp
           refine hK.out _ _ trivial (fun hHeld=>?_)
           clear hK K
           refine Rdy 6 rfl (fun K hK=>?_)
           go_simp
           go_at_call 109
           refine (l8Aim_any x _ _ g3.out).mono ?_
           rintro e w8 ⟨rfl,b8⟩
           have v8:=btr D3 b8
           have u0:=Kc v8 d0;have r0:=Kf v8 k6 z0
           have u1:=Kc v8 d1;have r1:=Kf v8 k6 z1
           have u2:=Kc v8 d2;have r2:=Kf v8 k6 z2
           have u3:=Kc v8 d3;have r3:=Kf v8 k6 z3
           have u4:=Kc v8 d4;have r4:=Kf v8 k6 z4
           have k8:=Lc u0
           go_wp2_with fail
           refine hK.out _ _ trivial (fun hHeld=>?_)
           clear hK K
           refine Rdy 7 rfl (fun K hK=>?_)
           go_simp
           refine hK.out _ _ trivial (fun hHeld=>?_)
           clear hK K
           refine Dn ?_
           go_wp2_with fail
           go_meet
           exact set5 u0 u1 u2 u3 u4 (Chg.of_below v8)
          exact AllReadyH.nil
         exact AllReadyH.nil
        exact AllReadyH.nil
       refine AllReadyH.cons rfl (fun K hK=>?_) ?_
       ·go_simp
        refine hK.out _ _ trivial (fun hHeld=>?_)
        clear hK K
        refine wpAnyH_ready (rs:=[0,3]) (by kernel_rfl) (by simp) ?_
        refine AllReadyH.cons rfl (fun K hK=>?_) ?_
        ·go_simp
         refine hK.out _ _ trivial (fun hHeld=>?_)
         clear hK K
         refine wpAnyH_ready (rs:=[3]) (by kernel_rfl) (by simp) ?_
         refine AllReadyH.cons rfl (fun K hK=>?_) ?_
         ·go_simp
          go_at_call 108
          refine (l8Target_any x _).mono ?_
          rw [j4.out]
          rintro e y8 ⟨rfl,hb⟩
          have d0_8:=Kc hb k3
          have d1_8:=Kc hb n4
          have d2_8:=Kc hb p4
          have d3_8:=Kc hb q4
          have d4_8:=Kc hb s4
          have dP_8:=Kc hb n3
          have D8:=btr D hb
          have lA:=Lc d0_8;have jA:=Lc dP_8
          clear hb
          go_wp2_with fail
          refine hK.out _ _ trivial (fun hHeld=>?_)
          clear hK K
          refine tq 4 92 rfl rfl ?_ ?_ ?_
          rotate_left
          ·intro W' hSw;go_simp;try with_reducible rfl
          try simp only [Ep]
          refine wpAnyH_ready (rs:=[5]) (by kernel_rfl) (by simp) ?_
          refine AllReadyH.cons rfl (fun K hK=>?_) ?_
          ·go_simp
           refine hK.out _ _ trivial (fun hHeld=>?_)
           clear hK K
           refine Rdy 6 rfl (fun K hK=>?_)
           go_simp
           go_at_call 109
           refine (l8Aim_any x _ _ g3.out).mono ?_
           rintro e w8 ⟨rfl,b8⟩
           have v8:=btr D8 b8
           have u0:=Kc v8 d0;have r0:=Kf v8 k6 z0
           have u1:=Kc v8 d1;have r1:=Kf v8 k6 z1
           have u2:=Kc v8 d2;have r2:=Kf v8 k6 z2
           have u3:=Kc v8 d3;have r3:=Kf v8 k6 z3
           have u4:=Kc v8 d4;have r4:=Kf v8 k6 z4
           have k8:=Lc u0
           go_wp2_with fail
           refine hK.out _ _ trivial (fun hHeld=>?_)
           clear hK K
           refine Rdy 7 rfl (fun K hK=>?_)
           go_simp
           refine hK.out _ _ trivial (fun hHeld=>?_)
           clear hK K
           refine Dn ?_
           go_wp2_with fail
           go_meet
           exact set5 u0 u1 u2 u3 u4 (Chg.of_below v8)
          exact AllReadyH.nil
         exact AllReadyH.nil
        refine AllReadyH.cons rfl (fun K hK=>?_) ?_
        ·go_simp
         go_at_call 108
         refine (l8Target_any x _).mono ?_
         rw [j4.out]
         rintro e nA ⟨rfl,hb⟩
         have d0_11:=Kc hb k3
         have d1_11:=Kc hb n4
         have d2_11:=Kc hb p4
         have d3_11:=Kc hb q4
         have d4_11:=Kc hb s4
         have dP_11:=Kc hb n3
         have r6:=btr D hb
         have t8:=Lc d0_11;have m8:=Lc dP_11
         clear hb
         go_wp2_with fail
         refine hK.out _ _ trivial (fun hHeld=>?_)
         clear hK K
         refine tq 4 92 rfl rfl ?_ ?_ ?_
         rotate_left
         ·intro W' hSw;go_simp;try with_reducible rfl
         try simp only [Ep]
         refine wpAnyH_ready (rs:=[0,5]) (by kernel_rfl) (by simp) ?_
         refine AllReadyH.cons rfl (fun K hK=>?_) ?_
         ·go_simp
          refine hK.out _ _ trivial (fun hHeld=>?_)
          clear hK K
          refine wpAnyH_ready (rs:=[5]) (by kernel_rfl) (by simp) ?_
          refine AllReadyH.cons rfl (fun K hK=>?_) ?_
          ·go_simp
           refine hK.out _ _ trivial (fun hHeld=>?_)
           clear hK K
           refine Rdy 6 rfl (fun K hK=>?_)
           go_simp
           go_at_call 109
           refine (l8Aim_any x _ _ g3.out).mono ?_
           rintro e w8 ⟨rfl,b8⟩
           have v8:=btr r6 b8
           have u0:=Kc v8 d0;have r0:=Kf v8 k6 z0
           have u1:=Kc v8 d1;have r1:=Kf v8 k6 z1
           have u2:=Kc v8 d2;have r2:=Kf v8 k6 z2
           have u3:=Kc v8 d3;have r3:=Kf v8 k6 z3
           have u4:=Kc v8 d4;have r4:=Kf v8 k6 z4
           have k8:=Lc u0
           go_wp2_with fail
           refine hK.out _ _ trivial (fun hHeld=>?_)
           clear hK K
           refine Rdy 7 rfl (fun K hK=>?_)
           go_simp
           refine hK.out _ _ trivial (fun hHeld=>?_)
           clear hK K
           refine Dn ?_
           go_wp2_with fail
           go_meet
           exact set5 u0 u1 u2 u3 u4 (Chg.of_below v8)
          exact AllReadyH.nil
         refine AllReadyH.cons rfl (fun K hK=>?_) ?_
         ·go_simp
          refine hK.out _ _ trivial (fun hHeld=>?_)
          clear hK K
          refine wpAnyH_ready (rs:=[0]) (by kernel_rfl) (by simp) ?_
          refine AllReadyH.cons rfl (fun K hK=>?_) ?_
          ·go_simp
           refine hK.out _ _ trivial (fun hHeld=>?_)
           clear hK K
           refine Rdy 6 rfl (fun K hK=>?_)
           go_simp
           go_at_call 109
           refine (l8Aim_any x _ _ g3.out).mono ?_
           rintro e w8 ⟨rfl,b8⟩
           have v8:=btr r6 b8
           have u0:=Kc v8 d0;have r0:=Kf v8 k6 z0
           have u1:=Kc v8 d1;have r1:=Kf v8 k6 z1
           have u2:=Kc v8 d2;have r2:=Kf v8 k6 z2
           have u3:=Kc v8 d3;have r3:=Kf v8 k6 z3
           have u4:=Kc v8 d4;have r4:=Kf v8 k6 z4
           have k8:=Lc u0
           go_wp2_with fail
           refine hK.out _ _ trivial (fun hHeld=>?_)
           clear hK K
           refine Rdy 7 rfl (fun K hK=>?_)
           go_simp
           refine hK.out _ _ trivial (fun hHeld=>?_)
           clear hK K
           refine Dn ?_
           go_wp2_with fail
           go_meet
           exact set5 u0 u1 u2 u3 u4 (Chg.of_below v8)
          exact AllReadyH.nil
         exact AllReadyH.nil
        exact AllReadyH.nil
       exact AllReadyH.nil
      obtain ⟨w9,rfl⟩:∃ W,W=wc:=⟨_,rfl⟩
      obtain ⟨d0,d1,d2,d3,d4,w0⟩:=hcut
      replace m0:=Gc w0 m0 (by omega);replace m1:=Gc w0 m1 (by omega);replace mf:=Gf w0 (by omega) mf (by omega);replace m2:=Gc w0 m2 (by omega)
      have C9:Chg (fun q=>q=bb) w7 w9:=⟨w0.os.trans C6.os,w0.tape.trans C6.tape,w0.output.trans C6.output,by have:=w0.size;omega,fun q hq hn=>(w0.block q (by omega) (by omega)).trans (C6.block q hq hn)⟩
      have o9:=Ow o6 w0 (fun q h h2=>by have:=iv q h;omega)
      have l7:=w0.size
      have k9:=Lc d0
      replace w3:=Lc m2
      clear w0 C6 o6 D
      go_wp2_with (at_builtin;refine wpList_ap tInstrs rfl _ _ rfl w7.heap.size _ (cnt c.list k) _ rfl o9 [.int .i64 ((aim x (cnt c.list nt:Nat))).op,.int .i64 ((aim x (cnt c.list nt:Nat))).a,.int .i64 ((aim x (cnt c.list nt:Nat))).b,.int .i64 ((aim x (cnt c.list nt:Nat))).c,.int .i64 ((aim x (cnt c.list nt:Nat))).d] rfl rfl (one_insc ((aim x (cnt c.list nt:Nat)))) (by omega) (by omega) ?_)
      intro g9 c9 wz ho hc hg
      have b1:=o9.lt
      have d6:=hc.size
      replace m2:=Gc hc m2 (fun h=>by have:=b1 _ h;omega);replace mf:=Gf hc w3 mf (fun h=>by have:=b1 _ h;omega)
      replace m0:=Nn (b:=bb) (j:=2) (Gc hc m0 (fun h=>by have:=b1 _ h;omega)) (.slice (some ⟨g9,0,none⟩) (cnt c.list k+1) c9)
      replace m1:=Nn (b:=bb) (j:=2) (Gc hc m1 (fun h=>by have:=b1 _ h;omega)) (.slice (some ⟨g9,0,none⟩) (cnt c.list k+1) c9)
      have m3:=Tc wz bb 2 (.slice (some ⟨g9,0,none⟩) (cnt c.list k+1) c9) m2
      have mg:=Fs (b:=⟨bb,2,none⟩) mf (.slice (some ⟨g9,0,none⟩) (cnt c.list k+1) c9)
      have oo:=Oe ho bb 2 (fun h=>by have e:g9=bb:=Option.some.inj h;have:=ho.lt _ rfl;simp only at this;omega) (.slice (some ⟨g9,0,none⟩) (cnt c.list k+1) c9)
      have C2:Chg (fun q=>q=bb) w7 wz:=⟨hc.os.trans C9.os,hc.tape.trans C9.tape,hc.output.trans C9.output,by omega,fun q hq hn=>(hc.block q (by omega) (fun h=>by have:=b1 _ h;omega)).trans (C9.block q hq hn)⟩
      have C3:=C2.setCell bb 2 (.slice (some ⟨g9,0,none⟩) (cnt c.list k+1) c9) (fun _=>rfl)
      have t5:=Lc m2
      clear hc hg ho C9 C2 o9
      rw [show inss (fenceTo c.list k)++[Value.int .i64 ((aim x (cnt c.list nt:Nat))).op,Value.int .i64 ((aim x (cnt c.list nt:Nat))).a,Value.int .i64 ((aim x (cnt c.list nt:Nat))).b,Value.int .i64 ((aim x (cnt c.list nt:Nat))).c,Value.int .i64 ((aim x (cnt c.list nt:Nat))).d]=inss (fenceTo c.list (k+1)) from by rw [q5.out,i4.out,f3.out];simp [rows_append,rows];rfl] at oo
      have i2:cnt c.list k+1=cnt c.list (k+1):=by rw [b5.out,f3.out];simp
      have f4:=Lib.hid i2;clear i2
      go_wp2
      go_roundw
      case rel=>exact ⟨k+1,_,by omega,by go_num,m3,mg,m0,m1,by rw [← f4.out];exact oo,C3⟩
      case measure=>simp [intOf];omega
     have i4:Hid (fx c.list x=x):=Lib.hid (by unfold fx;rw [if_neg ht])
     have i7:¬0≤tgt x:=ht
     go_wp2_with (at_builtin;refine wpList_ap tInstrs rfl _ _ rfl w7.heap.size _ (cnt c.list k) _ rfl o6 [.int .i64 (x).op,.int .i64 (x).a,.int .i64 (x).b,.int .i64 (x).c,.int .i64 (x).d] rfl rfl (one_insc (x)) (by omega) (by omega) ?_)
     intro g9 c9 wz ho hc hg
     have b1:=o6.lt
     have d6:=hc.size
     replace m2:=Gc hc m2 (fun h=>by have:=b1 _ h;omega);replace mf:=Gf hc w3 mf (fun h=>by have:=b1 _ h;omega)
     replace m0:=Nn (b:=bb) (j:=2) (Gc hc m0 (fun h=>by have:=b1 _ h;omega)) (.slice (some ⟨g9,0,none⟩) (cnt c.list k+1) c9)
     replace m1:=Nn (b:=bb) (j:=2) (Gc hc m1 (fun h=>by have:=b1 _ h;omega)) (.slice (some ⟨g9,0,none⟩) (cnt c.list k+1) c9)
     have m3:=Tc wz bb 2 (.slice (some ⟨g9,0,none⟩) (cnt c.list k+1) c9) m2
     have mg:=Fs (b:=⟨bb,2,none⟩) mf (.slice (some ⟨g9,0,none⟩) (cnt c.list k+1) c9)
     have oo:=Oe ho bb 2 (fun h=>by have e:g9=bb:=Option.some.inj h;have:=ho.lt _ rfl;simp only at this;omega) (.slice (some ⟨g9,0,none⟩) (cnt c.list k+1) c9)
     have C2:Chg (fun q=>q=bb) w7 wz:=⟨hc.os.trans C6.os,hc.tape.trans C6.tape,hc.output.trans C6.output,by omega,fun q hq hn=>(hc.block q (by omega) (fun h=>by have:=b1 _ h;omega)).trans (C6.block q hq hn)⟩
     have C3:=C2.setCell bb 2 (.slice (some ⟨g9,0,none⟩) (cnt c.list k+1) c9) (fun _=>rfl)
     have t5:=Lc m2
     clear hc hg ho C6 C2 o6
     rw [show inss (fenceTo c.list k)++[Value.int .i64 (x).op,Value.int .i64 (x).a,Value.int .i64 (x).b,Value.int .i64 (x).c,Value.int .i64 (x).d]=inss (fenceTo c.list (k+1)) from by rw [q5.out,i4.out,f3.out];simp [rows_append,rows];rfl] at oo
     have i2:cnt c.list k+1=cnt c.list (k+1):=by rw [b5.out,f3.out];simp
     have f4:=Lib.hid i2;clear i2
     go_wp2
     go_roundw
     case rel=>exact ⟨k+1,_,by omega,by go_num,m3,mg,m0,m1,by rw [← f4.out];exact oo,C3⟩
     case measure=>simp [intOf];omega
    | true =>
     by_cases h12:(x.op == 12)=true
     ·have h1:(x.op != 12)=false:=by unfold bne;rw [h12];rfl
      have i5:=Lib.hid h12;clear h12
      have f3:Hid (needAt c.list k=false):=Lib.hid (by rw [j5.out,i5.out];rfl)
      go_wp2_with fail
      refine (l8Target_any x _).mono ?_
      rintro e w6 ⟨rfl,i0⟩
      replace d0:=Kc i0 d0;replace z0:=Kf i0 (by omega) z0
      replace d1:=Kc i0 d1;replace z1:=Kf i0 (by omega) z1
      replace d2:=Kc i0 d2;replace z2:=Kf i0 (by omega) z2
      replace d3:=Kc i0 d3;replace z3:=Kf i0 (by omega) z3
      replace d4:=Kc i0 d4;replace z4:=Kf i0 (by omega) z4
      replace m0:=Kc i0 m0;replace m1:=Kc i0 m1;replace mf:=Kf i0 (by omega) mf;replace m2:=Kc i0 m2
      have o6:=Ob o5 i0;have C6:=d5.trans (Chg.of_below (S:=fun q=>q=bb) i0)
      have k7:=i0.size;have k6:=Lc d0;have y5:=Lc m2;replace w3:=y5
      clear i0 o5 d5
      by_cases ht:0≤tgt x
      ·obtain ⟨t1,t2⟩:=HT.out ht
       obtain ⟨nt,o3⟩:∃ nt:Nat,tgt x=nt:=⟨(tgt x).toNat,by omega⟩
       have i4:Hid (fx c.list x=aim x (cnt c.list nt:Nat)):=Lib.hid (by unfold fx;rw [if_pos ht,o3,Int.toNat_natCast])
       have j4:=Lib.hid o3
       rw [o3] at t1 ⊢
       have x4:nt < c.list.length:=by omega
       have hq:(nt:Int) < (c.list.length:Int):=by omega
       have f7:(0:Int)≤(nt:Int):=by omega
       have y4:=Ow oA C6 (fun q h h2=>by have:=iA q h;have:=m5 q h;omega)
       obtain ⟨ga,q7,g5⟩:=own_pos y4 (by omega)
       simp only [Value.slice.injEq,true_and] at g5
       obtain ⟨rfl,rfl⟩:=g5
       have yP:=y4.cellAt nt (by omega)
       rw [ints_at _ _ (by rw [places_len];exact x4),places_get] at yP
       have kP:=Lc yP
       have g3:=Lib.hid t2
       clear t1 t2 ht o3 y4
       go_upto_region 23 with (fail)
       have D:=Below.drew (Bs w6)
       go_cut [94] (fun _ wx=>wx.cell? ⟨wr.heap.size,0,none⟩=some (.int .i64 (aim x (cnt c.list nt:Nat)).op)∧wx.cell? ⟨wr.heap.size,1,none⟩=some (.int .i64 (aim x (cnt c.list nt:Nat)).a)∧wx.cell? ⟨wr.heap.size,2,none⟩=some (.int .i64 (aim x (cnt c.list nt:Nat)).b)∧wx.cell? ⟨wr.heap.size,3,none⟩=some (.int .i64 (aim x (cnt c.list nt:Nat)).c)∧wx.cell? ⟨wr.heap.size,4,none⟩=some (.int .i64 (aim x (cnt c.list nt:Nat)).d)∧Chg (fun q=>q=wr.heap.size) w6 wx)
       case first =>
        refine wp_region_noPanic ?_
        refine wp_region_held_drew (S:=fun _=>True) (by kernel_rfl) trivial (fun hHeld=>?_)
        obtain ⟨wd,h5⟩:∃ X,X=World.drew w6:=⟨_,rfl⟩
        rw [← h5] at D ⊢
        clear h5
        have k3:=Kc D d0
        have n4:=Kc D d1
        have p4:=Kc D d2
        have q4:=Kc D d3
        have s4:=Kc D d4
        have n3:=Kc D yP
        have m7:=Lc k3;have n7:=Lc n3
        refine tq 1 89 rfl rfl ?_ ?_ ?_
        rotate_left
        ·intro W' hSw;go_simp;try with_reducible rfl
        try simp only [Ep]
        refine wpAnyH_ready (rs:=[0,2]) (by kernel_rfl) (by simp) ?_
        refine AllReadyH.cons rfl (fun K hK=>?_) ?_
        ·go_simp
         refine hK.out _ _ trivial (fun hHeld=>?_)
         clear hK K
         refine wpAnyH_ready (rs:=[2]) (by kernel_rfl) (by simp) ?_
         refine AllReadyH.cons rfl (fun K hK=>?_) ?_
         ·go_simp
          refine hK.out _ _ trivial (fun hHeld=>?_)
          clear hK K
          refine wpAnyH_ready (rs:=[3]) (by kernel_rfl) (by simp) ?_
          refine AllReadyH.cons rfl (fun K hK=>?_) ?_
          ·go_simp
           go_at_call 108
           refine (l8Target_any x _).mono ?_
           rw [j4.out]
           rintro e pA ⟨rfl,hb⟩
           have d0_20:=Kc hb k3
           have d1_20:=Kc hb n4
           have d2_20:=Kc hb p4
           have d3_20:=Kc hb q4
           have d4_20:=Kc hb s4
           have dP_20:=Kc hb n3
           have r7:=btr D hb
           have u8:=Lc d0_20;have n8:=Lc dP_20
           clear hb
           go_wp2_with fail
           refine hK.out _ _ trivial (fun hHeld=>?_)
           clear hK K
           refine tq 4 92 rfl rfl ?_ ?_ ?_
           rotate_left
           ·intro W' hSw;go_simp;try with_reducible rfl
           try simp only [Ep]
           refine wpAnyH_ready (rs:=[5]) (by kernel_rfl) (by simp) ?_
           refine AllReadyH.cons rfl (fun K hK=>?_) ?_
           ·go_simp
            refine hK.out _ _ trivial (fun hHeld=>?_)
            clear hK K
            refine Rdy 6 rfl (fun K hK=>?_)
            go_simp
            go_at_call 109
            refine (l8Aim_any x _ _ g3.out).mono ?_
            rintro e w8 ⟨rfl,b8⟩
            have v8:=btr r7 b8
            have u0:=Kc v8 d0;have r0:=Kf v8 k6 z0
            have u1:=Kc v8 d1;have r1:=Kf v8 k6 z1
            have u2:=Kc v8 d2;have r2:=Kf v8 k6 z2
            have u3:=Kc v8 d3;have r3:=Kf v8 k6 z3
            have u4:=Kc v8 d4;have r4:=Kf v8 k6 z4
            have k8:=Lc u0
            go_wp2_with fail
            refine hK.out _ _ trivial (fun hHeld=>?_)
            clear hK K
            refine Rdy 7 rfl (fun K hK=>?_)
            go_simp
            refine hK.out _ _ trivial (fun hHeld=>?_)
            clear hK K
            refine Dn ?_
            go_wp2_with fail
            go_meet
            exact set5 u0 u1 u2 u3 u4 (Chg.of_below v8)
           exact AllReadyH.nil
          exact AllReadyH.nil
         exact AllReadyH.nil
        refine AllReadyH.cons rfl (fun K hK=>?_) ?_
        ·go_simp
         refine hK.out _ _ trivial (fun hHeld=>?_)
         clear hK K
         refine wpAnyH_ready (rs:=[0,3]) (by kernel_rfl) (by simp) ?_
         refine AllReadyH.cons rfl (fun K hK=>?_) ?_
         ·go_simp
          refine hK.out _ _ trivial (fun hHeld=>?_)
          clear hK K
          refine wpAnyH_ready (rs:=[3]) (by kernel_rfl) (by simp) ?_
          refine AllReadyH.cons rfl (fun K hK=>?_) ?_
          ·go_simp
           go_at_call 108
           refine (l8Target_any x _).mono ?_
           rw [j4.out]
           rintro e qA ⟨rfl,hb⟩
           have d0_25:=Kc hb k3
           have d1_25:=Kc hb n4
           have d2_25:=Kc hb p4
           have d3_25:=Kc hb q4
           have d4_25:=Kc hb s4
           have dP_25:=Kc hb n3
           have s7:=btr D hb
           have x8:=Lc d0_25;have o8:=Lc dP_25
           clear hb
           go_wp2_with fail
           refine hK.out _ _ trivial (fun hHeld=>?_)
           clear hK K
           refine tq 4 92 rfl rfl ?_ ?_ ?_
           rotate_left
           ·intro W' hSw;go_simp;try with_reducible rfl
           try simp only [Ep]
           refine wpAnyH_ready (rs:=[5]) (by kernel_rfl) (by simp) ?_
           refine AllReadyH.cons rfl (fun K hK=>?_) ?_
           ·go_simp
            refine hK.out _ _ trivial (fun hHeld=>?_)
            clear hK K
            refine Rdy 6 rfl (fun K hK=>?_)
            go_simp
            go_at_call 109
            refine (l8Aim_any x _ _ g3.out).mono ?_
            rintro e w8 ⟨rfl,b8⟩
            have v8:=btr s7 b8
            have u0:=Kc v8 d0;have r0:=Kf v8 k6 z0
            have u1:=Kc v8 d1;have r1:=Kf v8 k6 z1
            have u2:=Kc v8 d2;have r2:=Kf v8 k6 z2
            have u3:=Kc v8 d3;have r3:=Kf v8 k6 z3
            have u4:=Kc v8 d4;have r4:=Kf v8 k6 z4
            have k8:=Lc u0
            go_wp2_with fail
            refine hK.out _ _ trivial (fun hHeld=>?_)
            clear hK K
            refine Rdy 7 rfl (fun K hK=>?_)
            go_simp
            refine hK.out _ _ trivial (fun hHeld=>?_)
            clear hK K
            refine Dn ?_
            go_wp2_with fail
            go_meet
            exact set5 u0 u1 u2 u3 u4 (Chg.of_below v8)
           exact AllReadyH.nil
          exact AllReadyH.nil
         refine AllReadyH.cons rfl (fun K hK=>?_) ?_
         ·go_simp
          go_at_call 108
          refine (l8Target_any x _).mono ?_
          rw [j4.out]
          rintro e rA ⟨rfl,hb⟩
          have d0_28:=Kc hb k3
          have d1_28:=Kc hb n4
          have d2_28:=Kc hb p4
          have d3_28:=Kc hb q4
          have d4_28:=Kc hb s4
          have dP_28:=Kc hb n3
          have s6:=btr D hb
          have z8:=Lc d0_28;have p8:=Lc dP_28
          clear hb
          go_wp2_with fail
          refine hK.out _ _ trivial (fun hHeld=>?_)
          clear hK K
          refine tq 4 92 rfl rfl ?_ ?_ ?_
          rotate_left
          ·intro W' hSw;go_simp;try with_reducible rfl
          try simp only [Ep]
          refine wpAnyH_ready (rs:=[0,5]) (by kernel_rfl) (by simp) ?_
          refine AllReadyH.cons rfl (fun K hK=>?_) ?_
          ·go_simp
           refine hK.out _ _ trivial (fun hHeld=>?_)
           clear hK K
           refine wpAnyH_ready (rs:=[5]) (by kernel_rfl) (by simp) ?_
           refine AllReadyH.cons rfl (fun K hK=>?_) ?_
           ·go_simp
            refine hK.out _ _ trivial (fun hHeld=>?_)
            clear hK K
            refine Rdy 6 rfl (fun K hK=>?_)
            go_simp
            go_at_call 109
            refine (l8Aim_any x _ _ g3.out).mono ?_
            rintro e w8 ⟨rfl,b8⟩
            have v8:=btr s6 b8
            have u0:=Kc v8 d0;have r0:=Kf v8 k6 z0
            have u1:=Kc v8 d1;have r1:=Kf v8 k6 z1
            have u2:=Kc v8 d2;have r2:=Kf v8 k6 z2
            have u3:=Kc v8 d3;have r3:=Kf v8 k6 z3
            have u4:=Kc v8 d4;have r4:=Kf v8 k6 z4
            have k8:=Lc u0
            go_wp2_with fail
            refine hK.out _ _ trivial (fun hHeld=>?_)
            clear hK K
            refine Rdy 7 rfl (fun K hK=>?_)
            go_simp
            refine hK.out _ _ trivial (fun hHeld=>?_)
            clear hK K
            refine Dn ?_
            go_wp2_with fail
            go_meet
            exact set5 u0 u1 u2 u3 u4 (Chg.of_below v8)
           exact AllReadyH.nil
          refine AllReadyH.cons rfl (fun K hK=>?_) ?_
          ·go_simp
           refine hK.out _ _ trivial (fun hHeld=>?_)
           clear hK K
           refine wpAnyH_ready (rs:=[0]) (by kernel_rfl) (by simp) ?_
           refine AllReadyH.cons rfl (fun K hK=>?_) ?_
           ·go_simp
            refine hK.out _ _ trivial (fun hHeld=>?_)
            clear hK K
            refine Rdy 6 rfl (fun K hK=>?_)
            go_simp
            go_at_call 109
            refine (l8Aim_any x _ _ g3.out).mono ?_
            rintro e w8 ⟨rfl,b8⟩
            have v8:=btr s6 b8
            have u0:=Kc v8 d0;have r0:=Kf v8 k6 z0
            have u1:=Kc v8 d1;have r1:=Kf v8 k6 z1
            have u2:=Kc v8 d2;have r2:=Kf v8 k6 z2
            have u3:=Kc v8 d3;have r3:=Kf v8 k6 z3
            have u4:=Kc v8 d4;have r4:=Kf v8 k6 z4
            have k8:=Lc u0
            go_wp2_with fail
            refine hK.out _ _ trivial (fun hHeld=>?_)
            clear hK K
            refine Rdy 7 rfl (fun K hK=>?_)
            go_simp
            refine hK.out _ _ trivial (fun hHeld=>?_)
            clear hK K
            refine Dn ?_
            go_wp2_with fail
            go_meet
            exact set5 u0 u1 u2 u3 u4 (Chg.of_below v8)
           exact AllReadyH.nil
          exact AllReadyH.nil
         exact AllReadyH.nil
        exact AllReadyH.nil
       obtain ⟨w9,rfl⟩:∃ W,W=wc:=⟨_,rfl⟩
       obtain ⟨d0,d1,d2,d3,d4,w0⟩:=hcut
       replace m0:=Gc w0 m0 (by omega);replace m1:=Gc w0 m1 (by omega);replace mf:=Gf w0 (by omega) mf (by omega);replace m2:=Gc w0 m2 (by omega)
       have C9:Chg (fun q=>q=bb) w7 w9:=⟨w0.os.trans C6.os,w0.tape.trans C6.tape,w0.output.trans C6.output,by have:=w0.size;omega,fun q hq hn=>(w0.block q (by omega) (by omega)).trans (C6.block q hq hn)⟩
       have o9:=Ow o6 w0 (fun q h h2=>by have:=iv q h;omega)
       have l7:=w0.size
       have k9:=Lc d0
       replace w3:=Lc m2
       clear w0 C6 o6 D
       go_wp2_with (at_builtin;refine wpList_ap tInstrs rfl _ _ rfl w7.heap.size _ (cnt c.list k) _ rfl o9 [.int .i64 ((aim x (cnt c.list nt:Nat))).op,.int .i64 ((aim x (cnt c.list nt:Nat))).a,.int .i64 ((aim x (cnt c.list nt:Nat))).b,.int .i64 ((aim x (cnt c.list nt:Nat))).c,.int .i64 ((aim x (cnt c.list nt:Nat))).d] rfl rfl (one_insc ((aim x (cnt c.list nt:Nat)))) (by omega) (by omega) ?_)
       intro g9 c9 wz ho hc hg
       have b1:=o9.lt
       have d6:=hc.size
       replace m2:=Gc hc m2 (fun h=>by have:=b1 _ h;omega);replace mf:=Gf hc w3 mf (fun h=>by have:=b1 _ h;omega)
       replace m0:=Nn (b:=bb) (j:=2) (Gc hc m0 (fun h=>by have:=b1 _ h;omega)) (.slice (some ⟨g9,0,none⟩) (cnt c.list k+1) c9)
       replace m1:=Nn (b:=bb) (j:=2) (Gc hc m1 (fun h=>by have:=b1 _ h;omega)) (.slice (some ⟨g9,0,none⟩) (cnt c.list k+1) c9)
       have m3:=Tc wz bb 2 (.slice (some ⟨g9,0,none⟩) (cnt c.list k+1) c9) m2
       have mg:=Fs (b:=⟨bb,2,none⟩) mf (.slice (some ⟨g9,0,none⟩) (cnt c.list k+1) c9)
       have oo:=Oe ho bb 2 (fun h=>by have e:g9=bb:=Option.some.inj h;have:=ho.lt _ rfl;simp only at this;omega) (.slice (some ⟨g9,0,none⟩) (cnt c.list k+1) c9)
       have C2:Chg (fun q=>q=bb) w7 wz:=⟨hc.os.trans C9.os,hc.tape.trans C9.tape,hc.output.trans C9.output,by omega,fun q hq hn=>(hc.block q (by omega) (fun h=>by have:=b1 _ h;omega)).trans (C9.block q hq hn)⟩
       have C3:=C2.setCell bb 2 (.slice (some ⟨g9,0,none⟩) (cnt c.list k+1) c9) (fun _=>rfl)
       have t5:=Lc m2
       clear hc hg ho C9 C2 o9
       rw [show inss (fenceTo c.list k)++[Value.int .i64 ((aim x (cnt c.list nt:Nat))).op,Value.int .i64 ((aim x (cnt c.list nt:Nat))).a,Value.int .i64 ((aim x (cnt c.list nt:Nat))).b,Value.int .i64 ((aim x (cnt c.list nt:Nat))).c,Value.int .i64 ((aim x (cnt c.list nt:Nat))).d]=inss (fenceTo c.list (k+1)) from by rw [q5.out,i4.out,f3.out];simp [rows_append,rows];rfl] at oo
       have i2:cnt c.list k+1=cnt c.list (k+1):=by rw [b5.out,f3.out];simp
       have f4:=Lib.hid i2;clear i2
       go_wp2
       go_roundw
       case rel=>exact ⟨k+1,_,by omega,by go_num,m3,mg,m0,m1,by rw [← f4.out];exact oo,C3⟩
       case measure=>simp [intOf];omega
      have i4:Hid (fx c.list x=x):=Lib.hid (by unfold fx;rw [if_neg ht])
      have i7:¬0≤tgt x:=ht
      go_wp2_with (at_builtin;refine wpList_ap tInstrs rfl _ _ rfl w7.heap.size _ (cnt c.list k) _ rfl o6 [.int .i64 (x).op,.int .i64 (x).a,.int .i64 (x).b,.int .i64 (x).c,.int .i64 (x).d] rfl rfl (one_insc (x)) (by omega) (by omega) ?_)
      intro g9 c9 wz ho hc hg
      have b1:=o6.lt
      have d6:=hc.size
      replace m2:=Gc hc m2 (fun h=>by have:=b1 _ h;omega);replace mf:=Gf hc w3 mf (fun h=>by have:=b1 _ h;omega)
      replace m0:=Nn (b:=bb) (j:=2) (Gc hc m0 (fun h=>by have:=b1 _ h;omega)) (.slice (some ⟨g9,0,none⟩) (cnt c.list k+1) c9)
      replace m1:=Nn (b:=bb) (j:=2) (Gc hc m1 (fun h=>by have:=b1 _ h;omega)) (.slice (some ⟨g9,0,none⟩) (cnt c.list k+1) c9)
      have m3:=Tc wz bb 2 (.slice (some ⟨g9,0,none⟩) (cnt c.list k+1) c9) m2
      have mg:=Fs (b:=⟨bb,2,none⟩) mf (.slice (some ⟨g9,0,none⟩) (cnt c.list k+1) c9)
      have oo:=Oe ho bb 2 (fun h=>by have e:g9=bb:=Option.some.inj h;have:=ho.lt _ rfl;simp only at this;omega) (.slice (some ⟨g9,0,none⟩) (cnt c.list k+1) c9)
      have C2:Chg (fun q=>q=bb) w7 wz:=⟨hc.os.trans C6.os,hc.tape.trans C6.tape,hc.output.trans C6.output,by omega,fun q hq hn=>(hc.block q (by omega) (fun h=>by have:=b1 _ h;omega)).trans (C6.block q hq hn)⟩
      have C3:=C2.setCell bb 2 (.slice (some ⟨g9,0,none⟩) (cnt c.list k+1) c9) (fun _=>rfl)
      have t5:=Lc m2
      clear hc hg ho C6 C2 o6
      rw [show inss (fenceTo c.list k)++[Value.int .i64 (x).op,Value.int .i64 (x).a,Value.int .i64 (x).b,Value.int .i64 (x).c,Value.int .i64 (x).d]=inss (fenceTo c.list (k+1)) from by rw [q5.out,i4.out,f3.out];simp [rows_append,rows];rfl] at oo
      have i2:cnt c.list k+1=cnt c.list (k+1):=by rw [b5.out,f3.out];simp
      have f4:=Lib.hid i2;clear i2
      go_wp2
      go_roundw
      case rel=>exact ⟨k+1,_,by omega,by go_num,m3,mg,m0,m1,by rw [← f4.out];exact oo,C3⟩
      case measure=>simp [intOf];omega
     have h12f:(x.op == 12)=false:=by simpa using h12
     have h1:(x.op != 12)=true:=by unfold bne;rw [h12f];rfl
     have i5:=Lib.hid h12f;clear h12 h12f
     have f3:Hid (needAt c.list k=true):=Lib.hid (by rw [j5.out,i5.out];rfl)
     go_wp2_with (at_builtin;refine wpList_ap tInstrs rfl _ _ rfl w7.heap.size _ (cnt c.list k) _ rfl o5 [.int .i64 12,.int .i64 0,.int .i64 0,.int .i64 0,.int .i64 0] rfl rfl (one_insc (fence)) (by omega) (by omega) ?_)
     intro g7 c7 wy ho hc hg
     have x5:=o5.lt
     have xA:=hc.size
     replace m2:=Gc hc m2 (fun h=>by have:=x5 _ h;omega);replace mf:=Gf hc w3 mf (fun h=>by have:=x5 _ h;omega)
     replace m0:=Nn (b:=bb) (j:=2) (Gc hc m0 (fun h=>by have:=x5 _ h;omega)) (.slice (some ⟨g7,0,none⟩) (cnt c.list k+1) c7)
     replace m1:=Nn (b:=bb) (j:=2) (Gc hc m1 (fun h=>by have:=x5 _ h;omega)) (.slice (some ⟨g7,0,none⟩) (cnt c.list k+1) c7)
     have m3:=Tc wy bb 2 (.slice (some ⟨g7,0,none⟩) (cnt c.list k+1) c7) m2
     have mg:=Fs (b:=⟨bb,2,none⟩) mf (.slice (some ⟨g7,0,none⟩) (cnt c.list k+1) c7)
     have oo:=Oe ho bb 2 (fun h=>by have e:g7=bb:=Option.some.inj h;have:=ho.lt _ rfl;simp only at this;omega) (.slice (some ⟨g7,0,none⟩) (cnt c.list k+1) c7)
     have C2:Chg (fun q=>q=bb) w7 wy:=⟨hc.os.trans d5.os,hc.tape.trans d5.tape,hc.output.trans d5.output,by omega,fun q hq hn=>(hc.block q (by omega) (fun h=>by have:=x5 _ h;omega)).trans (d5.block q hq hn)⟩
     have C3:=C2.setCell bb 2 (.slice (some ⟨g7,0,none⟩) (cnt c.list k+1) c7) (fun _=>rfl)
     have t5:=Lc m2
     replace d0:=Nn (b:=bb) (j:=2) (Gc hc d0 (fun h=>by have:=iv _ h;omega)) (.slice (some ⟨g7,0,none⟩) (cnt c.list k+1) c7);replace z0:=Fs (b:=⟨bb,2,none⟩) (Gf hc kd z0 (fun h=>by have:=iv _ h;omega)) (.slice (some ⟨g7,0,none⟩) (cnt c.list k+1) c7)
     replace d1:=Nn (b:=bb) (j:=2) (Gc hc d1 (fun h=>by have:=iv _ h;omega)) (.slice (some ⟨g7,0,none⟩) (cnt c.list k+1) c7);replace z1:=Fs (b:=⟨bb,2,none⟩) (Gf hc kd z1 (fun h=>by have:=iv _ h;omega)) (.slice (some ⟨g7,0,none⟩) (cnt c.list k+1) c7)
     replace d2:=Nn (b:=bb) (j:=2) (Gc hc d2 (fun h=>by have:=iv _ h;omega)) (.slice (some ⟨g7,0,none⟩) (cnt c.list k+1) c7);replace z2:=Fs (b:=⟨bb,2,none⟩) (Gf hc kd z2 (fun h=>by have:=iv _ h;omega)) (.slice (some ⟨g7,0,none⟩) (cnt c.list k+1) c7)
     replace d3:=Nn (b:=bb) (j:=2) (Gc hc d3 (fun h=>by have:=iv _ h;omega)) (.slice (some ⟨g7,0,none⟩) (cnt c.list k+1) c7);replace z3:=Fs (b:=⟨bb,2,none⟩) (Gf hc kd z3 (fun h=>by have:=iv _ h;omega)) (.slice (some ⟨g7,0,none⟩) (cnt c.list k+1) c7)
     replace d4:=Nn (b:=bb) (j:=2) (Gc hc d4 (fun h=>by have:=iv _ h;omega)) (.slice (some ⟨g7,0,none⟩) (cnt c.list k+1) c7);replace z4:=Fs (b:=⟨bb,2,none⟩) (Gf hc kd z4 (fun h=>by have:=iv _ h;omega)) (.slice (some ⟨g7,0,none⟩) (cnt c.list k+1) c7)
     have aA:¬g7=wr.heap.size:=fun e=>by rcases hg with h | h;exact absurd (iv _ h).2 (by omega);omega
     clear hc hg ho d5 C2 o5
     rw [show inss (fenceTo c.list k)++[Value.int .i64 12,Value.int .i64 0,Value.int .i64 0,Value.int .i64 0,Value.int .i64 0]=inss (fenceTo c.list k++[fence]) from by rw [inss,inss,rows_append];rfl] at oo
     go_upto_region 22 with (fail)
     obtain ⟨wq,l6⟩:∃ X,X=World.setCell wy ⟨bb,2,none⟩ (.slice (some ⟨g7,0,none⟩) (cnt c.list k+1) c7):=⟨_,rfl⟩
     rw [← l6] at d0 d1 d2 d3 d4 z0 z1 z2 z3 z4 m0 m1 m3 mg oo C3 ⊢
     have fA:wy.heap.size≤wq.heap.size:=by rw [l6];simp
     clear l6 m2 mf
     have m2:=m3;have mf:=mg;clear m3 mg
     replace kd:=Lc d0
     replace w3:=Lc m2
     go_wp2_with fail
     refine (l8Target_any x _).mono ?_
     rintro e w6 ⟨rfl,i0⟩
     replace d0:=Kc i0 d0;replace z0:=Kf i0 (by omega) z0
     replace d1:=Kc i0 d1;replace z1:=Kf i0 (by omega) z1
     replace d2:=Kc i0 d2;replace z2:=Kf i0 (by omega) z2
     replace d3:=Kc i0 d3;replace z3:=Kf i0 (by omega) z3
     replace d4:=Kc i0 d4;replace z4:=Kf i0 (by omega) z4
     replace m0:=Kc i0 m0;replace m1:=Kc i0 m1;replace mf:=Kf i0 (by omega) mf;replace m2:=Kc i0 m2
     have o6:=Ob oo i0;have C6:=C3.trans (Chg.of_below (S:=fun q=>q=bb) i0)
     have k7:=i0.size;have k6:=Lc d0;have y5:=Lc m2;replace w3:=y5
     clear i0 oo C3
     by_cases ht:0≤tgt x
     ·obtain ⟨t1,t2⟩:=HT.out ht
      obtain ⟨nt,o3⟩:∃ nt:Nat,tgt x=nt:=⟨(tgt x).toNat,by omega⟩
      have i4:Hid (fx c.list x=aim x (cnt c.list nt:Nat)):=Lib.hid (by unfold fx;rw [if_pos ht,o3,Int.toNat_natCast])
      have j4:=Lib.hid o3
      rw [o3] at t1 ⊢
      have x4:nt < c.list.length:=by omega
      have hq:(nt:Int) < (c.list.length:Int):=by omega
      have f7:(0:Int)≤(nt:Int):=by omega
      have y4:=Ow oA C6 (fun q h h2=>by have:=iA q h;have:=m5 q h;omega)
      obtain ⟨ga,q7,g5⟩:=own_pos y4 (by omega)
      simp only [Value.slice.injEq,true_and] at g5
      obtain ⟨rfl,rfl⟩:=g5
      have yP:=y4.cellAt nt (by omega)
      rw [ints_at _ _ (by rw [places_len];exact x4),places_get] at yP
      have kP:=Lc yP
      have g3:=Lib.hid t2
      clear t1 t2 ht o3 y4
      go_upto_region 23 with (fail)
      have D:=Below.drew (Bs w6)
      go_cut [94] (fun _ wx=>wx.cell? ⟨wr.heap.size,0,none⟩=some (.int .i64 (aim x (cnt c.list nt:Nat)).op)∧wx.cell? ⟨wr.heap.size,1,none⟩=some (.int .i64 (aim x (cnt c.list nt:Nat)).a)∧wx.cell? ⟨wr.heap.size,2,none⟩=some (.int .i64 (aim x (cnt c.list nt:Nat)).b)∧wx.cell? ⟨wr.heap.size,3,none⟩=some (.int .i64 (aim x (cnt c.list nt:Nat)).c)∧wx.cell? ⟨wr.heap.size,4,none⟩=some (.int .i64 (aim x (cnt c.list nt:Nat)).d)∧Chg (fun q=>q=wr.heap.size) w6 wx)
      case first =>
       refine wp_region_noPanic ?_
       refine wp_region_held_drew (S:=fun _=>True) (by kernel_rfl) trivial (fun hHeld=>?_)
       obtain ⟨wd,h5⟩:∃ X,X=World.drew w6:=⟨_,rfl⟩
       rw [← h5] at D ⊢
       clear h5
       have k3:=Kc D d0
       have n4:=Kc D d1
       have p4:=Kc D d2
       have q4:=Kc D d3
       have s4:=Kc D d4
       have n3:=Kc D yP
       have m7:=Lc k3;have n7:=Lc n3
       refine tq 1 89 rfl rfl ?_ ?_ ?_
       rotate_left
       ·intro W' hSw;go_simp;try with_reducible rfl
       try simp only [Ep]
       refine wpAnyH_ready (rs:=[0,2]) (by kernel_rfl) (by simp) ?_
       refine AllReadyH.cons rfl (fun K hK=>?_) ?_
       ·go_simp
        refine hK.out _ _ trivial (fun hHeld=>?_)
        clear hK K
        refine wpAnyH_ready (rs:=[2]) (by kernel_rfl) (by simp) ?_
        refine AllReadyH.cons rfl (fun K hK=>?_) ?_
        ·go_simp
         refine hK.out _ _ trivial (fun hHeld=>?_)
         clear hK K
         refine wpAnyH_ready (rs:=[3]) (by kernel_rfl) (by simp) ?_
         refine AllReadyH.cons rfl (fun K hK=>?_) ?_
         ·go_simp
          go_at_call 108
          refine (l8Target_any x _).mono ?_
          rw [j4.out]
          rintro e sA ⟨rfl,hb⟩
          have d0_37:=Kc hb k3
          have d1_37:=Kc hb n4
          have d2_37:=Kc hb p4
          have d3_37:=Kc hb q4
          have d4_37:=Kc hb s4
          have dP_37:=Kc hb n3
          have u7:=btr D hb
          have a9:=Lc d0_37;have q8:=Lc dP_37
          clear hb
          go_wp2_with fail
          refine hK.out _ _ trivial (fun hHeld=>?_)
          clear hK K
          refine tq 4 92 rfl rfl ?_ ?_ ?_
          rotate_left
          ·intro W' hSw;go_simp;try with_reducible rfl
          try simp only [Ep]
          refine wpAnyH_ready (rs:=[5]) (by kernel_rfl) (by simp) ?_
          refine AllReadyH.cons rfl (fun K hK=>?_) ?_
          ·go_simp
           refine hK.out _ _ trivial (fun hHeld=>?_)
           clear hK K
           refine Rdy 6 rfl (fun K hK=>?_)
           go_simp
           go_at_call 109
           refine (l8Aim_any x _ _ g3.out).mono ?_
           rintro e w8 ⟨rfl,b8⟩
           have v8:=btr u7 b8
           have u0:=Kc v8 d0;have r0:=Kf v8 k6 z0
           have u1:=Kc v8 d1;have r1:=Kf v8 k6 z1
           have u2:=Kc v8 d2;have r2:=Kf v8 k6 z2
           have u3:=Kc v8 d3;have r3:=Kf v8 k6 z3
           have u4:=Kc v8 d4;have r4:=Kf v8 k6 z4
           have k8:=Lc u0
           go_wp2_with fail
           refine hK.out _ _ trivial (fun hHeld=>?_)
           clear hK K
           refine Rdy 7 rfl (fun K hK=>?_)
           go_simp
           refine hK.out _ _ trivial (fun hHeld=>?_)
           clear hK K
           refine Dn ?_
           go_wp2_with fail
           go_meet
           exact set5 u0 u1 u2 u3 u4 (Chg.of_below v8)
          exact AllReadyH.nil
         exact AllReadyH.nil
        exact AllReadyH.nil
       refine AllReadyH.cons rfl (fun K hK=>?_) ?_
       ·go_simp
        refine hK.out _ _ trivial (fun hHeld=>?_)
        clear hK K
        refine wpAnyH_ready (rs:=[0,3]) (by kernel_rfl) (by simp) ?_
        refine AllReadyH.cons rfl (fun K hK=>?_) ?_
        ·go_simp
         refine hK.out _ _ trivial (fun hHeld=>?_)
         clear hK K
         refine wpAnyH_ready (rs:=[3]) (by kernel_rfl) (by simp) ?_
         refine AllReadyH.cons rfl (fun K hK=>?_) ?_
         ·go_simp
          go_at_call 108
          refine (l8Target_any x _).mono ?_
          rw [j4.out]
          rintro e tA ⟨rfl,hb⟩
          have d0_42:=Kc hb k3
          have d1_42:=Kc hb n4
          have d2_42:=Kc hb p4
          have d3_42:=Kc hb q4
          have d4_42:=Kc hb s4
          have dP_42:=Kc hb n3
          have v7:=btr D hb
          have d9:=Lc d0_42;have r8:=Lc dP_42
          clear hb
          go_wp2_with fail
          refine hK.out _ _ trivial (fun hHeld=>?_)
          clear hK K
          refine tq 4 92 rfl rfl ?_ ?_ ?_
          rotate_left
          ·intro W' hSw;go_simp;try with_reducible rfl
          try simp only [Ep]
          refine wpAnyH_ready (rs:=[5]) (by kernel_rfl) (by simp) ?_
          refine AllReadyH.cons rfl (fun K hK=>?_) ?_
          ·go_simp
           refine hK.out _ _ trivial (fun hHeld=>?_)
           clear hK K
           refine Rdy 6 rfl (fun K hK=>?_)
           go_simp
           go_at_call 109
           refine (l8Aim_any x _ _ g3.out).mono ?_
           rintro e w8 ⟨rfl,b8⟩
           have v8:=btr v7 b8
           have u0:=Kc v8 d0;have r0:=Kf v8 k6 z0
           have u1:=Kc v8 d1;have r1:=Kf v8 k6 z1
           have u2:=Kc v8 d2;have r2:=Kf v8 k6 z2
           have u3:=Kc v8 d3;have r3:=Kf v8 k6 z3
           have u4:=Kc v8 d4;have r4:=Kf v8 k6 z4
           have k8:=Lc u0
           go_wp2_with fail
           refine hK.out _ _ trivial (fun hHeld=>?_)
           clear hK K
           refine Rdy 7 rfl (fun K hK=>?_)
           go_simp
           refine hK.out _ _ trivial (fun hHeld=>?_)
           clear hK K
           refine Dn ?_
           go_wp2_with fail
           go_meet
           exact set5 u0 u1 u2 u3 u4 (Chg.of_below v8)
          exact AllReadyH.nil
         exact AllReadyH.nil
        refine AllReadyH.cons rfl (fun K hK=>?_) ?_
        ·go_simp
         go_at_call 108
         refine (l8Target_any x _).mono ?_
         rw [j4.out]
         rintro e uA ⟨rfl,hb⟩
         have d0_45:=Kc hb k3
         have d1_45:=Kc hb n4
         have d2_45:=Kc hb p4
         have d3_45:=Kc hb q4
         have d4_45:=Kc hb s4
         have dP_45:=Kc hb n3
         have t6:=btr D hb
         have e9:=Lc d0_45;have s8:=Lc dP_45
         clear hb
         go_wp2_with fail
         refine hK.out _ _ trivial (fun hHeld=>?_)
         clear hK K
         refine tq 4 92 rfl rfl ?_ ?_ ?_
         rotate_left
         ·intro W' hSw;go_simp;try with_reducible rfl
         try simp only [Ep]
         refine wpAnyH_ready (rs:=[0,5]) (by kernel_rfl) (by simp) ?_
         refine AllReadyH.cons rfl (fun K hK=>?_) ?_
         ·go_simp
          refine hK.out _ _ trivial (fun hHeld=>?_)
          clear hK K
          refine wpAnyH_ready (rs:=[5]) (by kernel_rfl) (by simp) ?_
          refine AllReadyH.cons rfl (fun K hK=>?_) ?_
          ·go_simp
           refine hK.out _ _ trivial (fun hHeld=>?_)
           clear hK K
           refine Rdy 6 rfl (fun K hK=>?_)
           go_simp
           go_at_call 109
           refine (l8Aim_any x _ _ g3.out).mono ?_
           rintro e w8 ⟨rfl,b8⟩
           have v8:=btr t6 b8
           have u0:=Kc v8 d0;have r0:=Kf v8 k6 z0
           have u1:=Kc v8 d1;have r1:=Kf v8 k6 z1
           have u2:=Kc v8 d2;have r2:=Kf v8 k6 z2
           have u3:=Kc v8 d3;have r3:=Kf v8 k6 z3
           have u4:=Kc v8 d4;have r4:=Kf v8 k6 z4
           have k8:=Lc u0
           go_wp2_with fail
           refine hK.out _ _ trivial (fun hHeld=>?_)
           clear hK K
           refine Rdy 7 rfl (fun K hK=>?_)
           go_simp
           refine hK.out _ _ trivial (fun hHeld=>?_)
           clear hK K
           refine Dn ?_
           go_wp2_with fail
           go_meet
           exact set5 u0 u1 u2 u3 u4 (Chg.of_below v8)
          exact AllReadyH.nil
         refine AllReadyH.cons rfl (fun K hK=>?_) ?_
         ·go_simp
          refine hK.out _ _ trivial (fun hHeld=>?_)
          clear hK K
          refine wpAnyH_ready (rs:=[0]) (by kernel_rfl) (by simp) ?_
          refine AllReadyH.cons rfl (fun K hK=>?_) ?_
          ·go_simp
           refine hK.out _ _ trivial (fun hHeld=>?_)
           clear hK K
           refine Rdy 6 rfl (fun K hK=>?_)
           go_simp
           go_at_call 109
           refine (l8Aim_any x _ _ g3.out).mono ?_
           rintro e w8 ⟨rfl,b8⟩
           have v8:=btr t6 b8
           have u0:=Kc v8 d0;have r0:=Kf v8 k6 z0
           have u1:=Kc v8 d1;have r1:=Kf v8 k6 z1
           have u2:=Kc v8 d2;have r2:=Kf v8 k6 z2
           have u3:=Kc v8 d3;have r3:=Kf v8 k6 z3
           have u4:=Kc v8 d4;have r4:=Kf v8 k6 z4
           have k8:=Lc u0
           go_wp2_with fail
           refine hK.out _ _ trivial (fun hHeld=>?_)
           clear hK K
           refine Rdy 7 rfl (fun K hK=>?_)
           go_simp
           refine hK.out _ _ trivial (fun hHeld=>?_)
           clear hK K
           refine Dn ?_
           go_wp2_with fail
           go_meet
           exact set5 u0 u1 u2 u3 u4 (Chg.of_below v8)
          exact AllReadyH.nil
         exact AllReadyH.nil
        exact AllReadyH.nil
       exact AllReadyH.nil
      obtain ⟨w9,rfl⟩:∃ W,W=wc:=⟨_,rfl⟩
      obtain ⟨d0,d1,d2,d3,d4,w0⟩:=hcut
      replace m0:=Gc w0 m0 (by omega);replace m1:=Gc w0 m1 (by omega);replace mf:=Gf w0 (by omega) mf (by omega);replace m2:=Gc w0 m2 (by omega)
      have C9:Chg (fun q=>q=bb) w7 w9:=⟨w0.os.trans C6.os,w0.tape.trans C6.tape,w0.output.trans C6.output,by have:=w0.size;omega,fun q hq hn=>(w0.block q (by omega) (by omega)).trans (C6.block q hq hn)⟩
      have o9:=Ow o6 w0 (fun q h h2=>by have e:g7=q:=Option.some.inj h;omega)
      have l7:=w0.size
      have k9:=Lc d0
      replace w3:=Lc m2
      clear w0 C6 o6 D
      go_wp2_with (at_builtin;refine wpList_ap tInstrs rfl _ _ rfl w7.heap.size _ (cnt c.list k+1) _ rfl o9 [.int .i64 ((aim x (cnt c.list nt:Nat))).op,.int .i64 ((aim x (cnt c.list nt:Nat))).a,.int .i64 ((aim x (cnt c.list nt:Nat))).b,.int .i64 ((aim x (cnt c.list nt:Nat))).c,.int .i64 ((aim x (cnt c.list nt:Nat))).d] rfl rfl (one_insc ((aim x (cnt c.list nt:Nat)))) (by omega) (by omega) ?_)
      intro g9 c9 wz ho hc hg
      have b1:=o9.lt
      have d6:=hc.size
      replace m2:=Gc hc m2 (fun h=>by have:=b1 _ h;omega);replace mf:=Gf hc w3 mf (fun h=>by have:=b1 _ h;omega)
      replace m0:=Nn (b:=bb) (j:=2) (Gc hc m0 (fun h=>by have:=b1 _ h;omega)) (.slice (some ⟨g9,0,none⟩) (cnt c.list k+1+1) c9)
      replace m1:=Nn (b:=bb) (j:=2) (Gc hc m1 (fun h=>by have:=b1 _ h;omega)) (.slice (some ⟨g9,0,none⟩) (cnt c.list k+1+1) c9)
      have m3:=Tc wz bb 2 (.slice (some ⟨g9,0,none⟩) (cnt c.list k+1+1) c9) m2
      have mg:=Fs (b:=⟨bb,2,none⟩) mf (.slice (some ⟨g9,0,none⟩) (cnt c.list k+1+1) c9)
      have oo:=Oe ho bb 2 (fun h=>by have e:g9=bb:=Option.some.inj h;have:=ho.lt _ rfl;simp only at this;omega) (.slice (some ⟨g9,0,none⟩) (cnt c.list k+1+1) c9)
      have C2:Chg (fun q=>q=bb) w7 wz:=⟨hc.os.trans C9.os,hc.tape.trans C9.tape,hc.output.trans C9.output,by omega,fun q hq hn=>(hc.block q (by omega) (fun h=>by have:=b1 _ h;omega)).trans (C9.block q hq hn)⟩
      have C3:=C2.setCell bb 2 (.slice (some ⟨g9,0,none⟩) (cnt c.list k+1+1) c9) (fun _=>rfl)
      have t5:=Lc m2
      clear hc hg ho C9 C2 o9
      rw [show inss (fenceTo c.list k++[fence])++[Value.int .i64 ((aim x (cnt c.list nt:Nat))).op,Value.int .i64 ((aim x (cnt c.list nt:Nat))).a,Value.int .i64 ((aim x (cnt c.list nt:Nat))).b,Value.int .i64 ((aim x (cnt c.list nt:Nat))).c,Value.int .i64 ((aim x (cnt c.list nt:Nat))).d]=inss (fenceTo c.list (k+1)) from by rw [q5.out,i4.out,f3.out];simp [rows_append,rows];rfl] at oo
      have i2:cnt c.list k+1+1=cnt c.list (k+1):=by rw [b5.out,f3.out];simp
      have f4:=Lib.hid i2;clear i2
      go_wp2
      go_roundw
      case rel=>exact ⟨k+1,_,by omega,by go_num,m3,mg,m0,m1,by rw [← f4.out];exact oo,C3⟩
      case measure=>simp [intOf];omega
     have i4:Hid (fx c.list x=x):=Lib.hid (by unfold fx;rw [if_neg ht])
     have i7:¬0≤tgt x:=ht
     go_wp2_with (at_builtin;refine wpList_ap tInstrs rfl _ _ rfl w7.heap.size _ (cnt c.list k+1) _ rfl o6 [.int .i64 (x).op,.int .i64 (x).a,.int .i64 (x).b,.int .i64 (x).c,.int .i64 (x).d] rfl rfl (one_insc (x)) (by omega) (by omega) ?_)
     intro g9 c9 wz ho hc hg
     have b1:=o6.lt
     have d6:=hc.size
     replace m2:=Gc hc m2 (fun h=>by have:=b1 _ h;omega);replace mf:=Gf hc w3 mf (fun h=>by have:=b1 _ h;omega)
     replace m0:=Nn (b:=bb) (j:=2) (Gc hc m0 (fun h=>by have:=b1 _ h;omega)) (.slice (some ⟨g9,0,none⟩) (cnt c.list k+1+1) c9)
     replace m1:=Nn (b:=bb) (j:=2) (Gc hc m1 (fun h=>by have:=b1 _ h;omega)) (.slice (some ⟨g9,0,none⟩) (cnt c.list k+1+1) c9)
     have m3:=Tc wz bb 2 (.slice (some ⟨g9,0,none⟩) (cnt c.list k+1+1) c9) m2
     have mg:=Fs (b:=⟨bb,2,none⟩) mf (.slice (some ⟨g9,0,none⟩) (cnt c.list k+1+1) c9)
     have oo:=Oe ho bb 2 (fun h=>by have e:g9=bb:=Option.some.inj h;have:=ho.lt _ rfl;simp only at this;omega) (.slice (some ⟨g9,0,none⟩) (cnt c.list k+1+1) c9)
     have C2:Chg (fun q=>q=bb) w7 wz:=⟨hc.os.trans C6.os,hc.tape.trans C6.tape,hc.output.trans C6.output,by omega,fun q hq hn=>(hc.block q (by omega) (fun h=>by have:=b1 _ h;omega)).trans (C6.block q hq hn)⟩
     have C3:=C2.setCell bb 2 (.slice (some ⟨g9,0,none⟩) (cnt c.list k+1+1) c9) (fun _=>rfl)
     have t5:=Lc m2
     clear hc hg ho C6 C2 o6
     rw [show inss (fenceTo c.list k++[fence])++[Value.int .i64 (x).op,Value.int .i64 (x).a,Value.int .i64 (x).b,Value.int .i64 (x).c,Value.int .i64 (x).d]=inss (fenceTo c.list (k+1)) from by rw [q5.out,i4.out,f3.out];simp [rows_append,rows];rfl] at oo
     have i2:cnt c.list k+1+1=cnt c.list (k+1):=by rw [b5.out,f3.out];simp
     have f4:=Lib.hid i2;clear i2
     go_wp2
     go_roundw
     case rel=>exact ⟨k+1,_,by omega,by go_num,m3,mg,m0,m1,by rw [← f4.out];exact oo,C3⟩
     case measure=>simp [intOf];omega
   have e:k=c.list.length:=by omega
   subst e
   have r0:=Gc hC s2 (by omega);have q0:=Gf hC (by omega) e5 (by omega)
   have r1:=Gc hC y2 (by omega);have q1:=Gf hC (by omega) f5 (by omega)
   have r2:=Gc hC a3 (by omega);have q2:=Gf hC (by omega) g2 (by omega)
   have oa:=Ow y0 hC (fun q h h2=>l9 q h h2);have ob:=Ow y1 hC (fun q h h2=>m9 q h h2)
   have tt:=c3.trans (hC.below w.heap.size c3.size (fun q hq h=>by omega))
   have k9:=Lc r0
   have ia:=oa.lt;have ib:=ob.lt;have il:=ho.lt
   have n9:=(Nn (b:=(w.heap.size+1)) (j:=2) (Nn (b:=(w.heap.size+1)) (j:=1) (Tc _ (w.heap.size+1) 0 (.slice p0 c.vars.length t0) r0) (.slice p1 c.arrays.length t1)) (.slice la (cnt c.list c.list.length) lc))
   have p9:=(Nn (b:=(w.heap.size+1)) (j:=2) (Tc _ (w.heap.size+1) 1 (.slice p1 c.arrays.length t1) (Nn (b:=(w.heap.size+1)) (j:=0) r1 (.slice p0 c.vars.length t0))) (.slice la (cnt c.list c.list.length) lc))
   have q9:=(Tc _ (w.heap.size+1) 2 (.slice la (cnt c.list c.list.length) lc) (Nn (b:=(w.heap.size+1)) (j:=1) (Nn (b:=(w.heap.size+1)) (j:=0) r2 (.slice p0 c.vars.length t0)) (.slice p1 c.arrays.length t1)))
   have r9:=(Oe (Oe (Oe oa (w.heap.size+1) 0 (fun h=>by have:=ia _ h;omega) (.slice p0 c.vars.length t0)) (w.heap.size+1) 1 (fun h=>by have:=ia _ h;omega) (.slice p1 c.arrays.length t1)) (w.heap.size+1) 2 (fun h=>by have:=ia _ h;omega) (.slice la (cnt c.list c.list.length) lc))
   have s9:=(Oe (Oe (Oe ob (w.heap.size+1) 0 (fun h=>by have:=ib _ h;omega) (.slice p0 c.vars.length t0)) (w.heap.size+1) 1 (fun h=>by have:=ib _ h;omega) (.slice p1 c.arrays.length t1)) (w.heap.size+1) 2 (fun h=>by have:=ib _ h;omega) (.slice la (cnt c.list c.list.length) lc))
   have t9:=(Oe (Oe (Oe ho (w.heap.size+1) 0 (fun h=>by have:=il _ h;omega) (.slice p0 c.vars.length t0)) (w.heap.size+1) 1 (fun h=>by have:=il _ h;omega) (.slice p1 c.arrays.length t1)) (w.heap.size+1) 2 (fun h=>by have:=il _ h;omega) (.slice la (cnt c.list c.list.length) lc))
   have tz:=(bst (bst (bst tt (w.heap.size+1) 0 (by omega) (.slice p0 c.vars.length t0)) (w.heap.size+1) 1 (by omega) (.slice p1 c.arrays.length t1)) (w.heap.size+1) 2 (by omega) (.slice la (cnt c.list c.list.length) lc))
   have b7:=fenceTo_len c.list c.list.length (Nat.le_refl _)
   have x7:=Lib.hid b7;clear b7 oa ob ho tt oM oA h6 y0 y1
   go_wp2
   exact bodyPost_ret (v:=.tuple #[.agg #[.slice p0 c.vars.length t0,.slice p1 c.arrays.length t1,.slice la (cnt c.list c.list.length) lc],.bool true]) (by simp [results,Try.results50,go_sem,n9,p9,q9]) rfl (by rw [HR.out];exact ⟨_,_,_,rfl,⟨Om r9 (by omega),Om s9 (by omega),by show World.ownsRow _ _ _ _ _ (fenceTo c.list c.list.length).length (inss (fenceTo c.list c.list.length));rw [x7.out];exact Om t9 (by omega),c8⟩,tz⟩)
end Go.Proofs.Ytkjedgnepnbkpaa
