/-
 Parts of the proofs of the laws FnCodeFenced,FnCountBranches.
-/
import Derived.Test.YtkjedgnepnbkpaaTB
set_option linter.all false
namespace Go.Proofs.Ytkjedgnepnbkpaa
open Go.RowKit
set_option maxHeartbeats 6400000 in
set_option maxRecDepth 100000 in
theorem iFence_any (va vb vc:Value) (c:Cd) (w:World) (hr:ReadsC w va vb vc c) :
  Calls Try.prog 14 #[.agg #[va,vb,vc]] w fun e w'=>∃ ua ub uc,e=.returned (.tuple #[.agg #[ua,ub,uc],.bool (fenceR c).2])∧OwnC w' w.heap.size ua ub uc (fenceR c).1∧Below w.heap.size w w':=by
 obtain ⟨a0,c0,a1,c1,a2,c2,rfl,rfl,rfl⟩:=hr.shape
 have o4:=fun h=>fenceR_no (c:=c) h
 have p4:=fun h=>fenceR_yes (c:=c) h
 generalize fenceR c=R at *
 have n4:=Lib.hid o4
 have f5:=Lib.hid p4
 clear o4 p4
 have d5:=hr.lt
 go_enter Try.func14,Try.ntmps14
 go_wp2_with fail
 refine (iCodeValid_any _ _ _ c _ ((hr.below (bal (Bs _) (.cells #[.slice a0 c.vars.length c0,.slice a1 c.arrays.length c1,.slice a2 c.list.length c2] 26))).below (bal (Bs _) (.cells #[.slice none 0 0,.slice none 0 0,.slice none 0 0] 26)))).mono ?_
 rintro e w1 ⟨rfl,hb⟩
 have k4:=hb.size
 simp only [Sa] at k4
 replace hr:=((hr.below (bal (Bs _) _)).below (bal (Bs _) _)).below hb
 have k1:w1.cell? ⟨w.heap.size,0,none⟩=some (.slice a0 c.vars.length c0):=Kc hb (Ac (Wc (by simp) (by rfl)) _)
 have n1:w1.cell? ⟨w.heap.size,1,none⟩=some (.slice a1 c.arrays.length c1):=Kc hb (Ac (Wc (by simp) (by rfl)) _)
 have b1:w1.cell? ⟨w.heap.size,2,none⟩=some (.slice a2 c.list.length c2):=Kc hb (Ac (Wc (by simp) (by rfl)) _)
 have l0:w1.cell? ⟨w.heap.size+1,0,none⟩=some (.slice none 0 0):=Kc hb (Wc (by simp) (by rfl))
 have v2:w1.frozen? ⟨w.heap.size+1,0,none⟩=false:=Kf hb (by simp) (Fn (by simp))
 have o0:w1.cell? ⟨w.heap.size+1,1,none⟩=some (.slice none 0 0):=Kc hb (Wc (by simp) (by rfl))
 have a3:w1.frozen? ⟨w.heap.size+1,1,none⟩=false:=Kf hb (by simp) (Fn (by simp))
 have s0:w1.cell? ⟨w.heap.size+1,2,none⟩=some (.slice none 0 0):=Kc hb (Wc (by simp) (by rfl))
 have j0:w1.frozen? ⟨w.heap.size+1,2,none⟩=false:=Kf hb (by simp) (Fn (by simp))
 have o2:=btr (bal (bal (Bs w) (.cells #[.slice a0 c.vars.length c0,.slice a1 c.arrays.length c1,.slice a2 c.list.length c2] 26)) (.cells #[.slice none 0 0,.slice none 0 0,.slice none 0 0] 26)) hb
 clear hb
 have o3:=Lc k1
 have p3:=Lc n1
 have q3:=Lc b1
 have s3:=Lc l0
 have t3:=Lc o0
 have v3:=Lc s0
 cases hok:codeOk c
 ·have HO:=Lib.hid hok;clear hok hr
  have hR:=n4.out (fun h=>by have h2:=HO.out;rw [h.1] at h2;cases h2)
  have HR:=Lib.hid hR;clear hR
  have x0:=(Nn (b:=(w.heap.size+1)) (j:=2) (Nn (b:=(w.heap.size+1)) (j:=1) (Tc _ (w.heap.size+1) 0 (.slice none 0 0) l0) (.slice none 0 0)) (.slice none 0 0))
  have x1:=(Nn (b:=(w.heap.size+1)) (j:=2) (Tc _ (w.heap.size+1) 1 (.slice none 0 0) (Nn (b:=(w.heap.size+1)) (j:=0) o0 (.slice none 0 0))) (.slice none 0 0))
  have x2:=(Tc _ (w.heap.size+1) 2 (.slice none 0 0) (Nn (b:=(w.heap.size+1)) (j:=1) (Nn (b:=(w.heap.size+1)) (j:=0) s0 (.slice none 0 0)) (.slice none 0 0)))
  have tt:=(bst (bst (bst o2 (w.heap.size+1) 0 (by omega) (.slice none 0 0)) (w.heap.size+1) 1 (by omega) (.slice none 0 0)) (w.heap.size+1) 2 (by omega) (.slice none 0 0))
  go_wp2
  exact bodyPost_ret (v:=.tuple #[.agg #[.slice none 0 0,.slice none 0 0,.slice none 0 0],.bool false]) (by simp [results,Try.results14,go_sem,x0,x1,x2]) rfl (by rw [HR.out];exact ⟨_,_,_,rfl,noCode_own _ _,tt⟩)
 have HO:=Lib.hid hok;clear hok
 have i4:=codeOk_len HO.out
 have l5:=declOk_len (codeOk_decl HO.out)
 obtain ⟨l1,l2⟩:=i4
 obtain ⟨l3,l4⟩:=l5
 go_wp2_with fail
 refine (fenced_any _ _ _ c _ hr HO.out).mono ?_
 rintro e w2 ⟨g1,rfl,oN,hb⟩
 have a5:=hb.size
 replace v2:=Kf hb (Lc l0) v2
 replace a3:=Kf hb (Lc o0) a3
 replace j0:=Kf hb (Lc s0) j0
 replace hr:=hr.below hb
 replace k1:=Kc hb k1
 replace n1:=Kc hb n1
 replace b1:=Kc hb b1
 replace l0:=Kc hb l0
 replace o0:=Kc hb o0
 replace s0:=Kc hb s0
 replace o2:=btr o2 hb
 clear hb
 have v5:=oN.lt
 replace o3:=Lc k1
 replace p3:=Lc n1
 replace q3:=Lc b1
 replace s3:=Lc l0
 replace t3:=Lc o0
 replace v3:=Lc s0
 have n5:=mk_int c.list.length (by omega)
 have m5:=oN.lt _ rfl
 simp only at m5
 have oP:=own_made w2 (.int .i64 0) c.list.length 3 (by unfold maxLen;omega)
 rw [← ints_replicate] at oP
 obtain ⟨w3,n3⟩:∃ X,X=World.alloc w2 (.cells (madeCells #[.int .i64 0] c.list.length) 3):=⟨_,rfl⟩
 rw [← n3] at oP
 have hb:Below w2.heap.size w2 w3:=by rw [n3];exact bal (Bs _) _
 have a6:w2.heap.size+1≤w3.heap.size:=by rw [n3];simp
 go_wp2
 rw [← n3]
 clear n3
 have b5:=hb.size
 replace v2:=Kf hb (Lc l0) v2
 replace a3:=Kf hb (Lc o0) a3
 replace j0:=Kf hb (Lc s0) j0
 replace hr:=hr.below hb
 replace k1:=Kc hb k1
 replace n1:=Kc hb n1
 replace b1:=Kc hb b1
 replace l0:=Kc hb l0
 replace o0:=Kc hb o0
 replace s0:=Kc hb s0
 replace oN:=Ob oN hb
 replace o2:=btr o2 hb
 clear hb
 have q5:=hr.l
 obtain ⟨_,hn,aa,x5,b,j3,hv,j5,ha,q4⟩:=q5
 simp only [Value.slice.injEq,true_and] at hv
 obtain ⟨rfl,rfl⟩:=hv
 obtain ⟨rfl,y5⟩:=ha (by omega)
 have HC:=Lib.hid (reads_Instr q4)
 have z5:=d5 b (Or.inr (Or.inr ⟨j3,c2,by omega,rfl⟩))
 have v4:(marksOf c.list).length=c.list.length:=marksUpto_len _ _
 have i2:=Lib.hid v4
 clear q4 ha v4
 go_loopw [6,26] (fun cn i wr=>∃ k:Nat,k≤c.list.length∧cn=.int .i64 (cnt c.list k:Nat)∧i=.int .i64 k∧wr.ownsRow w1.heap.size 4 1 (.slice (some ⟨g1,0,none⟩) c.list.length c.list.length) c.list.length (bools (needs c.list k++(marksOf c.list).drop k)) ∧
   wr.ownsRow w2.heap.size 3 1 (.slice (some ⟨w2.heap.size,0,none⟩) c.list.length c.list.length) c.list.length (ints (places c.list k++(List.replicate c.list.length (0:Int)).drop k))∧Chg (fun q=>q=g1∨q=w2.heap.size) w3 wr) (fun _ i _=>c.list.length-(intOf i).toNat)
 case atStart=>exact ⟨0,Nat.zero_le _,rfl,rfl,by simpa [needs] using oN,by simpa [places] using oP,Chg.refl _ _⟩
 case round =>
  obtain ⟨k,hk,rfl,rfl,k2,b2,hC⟩:=hrel
  have d6:=hC.size
  have k5:=cnt_le c.list k
  have n0:=Gc hC b1 (by omega)
  have k0:=Lc n0
  by_cases hlt:k < c.list.length
  ·obtain ⟨e0,e1,e2,e3,e4⟩:=HC.out k hlt
   have e0:=Gc hC e0 (by omega)
   have e1:=Gc hC e1 (by omega)
   have e2:=Gc hC e2 (by omega)
   have e3:=Gc hC e3 (by omega)
   have e4:=Gc hC e4 (by omega)
   have y0:=k2.cellAt k (by omega)
   rw [bools_at _ _ (by rw [List.length_append,needs_len,List.length_drop,i2.out];omega),get_dropped _ k (by rw [i2.out];exact hlt) _ (needs_len _ _)] at y0
   have y1:=b2.cellAt k (by omega)
   rw [ints_at _ _ (by rw [List.length_append,places_len,List.length_drop,List.length_replicate];omega)] at y1
   have f0:=k2.frozenAt k
   have f1:=b2.frozenAt k
   have y4:=needAt_eq (l:=c.list) (k:=k) (by rw [i2.out];exact hlt) hlt
   have m3:cnt c.list (k+1)=cnt c.list k+(if needAt c.list k=true then 2 else 1):=rfl
   generalize ((marksOf c.list)[k]'(by rw [i2.out];exact hlt))=m at *
   generalize ((places c.list k++(List.replicate c.list.length (0:Int)).drop k)[k]'(by rw [List.length_append,places_len,List.length_drop,List.length_replicate];omega))=z1 at *
   generalize c.list[k]=x at *
   have g4:=Lib.hid y4
   have g2:=Lib.hid m3
   clear y4 m3
   clear HC
   go_upto_region 9 with (fail)
   obtain ⟨w5,i0⟩:∃ X,X=World.alloc wr (.cells #[.int .i64 x.op,.int .i64 x.a,.int .i64 x.b,.int .i64 x.c,.int .i64 x.d] 32):=⟨_,rfl⟩
   rw [← i0]
   have v0:Below wr.heap.size wr w5:=by rw [i0];exact bal (Bs wr) _
   have s5:wr.heap.size+1≤w5.heap.size:=by rw [i0];simp
   have d0:w5.cell? ⟨wr.heap.size,0,none⟩=some (.int .i64 x.op):=by rw [i0];exact Wc rfl rfl
   clear i0 e0 e1 e2 e3 e4
   have kg:=Lc y0
   have kp:=Lc y1
   replace y0:=Kc v0 y0
   replace y1:=Kc v0 y1
   replace f0:=Kf v0 kg f0
   replace f1:=Kf v0 kp f1
   replace n0:=Kc v0 n0
   replace k0:=Lc n0
   have kd:=Lc d0
   have i3:=Ob k2 v0
   have f2:=Ob b2 v0
   have h3:=hC.trans (Chg.of_below (S:=fun q=>q=g1∨q=w2.heap.size) v0)
   clear k2 b2 hC v0
   cases m with
   | false =>
    have HN:Hid (needAt c.list k=false):=Lib.hid (by rw [g4.out];rfl)
    have sN:=(i3.stored k (.bool false)).1
    rw [bools_set,drop_cons _ k (by rw [i2.out];exact hlt) _ (needs_len _ _),show needs c.list k++[false]=needs c.list (k+1) from by rw [needs_succ,HN.out]] at sN
    have sP:=(f2.stored k (.int .i64 (cnt c.list k:Nat))).1
    rw [ints_set,drop_cons _ k (by simpa using hlt) _ (places_len _ _),← places_succ] at sP
    have tN:=Oe sN (w2.heap.size) k (fun h=>by have e:g1=w2.heap.size:=Option.some.inj h;omega) (.int .i64 (cnt c.list k:Nat))
    have n2:=Oe f2 g1 k (fun h=>by have e:w2.heap.size=g1:=Option.some.inj h;omega) (.bool false)
    have tP:=(n2.stored k (.int .i64 (cnt c.list k:Nat))).1
    rw [ints_set,drop_cons _ k (by simpa using hlt) _ (places_len _ _),← places_succ] at tP
    have y2:=Nn (b:=g1) (j:=k) y1 (.bool false)
    have y3:=Nn (b:=w2.heap.size) (j:=k) (Tc w5 g1 k (.bool false) y0) (.int .i64 (cnt c.list k:Nat))
    have j2:=(h3.setCell g1 k (.bool false) (fun _=>Or.inl rfl)).setCell (w2.heap.size) k (.int .i64 (cnt c.list k:Nat)) (fun _=>Or.inr rfl)
    clear i3 f2 sN sP n2 h3
    go_wp2_with fail
    refine (truth_any false _).mono ?_
    rintro e w6 ⟨rfl,b0⟩
    have x3:=Ob tN b0
    have a4:=Ob tP b0
    have k3:=j2.trans (Chg.of_below (S:=fun q=>q=g1∨q=w2.heap.size) b0)
    clear tN tP j2 b0 y0 y1 y2 y3 f0 f1 d0 n0
    go_wp2
    go_roundw
    case rel=>exact ⟨k+1,by omega,by rw [g2.out,HN.out];simp;try omega,by go_num,x3,a4,k3⟩
    case measure=>simp [intOf];omega
   | true =>
    by_cases h12:(x.op == 12)=true
    ·have h1:(x.op != 12)=false:=by unfold bne;rw [h12];rfl
     have f4:=Lib.hid h12;clear h12
     have HN:Hid (needAt c.list k=false):=Lib.hid (by rw [g4.out,f4.out];rfl)
     have sN:=(i3.stored k (.bool false)).1
     rw [bools_set,drop_cons _ k (by rw [i2.out];exact hlt) _ (needs_len _ _),show needs c.list k++[false]=needs c.list (k+1) from by rw [needs_succ,HN.out]] at sN
     have sP:=(f2.stored k (.int .i64 (cnt c.list k:Nat))).1
     rw [ints_set,drop_cons _ k (by simpa using hlt) _ (places_len _ _),← places_succ] at sP
     have tN:=Oe sN (w2.heap.size) k (fun h=>by have e:g1=w2.heap.size:=Option.some.inj h;omega) (.int .i64 (cnt c.list k:Nat))
     have n2:=Oe f2 g1 k (fun h=>by have e:w2.heap.size=g1:=Option.some.inj h;omega) (.bool false)
     have tP:=(n2.stored k (.int .i64 (cnt c.list k:Nat))).1
     rw [ints_set,drop_cons _ k (by simpa using hlt) _ (places_len _ _),← places_succ] at tP
     have y2:=Nn (b:=g1) (j:=k) y1 (.bool false)
     have y3:=Nn (b:=w2.heap.size) (j:=k) (Tc w5 g1 k (.bool false) y0) (.int .i64 (cnt c.list k:Nat))
     have j2:=(h3.setCell g1 k (.bool false) (fun _=>Or.inl rfl)).setCell (w2.heap.size) k (.int .i64 (cnt c.list k:Nat)) (fun _=>Or.inr rfl)
     clear i3 f2 sN sP n2 h3
     go_wp2_with fail
     refine (truth_any false _).mono ?_
     rintro e w6 ⟨rfl,b0⟩
     have x3:=Ob tN b0
     have a4:=Ob tP b0
     have k3:=j2.trans (Chg.of_below (S:=fun q=>q=g1∨q=w2.heap.size) b0)
     clear tN tP j2 b0 y0 y1 y2 y3 f0 f1 d0 n0
     go_wp2
     go_roundw
     case rel=>exact ⟨k+1,by omega,by rw [g2.out,HN.out];simp;try omega,by go_num,x3,a4,k3⟩
     case measure=>simp [intOf];omega
    have h12f:(x.op == 12)=false:=by simpa using h12
    have h1:(x.op != 12)=true:=by unfold bne;rw [h12f];rfl
    have f4:=Lib.hid h12f;clear h12 h12f
    have HN:Hid (needAt c.list k=true):=Lib.hid (by rw [g4.out,f4.out];rfl)
    have sN:=(i3.stored k (.bool true)).1
    rw [bools_set,drop_cons _ k (by rw [i2.out];exact hlt) _ (needs_len _ _),show needs c.list k++[true]=needs c.list (k+1) from by rw [needs_succ,HN.out]] at sN
    have sP:=(f2.stored k (.int .i64 (cnt c.list k:Nat))).1
    rw [ints_set,drop_cons _ k (by simpa using hlt) _ (places_len _ _),← places_succ] at sP
    have tN:=Oe sN (w2.heap.size) k (fun h=>by have e:g1=w2.heap.size:=Option.some.inj h;omega) (.int .i64 (cnt c.list k:Nat))
    have n2:=Oe f2 g1 k (fun h=>by have e:w2.heap.size=g1:=Option.some.inj h;omega) (.bool true)
    have tP:=(n2.stored k (.int .i64 (cnt c.list k:Nat))).1
    rw [ints_set,drop_cons _ k (by simpa using hlt) _ (places_len _ _),← places_succ] at tP
    have y2:=Nn (b:=g1) (j:=k) y1 (.bool true)
    have y3:=Nn (b:=w2.heap.size) (j:=k) (Tc w5 g1 k (.bool true) y0) (.int .i64 (cnt c.list k:Nat))
    have j2:=(h3.setCell g1 k (.bool true) (fun _=>Or.inl rfl)).setCell (w2.heap.size) k (.int .i64 (cnt c.list k:Nat)) (fun _=>Or.inr rfl)
    clear i3 f2 sN sP n2 h3
    go_wp2_with fail
    refine (truth_any true _).mono ?_
    rintro e w6 ⟨rfl,b0⟩
    have x3:=Ob tN b0
    have a4:=Ob tP b0
    have k3:=j2.trans (Chg.of_below (S:=fun q=>q=g1∨q=w2.heap.size) b0)
    clear tN tP j2 b0 y0 y1 y2 y3 f0 f1 d0 n0
    go_wp2
    go_roundw
    case rel=>exact ⟨k+1,by omega,by rw [g2.out,HN.out];simp;try omega,by go_num,x3,a4,k3⟩
    case measure=>simp [intOf];omega
  have e:k=c.list.length:=by omega
  subst e
  rw [List.drop_eq_nil_of_le (by rw [i2.out];exact Nat.le_refl _),List.append_nil] at k2
  rw [List.drop_eq_nil_of_le (by simp),List.append_nil] at b2
  have g3:=o2.trans (hC.below w.heap.size o2.size (fun q hq h=>by omega))
  replace k1:=Gc hC k1 (by omega)
  replace l0:=Gc hC l0 (by omega)
  replace v2:=Gf hC (by omega) v2 (by omega)
  replace n1:=Gc hC n1 (by omega)
  replace o0:=Gc hC o0 (by omega)
  replace a3:=Gf hC (by omega) a3 (by omega)
  replace b1:=Gc hC b1 (by omega)
  replace s0:=Gc hC s0 (by omega)
  replace j0:=Gf hC (by omega) j0 (by omega)
  have m4:Hid (∀ k (h:k < c.list.length),wr.cell? ⟨b,j3+k*5,none⟩=some (.int .i64 c.list[k].op)∧wr.cell? ⟨b,j3+k*5+1,none⟩=some (.int .i64 c.list[k].a)∧wr.cell? ⟨b,j3+k*5+2,none⟩=some (.int .i64 c.list[k].b)∧wr.cell? ⟨b,j3+k*5+3,none⟩=some (.int .i64 c.list[k].c)∧wr.cell? ⟨b,j3+k*5+4,none⟩=some (.int .i64 c.list[k].d)):=Lib.hid (fun k h=>by obtain ⟨e0,e1,e2,e3,e4⟩:=HC.out k h;exact ⟨Gc hC e0 (by omega),Gc hC e1 (by omega),Gc hC e2 (by omega),Gc hC e3 (by omega),Gc hC e4 (by omega)⟩)
  have j4:=hr.keep hC (fun q hq h=>by have:=d5 q hq;omega)
  clear HC hr hC oN oP o2 n0 k0 n5
  obtain ⟨w4,rfl⟩:∃ X,X=wr:=⟨_,rfl⟩
  by_cases h400:(400:Int) < (cnt c.list c.list.length:Nat)
  ·have hR:=n4.out (fun h=>by have:=h.2;omega)
   have HR:=Lib.hid hR;clear hR j4 k2 b2
   have x0:=(Nn (b:=(w.heap.size+1)) (j:=2) (Nn (b:=(w.heap.size+1)) (j:=1) (Tc _ (w.heap.size+1) 0 (.slice none 0 0) l0) (.slice none 0 0)) (.slice none 0 0))
   have x1:=(Nn (b:=(w.heap.size+1)) (j:=2) (Tc _ (w.heap.size+1) 1 (.slice none 0 0) (Nn (b:=(w.heap.size+1)) (j:=0) o0 (.slice none 0 0))) (.slice none 0 0))
   have x2:=(Tc _ (w.heap.size+1) 2 (.slice none 0 0) (Nn (b:=(w.heap.size+1)) (j:=1) (Nn (b:=(w.heap.size+1)) (j:=0) s0 (.slice none 0 0)) (.slice none 0 0)))
   have tt:=(bst (bst (bst g3 (w.heap.size+1) 0 (by omega) (.slice none 0 0)) (w.heap.size+1) 1 (by omega) (.slice none 0 0)) (w.heap.size+1) 2 (by omega) (.slice none 0 0))
   go_wp2
   exact bodyPost_ret (v:=.tuple #[.agg #[.slice none 0 0,.slice none 0 0,.slice none 0 0],.bool false]) (by simp [results,Try.results14,go_sem,x0,x1,x2]) rfl (by rw [HR.out];exact ⟨_,_,_,rfl,noCode_own _ _,tt⟩)
  have h5:¬(400:Int) < (cnt c.list c.list.length:Nat):=h400
  have hR:=f5.out ⟨HO.out,by omega⟩
  have HR:=Lib.hid hR;clear hR h400
  have g5:=Lib.hid (fun k hk h0=>tgt_in (codeOk_all HO.out k hk) h0)
  replace o3:=Lc k1
  replace p3:=Lc n1
  replace q3:=Lc b1
  replace s3:=Lc l0
  replace t3:=Lc o0
  replace v3:=Lc s0
  go_wp2
  go_loopw [9,62] (fun lv i wr=>∃ k:Nat,k≤c.list.length∧i=.int .i64 k∧wr.ownsRow w4.heap.size 32 5 lv (cnt c.list k) (inss (fenceTo c.list k))∧Below w4.heap.size w4 wr) (fun _ i _=>c.list.length-(intOf i).toNat)
  case atStart=>exact ⟨0,Nat.zero_le _,rfl,World.ownsRow_nil _ _ _ _,Bs _⟩
  case round =>
   obtain ⟨k,hk,rfl,ho,g0⟩:=hrel
   have e6:=g0.size
   have iv:=ho.lt
   have k5:=cnt_le c.list k
   by_cases hlt:k < c.list.length
   ·obtain ⟨e0,e1,e2,e3,e4⟩:=m4.out k hlt
    replace e0:=Kc g0 e0
    replace e1:=Kc g0 e1
    replace e2:=Kc g0 e2
    replace e3:=Kc g0 e3
    replace e4:=Kc g0 e4
    have yN:=(Ob k2 g0).cellAt k (by omega)
    rw [bools_at _ _ (by rw [needs_len];exact hlt),needs_get] at yN
    have x4:=fenceTo_succ c.list k hlt
    have m3:cnt c.list (k+1)=cnt c.list k+(if needAt c.list k=true then 2 else 1):=rfl
    have c5:=g5.out k hlt
    generalize c.list[k]=x at *
    have b4:=Lib.hid x4
    have g2:=Lib.hid m3
    have HT:=Lib.hid c5
    clear x4 m3 c5
    go_upto_region 19 with (fail)
    obtain ⟨w5,i0⟩:∃ X,X=World.alloc wr (.cells #[.int .i64 x.op,.int .i64 x.a,.int .i64 x.b,.int .i64 x.c,.int .i64 x.d] 32):=⟨_,rfl⟩
    rw [← i0]
    have v0:Below wr.heap.size wr w5:=by rw [i0];exact bal (Bs wr) _
    have s5:wr.heap.size+1≤w5.heap.size:=by rw [i0];simp
    have d0:w5.cell? ⟨wr.heap.size,0,none⟩=some (.int .i64 x.op):=by rw [i0];exact Wc rfl rfl
    have z0:w5.frozen? ⟨wr.heap.size,0,none⟩=false:=by rw [i0];exact Fn rfl
    have d1:w5.cell? ⟨wr.heap.size,1,none⟩=some (.int .i64 x.a):=by rw [i0];exact Wc rfl rfl
    have z1:w5.frozen? ⟨wr.heap.size,1,none⟩=false:=by rw [i0];exact Fn rfl
    have d2:w5.cell? ⟨wr.heap.size,2,none⟩=some (.int .i64 x.b):=by rw [i0];exact Wc rfl rfl
    have z2:w5.frozen? ⟨wr.heap.size,2,none⟩=false:=by rw [i0];exact Fn rfl
    have d3:w5.cell? ⟨wr.heap.size,3,none⟩=some (.int .i64 x.c):=by rw [i0];exact Wc rfl rfl
    have z3:w5.frozen? ⟨wr.heap.size,3,none⟩=false:=by rw [i0];exact Fn rfl
    have d4:w5.cell? ⟨wr.heap.size,4,none⟩=some (.int .i64 x.d):=by rw [i0];exact Wc rfl rfl
    have z4:w5.frozen? ⟨wr.heap.size,4,none⟩=false:=by rw [i0];exact Fn rfl
    clear i0 e0 e1 e2 e3 e4
    have ky:=Lc yN
    have c4:=Kc v0 yN
    have g6:=Lc c4
    have kd:=Lc d0
    have hB:=btr g0 v0
    have o5:=Ob ho v0
    clear yN v0 ho
    cases hnb:needAt c.list k with
    | false =>
     have s1:=Lib.hid hnb;rw [hnb] at c4;clear hnb
     have B5:=hB;clear hB
     go_wp2_with fail
     refine (target_any x _).mono ?_
     rintro e w6 ⟨rfl,b0⟩
     replace d0:=Kc b0 d0;replace z0:=Kf b0 (by omega) z0
     replace d1:=Kc b0 d1;replace z1:=Kf b0 (by omega) z1
     replace d2:=Kc b0 d2;replace z2:=Kf b0 (by omega) z2
     replace d3:=Kc b0 d3;replace z3:=Kf b0 (by omega) z3
     replace d4:=Kc b0 d4;replace z4:=Kf b0 (by omega) z4
     have B6:=btr B5 b0
     have o6:=Ob o5 b0
     have t5:=b0.size
     have i6:=o6.lt
     have k6:=Lc d0
     clear b0 B5 o5
     by_cases ht:0≤tgt x
     ·obtain ⟨t1,t2⟩:=HT.out ht
      obtain ⟨nt,c3⟩:∃ nt:Nat,tgt x=nt:=⟨(tgt x).toNat,by omega⟩
      have s2:Hid (fx c.list x=aim x (cnt c.list nt:Nat)):=Lib.hid (by unfold fx;rw [if_pos ht,c3,Int.toNat_natCast])
      rw [c3] at t1 ⊢
      have f3:nt < c.list.length:=by omega
      have hq:(nt:Int) < (c.list.length:Int):=by omega
      have p5:(0:Int)≤(nt:Int):=by omega
      have yP:=(Ob b2 B6).cellAt nt (by omega)
      rw [ints_at _ _ (by rw [places_len];exact f3),places_get] at yP
      have kP:=Lc yP
      have h4:=Lib.hid t2
      clear t1 t2 ht c3
      go_upto_region 23 with (fail)
      have D:=Below.drew (Bs w6)
      go_cut [84] (fun _ wx=>wx.cell? ⟨wr.heap.size,0,none⟩=some (.int .i64 (aim x (cnt c.list nt:Nat)).op)∧wx.cell? ⟨wr.heap.size,1,none⟩=some (.int .i64 (aim x (cnt c.list nt:Nat)).a)∧wx.cell? ⟨wr.heap.size,2,none⟩=some (.int .i64 (aim x (cnt c.list nt:Nat)).b)∧wx.cell? ⟨wr.heap.size,3,none⟩=some (.int .i64 (aim x (cnt c.list nt:Nat)).c)∧wx.cell? ⟨wr.heap.size,4,none⟩=some (.int .i64 (aim x (cnt c.list nt:Nat)).d)∧Chg (fun q=>q=wr.heap.size) w6 wx)
      case first =>
       go_region_with (go_at_call 55;refine (to_any x _ _ h4.out).mono ?_;rintro e w7 ⟨rfl,b7⟩;have v7:=btr D b7;have u0:=Kc v7 d0;have u1:=Kc v7 d1;have u2:=Kc v7 d2;have u3:=Kc v7 d3;have u4:=Kc v7 d4;have r0:=Kf v7 k6 z0;have r1:=Kf v7 k6 z1;have r2:=Kf v7 k6 z2;have r3:=Kf v7 k6 z3;have r4:=Kf v7 k6 z4;have k7:=Lc u0)
       all_goals (go_wp2_with fail;go_meet;exact ⟨(Nn (b:=wr.heap.size) (j:=4) (Nn (b:=wr.heap.size) (j:=3) (Nn (b:=wr.heap.size) (j:=2) (Nn (b:=wr.heap.size) (j:=1) (Tc _ wr.heap.size 0 (.int .i64 (aim x (cnt c.list nt:Nat)).op) u0) (.int .i64 (aim x (cnt c.list nt:Nat)).a)) (.int .i64 (aim x (cnt c.list nt:Nat)).b)) (.int .i64 (aim x (cnt c.list nt:Nat)).c)) (.int .i64 (aim x (cnt c.list nt:Nat)).d)),(Nn (b:=wr.heap.size) (j:=4) (Nn (b:=wr.heap.size) (j:=3) (Nn (b:=wr.heap.size) (j:=2) (Tc _ wr.heap.size 1 (.int .i64 (aim x (cnt c.list nt:Nat)).a) (Nn (b:=wr.heap.size) (j:=0) u1 (.int .i64 (aim x (cnt c.list nt:Nat)).op))) (.int .i64 (aim x (cnt c.list nt:Nat)).b)) (.int .i64 (aim x (cnt c.list nt:Nat)).c)) (.int .i64 (aim x (cnt c.list nt:Nat)).d)),(Nn (b:=wr.heap.size) (j:=4) (Nn (b:=wr.heap.size) (j:=3) (Tc _ wr.heap.size 2 (.int .i64 (aim x (cnt c.list nt:Nat)).b) (Nn (b:=wr.heap.size) (j:=1) (Nn (b:=wr.heap.size) (j:=0) u2 (.int .i64 (aim x (cnt c.list nt:Nat)).op)) (.int .i64 (aim x (cnt c.list nt:Nat)).a))) (.int .i64 (aim x (cnt c.list nt:Nat)).c)) (.int .i64 (aim x (cnt c.list nt:Nat)).d)),(Nn (b:=wr.heap.size) (j:=4) (Tc _ wr.heap.size 3 (.int .i64 (aim x (cnt c.list nt:Nat)).c) (Nn (b:=wr.heap.size) (j:=2) (Nn (b:=wr.heap.size) (j:=1) (Nn (b:=wr.heap.size) (j:=0) u3 (.int .i64 (aim x (cnt c.list nt:Nat)).op)) (.int .i64 (aim x (cnt c.list nt:Nat)).a)) (.int .i64 (aim x (cnt c.list nt:Nat)).b))) (.int .i64 (aim x (cnt c.list nt:Nat)).d)),(Tc _ wr.heap.size 4 (.int .i64 (aim x (cnt c.list nt:Nat)).d) (Nn (b:=wr.heap.size) (j:=3) (Nn (b:=wr.heap.size) (j:=2) (Nn (b:=wr.heap.size) (j:=1) (Nn (b:=wr.heap.size) (j:=0) u4 (.int .i64 (aim x (cnt c.list nt:Nat)).op)) (.int .i64 (aim x (cnt c.list nt:Nat)).a)) (.int .i64 (aim x (cnt c.list nt:Nat)).b)) (.int .i64 (aim x (cnt c.list nt:Nat)).c))),((((((Chg.of_below (S:=fun q=>q=wr.heap.size) v7).setCell wr.heap.size 0 (.int .i64 (aim x (cnt c.list nt:Nat)).op) (fun _=>rfl)).setCell wr.heap.size 1 (.int .i64 (aim x (cnt c.list nt:Nat)).a) (fun _=>rfl)).setCell wr.heap.size 2 (.int .i64 (aim x (cnt c.list nt:Nat)).b) (fun _=>rfl)).setCell wr.heap.size 3 (.int .i64 (aim x (cnt c.list nt:Nat)).c) (fun _=>rfl)).setCell wr.heap.size 4 (.int .i64 (aim x (cnt c.list nt:Nat)).d) (fun _=>rfl))⟩)
      obtain ⟨w8,rfl⟩:∃ W,W=wc:=⟨_,rfl⟩
      obtain ⟨d0,d1,d2,d3,d4,v1⟩:=hcut
      have B8:=B6.trans (v1.below w4.heap.size B6.size (fun q hq h=>by omega))
      have o8:=Ow o6 v1 (fun q h h2=>by have:=iv q h;omega)
      have u5:=v1.size
      have k8:=Lc d0
      clear v1 B6 o6 D
      go_wp2_with (at_builtin;refine wpList_ap tInstrs rfl _ _ rfl w4.heap.size _ (cnt c.list k) _ rfl o8 [.int .i64 (aim x (cnt c.list nt:Nat)).op,.int .i64 (aim x (cnt c.list nt:Nat)).a,.int .i64 (aim x (cnt c.list nt:Nat)).b,.int .i64 (aim x (cnt c.list nt:Nat)).c,.int .i64 (aim x (cnt c.list nt:Nat)).d] rfl rfl (one_insc (aim x (cnt c.list nt:Nat))) (by omega) (by omega) ?_)
      intro g9 c9 wz o9 i1 b3
      have i9:=o8.lt
      have B9:=B8.trans (i1.below w4.heap.size B8.size (fun q hq h=>by have:=i9 q h;omega))
      rw [show inss (fenceTo c.list k)++[Value.int .i64 (aim x (cnt c.list nt:Nat)).op,Value.int .i64 (aim x (cnt c.list nt:Nat)).a,Value.int .i64 (aim x (cnt c.list nt:Nat)).b,Value.int .i64 (aim x (cnt c.list nt:Nat)).c,Value.int .i64 (aim x (cnt c.list nt:Nat)).d]=inss (fenceTo c.list (k+1)) from by rw [b4.out,s2.out,s1.out];simp [rows_append,rows];rfl] at o9
      have j1:cnt c.list k+1=cnt c.list (k+1):=by rw [g2.out,s1.out];simp
      have p2:=Lib.hid j1;clear j1
      clear i1 b3 o8 B8
      go_wp2
      go_roundw
      case rel=>exact ⟨k+1,by omega,by go_num,by rw [← p2.out];exact o9,B9⟩
      case measure=>simp [intOf];omega
     have s2:Hid (fx c.list x=x):=Lib.hid (by unfold fx;rw [if_neg ht])
     have r5:¬0≤tgt x:=ht
     go_wp2_with (at_builtin;refine wpList_ap tInstrs rfl _ _ rfl w4.heap.size _ (cnt c.list k) _ rfl o6 [.int .i64 (x).op,.int .i64 (x).a,.int .i64 (x).b,.int .i64 (x).c,.int .i64 (x).d] rfl rfl (one_insc (x)) (by omega) (by omega) ?_)
     intro g9 c9 wz o9 i1 b3
     have i9:=o6.lt
     have B9:=B6.trans (i1.below w4.heap.size B6.size (fun q hq h=>by have:=i9 q h;omega))
     rw [show inss (fenceTo c.list k)++[Value.int .i64 (x).op,Value.int .i64 (x).a,Value.int .i64 (x).b,Value.int .i64 (x).c,Value.int .i64 (x).d]=inss (fenceTo c.list (k+1)) from by rw [b4.out,s2.out,s1.out];simp [rows_append,rows];rfl] at o9
     have j1:cnt c.list k+1=cnt c.list (k+1):=by rw [g2.out,s1.out];simp
     have p2:=Lib.hid j1;clear j1
     clear i1 b3 o6 B6
     go_wp2
     go_roundw
     case rel=>exact ⟨k+1,by omega,by go_num,by rw [← p2.out];exact o9,B9⟩
     case measure=>simp [intOf];omega
    | true =>
     have s1:=Lib.hid hnb;rw [hnb] at c4;clear hnb
     go_wp2_with (at_builtin;refine wpList_ap tInstrs rfl _ _ rfl w4.heap.size _ (cnt c.list k) _ rfl o5 [.int .i64 12,.int .i64 0,.int .i64 0,.int .i64 0,.int .i64 0] rfl rfl (one_insc fence) (by omega) (by omega) ?_)
     intro g7 c7 wy o7 w0 t4
     replace d0:=Gc w0 d0 (fun h=>by have:=iv _ h;omega);replace z0:=Gf w0 (by omega) z0 (fun h=>by have:=iv _ h;omega)
     replace d1:=Gc w0 d1 (fun h=>by have:=iv _ h;omega);replace z1:=Gf w0 (by omega) z1 (fun h=>by have:=iv _ h;omega)
     replace d2:=Gc w0 d2 (fun h=>by have:=iv _ h;omega);replace z2:=Gf w0 (by omega) z2 (fun h=>by have:=iv _ h;omega)
     replace d3:=Gc w0 d3 (fun h=>by have:=iv _ h;omega);replace z3:=Gf w0 (by omega) z3 (fun h=>by have:=iv _ h;omega)
     replace d4:=Gc w0 d4 (fun h=>by have:=iv _ h;omega);replace z4:=Gf w0 (by omega) z4 (fun h=>by have:=iv _ h;omega)
     have B5:=hB.trans (w0.below w4.heap.size hB.size (fun q hq h=>by have:=iv q h;omega))
     have b6:=w0.size
     rw [show inss (fenceTo c.list k)++[Value.int .i64 12,Value.int .i64 0,Value.int .i64 0,Value.int .i64 0,Value.int .i64 0]=inss (fenceTo c.list k++[fence]) from by rw [inss,inss,rows_append];rfl] at o7
     have hg7n:¬g7=wr.heap.size:=fun e=>by rcases t4 with h | h;exact absurd (iv _ h).2 (by omega);omega
     have f6:=Lc d0
     clear w0 hB o5 t4 c4
     go_wp2_with fail
     refine (target_any x _).mono ?_
     rintro e w6 ⟨rfl,b0⟩
     replace d0:=Kc b0 d0;replace z0:=Kf b0 (by omega) z0
     replace d1:=Kc b0 d1;replace z1:=Kf b0 (by omega) z1
     replace d2:=Kc b0 d2;replace z2:=Kf b0 (by omega) z2
     replace d3:=Kc b0 d3;replace z3:=Kf b0 (by omega) z3
     replace d4:=Kc b0 d4;replace z4:=Kf b0 (by omega) z4
     have B6:=btr B5 b0
     have o6:=Ob o7 b0
     have t5:=b0.size
     have i6:=o6.lt
     have k6:=Lc d0
     clear b0 B5 o7
     by_cases ht:0≤tgt x
     ·obtain ⟨t1,t2⟩:=HT.out ht
      obtain ⟨nt,c3⟩:∃ nt:Nat,tgt x=nt:=⟨(tgt x).toNat,by omega⟩
      have s2:Hid (fx c.list x=aim x (cnt c.list nt:Nat)):=Lib.hid (by unfold fx;rw [if_pos ht,c3,Int.toNat_natCast])
      rw [c3] at t1 ⊢
      have f3:nt < c.list.length:=by omega
      have hq:(nt:Int) < (c.list.length:Int):=by omega
      have p5:(0:Int)≤(nt:Int):=by omega
      have yP:=(Ob b2 B6).cellAt nt (by omega)
      rw [ints_at _ _ (by rw [places_len];exact f3),places_get] at yP
      have kP:=Lc yP
      have h4:=Lib.hid t2
      clear t1 t2 ht c3
      go_upto_region 23 with (fail)
      have D:=Below.drew (Bs w6)
      go_cut [84] (fun _ wx=>wx.cell? ⟨wr.heap.size,0,none⟩=some (.int .i64 (aim x (cnt c.list nt:Nat)).op)∧wx.cell? ⟨wr.heap.size,1,none⟩=some (.int .i64 (aim x (cnt c.list nt:Nat)).a)∧wx.cell? ⟨wr.heap.size,2,none⟩=some (.int .i64 (aim x (cnt c.list nt:Nat)).b)∧wx.cell? ⟨wr.heap.size,3,none⟩=some (.int .i64 (aim x (cnt c.list nt:Nat)).c)∧wx.cell? ⟨wr.heap.size,4,none⟩=some (.int .i64 (aim x (cnt c.list nt:Nat)).d)∧Chg (fun q=>q=wr.heap.size) w6 wx)
      case first =>
       go_region_with (go_at_call 55;refine (to_any x _ _ h4.out).mono ?_;rintro e w7 ⟨rfl,b7⟩;have v7:=btr D b7;have u0:=Kc v7 d0;have u1:=Kc v7 d1;have u2:=Kc v7 d2;have u3:=Kc v7 d3;have u4:=Kc v7 d4;have r0:=Kf v7 k6 z0;have r1:=Kf v7 k6 z1;have r2:=Kf v7 k6 z2;have r3:=Kf v7 k6 z3;have r4:=Kf v7 k6 z4;have k7:=Lc u0)
       all_goals (go_wp2_with fail;go_meet;exact ⟨(Nn (b:=wr.heap.size) (j:=4) (Nn (b:=wr.heap.size) (j:=3) (Nn (b:=wr.heap.size) (j:=2) (Nn (b:=wr.heap.size) (j:=1) (Tc _ wr.heap.size 0 (.int .i64 (aim x (cnt c.list nt:Nat)).op) u0) (.int .i64 (aim x (cnt c.list nt:Nat)).a)) (.int .i64 (aim x (cnt c.list nt:Nat)).b)) (.int .i64 (aim x (cnt c.list nt:Nat)).c)) (.int .i64 (aim x (cnt c.list nt:Nat)).d)),(Nn (b:=wr.heap.size) (j:=4) (Nn (b:=wr.heap.size) (j:=3) (Nn (b:=wr.heap.size) (j:=2) (Tc _ wr.heap.size 1 (.int .i64 (aim x (cnt c.list nt:Nat)).a) (Nn (b:=wr.heap.size) (j:=0) u1 (.int .i64 (aim x (cnt c.list nt:Nat)).op))) (.int .i64 (aim x (cnt c.list nt:Nat)).b)) (.int .i64 (aim x (cnt c.list nt:Nat)).c)) (.int .i64 (aim x (cnt c.list nt:Nat)).d)),(Nn (b:=wr.heap.size) (j:=4) (Nn (b:=wr.heap.size) (j:=3) (Tc _ wr.heap.size 2 (.int .i64 (aim x (cnt c.list nt:Nat)).b) (Nn (b:=wr.heap.size) (j:=1) (Nn (b:=wr.heap.size) (j:=0) u2 (.int .i64 (aim x (cnt c.list nt:Nat)).op)) (.int .i64 (aim x (cnt c.list nt:Nat)).a))) (.int .i64 (aim x (cnt c.list nt:Nat)).c)) (.int .i64 (aim x (cnt c.list nt:Nat)).d)),(Nn (b:=wr.heap.size) (j:=4) (Tc _ wr.heap.size 3 (.int .i64 (aim x (cnt c.list nt:Nat)).c) (Nn (b:=wr.heap.size) (j:=2) (Nn (b:=wr.heap.size) (j:=1) (Nn (b:=wr.heap.size) (j:=0) u3 (.int .i64 (aim x (cnt c.list nt:Nat)).op)) (.int .i64 (aim x (cnt c.list nt:Nat)).a)) (.int .i64 (aim x (cnt c.list nt:Nat)).b))) (.int .i64 (aim x (cnt c.list nt:Nat)).d)),(Tc _ wr.heap.size 4 (.int .i64 (aim x (cnt c.list nt:Nat)).d) (Nn (b:=wr.heap.size) (j:=3) (Nn (b:=wr.heap.size) (j:=2) (Nn (b:=wr.heap.size) (j:=1) (Nn (b:=wr.heap.size) (j:=0) u4 (.int .i64 (aim x (cnt c.list nt:Nat)).op)) (.int .i64 (aim x (cnt c.list nt:Nat)).a)) (.int .i64 (aim x (cnt c.list nt:Nat)).b)) (.int .i64 (aim x (cnt c.list nt:Nat)).c))),((((((Chg.of_below (S:=fun q=>q=wr.heap.size) v7).setCell wr.heap.size 0 (.int .i64 (aim x (cnt c.list nt:Nat)).op) (fun _=>rfl)).setCell wr.heap.size 1 (.int .i64 (aim x (cnt c.list nt:Nat)).a) (fun _=>rfl)).setCell wr.heap.size 2 (.int .i64 (aim x (cnt c.list nt:Nat)).b) (fun _=>rfl)).setCell wr.heap.size 3 (.int .i64 (aim x (cnt c.list nt:Nat)).c) (fun _=>rfl)).setCell wr.heap.size 4 (.int .i64 (aim x (cnt c.list nt:Nat)).d) (fun _=>rfl))⟩)
      obtain ⟨w8,rfl⟩:∃ W,W=wc:=⟨_,rfl⟩
      obtain ⟨d0,d1,d2,d3,d4,v1⟩:=hcut
      have B8:=B6.trans (v1.below w4.heap.size B6.size (fun q hq h=>by omega))
      have o8:=Ow o6 v1 (fun q h h2=>by have e:g7=q:=Option.some.inj h;omega)
      have u5:=v1.size
      have k8:=Lc d0
      clear v1 B6 o6 D
      go_wp2_with (at_builtin;refine wpList_ap tInstrs rfl _ _ rfl w4.heap.size _ (cnt c.list k+1) _ rfl o8 [.int .i64 (aim x (cnt c.list nt:Nat)).op,.int .i64 (aim x (cnt c.list nt:Nat)).a,.int .i64 (aim x (cnt c.list nt:Nat)).b,.int .i64 (aim x (cnt c.list nt:Nat)).c,.int .i64 (aim x (cnt c.list nt:Nat)).d] rfl rfl (one_insc (aim x (cnt c.list nt:Nat))) (by omega) (by omega) ?_)
      intro g9 c9 wz o9 i1 b3
      have i9:=o8.lt
      have B9:=B8.trans (i1.below w4.heap.size B8.size (fun q hq h=>by have:=i9 q h;omega))
      rw [show inss (fenceTo c.list k++[fence])++[Value.int .i64 (aim x (cnt c.list nt:Nat)).op,Value.int .i64 (aim x (cnt c.list nt:Nat)).a,Value.int .i64 (aim x (cnt c.list nt:Nat)).b,Value.int .i64 (aim x (cnt c.list nt:Nat)).c,Value.int .i64 (aim x (cnt c.list nt:Nat)).d]=inss (fenceTo c.list (k+1)) from by rw [b4.out,s2.out,s1.out];simp [rows_append,rows];rfl] at o9
      have j1:cnt c.list k+1+1=cnt c.list (k+1):=by rw [g2.out,s1.out];simp
      have p2:=Lib.hid j1;clear j1
      clear i1 b3 o8 B8
      go_wp2
      go_roundw
      case rel=>exact ⟨k+1,by omega,by go_num,by rw [← p2.out];exact o9,B9⟩
      case measure=>simp [intOf];omega
     have s2:Hid (fx c.list x=x):=Lib.hid (by unfold fx;rw [if_neg ht])
     have r5:¬0≤tgt x:=ht
     go_wp2_with (at_builtin;refine wpList_ap tInstrs rfl _ _ rfl w4.heap.size _ (cnt c.list k+1) _ rfl o6 [.int .i64 (x).op,.int .i64 (x).a,.int .i64 (x).b,.int .i64 (x).c,.int .i64 (x).d] rfl rfl (one_insc (x)) (by omega) (by omega) ?_)
     intro g9 c9 wz o9 i1 b3
     have i9:=o6.lt
     have B9:=B6.trans (i1.below w4.heap.size B6.size (fun q hq h=>by have:=i9 q h;omega))
     rw [show inss (fenceTo c.list k++[fence])++[Value.int .i64 (x).op,Value.int .i64 (x).a,Value.int .i64 (x).b,Value.int .i64 (x).c,Value.int .i64 (x).d]=inss (fenceTo c.list (k+1)) from by rw [b4.out,s2.out,s1.out];simp [rows_append,rows];rfl] at o9
     have j1:cnt c.list k+1+1=cnt c.list (k+1):=by rw [g2.out,s1.out];simp
     have p2:=Lib.hid j1;clear j1
     clear i1 b3 o6 B6
     go_wp2
     go_roundw
     case rel=>exact ⟨k+1,by omega,by go_num,by rw [← p2.out];exact o9,B9⟩
     case measure=>simp [intOf];omega
   have e:k=c.list.length:=by omega
   subst e
   obtain ⟨la,lc,rfl⟩:=Oh ho
   have m0:=Kc g0 k1
   have r0:=Kc g0 l0
   have q0:=Kf g0 (Lc l0) v2
   have m1:=Kc g0 n1
   have r1:=Kc g0 o0
   have q1:=Kf g0 (Lc o0) a3
   have m2:=Kc g0 b1
   have r2:=Kc g0 s0
   have q2:=Kf g0 (Lc s0) j0
   have km:=Lc m0
   go_wp2_with fail
   refine (with_any _ _ _ c _ _ _ _ (j4.below g0) (by omega) (by omega)).mono ?_
   rintro e w9 ⟨u0,u1,rfl,oa,ob,i5,o1⟩
   obtain ⟨p0,t0,rfl⟩:=Oh oa
   obtain ⟨p1,t1,rfl⟩:=Oh ob
   have ol:=Ob ho o1
   have ia:=oa.lt
   have ib:=ob.lt
   have il:=ho.lt
   have tt:=btr (g3.trans (g0.mono g3.size)) o1
   replace r0:=Kc o1 r0;replace q0:=Kf o1 (by omega) q0
   replace r1:=Kc o1 r1;replace q1:=Kf o1 (by omega) q1
   replace r2:=Kc o1 r2;replace q2:=Kf o1 (by omega) q2
   have c6:=o1.size
   have k9:=Lc r0
   clear o1 ho g0 k2 b2 j4 m4
   have x0:=(Nn (b:=(w.heap.size+1)) (j:=2) (Nn (b:=(w.heap.size+1)) (j:=1) (Tc _ (w.heap.size+1) 0 (.slice p0 c.vars.length t0) r0) (.slice p1 c.arrays.length t1)) (.slice la (cnt c.list c.list.length) lc))
   have x1:=(Nn (b:=(w.heap.size+1)) (j:=2) (Tc _ (w.heap.size+1) 1 (.slice p1 c.arrays.length t1) (Nn (b:=(w.heap.size+1)) (j:=0) r1 (.slice p0 c.vars.length t0))) (.slice la (cnt c.list c.list.length) lc))
   have x2:=(Tc _ (w.heap.size+1) 2 (.slice la (cnt c.list c.list.length) lc) (Nn (b:=(w.heap.size+1)) (j:=1) (Nn (b:=(w.heap.size+1)) (j:=0) r2 (.slice p0 c.vars.length t0)) (.slice p1 c.arrays.length t1)))
   have y0:=(Oe (Oe (Oe oa (w.heap.size+1) 0 (fun h=>by have:=ia _ h;omega) (.slice p0 c.vars.length t0)) (w.heap.size+1) 1 (fun h=>by have:=ia _ h;omega) (.slice p1 c.arrays.length t1)) (w.heap.size+1) 2 (fun h=>by have:=ia _ h;omega) (.slice la (cnt c.list c.list.length) lc))
   have y1:=(Oe (Oe (Oe ob (w.heap.size+1) 0 (fun h=>by have:=ib _ h;omega) (.slice p0 c.vars.length t0)) (w.heap.size+1) 1 (fun h=>by have:=ib _ h;omega) (.slice p1 c.arrays.length t1)) (w.heap.size+1) 2 (fun h=>by have:=ib _ h;omega) (.slice la (cnt c.list c.list.length) lc))
   have y2:=(Oe (Oe (Oe ol (w.heap.size+1) 0 (fun h=>by have:=il _ h;omega) (.slice p0 c.vars.length t0)) (w.heap.size+1) 1 (fun h=>by have:=il _ h;omega) (.slice p1 c.arrays.length t1)) (w.heap.size+1) 2 (fun h=>by have:=il _ h;omega) (.slice la (cnt c.list c.list.length) lc))
   have tz:=(bst (bst (bst tt (w.heap.size+1) 0 (by omega) (.slice p0 c.vars.length t0)) (w.heap.size+1) 1 (by omega) (.slice p1 c.arrays.length t1)) (w.heap.size+1) 2 (by omega) (.slice la (cnt c.list c.list.length) lc))
   have s4:=fenceTo_len c.list c.list.length (Nat.le_refl _)
   have e5:=Lib.hid s4;clear s4 oa ob ol tt
   go_wp2
   exact bodyPost_ret (v:=.tuple #[.agg #[.slice p0 c.vars.length t0,.slice p1 c.arrays.length t1,.slice la (cnt c.list c.list.length) lc],.bool true]) (by simp [results,Try.results14,go_sem,x0,x1,x2]) rfl (by rw [HR.out];exact ⟨_,_,_,rfl,⟨Om y0 (by omega),Om y1 (by omega),by show World.ownsRow _ _ _ _ _ (fenceTo c.list c.list.length).length (inss (fenceTo c.list c.list.length));rw [e5.out];exact Om y2 (by omega),i5⟩,tz⟩)
end Go.Proofs.Ytkjedgnepnbkpaa
