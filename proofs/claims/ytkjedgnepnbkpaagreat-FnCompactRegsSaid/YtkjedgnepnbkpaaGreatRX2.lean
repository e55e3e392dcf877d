/-
 Parts of the proofs of the laws FnCompactRegs,FnFenceCode,FnRunTimeSteps.
-/
import Derived.Test.YtkjedgnepnbkpaaGreatRU
set_option linter.all false
namespace Go.Proofs.YtkjedgnepnbkpaaGreat
open Go.RowKit
set_option maxHeartbeats 12800000 in
set_option maxRecDepth 100000 in
theorem sCompact_any (va vb vc:Value) (c:Cd) (w:World) (hr:ReadsC w va vb vc c) :
  Calls Tryz.prog 13 #[.agg #[va,vb,vc]] w fun e w'=>∃ ua ub uc,e=.returned (.tuple #[.agg #[ua,ub,uc],.bool (compactR c).2])∧OwnC w' w.heap.size ua ub uc (compactR c).1∧Below w.heap.size w w':=by
 obtain ⟨a0,c0,a1,c1,a2,c2,rfl,rfl,rfl⟩:=hr.shape
 have b5:=fun h=>compactR_no (c:=c) h
 have c5:=fun h=>compactR_yes (c:=c) h
 generalize compactR c=R at *
 have u5:=Lib.hid b5
 have v5:=Lib.hid c5
 clear b5 c5
 have v6:=hr.lt
 go_enter Tryz.func13,Tryz.ntmps13
 go_wp2_with fail
 refine (sCodeValid_any _ _ _ c _ ((hr.below (bal (Bs _) (.cells #[.slice a0 c.vars.length c0,.slice a1 c.arrays.length c1,.slice a2 c.list.length c2] 26))).below (bal (Bs _) (.cells #[.slice none 0 0,.slice none 0 0,.slice none 0 0] 26)))).mono ?_
 rintro e w1 ⟨rfl,hb⟩
 have s3:=hb.size
 simp only [Sa] at s3
 replace hr:=((hr.below (bal (Bs _) _)).below (bal (Bs _) _)).below hb
 have v1:w1.cell? ⟨w.heap.size,0,none⟩=some (.slice a0 c.vars.length c0):=Kc hb (Ac (Wc (by simp) (by rfl)) _)
 have b2:w1.cell? ⟨w.heap.size,1,none⟩=some (.slice a1 c.arrays.length c1):=Kc hb (Ac (Wc (by simp) (by rfl)) _)
 have i1:w1.cell? ⟨w.heap.size,2,none⟩=some (.slice a2 c.list.length c2):=Kc hb (Ac (Wc (by simp) (by rfl)) _)
 have i0:w1.cell? ⟨w.heap.size+1,0,none⟩=some (.slice none 0 0):=Kc hb (Wc (by simp) (by rfl))
 have k2:w1.frozen? ⟨w.heap.size+1,0,none⟩=false:=Kf hb (by simp) (Fn (by simp))
 have j0:w1.cell? ⟨w.heap.size+1,1,none⟩=some (.slice none 0 0):=Kc hb (Wc (by simp) (by rfl))
 have p2:w1.frozen? ⟨w.heap.size+1,1,none⟩=false:=Kf hb (by simp) (Fn (by simp))
 have k0:w1.cell? ⟨w.heap.size+1,2,none⟩=some (.slice none 0 0):=Kc hb (Wc (by simp) (by rfl))
 have g0:w1.frozen? ⟨w.heap.size+1,2,none⟩=false:=Kf hb (by simp) (Fn (by simp))
 have h1:=btr (bal (bal (Bs w) (.cells #[.slice a0 c.vars.length c0,.slice a1 c.arrays.length c1,.slice a2 c.list.length c2] 26)) (.cells #[.slice none 0 0,.slice none 0 0,.slice none 0 0] 26)) hb
 clear hb
 have k4:=Lc v1
 have m4:=Lc b2
 have n4:=Lc i1
 have o4:=Lc i0
 have p4:=Lc j0
 have q4:=Lc k0
 cases hok:codeOk c
 ·have HO:=Lib.hid hok;clear hok hr
  have hR:=u5.out HO.out
  have HR:=Lib.hid hR;clear hR
  have x0:=(Nn (b:=(w.heap.size+1)) (j:=2) (Nn (b:=(w.heap.size+1)) (j:=1) (Tc _ (w.heap.size+1) 0 (.slice none 0 0) i0) (.slice none 0 0)) (.slice none 0 0))
  have x1:=(Nn (b:=(w.heap.size+1)) (j:=2) (Tc _ (w.heap.size+1) 1 (.slice none 0 0) (Nn (b:=(w.heap.size+1)) (j:=0) j0 (.slice none 0 0))) (.slice none 0 0))
  have x2:=(Tc _ (w.heap.size+1) 2 (.slice none 0 0) (Nn (b:=(w.heap.size+1)) (j:=1) (Nn (b:=(w.heap.size+1)) (j:=0) k0 (.slice none 0 0)) (.slice none 0 0)))
  have tt:=(bst (bst (bst h1 (w.heap.size+1) 0 (by omega) (.slice none 0 0)) (w.heap.size+1) 1 (by omega) (.slice none 0 0)) (w.heap.size+1) 2 (by omega) (.slice none 0 0))
  go_wp2
  exact bodyPost_ret (v:=.tuple #[.agg #[.slice none 0 0,.slice none 0 0,.slice none 0 0],.bool false]) (by simp [results,Tryz.results13,go_sem,x0,x1,x2]) rfl (by rw [HR.out];exact ⟨_,_,_,rfl,noCode_own _ _,tt⟩)
 have HO:=Lib.hid hok;clear hok
 have h4:=codeOk_len HO.out
 have h6:=declOk_len (codeOk_decl HO.out)
 obtain ⟨l1,l2⟩:=h4
 obtain ⟨l3,l4⟩:=h6
 have u3:=own_lit w1 #[] 0 3 rfl (by omega)
 go_wp2_with fail
 go_loopw [4,5] (fun o t wr=>∃ r:Nat,r≤14∧t=.int .i64 r∧∃ g cp,o=.slice (some ⟨g,0,none⟩) r cp∧wr.ownsRow w1.heap.size 3 1 (.slice (some ⟨g,0,none⟩) r cp) r (ints (List.replicate r (-1)))∧Below w1.heap.size w1 wr) (fun _ t _=>14-(intOf t).toNat)
 case atStart=>exact ⟨0,Nat.zero_le _,rfl,_,_,rfl,u3,bal (Bs w1) _⟩
 case round =>
  obtain ⟨r,s6,rfl,gN,cN,rfl,nm,hb⟩:=hrel
  clear u3
  by_cases hlr:r < 14
  ·have r5:=hb.size
   have l7:=nm.lt gN rfl
   go_wp2_with (at_builtin;refine wpList_ap tInts rfl _ _ rfl w1.heap.size _ r _ rfl nm [.int .i64 (-1)] rfl rfl (one_ints [-1]) (by omega) (by omega) ?_)
   intro g' c' wx ho' hc' hg'
   have c6:=hb.trans (hc'.below w1.heap.size r5 (fun q hq h=>by have e:gN=q:=Option.some.inj h;omega))
   rw [show ints (List.replicate r (-1))++[Value.int .i64 (-1)]=ints (List.replicate (r+1) (-1)) from by rw [List.replicate_succ',ints_append];rfl] at ho'
   clear nm hc' hg' hb
   go_wp2
   go_roundw
   case rel=>exact ⟨r+1,by omega,by go_num,_,_,rfl,ho',c6⟩
   case measure=>simp [intOf];omega
  have z5:r=14:=by omega
  subst z5
  obtain ⟨w4,rfl⟩:∃ X,X=wr:=⟨_,rfl⟩
  rw [← nmT_nil] at nm
  clear hlr s6
  have n5:=hb.size
  replace k2:=Kf hb (Lc i0) k2
  replace p2:=Kf hb (Lc j0) p2
  replace g0:=Kf hb (Lc k0) g0
  replace hr:=hr.below hb
  replace v1:=Kc hb v1
  replace b2:=Kc hb b2
  replace i1:=Kc hb i1
  replace i0:=Kc hb i0
  replace j0:=Kc hb j0
  replace k0:=Kc hb k0
  replace h1:=btr h1 hb
  clear hb
  have i4:=nm.lt
  replace k4:=Lc v1
  replace m4:=Lc b2
  replace n4:=Lc i1
  replace o4:=Lc i0
  replace p4:=Lc j0
  replace q4:=Lc k0
  go_wp2_with fail
  refine (l8Copy_any _ _ _ c _ hr (by omega) (by omega) (by omega)).mono ?_
  rintro e w5 ⟨u0,u1,u2,rfl,oc,hb⟩
  have o5:=hb.size
  replace k2:=Kf hb (Lc i0) k2
  replace p2:=Kf hb (Lc j0) p2
  replace g0:=Kf hb (Lc k0) g0
  replace hr:=hr.below hb
  replace v1:=Kc hb v1
  replace b2:=Kc hb b2
  replace i1:=Kc hb i1
  replace i0:=Kc hb i0
  replace j0:=Kc hb j0
  replace k0:=Kc hb k0
  replace nm:=Ob nm hb
  replace h1:=btr h1 hb
  clear hb
  have m3:=oc.lt
  obtain ⟨g2,t2,k6⟩:=own_pos oc.l (by omega)
  obtain ⟨p0,t0,o6⟩:=Oh oc.a
  obtain ⟨p1,t1,p6⟩:=Oh oc.b
  subst k6 o6 p6
  have j4:=oc.lt
  go_wp2
  obtain ⟨w6,l5,hb⟩:=nmw (World.alloc w5 (.cells #[.slice p0 c.vars.length t0,.slice p1 c.arrays.length t1,.slice (some ⟨g2,0,none⟩) c.list.length t2] 26))
  have t3:=hb.size
  simp only [Sa] at t3
  replace k2:=Kf hb (Lc (Ac i0 _)) (Fa (Lc i0) k2 _)
  replace p2:=Kf hb (Lc (Ac j0 _)) (Fa (Lc j0) p2 _)
  replace g0:=Kf hb (Lc (Ac k0 _)) (Fa (Lc k0) g0 _)
  replace hr:=(hr.below (bal (Bs _) _)).below hb
  replace v1:=Kc hb (Ac v1 _)
  replace b2:=Kc hb (Ac b2 _)
  replace i1:=Kc hb (Ac i1 _)
  replace i0:=Kc hb (Ac i0 _)
  replace j0:=Kc hb (Ac j0 _)
  replace k0:=Kc hb (Ac k0 _)
  replace nm:=Ob (Ob nm (bal (Bs _) _)) hb
  replace oc:=(oc.below (bal (Bs _) _)).below hb
  have g3:w6.cell? ⟨w5.heap.size,0,none⟩=some (.slice p0 c.vars.length t0):=Kc hb (Wc (by simp) (by rfl))
  have h3:w6.cell? ⟨w5.heap.size,1,none⟩=some (.slice p1 c.arrays.length t1):=Kc hb (Wc (by simp) (by rfl))
  have i3:w6.cell? ⟨w5.heap.size,2,none⟩=some (.slice (some ⟨g2,0,none⟩) c.list.length t2):=Kc hb (Wc (by simp) (by rfl))
  replace h1:=btr (bal h1 _) hb
  clear hb
  rw [← l5]
  clear l5
  have n7:=j4 g2 (Or.inr (Or.inr rfl))
  have m7:=i4 gN rfl
  have b6:=own_diff oc.a oc.l (by decide)
  have d6:=own_diff oc.b oc.l (by decide)
  have b7:=Lc g3
  have c7:=Lc h3
  have d7:=Lc i3
  obtain ⟨b9,r1,hb9a,h7,t5⟩:∃ b' q1,a2=some ⟨b',q1,none⟩∧b' < w.heap.size∧Hid (∀ k (h:k < c.list.length),w6.cell? ⟨b',q1+k*5,none⟩=some (.int .i64 c.list[k].op)∧w6.cell? ⟨b',q1+k*5+1,none⟩=some (.int .i64 c.list[k].a)∧w6.cell? ⟨b',q1+k*5+2,none⟩=some (.int .i64 c.list[k].b)∧w6.cell? ⟨b',q1+k*5+3,none⟩=some (.int .i64 c.list[k].c)∧w6.cell? ⟨b',q1+k*5+4,none⟩=some (.int .i64 c.list[k].d)):=by
   obtain ⟨_,hn',aa,cap',b',q1,p5,f6,ha,e6⟩:=hr.l
   simp only [Value.slice.injEq,true_and] at p5
   obtain ⟨rfl,rfl⟩:=p5
   obtain ⟨rfl,i7⟩:=ha (by omega)
   exact ⟨b',q1,rfl,v6 b' (Or.inr (Or.inr ⟨q1,_,by omega,rfl⟩)),Lib.hid (reads_Instr e6)⟩
  subst hb9a
  have oL:=oc.l
  have o7:=h1.size
  go_loopw [6,8] (fun nx t wr=>∃ i:Nat,i≤c.list.length∧t=.int .i64 i∧nx=.int .i64 ((ordC [] (c.list.take i)).length:Nat)∧wr.ownsRow w1.heap.size 3 1 (.slice (some ⟨gN,0,none⟩) 14 cN) 14 (ints (nmT (ordC [] (c.list.take i))))∧wr.ownsRow w4.heap.size 71 5 (.slice (some ⟨g2,0,none⟩) c.list.length t2) c.list.length (inss ((c.list.take i).map (cmpI (ordC [] c.list))++c.list.drop i))∧Chg (fun q=>q=gN∨q=g2) w6 wr) (fun _ t _=>c.list.length-(intOf t).toNat)
  case atStart=>exact ⟨0,Nat.zero_le _,rfl,rfl,nm,by simpa using oL,Chg.refl _ _⟩
  case round =>
   obtain ⟨i,hi,rfl,rfl,v2,b1,hC⟩:=hrel
   obtain ⟨wO,rfl⟩:∃ X,X=wr:=⟨_,rfl⟩
   have r5:=hC.size
   clear nm oL
   have n2:=Gc hC i1 (by omega)
   have o2:=Gc hC i3 (by omega)
   have kn:=Lc n2
   by_cases hlt:i < c.list.length
   ·have hl2':i < ((c.list.take i).map (cmpI (ordC [] c.list))++c.list.drop i).length:=by simp;omega
    obtain ⟨e0,e1,e2,e3,e4⟩:=t5.out i hlt
    replace e0:=Gc hC e0 (by omega);replace e1:=Gc hC e1 (by omega);replace e2:=Gc hC e2 (by omega);replace e3:=Gc hC e3 (by omega);replace e4:=Gc hC e4 (by omega)
    have ke:=Lc e0
    have c4:=codeOk_all HO.out i hlt
    have n6:=insOk_op c4
    have h5:=fun p hp=>knl_in c4 p hp
    have f7:=ordC_len c.list i
    have m5:(shp c.list[i].op).length=4:=shp_len (by omega)
    have j2:=Lib.hid m5
    have x3:=Lib.hid h5
    have g5:=knl_len c.list[i].op
    have w3:=Lib.hid (fun (k:Nat) (r:Int) h=>idx_final (l:=c.list) (i:=i) hlt (k:=k) (r:=r) h)
    have y3:Hid (ordC [] (c.list.take (i+1))=ordL (ordC [] (c.list.take i)) (rgsK c.list[i] 4)):=Lib.hid (ordC_succ [] c.list i hlt)
    have u4:=Lib.hid (fun j (hj:j < 5)=>(own_row insc_len b1 i hl2' j hj).trans (by rw [map_get (f:=cmpI (ordC [] c.list)) c.list i hlt hl2']))
    have v4:=Lib.hid (fun y hy=>map_next (f:=cmpI (ordC [] c.list)) c.list i hlt y hy)
    obtain ⟨x,hx⟩:∃ x:Ins,x=c.list[i]:=⟨_,rfl⟩
    rw [← hx] at e0 e1 e2 e3 e4 n6 g5 j2 x3 w3 y3 u4 v4
    have HX:=Lib.hid hx
    clear c4 h5 m5 hx
    generalize ordC [] (c.list.take i)=Oi at *
    generalize hOF:ordC [] c.list=OF at *
    have e7:=Lib.hid hOF
    clear hOF
    have hq:(i:Int) < (c.list.length:Int):=by omega
    go_wp2_with fail
    refine (l6Parts_any x _).mono ?_
    rintro e w7 ⟨gP,rfl,hP,h2⟩
    have q7:=h2.size
    have k7:=hP.lt gP rfl
    replace n2:=Kc h2 n2
    replace o2:=Kc h2 o2
    replace e0:=Kc h2 e0
    replace v2:=Ob v2 h2
    replace b1:=Ob b1 h2
    have a5:=hC.trans (Chg.of_below (S:=fun q=>q=gN∨q=g2) h2)
    have v7:=Lc n2
    have u7:=Lc e0
    clear e1 e2 e3 e4 h2 hC
    go_wp2_with fail
    refine (l12Kind_any x.op _ (by omega)).mono ?_
    rintro e w8 ⟨rfl,j1⟩
    have r7:=j1.size
    replace n2:=Kc j1 n2
    replace o2:=Kc j1 o2
    replace e0:=Kc j1 e0
    replace v2:=Ob v2 j1
    replace b1:=Ob b1 j1
    replace hP:=Ob hP j1
    have k3:=a5.trans (Chg.of_below (S:=fun q=>q=gN∨q=g2) j1)
    clear j1 a5
    obtain ⟨S,hS⟩:∃ S:ByteArray,S=⟨(knl x.op).toArray⟩:=⟨_,rfl⟩
    rw [← hS]
    have HZ:Hid (S.size=(knl x.op).length):=Lib.hid (by rw [hS];simp [ByteArray.size])
    have HG:Hid (∀ (k:Nat) (h:k < (knl x.op).length) (h':k < S.size),S[k]'h'=(knl x.op)[k]):=Lib.hid (by subst hS;exact str_get _)
    clear hS
    have d5:w8.ownsRow wO.heap.size 3 1 (.slice (some ⟨gP,0,none⟩) 4 4) 4 (ints (mixF OF x 0)):=by simpa [mixF] using hP
    have p3:w8.ownsRow w1.heap.size 3 1 (.slice (some ⟨gN,0,none⟩) 14 cN) 14 (ints (nmT (ordL Oi (rgsK x 0)))):=by simpa [rgsK,ordL] using v2
    clear hP v2
    go_wp2_with fail
    go_loopw [6,11] (fun nx t wy=>∃ k:Nat,k≤(knl x.op).length∧t=.int .i64 k∧nx=.int .i64 ((ordL Oi (rgsK x k)).length:Nat)∧wy.ownsRow w1.heap.size 3 1 (.slice (some ⟨gN,0,none⟩) 14 cN) 14 (ints (nmT (ordL Oi (rgsK x k))))∧wy.ownsRow wO.heap.size 3 1 (.slice (some ⟨gP,0,none⟩) 4 4) 4 (ints (mixF OF x k))∧Chg (fun q=>q=gN∨q=gP) w8 wy) (fun _ t _=>(knl x.op).length-(intOf t).toNat)
    case atStart=>exact ⟨0,Nat.zero_le _,rfl,by simp [rgsK,ordL],p3,d5,Chg.refl _ _⟩
    case round =>
     obtain ⟨k,hk,rfl,rfl,g1,m0,gC⟩:=hrel
     have s7:=gC.size
     clear p3 d5
     by_cases hlk:k < (knl x.op).length
     ·have a3:k < 4:=by omega
      have b4:k < (flds x).length:=by simpa [flds] using a3
      have g4:k < (shp x.op).length:=by rw [j2.out];exact a3
      have hm:=mixF_at OF j2.out k a3
      obtain ⟨j5,i5⟩:=List.getElem?_eq_some_iff.1 hm
      have e5:=m0.cellAt k (by omega)
      rw [List.getElem?_eq_getElem (by rw [ints_length];exact j5),ints_get,i5] at e5
      have n3:=cmpF_get OF k g4 b4 (by rw [cmpF_len OF j2.out];exact a3)
      have h0:=fun v hv=>mixF_set OF j2.out k a3 v hv
      have q0:=fun hv=>mixF_same OF j2.out k a3 hv
      rw [n3] at h0 q0
      have m1:=knl_shp (op:=x.op) (by omega) k hlk g4
      have c3:=rgsK_succ x k g4 b4
      have q5:k < (zk x).length:=by rw [zk_len];exact hlk
      have w0:=x3.out _ (List.getElem_mem q5)
      rw [zk_get x k q5 hlk b4] at w0
      simp only at w0
      have g7:∀ h',S[k]'h'=(knl x.op)[k]:=HG.out k hlk
      have s3:k < S.size:=by rw [HZ.out];exact hlk
      have u6:(k:Int) < (S.size:Int):=by omega
      have a6:=ordL_len Oi (rgsK x k)
      have t6:=rgsK_len x k
      have k1:=w3.out (k+1)
      clear hm j5 i5 n3
      generalize (knl x.op)[k]=kd at *
      generalize (shp x.op)[k]=sd at *
      generalize (flds x)[k]=fd at *
      by_cases hkd:kd=48
      ·have b3:¬sd=114:=fun h=>(m1.2 h) hkd
       have l6:((kd.toNat:Int) != 48)=false:=by subst hkd;rfl
       have i2:Hid (rgsK x (k+1)=rgsK x k):=Lib.hid (by rw [c3,if_neg b3,List.append_nil])
       have k5:=q0 (by rw [if_neg b3])
       rw [k5] at m0
       clear hkd b3 m1 c3 h0 q0 w0 k5 k1
       go_wp2
       go_roundw
       case rel=>exact ⟨k+1,by omega,by go_num,by rw [i2.out],by rw [i2.out];exact g1,m0,gC⟩
       case measure=>simp [intOf];omega
      have b3:sd=114:=m1.1 hkd
      have l6:((kd.toNat:Int) != 48)=true:=by
       simp only [bne_iff_ne,ne_eq]
       intro h
       exact hkd (UInt8.toNat_inj.1 (by simp;omega))
      obtain ⟨q6,r6⟩:=w0 hkd
      obtain ⟨nf,rfl⟩:∃ nf:Nat,fd=(nf:Int):=⟨fd.toNat,by omega⟩
      have o3:nf < 14:=by omega
      rw [if_pos b3] at h0 c3
      rw [c3,ordL_snoc] at k1
      have i2:Hid (ordL Oi (rgsK x (k+1))=ordS (ordL Oi (rgsK x k)) (nf:Int)):=Lib.hid (by rw [c3,ordL_snoc])
      have b0:=k1 nf (by rw [ordS_mem];simp)
      have f5:=g1.cellAt nf (by omega)
      rw [List.getElem?_eq_getElem (by rw [ints_length,nmT_len];exact o3),ints_get,nmT_get] at f5
      have j7:=g1.frozenAt nf
      have i6:=m0.frozenAt k
      clear hkd b3 m1 c3 q0 w0 k1 q6 r6
      generalize ordL Oi (rgsK x k)=Ok at *
      cases hct:Ok.contains (nf:Int) with
      | true =>
       have hz:=idxI_has Ok (nf:Int)
       rw [hct] at hz
       have p7:¬idxI Ok (nf:Int) < 0:=by have:=of_decide_eq_true hz;omega
       have s4:=Lib.hid (ordS_in hct)
       rw [ordS_in hct] at b0
       have r3:=(m0.stored k (.int .i64 (idxI Ok (nf:Int)))).1
       rw [intsP_set,h0 _ b0.symm] at r3
       have w2:=Oe g1 gP k (fun h=>by have e:gN=gP:=Option.some.inj h;omega) (.int .i64 (idxI Ok (nf:Int)))
       have z3:=gC.setCell gP k (.int .i64 (idxI Ok (nf:Int))) (fun _=>Or.inr rfl)
       generalize idxI Ok (nf:Int)=z at *
       clear hct hz b0 h0 g1 m0 gC
       go_wp2
       go_roundw
       case rel=>exact ⟨k+1,by omega,by go_num,by rw [i2.out,s4.out],by rw [i2.out,s4.out];exact w2,r3,z3⟩
       case measure=>simp [intOf];omega
      | false =>
       rw [idxI_none hct] at f5
       have x4:=Lib.hid (ordS_new hct)
       rw [ordS_new hct,idxI_last hct] at b0
       have o1:=(g1.stored nf (.int .i64 (Ok.length:Nat))).1
       rw [intsP_set,nmT_set hct] at o1
       have a4:=o1.cellAt nf (by omega)
       rw [List.getElem?_eq_getElem (by rw [ints_length,nmT_len];exact o3),ints_get,nmT_get,idxI_last hct] at a4
       have j3:=Oe m0 gN nf (fun h=>by have e:gP=gN:=Option.some.inj h;omega) (.int .i64 (Ok.length:Nat))
       have g6:=Nn (b:=gN) (j:=nf) e5 (.int .i64 (Ok.length:Nat))
       have j6:=Fs (b:=⟨gN,nf,none⟩) i6 (.int .i64 (Ok.length:Nat))
       have r3:=(j3.stored k (.int .i64 (Ok.length:Nat))).1
       rw [intsP_set,h0 _ b0.symm] at r3
       have w2:=Oe o1 gP k (fun h=>by have e:gN=gP:=Option.some.inj h;omega) (.int .i64 (Ok.length:Nat))
       have z3:=(gC.setCell gN nf (.int .i64 (Ok.length:Nat)) (fun _=>Or.inl rfl)).setCell gP k (.int .i64 (Ok.length:Nat)) (fun _=>Or.inr rfl)
       clear hct b0 h0 g1 m0 gC o1 j3
       go_wp2
       go_roundw
       case rel=>exact ⟨k+1,by omega,by go_num,by rw [i2.out,x4.out,List.length_append];go_num,by rw [i2.out,x4.out];exact w2,r3,z3⟩
       case measure=>simp [intOf];omega
     have e:k=(knl x.op).length:=by omega
     subst e
     have o0:=rest_all (x:=x) (by omega) OF _ (Nat.le_refl _) g5
     rw [o0.1] at g1
     rw [o0.2,mixF_4 OF j2.out] at m0
     rw [o0.1]
     clear o0 hlk
     have m6:¬(((knl x.op).length:Int) < (S.size:Int)):=by rw [HZ.out];omega
     obtain ⟨wI,rfl⟩:∃ X,X=wr:=⟨_,rfl⟩
     have m2:=Gc gC n2 (by omega)
     have q2:=Gc gC o2 (by omega)
     have v0:=Gc gC e0 (by omega)
     have y6:=Lc m2
     have z6:=Lc q2
     have a7:=Lc v0
     have r0:=Ow b1 gC (fun q hq h=>by have e:g2=q:=Option.some.inj hq;omega)
     have d0:wI.cell? ⟨g2,i*5,none⟩=some (.int .i64 x.op):=by rw [HX.out,← map_get (f:=cmpI OF) c.list i hlt hl2'];exact own_row insc_len r0 i hl2' 0 (by omega)
     have d1:wI.cell? ⟨g2,i*5+1,none⟩=some (.int .i64 x.a):=by rw [HX.out,← map_get (f:=cmpI OF) c.list i hlt hl2'];exact own_row insc_len r0 i hl2' 1 (by omega)
     have d2:wI.cell? ⟨g2,i*5+2,none⟩=some (.int .i64 x.b):=by rw [HX.out,← map_get (f:=cmpI OF) c.list i hlt hl2'];exact own_row insc_len r0 i hl2' 2 (by omega)
     have d3:wI.cell? ⟨g2,i*5+3,none⟩=some (.int .i64 x.c):=by rw [HX.out,← map_get (f:=cmpI OF) c.list i hlt hl2'];exact own_row insc_len r0 i hl2' 3 (by omega)
     have d4:wI.cell? ⟨g2,i*5+4,none⟩=some (.int .i64 x.d):=by rw [HX.out,← map_get (f:=cmpI OF) c.list i hlt hl2'];exact own_row insc_len r0 i hl2' 4 (by omega)
     have l0:wI.cell? ⟨gP,0,none⟩=some (.int .i64 (cmpI OF x).a):=by
      have h:=m0.cellAt 0 (by omega)
      simpa [ints,flds] using h
     have l1:wI.cell? ⟨gP,1,none⟩=some (.int .i64 (cmpI OF x).b):=by
      have h:=m0.cellAt 1 (by omega)
      simpa [ints,flds] using h
     have l2:wI.cell? ⟨gP,2,none⟩=some (.int .i64 (cmpI OF x).c):=by
      have h:=m0.cellAt 2 (by omega)
      simpa [ints,flds] using h
     have l3:wI.cell? ⟨gP,3,none⟩=some (.int .i64 (cmpI OF x).d):=by
      have h:=m0.cellAt 3 (by omega)
      simpa [ints,flds] using h
     have f0:=r0.frozenAt (i*5)
     have f1:=r0.frozenAt (i*5+1)
     have f2:=r0.frozenAt (i*5+2)
     have f3:=r0.frozenAt (i*5+3)
     have f4:=r0.frozenAt (i*5+4)
     have x6:=Lc l0
     have t7:=Lc d0
     have D:=Below.drew (Bs wI)
     have v3:=own_set5 r0 i hl2' (cmpI OF x)
     rw [v4.out _ (by rw [HX.out])] at v3
     have y4:Chg (fun q=>q=gN∨q=g2) w6 wI:=⟨gC.os.trans k3.os,gC.tape.trans k3.tape,gC.output.trans k3.output,by omega,fun q hq hn=>(gC.block q (by omega) (fun h=>by
      rcases h with h | h
      ·exact hn (Or.inl h)
      omega)).trans (k3.block q hq hn)⟩
     have q3:(cmpI OF x).op=x.op:=rfl
     rw [q3] at v3
     clear q3 gC k3 m0 n2 o2 e0 b1 r0
     generalize (cmpI OF x).a=fa at *
     generalize (cmpI OF x).b=fb at *
     generalize (cmpI OF x).c=fc at *
     generalize (cmpI OF x).d=fd at *
     have s1:=Ob v3 (Below.drew (Bs _))
     have s2:=Ob (Oe (Oe (Oe (Oe (Oe g1 g2 (i*5) (fun h=>by have e:gN=g2:=Option.some.inj h;omega) (.int .i64 x.op)) g2 (i*5+1) (fun h=>by have e:gN=g2:=Option.some.inj h;omega) (.int .i64 fa)) g2 (i*5+2) (fun h=>by have e:gN=g2:=Option.some.inj h;omega) (.int .i64 fb)) g2 (i*5+3) (fun h=>by have e:gN=g2:=Option.some.inj h;omega) (.int .i64 fc)) g2 (i*5+4) (fun h=>by have e:gN=g2:=Option.some.inj h;omega) (.int .i64 fd)) (Below.drew (Bs _))
     have s5:=Chg.trans (((((y4.setCell g2 (i*5) (.int .i64 x.op) (fun _=>Or.inr rfl)).setCell g2 (i*5+1) (.int .i64 fa) (fun _=>Or.inr rfl)).setCell g2 (i*5+2) (.int .i64 fb) (fun _=>Or.inr rfl)).setCell g2 (i*5+3) (.int .i64 fc) (fun _=>Or.inr rfl)).setCell g2 (i*5+4) (.int .i64 fd) (fun _=>Or.inr rfl)) (Chg.of_below (Below.drew (Bs _)))
     have H1:=Lib.hid s1
     have H2:=Lib.hid s2
     have H5:=Lib.hid s5
     have y5:=Lib.hid (show ∀ W',Below wI.heap.size wI W'→(fun W'=>W'.cell? ⟨w.heap.size,2,none⟩=some (.slice (some ⟨b9,r1,none⟩) c.list.length c2)∧W'.cell? ⟨w5.heap.size,2,none⟩=some (.slice (some ⟨g2,0,none⟩) c.list.length t2)∧W'.cell? ⟨b9,r1+i*5,none⟩=some (.int .i64 x.op)∧W'.cell? ⟨gP,0,none⟩=some (.int .i64 fa)∧W'.cell? ⟨gP,1,none⟩=some (.int .i64 fb)∧W'.cell? ⟨gP,2,none⟩=some (.int .i64 fc)∧W'.cell? ⟨gP,3,none⟩=some (.int .i64 fd)) W' from fun W' h=>⟨Kc h m2,Kc h q2,Kc h v0,Kc h l0,Kc h l1,Kc h l2,Kc h l3⟩)
     have t4:=And.intro (Kc (Below.drew (Bs _)) (Nn (b:=g2) (j:=i*5+4) (Nn (b:=g2) (j:=i*5+3) (Nn (b:=g2) (j:=i*5+2) (Nn (b:=g2) (j:=i*5+1) (Nn (b:=g2) (j:=i*5) m2 (.int .i64 x.op)) (.int .i64 fa)) (.int .i64 fb)) (.int .i64 fc)) (.int .i64 fd))) (And.intro (Kc (Below.drew (Bs _)) (Nn (b:=g2) (j:=i*5+4) (Nn (b:=g2) (j:=i*5+3) (Nn (b:=g2) (j:=i*5+2) (Nn (b:=g2) (j:=i*5+1) (Nn (b:=g2) (j:=i*5) q2 (.int .i64 x.op)) (.int .i64 fa)) (.int .i64 fb)) (.int .i64 fc)) (.int .i64 fd))) (And.intro (Kc (Below.drew (Bs _)) (Nn (b:=g2) (j:=i*5+4) (Nn (b:=g2) (j:=i*5+3) (Nn (b:=g2) (j:=i*5+2) (Nn (b:=g2) (j:=i*5+1) (Nn (b:=g2) (j:=i*5) v0 (.int .i64 x.op)) (.int .i64 fa)) (.int .i64 fb)) (.int .i64 fc)) (.int .i64 fd))) (And.intro (Kc (Below.drew (Bs _)) (Nn (b:=g2) (j:=i*5+4) (Nn (b:=g2) (j:=i*5+3) (Nn (b:=g2) (j:=i*5+2) (Nn (b:=g2) (j:=i*5+1) (Nn (b:=g2) (j:=i*5) l0 (.int .i64 x.op)) (.int .i64 fa)) (.int .i64 fb)) (.int .i64 fc)) (.int .i64 fd))) (And.intro (Kc (Below.drew (Bs _)) (Nn (b:=g2) (j:=i*5+4) (Nn (b:=g2) (j:=i*5+3) (Nn (b:=g2) (j:=i*5+2) (Nn (b:=g2) (j:=i*5+1) (Nn (b:=g2) (j:=i*5) l1 (.int .i64 x.op)) (.int .i64 fa)) (.int .i64 fb)) (.int .i64 fc)) (.int .i64 fd))) (And.intro (Kc (Below.drew (Bs _)) (Nn (b:=g2) (j:=i*5+4) (Nn (b:=g2) (j:=i*5+3) (Nn (b:=g2) (j:=i*5+2) (Nn (b:=g2) (j:=i*5+1) (Nn (b:=g2) (j:=i*5) l2 (.int .i64 x.op)) (.int .i64 fa)) (.int .i64 fb)) (.int .i64 fc)) (.int .i64 fd))) (Kc (Below.drew (Bs _)) (Nn (b:=g2) (j:=i*5+4) (Nn (b:=g2) (j:=i*5+3) (Nn (b:=g2) (j:=i*5+2) (Nn (b:=g2) (j:=i*5+1) (Nn (b:=g2) (j:=i*5) l3 (.int .i64 x.op)) (.int .i64 fa)) (.int .i64 fb)) (.int .i64 fc)) (.int .i64 fd))))))))
     have x5:=Lib.hid t4
     clear t4
     clear v3 g1 y4 s1 s2 s5 m2 q2 v0 l0 l1 l2 l3 y6 z6 a7 x6 u4 x3 w3 HG
     go_upto_region 23 with (fail)
     go_region_held3 (fun W'=>W'.cell? ⟨w.heap.size,2,none⟩=some (.slice (some ⟨b9,r1,none⟩) c.list.length c2)∧W'.cell? ⟨w5.heap.size,2,none⟩=some (.slice (some ⟨g2,0,none⟩) c.list.length t2)∧W'.cell? ⟨b9,r1+i*5,none⟩=some (.int .i64 x.op)∧W'.cell? ⟨gP,0,none⟩=some (.int .i64 fa)∧W'.cell? ⟨gP,1,none⟩=some (.int .i64 fb)∧W'.cell? ⟨gP,2,none⟩=some (.int .i64 fc)∧W'.cell? ⟨gP,3,none⟩=some (.int .i64 fd)) (first | exact y5.out _ D | exact x5.out) (fail)
     all_goals
      go_wp2
      go_roundw
      case rel=>exact ⟨i+1,by omega,by go_num,by rw [y3.out],by rw [y3.out];exact H2.out,H1.out,H5.out⟩
      case measure=>simp [intOf];omega
   have e:i=c.list.length:=by omega
   subst e
   rw [List.take_length,List.drop_length,List.append_nil] at b1
   have n1:=Gc hC h3 (by omega)
   have n0:=Gc hC g3 (by omega)
   have s0:=Gc hC i0 (by omega)
   have s1:=Gc hC j0 (by omega)
   have s2:=Gc hC k0 (by omega)
   have z0:=Gf hC (by omega) k2 (by omega)
   have z1:=Gf hC (by omega) p2 (by omega)
   have z2:=Gf hC (by omega) g0 (by omega)
   have ra:=Ow oc.a hC (fun q hq h=>by
    rcases h with h | h
    ·have:=m3 q (Or.inl hq);omega
    exact b6 q hq (by rw [h];rfl))
   have rb:=Ow oc.b hC (fun q hq h=>by
    rcases h with h | h
    ·have:=m3 q (Or.inr (Or.inl hq));omega
    exact d6 q hq (by rw [h];rfl))
   have r4:=oc.ab
   have la:=ra.lt
   have lb:=rb.lt
   have r2:=b1.lt
   have y0:=(Nn (b:=w.heap.size+1) (j:=2) (Nn (b:=w.heap.size+1) (j:=1) (Tc _ (w.heap.size+1) 0 (.slice p0 c.vars.length t0) s0) (.slice p1 c.arrays.length t1)) (.slice (some ⟨g2,0,none⟩) c.list.length t2))
   have y1:=(Nn (b:=w.heap.size+1) (j:=2) (Tc _ (w.heap.size+1) 1 (.slice p1 c.arrays.length t1) (Nn (b:=w.heap.size+1) (j:=0) s1 (.slice p0 c.vars.length t0))) (.slice (some ⟨g2,0,none⟩) c.list.length t2))
   have y2:=(Tc _ (w.heap.size+1) 2 (.slice (some ⟨g2,0,none⟩) c.list.length t2) (Nn (b:=w.heap.size+1) (j:=1) (Nn (b:=w.heap.size+1) (j:=0) s2 (.slice p0 c.vars.length t0)) (.slice p1 c.arrays.length t1)))
   have za:=(Oe (Oe (Oe ra (w.heap.size+1) 0 (fun h=>by have:=la _ h;omega) (.slice p0 c.vars.length t0)) (w.heap.size+1) 1 (fun h=>by have:=la _ h;omega) (.slice p1 c.arrays.length t1)) (w.heap.size+1) 2 (fun h=>by have:=la _ h;omega) (.slice (some ⟨g2,0,none⟩) c.list.length t2))
   have zb:=(Oe (Oe (Oe rb (w.heap.size+1) 0 (fun h=>by have:=lb _ h;omega) (.slice p0 c.vars.length t0)) (w.heap.size+1) 1 (fun h=>by have:=lb _ h;omega) (.slice p1 c.arrays.length t1)) (w.heap.size+1) 2 (fun h=>by have:=lb _ h;omega) (.slice (some ⟨g2,0,none⟩) c.list.length t2))
   have zl:=(Oe (Oe (Oe b1 (w.heap.size+1) 0 (fun h=>by have:=r2 _ h;omega) (.slice p0 c.vars.length t0)) (w.heap.size+1) 1 (fun h=>by have:=r2 _ h;omega) (.slice p1 c.arrays.length t1)) (w.heap.size+1) 2 (fun h=>by have:=r2 _ h;omega) (.slice (some ⟨g2,0,none⟩) c.list.length t2))
   have z4:=h1.trans (hC.below w.heap.size h1.size (fun q hq h=>by omega))
   have zB:=(bst (bst (bst z4 (w.heap.size+1) 0 (by omega) (.slice p0 c.vars.length t0)) (w.heap.size+1) 1 (by omega) (.slice p1 c.arrays.length t1)) (w.heap.size+1) 2 (by omega) (.slice (some ⟨g2,0,none⟩) c.list.length t2))
   have hR:=v5.out HO.out
   have HR:=Lib.hid hR
   clear hR ra rb b1 hC z4 oc v2
   go_wp2
   exact bodyPost_ret (v:=.tuple #[.agg #[.slice p0 c.vars.length t0,.slice p1 c.arrays.length t1,.slice (some ⟨g2,0,none⟩) c.list.length t2],.bool true]) (by simp [results,Tryz.results13,go_sem,y0,y1,y2]) rfl (by rw [HR.out];exact ⟨_,_,_,rfl,⟨Om za (by omega),Om zb (by omega),by rw [List.length_map];exact Om zl (by omega),r4⟩,zB⟩)
end Go.Proofs.YtkjedgnepnbkpaaGreat
