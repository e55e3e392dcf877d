/-
 Parts of the proofs of the laws FnRemoveDead,FnRemoveDeadLeak,FnSpecFenced,FnSpecMemory.
-/
import Derived.Test.YtnpidfbcbmeijaaGreatLY
set_option linter.all false
namespace Go.Proofs.YtnpidfbcbmeijaaGreat
open Go.RowKit
def dOf (D:List Bool) (k:Nat):Bool:=D.getD k false
theorem dOf_at (D:List Bool) (k:Nat) (h:k < D.length):dOf D k=D[k]:=by unfold dOf;rw [List.getD_eq_getElem?_getD,List.getElem?_eq_getElem h];rfl
set_option maxHeartbeats 12800000 in
set_option maxRecDepth 100000 in
theorem without_any (va vb vc v:Value) (c:Cd) (D:List Bool) (w:World) (hr:ReadsC w va vb vc c) (hD:Reads w 1 v D.length (bools D)) (hDl:D.length=c.list.length) (hok:codeOk c=true) :
  Calls Tryz.prog 57 #[.agg #[va,vb,vc],v] w fun e w'=>∃ ua ub uc,e=.returned (.agg #[ua,ub,uc])∧OwnC w' w.heap.size ua ub uc (wout c (dOf D))∧Below w.heap.size w w':=by
 obtain ⟨a0,c0,a1,c1,a2,c2,rfl,rfl,rfl⟩:=hr.shape;obtain ⟨l1,l2⟩:=codeOk_len hok;obtain ⟨l3,l4⟩:=declOk_len (codeOk_decl hok);have x3:=Hi (fun k hk h0=>tgt_in (codeOk_all hok k hk) h0);have b3:=Hi (fun k hk=>dOf_at D k hk);have s3:=Hi (outTo_len c.list (dOf D) c.list.length Lr);have y3:Hid (wout c (dOf D)=⟨c.vars,c.arrays,outTo c.list (dOf D) c.list.length⟩):=Hi rfl;generalize wout c (dOf D)=R at *
 generalize dOf D=d at *
 have a4:=Hi hr.lt;have i4:=hr.l;obtain ⟨_,hn,aa,p4,b,j0,hv,f4,ha,i3⟩:=i4;simp only [Value.slice.injEq,true_and] at hv;obtain ⟨rfl,rfl⟩:=hv;obtain ⟨rfl,s4⟩:=ha (by omega);obtain ⟨_,h4,ad,j1,bd,v0,rfl,o1,h3,n1⟩:=hD;obtain ⟨rfl,q4⟩:=h3 (by omega);have c3:=Hi (fun k (h:k < c.list.length)=>show w.cell? ⟨bd,v0+k,none⟩=some (.bool (d k)) from by have h2:=n1 k (by rw [bools_length];omega);rw [bools_get] at h2;rw [b3.out k (by omega)];exact h2);have v1:Value.slice (some ⟨bd,v0,none⟩) D.length j1=Value.slice (some ⟨bd,v0,none⟩) c.list.length j1:=by rw [hDl]
 rw [v1];clear n1 h3 h4 o1 v1 b3 ha;clear hDl;have HC:=Hi (reads_Instr i3);clear i3;have t4:=mk_int c.list.length (by omega);obtain ⟨w2,i0⟩:∃ X,X=(w.alloc (.cells #[.slice a0 c.vars.length c0,.slice a1 c.arrays.length c1,.slice (some ⟨b,j0,none⟩) c.list.length c2] 26)).alloc (.cells #[.slice none 0 0,.slice none 0 0,.slice none 0 0] 26):=⟨_,rfl⟩;have c4:Below w.heap.size w w2:=by rw [i0];exact bal (bal (Bs w) _) _
 have p3:w2.heap.size=w.heap.size+1+1:=by rw [i0];simp
 have m0:w2.cell? ⟨w.heap.size,0,none⟩=some (.slice a0 c.vars.length c0):=by rw [i0];exact Ac (Wc rfl rfl) _
 have r0:w2.cell? ⟨w.heap.size+1,0,none⟩=some (.slice none 0 0):=by rw [i0];exact Wc (by simp) rfl
 have q0:w2.frozen? ⟨w.heap.size+1,0,none⟩=false:=by rw [i0];exact Fn (by simp)
 have m1:w2.cell? ⟨w.heap.size,1,none⟩=some (.slice a1 c.arrays.length c1):=by rw [i0];exact Ac (Wc rfl rfl) _
 have r1:w2.cell? ⟨w.heap.size+1,1,none⟩=some (.slice none 0 0):=by rw [i0];exact Wc (by simp) rfl
 have q1:w2.frozen? ⟨w.heap.size+1,1,none⟩=false:=by rw [i0];exact Fn (by simp)
 have m2:w2.cell? ⟨w.heap.size,2,none⟩=some (.slice (some ⟨b,j0,none⟩) c.list.length c2):=by rw [i0];exact Ac (Wc rfl rfl) _
 have r2:w2.cell? ⟨w.heap.size+1,2,none⟩=some (.slice none 0 0):=by rw [i0];exact Wc (by simp) rfl
 have q2:w2.frozen? ⟨w.heap.size+1,2,none⟩=false:=by rw [i0];exact Fn (by simp)
 have HW:=Hi i0;have HZ:=Hi p3;have oP:=own_made w2 (.int .i64 0) c.list.length 3 (by unfold maxLen;omega);rw [← ints_replicate] at oP;obtain ⟨w3,w1⟩:∃ X,X=World.alloc w2 (.cells (madeCells #[.int .i64 0] c.list.length) 3):=⟨_,rfl⟩;rw [← w1] at oP;have k0:Below w2.heap.size w2 w3:=by rw [w1];exact bal (Bs _) _
 have m4:w3.heap.size=w2.heap.size+1:=by rw [w1];simp
 have f3:=Hi w1;have j4:w.heap.size+2≤w2.heap.size:=by omega
 have n4:w2.heap.size+1≤w3.heap.size:=by omega
 clear i0 w1 p3 m4;have b1:=btr c4 k0;have q0:=Kf k0 (Lc r0) q0;have r0:=Kc k0 r0;have m0:=Kc k0 m0;have q1:=Kf k0 (Lc r1) q1;have r1:=Kc k0 r1;have m1:=Kc k0 m1;have q2:=Kf k0 (Lc r2) q2;have r2:=Kc k0 r2;have m2:=Kc k0 m2
 have a3:=Hi (fun W (hW:Below w3.heap.size w3 W) k (h:k < c.list.length)=>by
  obtain ⟨e0,e1,e2,e3,e4⟩:=HC.out k h;have hT:=btr b1 hW;exact (⟨Kc hT e0,Kc hT e1,Kc hT e2,Kc hT e3,Kc hT e4⟩:W.cell? ⟨b,j0+k*5,none⟩=some (.int .i64 c.list[k].op)∧W.cell? ⟨b,j0+k*5+1,none⟩=some (.int .i64 c.list[k].a)∧W.cell? ⟨b,j0+k*5+2,none⟩=some (.int .i64 c.list[k].b)∧W.cell? ⟨b,j0+k*5+3,none⟩=some (.int .i64 c.list[k].c)∧W.cell? ⟨b,j0+k*5+4,none⟩=some (.int .i64 c.list[k].d)))
 have j2:=Hi (fun k (h:k < c.list.length)=>Kc b1 (c3.out k h));have i2:=hr.below b1;have k3:=Lc m2;clear HC c3 hr;go_enter Tryz.func57,Tryz.ntmps57
 go_upto_region 1 with (fail)
 rw [← HW.out];clear HW
 have m2b:w2.cell? ⟨w.heap.size,2,none⟩=some (.slice (some ⟨b,j0,none⟩) c.list.length c2):=by
  rw [← m2];exact (World.cell?_of_block (w:=w2) (k0.block w.heap.size (by omega))).symm
 go_upto_region 2 with (fail)
 rw [← f3.out];clear f3 m2b;go_wp2_with fail
 go_loopw [6,19] (fun cn i wr=>∃ k:Nat,k≤c.list.length∧cn=.int .i64 (stay d k:Nat)∧i=.int .i64 k ∧
   wr.ownsRow w2.heap.size 3 1 (.slice (some ⟨w2.heap.size,0,none⟩) c.list.length c.list.length) c.list.length (ints (stays d k++(List.replicate c.list.length (0:Int)).drop k))∧Chg (fun q=>q=w2.heap.size) w3 wr) (fun _ i _=>c.list.length-(intOf i).toNat)
 case atStart=>exact ⟨0,Nat.zero_le _,rfl,rfl,by simpa [stays] using oP,Chg.refl _ _⟩
 case round =>
  obtain ⟨k,hk,rfl,rfl,s0,hC⟩:=hrel;have d5:=hC.size;have g4:=stay_le d k;clear oP;by_cases hlt:k < c.list.length
  ·have yD:=Gc hC (j2.out k hlt) (by omega);have y1:=s0.cellAt k (by omega);rw [ints_at _ _ (by rw [List.length_append,stays_len,List.length_drop,List.length_replicate];omega)] at y1;have f1:=s0.frozenAt k;have s1:stay d (k+1)=stay d k+(if d k=true then 0 else 1):=rfl;obtain ⟨q,o0⟩:∃ q,d k=q:=⟨_,rfl⟩;rw [o0] at yD;generalize ((stays d k++(List.replicate c.list.length (0:Int)).drop k)[k]'(by rw [List.length_append,stays_len,List.length_drop,List.length_replicate];omega))=z1 at *
   have tP:=(s0.stored k (.int .i64 (stay d k:Nat))).1;rw [ints_set,drop_cons _ k (by simpa using hlt) _ (stays_len _ _),← stays_succ] at tP;have y2:=Nn (b:=w2.heap.size) (j:=k) yD (.int .i64 (stay d k:Nat));have g3:=hC.setCell (w2.heap.size) k (.int .i64 (stay d k:Nat)) (fun _=>rfl);have w0:=Hi s1;have i1:=Hi o0;have kd:=Lc yD;have kp:=Lc y1;clear s1 o0 s0 hC
   cases q with
   | true =>
    go_wp2
    go_roundw
    case rel=>exact ⟨k+1,by omega,by rw [w0.out,i1.out];rfl,by go_num,tP,g3⟩
    case measure=>simp [intOf];omega
   | false =>
    go_wp2
    go_roundw
    case rel=>exact ⟨k+1,by omega,by rw [w0.out,i1.out];rfl,by go_num,tP,g3⟩
    case measure=>simp [intOf];omega
  have e:k=c.list.length:=by omega
  subst e;rw [List.drop_eq_nil_of_le (by simp),List.append_nil] at s0;obtain ⟨w4,rfl⟩:∃ X,X=wr:=⟨_,rfl⟩;have b2:=b1.trans (hC.below w.heap.size b1.size (fun q hq h=>by omega));replace q0:=Gf hC (Lc r0) q0 (by omega);replace r0:=Gc hC r0 (by omega);replace m0:=Gc hC m0 (by omega);replace q1:=Gf hC (Lc r1) q1 (by omega);replace r1:=Gc hC r1 (by omega);replace m1:=Gc hC m1 (by omega);replace q2:=Gf hC (Lc r2) q2 (by omega);replace r2:=Gc hC r2 (by omega);replace m2:=Gc hC m2 (by omega)
  have v2:=Hi (fun k (h:k < c.list.length)=>by
   obtain ⟨e0,e1,e2,e3,e4⟩:=a3.out w3 (Bs w3) k h;exact (⟨Gc hC e0 (by omega),Gc hC e1 (by omega),Gc hC e2 (by omega),Gc hC e3 (by omega),Gc hC e4 (by omega)⟩:w4.cell? ⟨b,j0+k*5,none⟩=some (.int .i64 c.list[k].op)∧w4.cell? ⟨b,j0+k*5+1,none⟩=some (.int .i64 c.list[k].a)∧w4.cell? ⟨b,j0+k*5+2,none⟩=some (.int .i64 c.list[k].b)∧w4.cell? ⟨b,j0+k*5+3,none⟩=some (.int .i64 c.list[k].c)∧w4.cell? ⟨b,j0+k*5+4,none⟩=some (.int .i64 c.list[k].d)))
  have q3:=Hi (fun k (h:k < c.list.length)=>Gc hC (j2.out k h) (by omega));have f5:=i2.lt
  have n3:=i2.keep hC (fun q hq h=>by
   have h1:=i2.lt q hq;have h2:=a4.out q hq;omega)
  have k4:=Lc m2;clear a3 j2 i2 hC b1;go_wp2
  go_loopw [8,37] (fun lv i wr=>∃ k:Nat,k≤c.list.length∧i=.int .i64 k∧wr.ownsRow w4.heap.size 62 5 lv (stay d k) (inss (outTo c.list d k))∧Below w4.heap.size w4 wr) (fun _ i _=>c.list.length-(intOf i).toNat)
  case atStart=>exact ⟨0,Nat.zero_le _,rfl,World.ownsRow_nil _ _ _ _,Bs _⟩
  case round =>
   obtain ⟨k,hk,rfl,ho,b0⟩:=hrel;have e5:=b0.size;have iv:=ho.lt;have g4:=stay_le d k;by_cases hlt:k < c.list.length
   ·obtain ⟨e0,e1,e2,e3,e4⟩:=v2.out k hlt;replace e0:=Kc b0 e0;replace e1:=Kc b0 e1;replace e2:=Kc b0 e2;replace e3:=Kc b0 e3;replace e4:=Kc b0 e4;have yD:=Kc b0 (q3.out k hlt);have m3:=outTo_succ c.list d k hlt;have s1:stay d (k+1)=stay d k+(if d k=true then 0 else 1):=rfl;have o3:=x3.out k hlt;obtain ⟨q,o0⟩:∃ q,d k=q:=⟨_,rfl⟩;rw [o0] at yD;generalize c.list[k]=x at *
    have n2:=Hi m3;have w0:=Hi s1;have HT:=Hi o3;have HV:=Hi o0;clear m3 s1 o3 o0;go_upto_region 14 with (fail)
    obtain ⟨w5,g0⟩:∃ X,X=World.alloc wr (.cells #[.int .i64 x.op,.int .i64 x.a,.int .i64 x.b,.int .i64 x.c,.int .i64 x.d] 62):=⟨_,rfl⟩;rw [← g0];have f2:Below wr.heap.size wr w5:=by rw [g0];exact bal (Bs wr) _
    have y4:wr.heap.size+1≤w5.heap.size:=by rw [g0];simp
    have d0:w5.cell? ⟨wr.heap.size,0,none⟩=some (.int .i64 x.op):=by rw [g0];exact Wc rfl rfl
    have z0:w5.frozen? ⟨wr.heap.size,0,none⟩=false:=by rw [g0];exact Fn rfl
    have d1:w5.cell? ⟨wr.heap.size,1,none⟩=some (.int .i64 x.a):=by rw [g0];exact Wc rfl rfl
    have z1:w5.frozen? ⟨wr.heap.size,1,none⟩=false:=by rw [g0];exact Fn rfl
    have d2:w5.cell? ⟨wr.heap.size,2,none⟩=some (.int .i64 x.b):=by rw [g0];exact Wc rfl rfl
    have z2:w5.frozen? ⟨wr.heap.size,2,none⟩=false:=by rw [g0];exact Fn rfl
    have d3:w5.cell? ⟨wr.heap.size,3,none⟩=some (.int .i64 x.c):=by rw [g0];exact Wc rfl rfl
    have z3:w5.frozen? ⟨wr.heap.size,3,none⟩=false:=by rw [g0];exact Fn rfl
    have d4:w5.cell? ⟨wr.heap.size,4,none⟩=some (.int .i64 x.d):=by rw [g0];exact Wc rfl rfl
    have z4:w5.frozen? ⟨wr.heap.size,4,none⟩=false:=by rw [g0];exact Fn rfl
    clear g0 e0 e1 e2 e3 e4;have kd:=Lc d0;have ky:=Lc yD;have o4:=Kc f2 yD;have g5:=Lc o4;have hB:=btr b0 f2;have o5:=Ob ho f2;clear yD f2 ho
    cases q with
    | true =>
     have n0:stay d k=stay d (k+1):=by rw [w0.out,HV.out];rfl
     have j3:outTo c.list d k=outTo c.list d (k+1):=by rw [n2.out,HV.out];simp
     have g1:=Hi n0;have t3:=Hi j3;clear n0 j3;go_wp2
     go_roundw
     case rel=>exact ⟨k+1,by omega,by go_num,by rw [← g1.out,← t3.out];exact o5,hB⟩
     case measure=>simp [intOf];omega
    | false =>
     go_wp2_with fail
     refine (target_any x _).mono ?_;rintro e w6 ⟨rfl,f0⟩;replace d0:=Kc f0 d0;replace z0:=Kf f0 (by omega) z0;replace d1:=Kc f0 d1;replace z1:=Kf f0 (by omega) z1;replace d2:=Kc f0 d2;replace z2:=Kf f0 (by omega) z2;replace d3:=Kc f0 d3;replace z3:=Kf f0 (by omega) z3;replace d4:=Kc f0 d4;replace z4:=Kf f0 (by omega) z4;have B6:=btr hB f0;have o6:=Ob o5 f0;have a5:=f0.size;have i6:=o6.lt;have k6:=Lc d0;clear f0 hB o5;by_cases ht:0≤tgt x
     ·obtain ⟨t1,t2⟩:=HT.out ht;obtain ⟨nt,p2⟩:∃ nt:Nat,tgt x=nt:=⟨(tgt x).toNat,by omega⟩;have k2:Hid (dx d x=aim x (stay d nt:Nat)):=Hi (by unfold dx;rw [if_pos ht,p2,Int.toNat_natCast]);rw [p2] at t1 ⊢;have s2:nt < c.list.length:=by omega
      have hq:(nt:Int) < (c.list.length:Int):=by omega
      have v4:(0:Int)≤(nt:Int):=by omega
      have yP:=(Ob s0 B6).cellAt nt (by omega);rw [ints_at _ _ (by rw [stays_len];exact s2),stays_get] at yP;have kP:=Lc yP;have v3:=Hi t2;clear t1 t2 ht p2;go_upto_region 17 with (fail)
      have D:=Bd (Bs w6);go_cut [55] (fun _ wx=>wx.cell? ⟨wr.heap.size,0,none⟩=some (.int .i64 (aim x (stay d nt:Nat)).op)∧wx.cell? ⟨wr.heap.size,1,none⟩=some (.int .i64 (aim x (stay d nt:Nat)).a)∧wx.cell? ⟨wr.heap.size,2,none⟩=some (.int .i64 (aim x (stay d nt:Nat)).b)∧wx.cell? ⟨wr.heap.size,3,none⟩=some (.int .i64 (aim x (stay d nt:Nat)).c)∧wx.cell? ⟨wr.heap.size,4,none⟩=some (.int .i64 (aim x (stay d nt:Nat)).d)∧Chg (fun q=>q=wr.heap.size) w6 wx)
      case first =>
       go_region_with (go_at_call 32;refine (to_any x _ _ v3.out).mono ?_;rintro e w7 ⟨rfl,b7⟩;have v7:=btr D b7;have u0:=Kc v7 d0;have u1:=Kc v7 d1;have u2:=Kc v7 d2;have u3:=Kc v7 d3;have u4:=Kc v7 d4;have r0:=Kf v7 k6 z0;have r1:=Kf v7 k6 z1;have r2:=Kf v7 k6 z2;have r3:=Kf v7 k6 z3;have r4:=Kf v7 k6 z4;have k7:=Lc u0)
       all_goals (go_wp2_with fail;go_meet;exact ⟨(Nn (b:=wr.heap.size) (j:=4) (Nn (b:=wr.heap.size) (j:=3) (Nn (b:=wr.heap.size) (j:=2) (Nn (b:=wr.heap.size) (j:=1) (Tc _ wr.heap.size 0 (.int .i64 (aim x (stay d nt:Nat)).op) u0) (.int .i64 (aim x (stay d nt:Nat)).a)) (.int .i64 (aim x (stay d nt:Nat)).b)) (.int .i64 (aim x (stay d nt:Nat)).c)) (.int .i64 (aim x (stay d nt:Nat)).d)),(Nn (b:=wr.heap.size) (j:=4) (Nn (b:=wr.heap.size) (j:=3) (Nn (b:=wr.heap.size) (j:=2) (Tc _ wr.heap.size 1 (.int .i64 (aim x (stay d nt:Nat)).a) (Nn (b:=wr.heap.size) (j:=0) u1 (.int .i64 (aim x (stay d nt:Nat)).op))) (.int .i64 (aim x (stay d nt:Nat)).b)) (.int .i64 (aim x (stay d nt:Nat)).c)) (.int .i64 (aim x (stay d nt:Nat)).d)),(Nn (b:=wr.heap.size) (j:=4) (Nn (b:=wr.heap.size) (j:=3) (Tc _ wr.heap.size 2 (.int .i64 (aim x (stay d nt:Nat)).b) (Nn (b:=wr.heap.size) (j:=1) (Nn (b:=wr.heap.size) (j:=0) u2 (.int .i64 (aim x (stay d nt:Nat)).op)) (.int .i64 (aim x (stay d nt:Nat)).a))) (.int .i64 (aim x (stay d nt:Nat)).c)) (.int .i64 (aim x (stay d nt:Nat)).d)),(Nn (b:=wr.heap.size) (j:=4) (Tc _ wr.heap.size 3 (.int .i64 (aim x (stay d nt:Nat)).c) (Nn (b:=wr.heap.size) (j:=2) (Nn (b:=wr.heap.size) (j:=1) (Nn (b:=wr.heap.size) (j:=0) u3 (.int .i64 (aim x (stay d nt:Nat)).op)) (.int .i64 (aim x (stay d nt:Nat)).a)) (.int .i64 (aim x (stay d nt:Nat)).b))) (.int .i64 (aim x (stay d nt:Nat)).d)),(Tc _ wr.heap.size 4 (.int .i64 (aim x (stay d nt:Nat)).d) (Nn (b:=wr.heap.size) (j:=3) (Nn (b:=wr.heap.size) (j:=2) (Nn (b:=wr.heap.size) (j:=1) (Nn (b:=wr.heap.size) (j:=0) u4 (.int .i64 (aim x (stay d nt:Nat)).op)) (.int .i64 (aim x (stay d nt:Nat)).a)) (.int .i64 (aim x (stay d nt:Nat)).b)) (.int .i64 (aim x (stay d nt:Nat)).c))),((((((Cb (S:=fun q=>q=wr.heap.size) v7).setCell wr.heap.size 0 (.int .i64 (aim x (stay d nt:Nat)).op) (fun _=>rfl)).setCell wr.heap.size 1 (.int .i64 (aim x (stay d nt:Nat)).a) (fun _=>rfl)).setCell wr.heap.size 2 (.int .i64 (aim x (stay d nt:Nat)).b) (fun _=>rfl)).setCell wr.heap.size 3 (.int .i64 (aim x (stay d nt:Nat)).c) (fun _=>rfl)).setCell wr.heap.size 4 (.int .i64 (aim x (stay d nt:Nat)).d) (fun _=>rfl))⟩)
      obtain ⟨w8,rfl⟩:∃ W,W=wc:=⟨_,rfl⟩;obtain ⟨d0,d1,d2,d3,d4,g2⟩:=hcut;have B8:=B6.trans (g2.below w4.heap.size B6.size (fun q hq h=>by omega));have o8:=Ow o6 g2 (fun q h h2=>by have:=iv q h;omega);have b5:=g2.size;have k8:=Lc d0;clear g2 B6 o6 D;go_wp2_with (at_builtin;refine wpList_ap tInstrs rfl _ _ rfl w4.heap.size _ (stay d k) _ rfl o8 [.int .i64 (aim x (stay d nt:Nat)).op,.int .i64 (aim x (stay d nt:Nat)).a,.int .i64 (aim x (stay d nt:Nat)).b,.int .i64 (aim x (stay d nt:Nat)).c,.int .i64 (aim x (stay d nt:Nat)).d] rfl rfl (one_insc (aim x (stay d nt:Nat))) (by omega) (by omega) ?_)
      intro g9 c9 wz o9 k1 o2;have i9:=o8.lt;have B9:=B8.trans (k1.below w4.heap.size B8.size (fun q hq h=>by have:=i9 q h;omega));rw [show inss (outTo c.list d k)++[Value.int .i64 (aim x (stay d nt:Nat)).op,Value.int .i64 (aim x (stay d nt:Nat)).a,Value.int .i64 (aim x (stay d nt:Nat)).b,Value.int .i64 (aim x (stay d nt:Nat)).c,Value.int .i64 (aim x (stay d nt:Nat)).d]=inss (outTo c.list d (k+1)) from by rw [n2.out,k2.out,HV.out];simp [rows_append,rows];rfl] at o9;have n0:stay d k+1=stay d (k+1):=by rw [w0.out,HV.out];rfl
      have g1:=Hi n0;clear n0;clear k1 o2 o8 B8;go_wp2
      go_roundw
      case rel=>exact ⟨k+1,by omega,by go_num,by rw [← g1.out];exact o9,B9⟩
      case measure=>simp [intOf];omega
     have k2:Hid (dx d x=x):=Hi (by unfold dx;rw [if_neg ht]);have x4:¬0≤tgt x:=ht;go_wp2_with (at_builtin;refine wpList_ap tInstrs rfl _ _ rfl w4.heap.size _ (stay d k) _ rfl o6 [.int .i64 (x).op,.int .i64 (x).a,.int .i64 (x).b,.int .i64 (x).c,.int .i64 (x).d] rfl rfl (one_insc (x)) (by omega) (by omega) ?_)
     intro g9 c9 wz o9 k1 o2;have i9:=o6.lt;have B9:=B6.trans (k1.below w4.heap.size B6.size (fun q hq h=>by have:=i9 q h;omega));rw [show inss (outTo c.list d k)++[Value.int .i64 (x).op,Value.int .i64 (x).a,Value.int .i64 (x).b,Value.int .i64 (x).c,Value.int .i64 (x).d]=inss (outTo c.list d (k+1)) from by rw [n2.out,k2.out,HV.out];simp [rows_append,rows];rfl] at o9;have n0:stay d k+1=stay d (k+1):=by rw [w0.out,HV.out];rfl
     have g1:=Hi n0;clear n0;clear k1 o2 o6 B6;go_wp2
     go_roundw
     case rel=>exact ⟨k+1,by omega,by go_num,by rw [← g1.out];exact o9,B9⟩
     case measure=>simp [intOf];omega
   have e:k=c.list.length:=by omega
   subst e;obtain ⟨la,lc,rfl⟩:=Oh ho;replace q0:=Kf b0 (Lc r0) q0;replace r0:=Kc b0 r0;replace m0:=Kc b0 m0;replace q1:=Kf b0 (Lc r1) q1;replace r1:=Kc b0 r1;replace m1:=Kc b0 m1;replace q2:=Kf b0 (Lc r2) q2;replace r2:=Kc b0 r2;replace m2:=Kc b0 m2;have km:=Lc m0;go_wp2_with fail
   refine (with_any _ _ _ c _ _ _ _ (n3.below b0) (by omega) (by omega)).mono ?_;rintro e w9 ⟨u0,u1,rfl,oa,ob,b4,l0⟩;obtain ⟨p0,t0,rfl⟩:=Oh oa;obtain ⟨p1,t1,rfl⟩:=Oh ob;have ol:=Ob ho l0;have ia:=oa.lt;have ib:=ob.lt;have il:=ho.lt;have tt:=btr (b2.trans (b0.mono b2.size)) l0;replace q0:=Kf l0 (Lc r0) q0;replace r0:=Kc l0 r0;replace q1:=Kf l0 (Lc r1) q1;replace r1:=Kc l0 r1;replace q2:=Kf l0 (Lc r2) q2;replace r2:=Kc l0 r2;have c5:=l0.size;have k9:=Lc r0;clear l0 ho b0 s0 n3 v2;have x0:=(Nn (b:=(w.heap.size+1)) (j:=2) (Nn (b:=(w.heap.size+1)) (j:=1) (Tc _ (w.heap.size+1) 0 (.slice p0 c.vars.length t0) r0) (.slice p1 c.arrays.length t1)) (.slice la (stay d c.list.length) lc));have x1:=(Nn (b:=(w.heap.size+1)) (j:=2) (Tc _ (w.heap.size+1) 1 (.slice p1 c.arrays.length t1) (Nn (b:=(w.heap.size+1)) (j:=0) r1 (.slice p0 c.vars.length t0))) (.slice la (stay d c.list.length) lc));have x2:=(Tc _ (w.heap.size+1) 2 (.slice la (stay d c.list.length) lc) (Nn (b:=(w.heap.size+1)) (j:=1) (Nn (b:=(w.heap.size+1)) (j:=0) r2 (.slice p0 c.vars.length t0)) (.slice p1 c.arrays.length t1)));have y0:=(Oe (Oe (Oe oa (w.heap.size+1) 0 (fun h=>by have:=ia _ h;omega) (.slice p0 c.vars.length t0)) (w.heap.size+1) 1 (fun h=>by have:=ia _ h;omega) (.slice p1 c.arrays.length t1)) (w.heap.size+1) 2 (fun h=>by have:=ia _ h;omega) (.slice la (stay d c.list.length) lc));have y1:=(Oe (Oe (Oe ob (w.heap.size+1) 0 (fun h=>by have:=ib _ h;omega) (.slice p0 c.vars.length t0)) (w.heap.size+1) 1 (fun h=>by have:=ib _ h;omega) (.slice p1 c.arrays.length t1)) (w.heap.size+1) 2 (fun h=>by have:=ib _ h;omega) (.slice la (stay d c.list.length) lc));have y2:=(Oe (Oe (Oe ol (w.heap.size+1) 0 (fun h=>by have:=il _ h;omega) (.slice p0 c.vars.length t0)) (w.heap.size+1) 1 (fun h=>by have:=il _ h;omega) (.slice p1 c.arrays.length t1)) (w.heap.size+1) 2 (fun h=>by have:=il _ h;omega) (.slice la (stay d c.list.length) lc));have tz:=(bst (bst (bst tt (w.heap.size+1) 0 (by omega) (.slice p0 c.vars.length t0)) (w.heap.size+1) 1 (by omega) (.slice p1 c.arrays.length t1)) (w.heap.size+1) 2 (by omega) (.slice la (stay d c.list.length) lc));clear oa ob ol tt;go_wp2
   exact bodyPost_ret (v:=.agg #[.slice p0 c.vars.length t0,.slice p1 c.arrays.length t1,.slice la (stay d c.list.length) lc]) (by simp [results,Tryz.results57,go_sem,x0,x1,x2]) rfl (by rw [y3.out];exact ⟨_,_,_,rfl,⟨Om y0 (by omega),Om y1 (by omega),by show World.ownsRow _ _ _ _ _ (outTo c.list d c.list.length).length (inss (outTo c.list d c.list.length));rw [s3.out];exact Om y2 (by omega),b4⟩,tz⟩)
end Go.Proofs.YtnpidfbcbmeijaaGreat
