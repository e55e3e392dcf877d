/-
 Parts of the proofs of the laws FnExactProductProgram.
-/
import Derived.Test.YtlckklglbodgbaaKC
set_option maxHeartbeats 12800000
set_option maxRecDepth 100000
set_option linter.all false
namespace Go.Proofs.Ytlckklglbodgbaa
open Go.RowKit
theorem iLabel_any (xs ys:List Int) (pv pa pu:Option Addr) (cv ca nu cu:Nat):∀ (d:Nat) (A:Nat→Prop) (D:Nat) (n:En) (e:Ex) (w:World),Reads w 1 (.slice pv xs.length cv) xs.length (ints xs)→Reads w 1 (.slice pa ys.length ca) ys.length (ints ys)→ExAt w A D n e→exOk xs.length ys.length d e=true →
  Calls Try.prog 55 #[.agg #[.slice pv xs.length cv,.slice pa ys.length ca,.slice pu nu cu],.agg #[.int .i64 n.k,.int .i64 n.v,.slice n.p n.n n.c]] w fun r w'=>r=.returned (.int .i64 (labE xs ys e))∧Below w.heap.size w w':=by
 intro d
 induction d with
 | zero=>intro A D n e w _ _ _ h;cases h
 | succ d IH0 =>
  intro A D n e w hr hs hx k1
  cases D with
  | zero=>cases hx
  | succ D =>
   obtain ⟨ek,ev,L⟩:=e;have hn:=hx.shape;have HK:=Hi (fun W (hW:Below w.heap.size w W) j hj=>(hx.below hW).kidm j hj);have h0:=Hi (exOk_kids k1);have j1:=exOk_lim k1;have z2:L.length≤9223372036854775807:=by obtain ⟨_,_,_,_,h,_⟩:=hx;exact h.2.1
   have d0:=Hi (fun W (hW:Below w.heap.size w W)=>Ai (hr.below hW) (hs.below hW));have IH:=Hi IH0;clear IH0 k1 hx;obtain ⟨nk,t3,np,s3,nc⟩:=n;simp only [Ex.k,Ex.v,Ex.kids] at hn;obtain ⟨rfl,rfl,rfl⟩:=hn;obtain ⟨q2,r2⟩:=j1;obtain ⟨iv,rfl⟩:=Int.eq_ofNat_of_zero_le q2;obtain ⟨a0,o2⟩:∃ a,a=lbl0 xs ys nk (iv:Int):=⟨_,rfl⟩;have g0:=Hi o2;clear o2 q2;go_enter Try.func55,Try.ntmps55
   go_upto_region 2 with (fail)
   generalize hnw:World.alloc _ _=w1;have hb:=nmh hnw;clear hnw
   have l1:=hb.size;simp only [Sa] at l1;have i0:=Bb (Bk.al (Bk.n3 (w.heap.size)) (.cells #[.int .i64 nk,.int .i64 (iv:Int),.slice np L.length nc] 49)) hb;have l0:=Bb (Bk.n3 (w.heap.size+1)) hb;have f0:=btr (bal (bal (Bs w) (.cells #[.slice pv xs.length cv,.slice pa ys.length ca,.slice pu nu cu] 26)) (.cells #[.int .i64 nk,.int .i64 (iv:Int),.slice np L.length nc] 49)) hb;clear hb;have q3:=Bk.lz i0;have r3:=Bk.lz l0;by_cases h2:nk=2
   ·subst h2;have x2:(iv:Int) < (xs.length:Int):=by simp [limitOf] at r2;omega
    obtain ⟨jb,jo,hj,y2,ej⟩:=gi_at (d0.out _ f0).1 iv (by omega);subst hj;have hg:gi xs (iv:Int)=a0:=by rw [g0.out];simp [lbl0]
    rw [hg] at ej;clear hg;obtain ⟨v2,l3⟩:=Bk.cf i0 0 rfl;obtain ⟨k3,m3,m1,t1,n1,v1⟩:=Bk.h3 l0;go_wp2_with fail
    obtain ⟨w0,x1,x0,y1⟩:=Bk.f2 i0 1 2 rfl rfl;have HC:=Hi (fun W (hW:Below w1.heap.size w1 W)=>show _∧_∧_ from ⟨Kc hW v2,Kc hW w0,Kc hW x0⟩);have o0:=Hi f0;clear f0 i0 l0 ej v2 l3 k3 m3 m1 t1 n1 v1 w0 x1 x0 y1;go_loopw [5,29] (fun m i wr=>∃ (k:Nat) (x:Int),k≤L.length∧i=.int .i64 k∧m=.int .i64 x∧Hid (x=labL xs ys a0 (L.take k))∧Below w1.heap.size w1 wr) (fun _ i _=>L.length-(intOf i).toNat)
    case atStart=>exact ⟨0,a0,Nat.zero_le _,rfl,rfl,Hi rfl,Bs _⟩
    case round =>
     obtain ⟨k,x,hk,rfl,rfl,HX,hB⟩:=hrel;obtain ⟨c0,c1,c2⟩:=HC.out _ hB;have t2:=Lc c0;have b0:=btr o0.out hB;have s2:=hB.size;by_cases hlt:k < L.length
     ·have r0:(k:Int) < (L.length:Int):=by omega
      obtain ⟨kb,ko,m,hp,_,p2,hm,e0,e1,e2⟩:=HK.out wr b0 k hlt;try simp only at hp
      subst hp;have HM:=Hi hm;have HS:Hid (labL xs ys a0 (L.take (k+1))=bits .or .i64 (labL xs ys a0 (L.take k)) (labE xs ys L[k])):=Hi (labL_take hlt a0);have j0:Hid (exOk xs.length ys.length d L[k]=true):=Hi (h0.out _ (List.getElem_mem _));clear hm;generalize L[k]=y at *
      have ke:=Lc e0;have m0:=Hi (fun W (hW:Below wr.heap.size wr W)=>IH.out A D m y W (d0.out _ (btr b0 hW)).1 (d0.out _ (btr b0 hW)).2 (HM.out.below hW) j0.out);clear HM HK h0 j0;go_wp2_with fail
      refine (m0.out _ (bal (Bs wr) (.cells #[.int .i64 m.k,.int .i64 m.v,.slice m.p m.n m.c] 49))).mono ?_;rintro e w2 ⟨rfl,hb⟩;have k0:=btr (bal (Bs wr) (.cells #[.int .i64 m.k,.int .i64 m.v,.slice m.p m.n m.c] 49)) hb;have s0:=hb.size;simp only [Sa] at s0;replace c0:=Kc hb (Ac c0 _);replace c1:=Kc hb (Ac c1 _);replace c2:=Kc hb (Ac c2 _);replace e0:=Kc hb (Ac e0 _);replace e1:=Kc hb (Ac e1 _);replace e2:=Kc hb (Ac e2 _);have g1:=Bb (Bk.n3 (wr.heap.size)) hb;replace f0:=btr (bal b0 _) hb;clear hb;have p0:=k0;clear k0;have a3:=Lc c0;have b3:=Lc e0;have c3:=Bk.lz g1;have n0:Hid (bits .or .i64 x (labE xs ys y)=labL xs ys a0 (L.take (k+1))):=Hi (by rw [HS.out,HX.out]);clear HS HX;go_wp2
      go_roundw
      case rel=>exact ⟨k+1,_,by omega,by go_num,rfl,n0,btr hB p0⟩
      case measure=>simp [intOf];omega
     have q0:k=L.length:=by omega
     subst q0;have r0:decide (((L.length:Nat):Int) < (L.length:Int))=false:=decide_eq_false (by omega);have HR:Hid (x=labE xs ys (.mk 2 iv L)):=Hi (by rw [HX.out,List.take_of_length_le Lr,g0.out];rfl);clear HC HX HK h0 IH g0 d0;go_wp2
     go_ret
     exact ⟨by rw [← HR.out];rfl,b0⟩
   by_cases h3:nk=3
   ·subst h3;have x2:(iv:Int) < (ys.length:Int):=by simp [limitOf] at r2;omega
    obtain ⟨jb,jo,hj,y2,ej⟩:=gi_at (d0.out _ f0).2 iv (by omega);subst hj;have hg:gi ys (iv:Int)=a0:=by rw [g0.out];simp [lbl0]
    rw [hg] at ej;clear hg;obtain ⟨y0,z1⟩:=Bk.cf i0 1 rfl;obtain ⟨o1,a2,p1,b2,q1,d2⟩:=Bk.h3 l0;go_wp2_with fail
    obtain ⟨z0,g2,a1,i2⟩:=Bk.f2 i0 0 2 rfl rfl;have HC:=Hi (fun W (hW:Below w1.heap.size w1 W)=>show _∧_∧_ from ⟨Kc hW z0,Kc hW y0,Kc hW a1⟩);have o0:=Hi f0;clear f0 i0 l0 ej y0 z1 o1 a2 p1 b2 q1 d2 z0 g2 a1 i2;go_loopw [5,29] (fun m i wr=>∃ (k:Nat) (x:Int),k≤L.length∧i=.int .i64 k∧m=.int .i64 x∧Hid (x=labL xs ys a0 (L.take k))∧Below w1.heap.size w1 wr) (fun _ i _=>L.length-(intOf i).toNat)
    case atStart=>exact ⟨0,a0,Nat.zero_le _,rfl,rfl,Hi rfl,Bs _⟩
    case round =>
     obtain ⟨k,x,hk,rfl,rfl,HX,hB⟩:=hrel;obtain ⟨c0,c1,c2⟩:=HC.out _ hB;have t2:=Lc c0;have b0:=btr o0.out hB;have s2:=hB.size;by_cases hlt:k < L.length
     ·have r0:(k:Int) < (L.length:Int):=by omega
      obtain ⟨kb,ko,m,hp,_,p2,hm,e0,e1,e2⟩:=HK.out wr b0 k hlt;try simp only at hp
      subst hp;have HM:=Hi hm;have HS:Hid (labL xs ys a0 (L.take (k+1))=bits .or .i64 (labL xs ys a0 (L.take k)) (labE xs ys L[k])):=Hi (labL_take hlt a0);have j0:Hid (exOk xs.length ys.length d L[k]=true):=Hi (h0.out _ (List.getElem_mem _));clear hm;generalize L[k]=y at *
      have ke:=Lc e0;have m0:=Hi (fun W (hW:Below wr.heap.size wr W)=>IH.out A D m y W (d0.out _ (btr b0 hW)).1 (d0.out _ (btr b0 hW)).2 (HM.out.below hW) j0.out);clear HM HK h0 j0;go_wp2_with fail
      refine (m0.out _ (bal (Bs wr) (.cells #[.int .i64 m.k,.int .i64 m.v,.slice m.p m.n m.c] 49))).mono ?_;rintro e w2 ⟨rfl,hb⟩;have k0:=btr (bal (Bs wr) (.cells #[.int .i64 m.k,.int .i64 m.v,.slice m.p m.n m.c] 49)) hb;have t0:=hb.size;simp only [Sa] at t0;replace c0:=Kc hb (Ac c0 _);replace c1:=Kc hb (Ac c1 _);replace c2:=Kc hb (Ac c2 _);replace e0:=Kc hb (Ac e0 _);replace e1:=Kc hb (Ac e1 _);replace e2:=Kc hb (Ac e2 _);have h1:=Bb (Bk.n3 (wr.heap.size)) hb;replace f0:=btr (bal b0 _) hb;clear hb;have p0:=k0;clear k0;have d3:=Lc c0;have e3:=Lc e0;have f3:=Bk.lz h1;have n0:Hid (bits .or .i64 x (labE xs ys y)=labL xs ys a0 (L.take (k+1))):=Hi (by rw [HS.out,HX.out]);clear HS HX;go_wp2
      go_roundw
      case rel=>exact ⟨k+1,_,by omega,by go_num,rfl,n0,btr hB p0⟩
      case measure=>simp [intOf];omega
     have q0:k=L.length:=by omega
     subst q0;have r0:decide (((L.length:Nat):Int) < (L.length:Int))=false:=decide_eq_false (by omega);have HR:Hid (x=labE xs ys (.mk 3 iv L)):=Hi (by rw [HX.out,List.take_of_length_le Lr,g0.out];rfl);clear HC HX HK h0 IH g0 d0;go_wp2
     go_ret
     exact ⟨by rw [← HR.out];rfl,b0⟩
   have o3:(nk == 2)=false:=by rw [beq_eq_false_iff_ne];exact h2
   have p3:(nk == 3)=false:=by rw [beq_eq_false_iff_ne];exact h3
   have HZ:Hid ((0:Int)=a0):=Hi (by rw [g0.out];simp [lbl0,h2,h3]);clear h2 h3;obtain ⟨r1,j2,s1,k2⟩:=Bk.f2 l0 0 2 rfl rfl;go_wp2_with fail
   obtain ⟨b1,l2,d1,m2,f1,n2⟩:=Bk.h3 i0;have HC:=Hi (fun W (hW:Below w1.heap.size w1 W)=>show _∧_∧_ from ⟨Kc hW b1,Kc hW d1,Kc hW f1⟩);have o0:=Hi f0;clear f0 i0 l0 r1 j2 s1 k2 b1 l2 d1 m2 f1 n2;go_loopw [5,29] (fun m i wr=>∃ (k:Nat) (x:Int),k≤L.length∧i=.int .i64 k∧m=.int .i64 x∧Hid (x=labL xs ys a0 (L.take k))∧Below w1.heap.size w1 wr) (fun _ i _=>L.length-(intOf i).toNat)
   case atStart=>exact ⟨0,a0,Nat.zero_le _,rfl,(by rw [HZ.out]),Hi rfl,Bs _⟩
   case round =>
    obtain ⟨k,x,hk,rfl,rfl,HX,hB⟩:=hrel;obtain ⟨c0,c1,c2⟩:=HC.out _ hB;have t2:=Lc c0;have b0:=btr o0.out hB;have s2:=hB.size;by_cases hlt:k < L.length
    ·have r0:(k:Int) < (L.length:Int):=by omega
     obtain ⟨kb,ko,m,hp,_,p2,hm,e0,e1,e2⟩:=HK.out wr b0 k hlt;try simp only at hp
     subst hp;have HM:=Hi hm;have HS:Hid (labL xs ys a0 (L.take (k+1))=bits .or .i64 (labL xs ys a0 (L.take k)) (labE xs ys L[k])):=Hi (labL_take hlt a0);have j0:Hid (exOk xs.length ys.length d L[k]=true):=Hi (h0.out _ (List.getElem_mem _));clear hm;generalize L[k]=y at *
     have ke:=Lc e0;have m0:=Hi (fun W (hW:Below wr.heap.size wr W)=>IH.out A D m y W (d0.out _ (btr b0 hW)).1 (d0.out _ (btr b0 hW)).2 (HM.out.below hW) j0.out);clear HM HK h0 j0;go_wp2_with fail
     refine (m0.out _ (bal (Bs wr) (.cells #[.int .i64 m.k,.int .i64 m.v,.slice m.p m.n m.c] 49))).mono ?_;rintro e w2 ⟨rfl,hb⟩;have k0:=btr (bal (Bs wr) (.cells #[.int .i64 m.k,.int .i64 m.v,.slice m.p m.n m.c] 49)) hb;have v0:=hb.size;simp only [Sa] at v0;replace c0:=Kc hb (Ac c0 _);replace c1:=Kc hb (Ac c1 _);replace c2:=Kc hb (Ac c2 _);replace e0:=Kc hb (Ac e0 _);replace e1:=Kc hb (Ac e1 _);replace e2:=Kc hb (Ac e2 _);have i1:=Bb (Bk.n3 (wr.heap.size)) hb;replace f0:=btr (bal b0 _) hb;clear hb;have p0:=k0;clear k0;have g3:=Lc c0;have i3:=Lc e0;have j3:=Bk.lz i1;have n0:Hid (bits .or .i64 x (labE xs ys y)=labL xs ys a0 (L.take (k+1))):=Hi (by rw [HS.out,HX.out]);clear HS HX;go_wp2
     go_roundw
     case rel=>exact ⟨k+1,_,by omega,by go_num,rfl,n0,btr hB p0⟩
     case measure=>simp [intOf];omega
    have q0:k=L.length:=by omega
    subst q0;have r0:decide (((L.length:Nat):Int) < (L.length:Int))=false:=decide_eq_false (by omega);have HR:Hid (x=labE xs ys (.mk nk iv L)):=Hi (by rw [HX.out,List.take_of_length_le Lr,g0.out];rfl);clear HC HX HK h0 IH g0 d0;go_wp2
    go_ret
    exact ⟨by rw [← HR.out];rfl,b0⟩
def stoF (xs ys:List Int) (s:St) (pc:Int):Int:=if s.k=2 then bits .or .i64 (bits .or .i64 (labE xs ys s.val) pc) (labE xs ys s.ix) else bits .or .i64 (labE xs ys s.val) pc
theorem iStored_any (xs ys:List Int) (pv pa pu:Option Addr) (cv ca nu cu:Nat) (d:Nat) (A:Nat→Prop) (D:Nat) (n:Sn) (s:St) (pc:Int) (w:World) (hr:Reads w 1 (.slice pv xs.length cv) xs.length (ints xs)) (hs:Reads w 1 (.slice pa ys.length ca) ys.length (ints ys)) (hx:StAt w A D n s) (hok:stOk xs.length ys.length (d+1) s=true) (hk:s.k=1∨s.k=2) :
  Calls Try.prog 108 #[.agg #[.slice pv xs.length cv,.slice pa ys.length ca,.slice pu nu cu],.agg #[.int .i64 n.k,.int .i64 n.t,.int .i64 n.ix.k,.int .i64 n.ix.v,.slice n.ix.p n.ix.n n.ix.c,.int .i64 n.val.k,.int .i64 n.val.v,.slice n.val.p n.val.n n.val.c,.int .i64 n.c,.slice n.bp n.bn n.bc,.slice n.ep n.en n.ec],.int .i64 pc] w fun r w'=>r=.returned (.int .i64 (stoF xs ys s pc))∧Below w.heap.size w w':=by
 cases D with
 | zero=>cases hx
 | succ D =>
  obtain ⟨k,t,ix,val,c,i1,l1⟩:=s;obtain ⟨q1,q2,q3,⟨D1,hi⟩,⟨D2,hv⟩,_,_⟩:=hx;have hc:=st_cases hok;have m0:Hid (exOk xs.length ys.length 5 val=true→∀ W,Below w.heap.size w W→Calls Try.prog 55 #[.agg #[.slice pv xs.length cv,.slice pa ys.length ca,.slice pu nu cu],.agg #[.int .i64 n.val.k,.int .i64 n.val.v,.slice n.val.p n.val.n n.val.c]] W fun r w'=>r=.returned (.int .i64 (labE xs ys val))∧Below W.heap.size W w'):=Hi (fun h W hW=>iLabel_any xs ys pv pa pu cv ca nu cu 5 A D2 n.val val W (hr.below hW) (hs.below hW) (hv.below hW) h);have d1:Hid (exOk xs.length ys.length 5 ix=true→∀ W,Below w.heap.size w W→Calls Try.prog 55 #[.agg #[.slice pv xs.length cv,.slice pa ys.length ca,.slice pu nu cu],.agg #[.int .i64 n.ix.k,.int .i64 n.ix.v,.slice n.ix.p n.ix.n n.ix.c]] W fun r w'=>r=.returned (.int .i64 (labE xs ys ix))∧Below W.heap.size W w'):=Hi (fun h W hW=>iLabel_any xs ys pv pa pu cv ca nu cu 5 A D1 n.ix ix W (hr.below hW) (hs.below hW) (hi.below hW) h);clear hr hs hi hv hok q3;obtain ⟨nk,nt,b0,a0,f0,e0,d0,c0,i0,h0,g0⟩:=n;simp only at q1 q2 m0 d1
  subst q1 q2;simp only [St.k] at hk;simp only [stoF,St.k,St.val,St.ix];generalize labE xs ys val=lv at *
  generalize labE xs ys ix=li at *
  rcases hc with ⟨hkk,ht0,ht1,hov,_,_⟩ | ⟨rfl,ht0,ht1,hoi,hov,_,_⟩ | ⟨rfl,_⟩ | ⟨rfl,_⟩
  ·obtain rfl:nk=1:=by omega
   go_enter Try.func108,Try.ntmps108
   go_wp2_with fail
   refine (m0.out hov _ (bal (bal (Bs w) (.cells #[.slice pv xs.length cv,.slice pa ys.length ca,.slice pu nu cu] 26)) (.cells #[.int .i64 1,.int .i64 nt,.int .i64 b0.k,.int .i64 b0.v,.slice b0.p b0.n b0.c,.int .i64 a0.k,.int .i64 a0.v,.slice a0.p a0.n a0.c,.int .i64 f0,.slice e0 d0 c0,.slice i0 h0 g0] 51))).mono ?_;rintro e w1 ⟨rfl,hb⟩;have n0:=hb.size;simp only [Sa] at n0;have h1:=Bb (Bk.al (Bk.n3 (w.heap.size)) (.cells #[.int .i64 1,.int .i64 nt,.int .i64 b0.k,.int .i64 b0.v,.slice b0.p b0.n b0.c,.int .i64 a0.k,.int .i64 a0.v,.slice a0.p a0.n a0.c,.int .i64 f0,.slice e0 d0 c0,.slice i0 h0 g0] 51)) hb;have e1:=Bb (Bk.n11 (w.heap.size+1)) hb;have j0:=btr (bal (bal (Bs w) (.cells #[.slice pv xs.length cv,.slice pa ys.length ca,.slice pu nu cu] 26)) (.cells #[.int .i64 1,.int .i64 nt,.int .i64 b0.k,.int .i64 b0.v,.slice b0.p b0.n b0.c,.int .i64 a0.k,.int .i64 a0.v,.slice a0.p a0.n a0.c,.int .i64 f0,.slice e0 d0 c0,.slice i0 h0 g0] 51)) hb;clear hb;have m1:=Bk.lz h1;have n1:=Bk.lz e1;obtain ⟨o1,p1⟩:=Bk.cf e1 0 rfl;have tt:=j0;go_wp2
   exact bodyPost_ret (v:=.int .i64 (bits .or .i64 lv pc)) (by simp [results,Try.results108,go_sem]) rfl (by exact ⟨by simp,tt⟩)
  ·skip
   go_enter Try.func108,Try.ntmps108
   go_wp2_with fail
   refine (m0.out hov _ (bal (bal (Bs w) (.cells #[.slice pv xs.length cv,.slice pa ys.length ca,.slice pu nu cu] 26)) (.cells #[.int .i64 2,.int .i64 nt,.int .i64 b0.k,.int .i64 b0.v,.slice b0.p b0.n b0.c,.int .i64 a0.k,.int .i64 a0.v,.slice a0.p a0.n a0.c,.int .i64 f0,.slice e0 d0 c0,.slice i0 h0 g0] 51))).mono ?_;rintro e w1 ⟨rfl,hb⟩;have o0:=hb.size;simp only [Sa] at o0;have f1:=Bb (Bk.al (Bk.n3 (w.heap.size)) (.cells #[.int .i64 2,.int .i64 nt,.int .i64 b0.k,.int .i64 b0.v,.slice b0.p b0.n b0.c,.int .i64 a0.k,.int .i64 a0.v,.slice a0.p a0.n a0.c,.int .i64 f0,.slice e0 d0 c0,.slice i0 h0 g0] 51)) hb;have k0:=Bb (Bk.n11 (w.heap.size+1)) hb;have j0:=btr (bal (bal (Bs w) (.cells #[.slice pv xs.length cv,.slice pa ys.length ca,.slice pu nu cu] 26)) (.cells #[.int .i64 2,.int .i64 nt,.int .i64 b0.k,.int .i64 b0.v,.slice b0.p b0.n b0.c,.int .i64 a0.k,.int .i64 a0.v,.slice a0.p a0.n a0.c,.int .i64 f0,.slice e0 d0 c0,.slice i0 h0 g0] 51)) hb;clear hb;have j1:=Bk.lz f1;have k1:=Bk.lz k0;obtain ⟨p0,w0,q0,x0,r0,y0⟩:=Bk.h3 f1;obtain ⟨s0,z0,t0,a1,u0,b1,v0,c1⟩:=Bk.f4 k0 0 2 3 4 rfl rfl rfl rfl;go_wp2_with fail
   refine (d1.out hoi _ j0).mono ?_;rintro e w2 ⟨rfl,l0⟩;have g1:=l0.size;clear w0 p0 x0 q0 y0 r0 z0 s0 a1 t0 b1 u0 c1 v0;replace j0:=btr j0 l0;have tt:=j0;go_wp2
   exact bodyPost_ret (v:=.int .i64 (bits .or .i64 (bits .or .i64 lv pc) li)) (by simp [results,Try.results108,go_sem]) rfl (by exact ⟨by simp,tt⟩)
  ·omega
  omega
end Go.Proofs.Ytlckklglbodgbaa
