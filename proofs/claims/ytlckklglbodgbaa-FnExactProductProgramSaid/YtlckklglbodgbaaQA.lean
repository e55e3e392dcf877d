/-
 Parts of the proofs of the laws FnExactProductProgram.
-/
import Derived.Test.YtlckklglbodgbaaRI
set_option maxHeartbeats 12800000
set_option maxRecDepth 100000
set_option linter.all false
namespace Go.Proofs.Ytlckklglbodgbaa
open Go.RowKit
def partsS (k t:Int) (ix val:Ex) (c:Int) (body els:List St):Bool:=
 if (k == 3||k == 4)=true then
  (t == 0)&&(if (k == 4)=true then decide (els.length=0)&&(decide (1≤c)&&(decide (c≤3)&&(noneE ix&&noneE val))) else (c == 0)&&noneE ix)
 else decide (body.length=0)&&(decide (els.length=0)&&((c == 0)&&((k == 2)||noneE ix)))
def stOk (nv na:Nat):Nat→St→Bool
 | 0,_=>false
 | d+1,.mk k t ix val c body els=>partsS k t ix val c body els&&(if (k == 1||k == 5)=true then decide (0≤t)&&(decide (t < nv)&&exRight nv na val)
   else if (k == 2)=true then decide (0≤t)&&(decide (t < na)&&(exRight nv na ix&&(atomK ix.k&&exRight nv na val)))
   else if (k == 3)=true then exRight nv na val&&(body.all (stOk nv na d)&&els.all (stOk nv na d))
   else if (k == 4)=true then body.all (stOk nv na d) else false)
def blTo (nv na d:Nat) (l:List St) (k:Nat):Bool:=(l.take k).all (stOk nv na d)
theorem blTo_succ {nv na d:Nat} {l:List St} {k:Nat} (h:k < l.length):blTo nv na d l (k+1)=(blTo nv na d l k&&stOk nv na d l[k]):=by
 unfold blTo;rw [List.take_succ_eq_append_getElem h,List.all_append];simp
theorem blTo_all {nv na d:Nat} {l:List St}:blTo nv na d l l.length=l.all (stOk nv na d):=by
 unfold blTo;rw [List.take_of_length_le Lr]
theorem blTo_no {nv na d:Nat} {l:List St} {k:Nat} (h:k < l.length) (hk:stOk nv na d l[k]=false):l.all (stOk nv na d)=false:=by
 cases ha:l.all (stOk nv na d) with
 | false=>rfl
 | true =>
  rw [List.all_eq_true] at ha;rw [ha _ (List.getElem_mem h)] at hk;cases hk
theorem l2Block_of (pv pa:Option Addr) (nv cv na ca:Nat) (vb:Value) (A:Nat→Prop) (d:Nat) (hd:d≤5) (Hs:∀ (D:Nat) (n:Sn) (s:St) (w:World),StAt w A D n s→Calls Try.prog 77 #[.agg #[.slice pv nv cv,.slice pa na ca,vb],.agg #[.int .i64 n.k,.int .i64 n.t,.int .i64 n.ix.k,.int .i64 n.ix.v,.slice n.ix.p n.ix.n n.ix.c,.int .i64 n.val.k,.int .i64 n.val.v,.slice n.val.p n.val.n n.val.c,.int .i64 n.c,.slice n.bp n.bn n.bc,.slice n.ep n.en n.ec],.int .i64 d] w fun r w'=>r=.returned (.bool (stOk nv na d s))∧Below w.heap.size w w')
  (D:Nat) (u:Value) (L:List St) (w:World) (hx:BlAt w A D u L) :
  Calls Try.prog 47 #[.agg #[.slice pv nv cv,.slice pa na ca,vb],u,.int .i64 d] w fun r w'=>r=.returned (.bool (L.all (stOk nv na d)))∧Below w.heap.size w w':=by
 obtain ⟨pu,cu,rfl⟩:=hx.shape;have HK:=Hi (fun W (hW:Below w.heap.size w W) j hj=>(hx.below hW).stmt j hj);have HS:=Hi Hs;have f1:L.length≤9223372036854775807:=by obtain ⟨_,_,h,_⟩:=hx;exact h.2.1
 clear hx Hs;go_enter Try.func47,Try.ntmps47
 go_upto_region 1 with (fail)
 obtain ⟨w1,r0,hb⟩:=nmw (World.alloc w (.cells #[.slice pv nv cv,.slice pa na ca,vb] 26));have p0:=hb.size;simp only [Sa] at p0;have o0:Bk w1 (w.heap.size) [.slice pv nv cv,.slice pa na ca,vb]:=Bb (Bk.nw (by simp) rfl) hb;have f0:=btr (bal (Bs w) (.cells #[.slice pv nv cv,.slice pa na ca,vb] 26)) hb;clear hb;rw [← r0];clear r0;have r1:=Bk.lz o0;obtain ⟨x0,k1,y0,l1,z0,m1⟩:=Bk.h3 o0;have HC:=Hi (fun W (hW:Below w1.heap.size w1 W)=>show _∧_∧_ from ⟨Kc hW x0,Kc hW y0,Kc hW z0⟩);have d1:=Hi f0;clear f0 o0 x0 k1 y0 l1 z0 m1;go_wp2_with fail
 go_loopw [7] (fun i wr=>∃ k:Nat,k≤L.length∧i=.int .i64 k∧Hid (blTo nv na d L k=true)∧Below w1.heap.size w1 wr) (fun i _=>L.length-(intOf i).toNat)
 case atStart=>exact ⟨0,Nat.zero_le _,rfl,Hi rfl,Bs _⟩
 case round =>
  obtain ⟨k,hk,rfl,HO,hB⟩:=hrel;obtain ⟨c0,c1,c2⟩:=HC.out _ hB;have kc:=Lc c0;have g0:=btr d1.out hB;have q1:=hB.size;have a1:=Hi hB;by_cases hlt:k < L.length
  ·have p1:(k:Int) < (L.length:Int):=by omega
   obtain ⟨kb,ko,n1,m,hp,_,o1,hm,b0⟩:=HK.out wr g0 k hlt;simp only [Value.slice.injEq,true_and] at hp;obtain ⟨rfl,rfl⟩:=hp;have n0:=Hi (blTo_succ (nv:=nv) (na:=na) (d:=d) hlt);have m0:=Hi (fun h=>blTo_no (nv:=nv) (na:=na) (d:=d) hlt h);have b1:=Hi hm;clear hm;have e0:wr.cell? ⟨kb,ko+k*11,none⟩=some (.int .i64 m.k):=by have h:=b0 0 (by omega);exact h
   have e1:wr.cell? ⟨kb,ko+k*11+1,none⟩=some (.int .i64 m.t):=by have h:=b0 1 (by omega);rw [← Nat.add_assoc] at h;exact h
   have e2:wr.cell? ⟨kb,ko+k*11+2,none⟩=some (.int .i64 m.ix.k):=by have h:=b0 2 (by omega);rw [← Nat.add_assoc] at h;exact h
   have e3:wr.cell? ⟨kb,ko+k*11+3,none⟩=some (.int .i64 m.ix.v):=by have h:=b0 3 (by omega);rw [← Nat.add_assoc] at h;exact h
   have e4:wr.cell? ⟨kb,ko+k*11+4,none⟩=some (.slice m.ix.p m.ix.n m.ix.c):=by have h:=b0 4 (by omega);rw [← Nat.add_assoc] at h;exact h
   have e5:wr.cell? ⟨kb,ko+k*11+5,none⟩=some (.int .i64 m.val.k):=by have h:=b0 5 (by omega);rw [← Nat.add_assoc] at h;exact h
   have e6:wr.cell? ⟨kb,ko+k*11+6,none⟩=some (.int .i64 m.val.v):=by have h:=b0 6 (by omega);rw [← Nat.add_assoc] at h;exact h
   have e7:wr.cell? ⟨kb,ko+k*11+7,none⟩=some (.slice m.val.p m.val.n m.val.c):=by have h:=b0 7 (by omega);rw [← Nat.add_assoc] at h;exact h
   have e8:wr.cell? ⟨kb,ko+k*11+8,none⟩=some (.int .i64 m.c):=by have h:=b0 8 (by omega);rw [← Nat.add_assoc] at h;exact h
   have e9:wr.cell? ⟨kb,ko+k*11+9,none⟩=some (.slice m.bp m.bn m.bc):=by have h:=b0 9 (by omega);rw [← Nat.add_assoc] at h;exact h
   have a0:wr.cell? ⟨kb,ko+k*11+10,none⟩=some (.slice m.ep m.en m.ec):=by have h:=b0 10 (by omega);rw [← Nat.add_assoc] at h;exact h
   clear b0;generalize L[k]=y at *
   have ke:=Lc e0;have k0:=Hi (fun W (hW:Below wr.heap.size wr W)=>HS.out D m y W (StAt.keep (S:=fun _=>False) (Cb hW) (fun _ _ _=>id) (fun _ h _=>h) Lr b1.out))
   cases hy:stOk nv na d y with
   | false =>
    have i0:=Hi (fun W hW=>by have h:=k0.out W hW;rw [hy] at h;exact h);have HR:Hid (L.all (stOk nv na d)=false):=Hi (m0.out hy);clear k0 n0 m0 hy;go_upto_region 4 with (fail)
    have g1:=Lc c0;have h1:=Lc e0;refine wp_region_noPanic ?_;refine wp_region_held_drew (S:=(fun W'=>W'.cell? ⟨w.heap.size,0,none⟩=some (.slice pv nv cv)∧W'.cell? ⟨w.heap.size,1,none⟩=some (.slice pa na ca)∧W'.cell? ⟨w.heap.size,2,none⟩=some (vb)∧W'.cell? ⟨kb,ko+k*11,none⟩=some (.int .i64 m.k)∧W'.cell? ⟨kb,ko+k*11+1,none⟩=some (.int .i64 m.t)∧W'.cell? ⟨kb,ko+k*11+2,none⟩=some (.int .i64 m.ix.k)∧W'.cell? ⟨kb,ko+k*11+3,none⟩=some (.int .i64 m.ix.v)∧W'.cell? ⟨kb,ko+k*11+4,none⟩=some (.slice m.ix.p m.ix.n m.ix.c)∧W'.cell? ⟨kb,ko+k*11+5,none⟩=some (.int .i64 m.val.k)∧W'.cell? ⟨kb,ko+k*11+6,none⟩=some (.int .i64 m.val.v)∧W'.cell? ⟨kb,ko+k*11+7,none⟩=some (.slice m.val.p m.val.n m.val.c)∧W'.cell? ⟨kb,ko+k*11+8,none⟩=some (.int .i64 m.c)∧W'.cell? ⟨kb,ko+k*11+9,none⟩=some (.slice m.bp m.bn m.bc)∧W'.cell? ⟨kb,ko+k*11+10,none⟩=some (.slice m.ep m.en m.ec))) (by kernel_rfl) ⟨Kc (Bd (Bs wr)) c0,Kc (Bd (Bs wr)) c1,Kc (Bd (Bs wr)) c2,Kc (Bd (Bs wr)) e0,Kc (Bd (Bs wr)) e1,Kc (Bd (Bs wr)) e2,Kc (Bd (Bs wr)) e3,Kc (Bd (Bs wr)) e4,Kc (Bd (Bs wr)) e5,Kc (Bd (Bs wr)) e6,Kc (Bd (Bs wr)) e7,Kc (Bd (Bs wr)) e8,Kc (Bd (Bs wr)) e9,Kc (Bd (Bs wr)) a0⟩ (fun hHeld=>?_);obtain ⟨w2,j0⟩:∃ X,X=World.drew wr:=⟨_,rfl⟩;rw [← j0] at hHeld ⊢;have hb:Below wr.heap.size wr w2:=by rw [j0];exact Bd (Bs _)
    clear j0;have d0:=btr (Bs wr) hb;have h0:=d0;clear d0;have s0:=hb.size;replace c0:=Kc hb c0;replace c1:=Kc hb c1;replace c2:=Kc hb c2;replace e0:=Kc hb e0;replace e1:=Kc hb e1;replace e2:=Kc hb e2;replace e3:=Kc hb e3;replace e4:=Kc hb e4;replace e5:=Kc hb e5;replace e6:=Kc hb e6;replace e7:=Kc hb e7;replace e8:=Kc hb e8;replace e9:=Kc hb e9;replace a0:=Kc hb a0;replace f0:=btr g0 hb;clear hb;refine (tq 0 14 rfl rfl ?_ ?_ (tq 1 15 rfl rfl ?_ ?_ (tq 2 16 rfl rfl ?_ ?_ (tq 3 17 rfl rfl ?_ ?_ (tq 4 18 rfl rfl ?_ ?_ (tq 5 19 rfl rfl ?_ ?_ ?_))))));iterate 6 (rotate_left;intro W' hSw;(try dsimp only at hSw);go_simp;try with_reducible rfl)
    try simp only [Ep]
    refine Rdy 6 rfl (fun K hK=>?_);go_simp
    refine (i0.out _ h0).mono ?_;rintro e w3 ⟨rfl,hb⟩;have d0:=btr h0 hb;have h0:=d0;clear d0;have t0:=hb.size;replace c0:=Kc hb c0;replace c1:=Kc hb c1;replace c2:=Kc hb c2;replace e0:=Kc hb e0;replace e1:=Kc hb e1;replace e2:=Kc hb e2;replace e3:=Kc hb e3;replace e4:=Kc hb e4;replace e5:=Kc hb e5;replace e6:=Kc hb e6;replace e7:=Kc hb e7;replace e8:=Kc hb e8;replace e9:=Kc hb e9;replace a0:=Kc hb a0;replace f0:=btr f0 hb;clear hb;refine hK.out _ _ ⟨c0,c1,c2,e0,e1,e2,e3,e4,e5,e6,e7,e8,e9,a0⟩ (fun hHeld=>?_);clear hK K;try simp only [Ep]
    refine (tq 7 21 rfl rfl ?_ ?_ ?_);(rotate_left;intro W' hSw;(try dsimp only at hSw);go_simp;try with_reducible rfl)
    try simp only [Ep]
    refine Dn ?_;clear hHeld;have tt:=f0;go_wp2
    exact bodyPost_ret (v:=.bool false) (by simp [results,Try.results47,go_sem]) rfl (by exact by rw [HR.out];exact ⟨rfl,tt⟩)
   | true =>
    have i0:=Hi (fun W hW=>by have h:=k0.out W hW;rw [hy] at h;exact h);have HR:Hid (blTo nv na d L (k+1)=true):=Hi (by rw [n0.out,HO.out,hy];rfl);clear k0 n0 m0 hy;go_upto_region 4 with (fail)
    have i1:=Lc c0;have j1:=Lc e0;refine wp_region_noPanic ?_;refine wp_region_held_drew (S:=(fun W'=>W'.cell? ⟨w.heap.size,0,none⟩=some (.slice pv nv cv)∧W'.cell? ⟨w.heap.size,1,none⟩=some (.slice pa na ca)∧W'.cell? ⟨w.heap.size,2,none⟩=some (vb)∧W'.cell? ⟨kb,ko+k*11,none⟩=some (.int .i64 m.k)∧W'.cell? ⟨kb,ko+k*11+1,none⟩=some (.int .i64 m.t)∧W'.cell? ⟨kb,ko+k*11+2,none⟩=some (.int .i64 m.ix.k)∧W'.cell? ⟨kb,ko+k*11+3,none⟩=some (.int .i64 m.ix.v)∧W'.cell? ⟨kb,ko+k*11+4,none⟩=some (.slice m.ix.p m.ix.n m.ix.c)∧W'.cell? ⟨kb,ko+k*11+5,none⟩=some (.int .i64 m.val.k)∧W'.cell? ⟨kb,ko+k*11+6,none⟩=some (.int .i64 m.val.v)∧W'.cell? ⟨kb,ko+k*11+7,none⟩=some (.slice m.val.p m.val.n m.val.c)∧W'.cell? ⟨kb,ko+k*11+8,none⟩=some (.int .i64 m.c)∧W'.cell? ⟨kb,ko+k*11+9,none⟩=some (.slice m.bp m.bn m.bc)∧W'.cell? ⟨kb,ko+k*11+10,none⟩=some (.slice m.ep m.en m.ec))) (by kernel_rfl) ⟨Kc (Bd (Bs wr)) c0,Kc (Bd (Bs wr)) c1,Kc (Bd (Bs wr)) c2,Kc (Bd (Bs wr)) e0,Kc (Bd (Bs wr)) e1,Kc (Bd (Bs wr)) e2,Kc (Bd (Bs wr)) e3,Kc (Bd (Bs wr)) e4,Kc (Bd (Bs wr)) e5,Kc (Bd (Bs wr)) e6,Kc (Bd (Bs wr)) e7,Kc (Bd (Bs wr)) e8,Kc (Bd (Bs wr)) e9,Kc (Bd (Bs wr)) a0⟩ (fun hHeld=>?_);obtain ⟨w2,j0⟩:∃ X,X=World.drew wr:=⟨_,rfl⟩;rw [← j0] at hHeld ⊢;have hb:Below wr.heap.size wr w2:=by rw [j0];exact Bd (Bs _)
    clear j0;have d0:=btr (Bs wr) hb;have h0:=d0;clear d0;have v0:=hb.size;replace c0:=Kc hb c0;replace c1:=Kc hb c1;replace c2:=Kc hb c2;replace e0:=Kc hb e0;replace e1:=Kc hb e1;replace e2:=Kc hb e2;replace e3:=Kc hb e3;replace e4:=Kc hb e4;replace e5:=Kc hb e5;replace e6:=Kc hb e6;replace e7:=Kc hb e7;replace e8:=Kc hb e8;replace e9:=Kc hb e9;replace a0:=Kc hb a0;replace f0:=btr g0 hb;clear hb;refine (tq 0 14 rfl rfl ?_ ?_ (tq 1 15 rfl rfl ?_ ?_ (tq 2 16 rfl rfl ?_ ?_ (tq 3 17 rfl rfl ?_ ?_ (tq 4 18 rfl rfl ?_ ?_ (tq 5 19 rfl rfl ?_ ?_ ?_))))));iterate 6 (rotate_left;intro W' hSw;(try dsimp only at hSw);go_simp;try with_reducible rfl)
    try simp only [Ep]
    refine Rdy 6 rfl (fun K hK=>?_);go_simp
    refine (i0.out _ h0).mono ?_;rintro e w3 ⟨rfl,hb⟩;have d0:=btr h0 hb;have h0:=d0;clear d0;have w0:=hb.size;replace c0:=Kc hb c0;replace c1:=Kc hb c1;replace c2:=Kc hb c2;replace e0:=Kc hb e0;replace e1:=Kc hb e1;replace e2:=Kc hb e2;replace e3:=Kc hb e3;replace e4:=Kc hb e4;replace e5:=Kc hb e5;replace e6:=Kc hb e6;replace e7:=Kc hb e7;replace e8:=Kc hb e8;replace e9:=Kc hb e9;replace a0:=Kc hb a0;replace f0:=btr f0 hb;clear hb;refine hK.out _ _ ⟨c0,c1,c2,e0,e1,e2,e3,e4,e5,e6,e7,e8,e9,a0⟩ (fun hHeld=>?_);clear hK K;try simp only [Ep]
    refine (tq 7 21 rfl rfl ?_ ?_ ?_);(rotate_left;intro W' hSw;(try dsimp only at hSw);go_simp;try with_reducible rfl)
    try simp only [Ep]
    refine Dn ?_;clear hHeld;go_wp2
    go_roundw
    case rel=>exact ⟨k+1,by omega,by go_num,HR,btr a1.out h0⟩
    case measure=>simp [intOf];omega
  have q0:k=L.length:=by omega
  have l0:Hid (L.all (stOk nv na d)=true):=Hi (by rw [← blTo_all,← q0];exact HO.out);subst q0;clear HO;have tt:=g0;go_wp2
  exact bodyPost_ret (v:=.bool true) (by simp [results,Try.results47,go_sem]) rfl (by exact by rw [l0.out];exact ⟨rfl,tt⟩)
def stC:Nat→St→Int
 | 0,_=>1
 | d+1,s=>1+((s.body.map (stC d)).sum+(s.els.map (stC d)).sum)
def blC (d:Nat) (L:List St) (k:Nat):Int:=((L.take k).map (stC d)).sum
theorem sum_ge0 {α:Type} (f:α→Int) (h:∀ x,0≤f x) (l:List α):0≤(l.map f).sum:=by
 induction l with
 | nil=>simp
 | cons x l ih=>simp only [List.map_cons,List.sum_cons];have:=h x;omega
theorem stC_ge (d:Nat):∀ s:St,1≤stC d s:=by
 induction d with
 | zero=>intro s;simp [stC]
 | succ d ih =>
  intro s;have h1:=sum_ge0 (stC d) (fun x=>by have:=ih x;omega) s.body;have h2:=sum_ge0 (stC d) (fun x=>by have:=ih x;omega) s.els;simp only [stC];omega
theorem blC_succ (d:Nat) (L:List St) (k:Nat) (h:k < L.length):blC d L (k+1)=blC d L k+stC d L[k]:=by
 unfold blC;rw [List.take_succ_eq_append_getElem h,List.map_append,List.sum_append];simp
theorem blC_ge (d:Nat) (L:List St) (k:Nat):0≤blC d L k∧blC d L k≤blC d L L.length:=by
 have h0:∀ x:St,0≤stC d x:=fun x=>by have:=stC_ge d x;omega
 refine ⟨sum_ge0 _ h0 _,?_⟩;have h1:L=L.take k++L.drop k:=(List.take_append_drop k L).symm
 have h2:blC d L L.length=blC d L k+((L.drop k).map (stC d)).sum:=by
  unfold blC
  rw [List.take_of_length_le Lr];conv=>lhs;rw [h1]
  rw [List.map_append,List.sum_append]
 have:=sum_ge0 (stC d) h0 (L.drop k)
 omega
def stR (nv na d:Nat) (c:Int) (s:St):Bool:=stOk nv na d s&&decide (c+stC d s≤60)
def blR (nv na d:Nat) (c:Int) (L:List St):Bool:=L.all (stOk nv na d)&&decide (c+blC d L L.length≤60)
theorem stmts_of (cb:Nat) (pv pa:Option Addr) (nv cv na ca:Nat) (vb:Value) (B:Nat→Prop) (hB:∀ q,B q→¬q=cb) (hnv:nv≤1000000000∧na≤1000000000) (d:Nat) (hd:d≤5) (H:∀ (D:Nat) (n:Sn) (s:St) (c dp:Int) (w:World),dp=6-(d:Int)→StAt w B D n s→w.cell? ⟨cb,0,none⟩=some (.int .i64 c)→w.frozen? ⟨cb,0,none⟩=false→0≤c→c≤60 →
  Calls Try.prog 54 #[.agg #[.slice pv nv cv,.slice pa na ca,vb],.agg #[.int .i64 n.k,.int .i64 n.t,.int .i64 n.ix.k,.int .i64 n.ix.v,.slice n.ix.p n.ix.n n.ix.c,.int .i64 n.val.k,.int .i64 n.val.v,.slice n.val.p n.val.n n.val.c,.int .i64 n.c,.slice n.bp n.bn n.bc,.slice n.ep n.en n.ec],.int .i64 dp,.pointer (some ⟨cb,0,none⟩)] w fun r w'=>ScP cb c (stC d s) (stR nv na d c s) w r w')
  (D:Nat) (u:Value) (L:List St) (c dp:Int) (w:World) (hdp:dp=6-(d:Int)) (hx:BlAt w B D u L) (hc:w.cell? ⟨cb,0,none⟩=some (.int .i64 c)) (hf:w.frozen? ⟨cb,0,none⟩=false) (hc0:0≤c) (hc1:c≤60) :
  Calls Try.prog 24 #[.agg #[.slice pv nv cv,.slice pa na ca,vb],u,.int .i64 dp,.pointer (some ⟨cb,0,none⟩)] w fun r w'=>ScP cb c (blC d L L.length) (blR nv na d c L) w r w':=by
 have f1:=Hi hB;clear hB;have IH:=Hi H;clear H;have i1:=Hi hdp;clear hdp;obtain ⟨pu,cu,rfl⟩:=hx.shape;have HK:=Hi (fun W (hW:Chg (fun q=>q=cb) w W) j hj=>szSt_at (BlAt.keep (show BlAt w B D _ L from hx) hW (fun q hq _ h=>f1.out q hq h) (fun _ h _=>h) Lr) j hj);have d2:L.length≤9223372036854775807:=by obtain ⟨_,_,h,_⟩:=hx;exact h.2.1
 clear hx;obtain ⟨Q,hQ⟩:∃ Q,blR nv na d c L=Q:=⟨_,rfl⟩;have j1:Hid (Q=(L.all (stOk nv na d)&&decide (c+blC d L L.length≤60))):=Hi (by rw [← hQ];rfl);rw [hQ];clear hQ;have hC:Chg (fun k=>k=cb) w w:=Chg.refl _ _;have s0:∀ q,(fun k=>k=cb) q→q=cb:=fun q h=>h
 have f2:=Lc hc;go_enter Try.func24,Try.ntmps24
 go_upto_region 1 with (fail)
 generalize hnw:World.alloc _ _=w1;have hb:=nmh hnw;clear hnw
 replace hC:=((hC.trans (Cb (bal (Bs _) _)))).trans (Cb hb);have q0:=hb.size;simp only [Sa] at q0;replace hf:=Kf hb (Lc (Ac hc _)) (Fa (Lc hc) hf _);replace hc:=Kc hb (Ac hc _);have n0:=Bb (Bk.n3 (w.heap.size)) hb;clear hb;have i2:=Lc hc;have j2:=Bk.lz n0;have r1:=Hi (fun k=>blC_ge d L k);go_wp2_with fail
 go_loopw [13] (fun i wr=>∃ (j:Nat) (x:Int),j≤L.length∧i=.int .i64 j∧wr.cell? ⟨cb,0,none⟩=some (.int .i64 x)∧wr.frozen? ⟨cb,0,none⟩=false∧Hid (x=c+blC d L j∧blTo nv na d L j=true)∧(0≤x∧x≤60)∧Chg (fun k=>k=cb) w wr∧Bk wr (w.heap.size) [.slice pv nv cv,.slice pa na ca,vb]) (fun i _=>L.length-(intOf i).toNat)
 case atStart=>exact ⟨0,c,Nat.zero_le _,rfl,hc,hf,Hi ⟨by simp [blC],rfl⟩,⟨by omega,by omega⟩,hC,n0⟩
 case round =>
  clear hC hc hf n0;obtain ⟨j,x,hj,rfl,hc,hf,d0,r0,hC,f0⟩:=hrel;obtain ⟨wl,rfl⟩:∃ X,X=wr:=⟨_,rfl⟩;obtain ⟨l1,m1⟩:=r0;have z1:=hC.size;by_cases hlt:j < L.length
  ·have y1:(j:Int) < (L.length:Int):=by omega
   obtain ⟨kb,ko,m,hp,c2,hm,e0,e1,e2,e3,e4,e5,e6,e7,e8,e9,k1⟩:=HK.out wl hC j hlt;subst hp;have HM:=Hi (fun W (hW:Chg (fun q=>q=cb) wl W)=>StAt.keep hW (fun q hq _ h=>f1.out q hq h) (fun _ h _=>h) Lr hm);have k0:Hid (stR nv na d x L[j]=false→Q=false):=Hi (fun h=>by rw [j1.out];unfold stR at h;have h1:=blC_succ d L j hlt;have h2:=(r1.out (j+1)).2;have h3:=d0.out.1;cases hy:stOk nv na d L[j] with | false=>rw [blTo_no hlt hy];rfl | true=>rw [hy,Bool.true_and] at h;have:=of_decide_eq_false h;rw [decide_eq_false (by omega)];simp);have q1:Hid (stR nv na d x L[j]=true→blTo nv na d L (j+1)=true∧x+stC d L[j]≤60∧x+stC d L[j]=c+blC d L (j+1)):=Hi (fun h=>by unfold stR at h;rw [Bool.and_eq_true] at h;have h1:=blC_succ d L j hlt;refine ⟨by rw [blTo_succ hlt,d0.out.2,h.1];rfl,of_decide_eq_true h.2,by rw [h1,d0.out.1];omega⟩);have p1:=Hi (stC_ge d L[j]);clear hm;generalize L[j]=y at *
   have o1:=Lc hc;have k2:=Bk.lz f0;have l2:=Lc e0
   cases hz:stR nv na d x y with
   | false =>
    obtain ⟨a2,b2,t0,z0,v0,a1⟩:=Bk.h3 f0;go_wp2_with fail
    have b0:=IH.out D m y x dp _ i1.out (HM.out _ (Cb (bal (Bs wl) (.cells #[.int .i64 m.k,.int .i64 m.t,.int .i64 m.ix.k,.int .i64 m.ix.v,.slice m.ix.p m.ix.n m.ix.c,.int .i64 m.val.k,.int .i64 m.val.v,.slice m.val.p m.val.n m.val.c,.int .i64 m.c,.slice m.bp m.bn m.bc,.slice m.ep m.en m.ec] 51)))) (Ac hc (.cells #[.int .i64 m.k,.int .i64 m.t,.int .i64 m.ix.k,.int .i64 m.ix.v,.slice m.ix.p m.ix.n m.ix.c,.int .i64 m.val.k,.int .i64 m.val.v,.slice m.val.p m.val.n m.val.c,.int .i64 m.c,.slice m.bp m.bn m.bc,.slice m.ep m.en m.ec] 51)) (Fa (Lc hc) hf (.cells #[.int .i64 m.k,.int .i64 m.t,.int .i64 m.ix.k,.int .i64 m.ix.v,.slice m.ix.p m.ix.n m.ix.c,.int .i64 m.val.k,.int .i64 m.val.v,.slice m.val.p m.val.n m.val.c,.int .i64 m.c,.slice m.bp m.bn m.bc,.slice m.ep m.en m.ec] 51)) l1 m1;rw [hz] at b0;clear e0 e1 e2 e3 e4 e5 e6 e7 e8 e9 k1 hc hf;refine (b0).mono ?_;rintro e w2 ⟨x2,rfl,hc,hf,p0,c0⟩;clear b0;replace hC:=((hC.trans (Cb (bal (Bs _) _)))).trans c0;have h0:=c0.size;simp only [Sa] at h0;clear b2 a2 z0 t0 a1 v0;have m0:Bk w2 (wl.heap.size) [.int .i64 m.k,.int .i64 m.t,.int .i64 m.ix.k,.int .i64 m.ix.v,.slice m.ix.p m.ix.n m.ix.c,.int .i64 m.val.k,.int .i64 m.val.v,.slice m.val.p m.val.n m.val.c,.int .i64 m.c,.slice m.bp m.bn m.bc,.slice m.ep m.en m.ec]:=Bk.keep (Bk.n11 (wl.heap.size)) c0 (fun h=>by have:=s0 _ h;omega);clear m0;replace o1:=Lc hc;have HZ:=Hi hz;clear hz;have j0:Hid (Q=false):=Hi (k0.out HZ.out);have l0:=Hi (Ai hc (Ai hf hC));clear hC;go_wp2
    exact bodyPost_ret (v:=.bool false) (by simp [results,Try.results24,go_sem]) rfl (scp_no j0 l0)
   | true =>
    obtain ⟨w0,b1,x0,c1,y0,d1⟩:=Bk.h3 f0;go_wp2_with fail
    have b0:=IH.out D m y x dp _ i1.out (HM.out _ (Cb (bal (Bs wl) (.cells #[.int .i64 m.k,.int .i64 m.t,.int .i64 m.ix.k,.int .i64 m.ix.v,.slice m.ix.p m.ix.n m.ix.c,.int .i64 m.val.k,.int .i64 m.val.v,.slice m.val.p m.val.n m.val.c,.int .i64 m.c,.slice m.bp m.bn m.bc,.slice m.ep m.en m.ec] 51)))) (Ac hc (.cells #[.int .i64 m.k,.int .i64 m.t,.int .i64 m.ix.k,.int .i64 m.ix.v,.slice m.ix.p m.ix.n m.ix.c,.int .i64 m.val.k,.int .i64 m.val.v,.slice m.val.p m.val.n m.val.c,.int .i64 m.c,.slice m.bp m.bn m.bc,.slice m.ep m.en m.ec] 51)) (Fa (Lc hc) hf (.cells #[.int .i64 m.k,.int .i64 m.t,.int .i64 m.ix.k,.int .i64 m.ix.v,.slice m.ix.p m.ix.n m.ix.c,.int .i64 m.val.k,.int .i64 m.val.v,.slice m.val.p m.val.n m.val.c,.int .i64 m.c,.slice m.bp m.bn m.bc,.slice m.ep m.en m.ec] 51)) l1 m1;rw [hz] at b0;clear e0 e1 e2 e3 e4 e5 e6 e7 e8 e9 k1 hc hf;refine (b0).mono ?_;rintro e w2 ⟨x2,rfl,hc,hf,p0,a0⟩;clear b0;replace hC:=((hC.trans (Cb (bal (Bs _) _)))).trans a0;have i0:=a0.size;simp only [Sa] at i0;clear b1 w0 c1 x0 d1 y0;have o0:Bk w2 (wl.heap.size) [.int .i64 m.k,.int .i64 m.t,.int .i64 m.ix.k,.int .i64 m.ix.v,.slice m.ix.p m.ix.n m.ix.c,.int .i64 m.val.k,.int .i64 m.val.v,.slice m.val.p m.val.n m.val.c,.int .i64 m.c,.slice m.bp m.bn m.bc,.slice m.ep m.en m.ec]:=Bk.keep (Bk.n11 (wl.heap.size)) a0 (fun h=>by have:=s0 _ h;omega);clear o0;replace o1:=Lc hc;have HZ:=Hi hz;clear hz;obtain ⟨g1,g2,g3⟩:=q1.out HZ.out;have n1:=p0 rfl;have s1:Hid (x2=c+blC d L (j+1)∧blTo nv na d L (j+1)=true):=Hi ⟨by rw [n1,g3],g1⟩;have v1:=p1.out;have t1:0≤x2∧x2≤60:=by omega
    clear g1 g2 g3 n1 p0 v1;replace f0:=Bk.keep (Bk.al f0 _) a0 (fun h=>by have:=s0 _ h;omega);have g0:=Hi (Ai hc (Ai hf (Ai t1 (Ai hC f0))));go_wp2
    go_roundw
    case rel=>exact ⟨j+1,x2,by omega,by go_num,g0.out.1,g0.out.2.1,s1,g0.out.2.2.1,g0.out.2.2.2.1,g0.out.2.2.2.2⟩
    case measure=>simp [intOf];omega
  have x1:j=L.length:=by omega
  subst x1;have y1:decide (((L.length:Nat):Int) < (L.length:Int))=false:=decide_eq_false (by omega);have j0:Hid (Q=true):=Hi (by rw [j1.out];have h1:=d0.out.2;rw [blTo_all] at h1;rw [h1,decide_eq_true (by have:=d0.out.1;omega)];rfl);have l0:=Hi (Ai hc (Ai hf hC));clear hC;go_wp2
  exact bodyPost_ret (v:=.bool true) (by simp [results,Try.results24,go_sem]) rfl (scp_yes j0 l0 (fun _=>d0.out.1))
end Go.Proofs.Ytlckklglbodgbaa
