/-
 Parts of the proofs of the laws FnExactProductProgram.
-/
import Derived.Test.YtlckklglbodgbaaPV
import Derived.Test.YtlckklglbodgbaaTL
set_option linter.all false
namespace Go.Proofs.Ytlckklglbodgbaa
open Go.RowKit
def scR (nv na d:Nat) (c:Int) (e:Ex):Bool:=exOk nv na d e&&decide (c+exCnt d e≤15)
theorem exCnt_ge (d:Nat):∀ e:Ex,1≤exCnt d e:=by
 induction d with
 | zero=>intro e;simp [exCnt]
 | succ d ih =>
  intro e
  have:∀ l:List Ex,0≤(l.map (exCnt d)).sum:=by
   intro l
   induction l with
   | nil=>simp
   | cons x l ihl=>simp only [List.map_cons,List.sum_cons];have:=ih x;omega
  have:=this e.kids
  simp only [exCnt];omega
theorem cntTo_ge (d:Nat) (l:List Ex) (k:Nat):0≤cntTo d l k∧cntTo d l k≤cntTo d l l.length:=by
 have a0:∀ l:List Ex,0≤(l.map (exCnt d)).sum:=by
  intro l
  induction l with
  | nil=>simp
  | cons x l ihl=>simp only [List.map_cons,List.sum_cons];have:=exCnt_ge d x;omega
 refine ⟨a0 _,?_⟩;have h1:l=l.take k++l.drop k:=(List.take_append_drop k l).symm
 have h2:cntTo d l l.length=cntTo d l k+((l.drop k).map (exCnt d)).sum:=by
  unfold cntTo
  rw [List.take_of_length_le Lr];conv=>lhs;rw [h1]
  rw [List.map_append,List.sum_append]
 have:=a0 (l.drop k)
 omega
def ScP (cb:Nat) (c N:Int) (b:Bool) (w:World) (r:Ending) (w':World):Prop:=∃ c':Int,r=.returned (.bool b)∧w'.cell? ⟨cb,0,none⟩=some (.int .i64 c')∧w'.frozen? ⟨cb,0,none⟩=false∧(b=true→c'=c+N)∧Chg (fun q=>q=cb) w w'
theorem scp_no {cb:Nat} {c N c':Int} {Q:Bool} {w w':World} (hq:Hid (Q=false)) (h:Hid (w'.cell? ⟨cb,0,none⟩=some (.int .i64 c')∧w'.frozen? ⟨cb,0,none⟩=false∧Chg (fun q=>q=cb) w w')):ScP cb c N Q w (.returned (.bool false)) w':=by
 rw [hq.out];exact ⟨_,rfl,h.out.1,h.out.2.1,(fun h=>by cases h),h.out.2.2⟩
theorem scp_yes {cb:Nat} {c N c':Int} {Q:Bool} {w w':World} (hq:Hid (Q=true)) (h:Hid (w'.cell? ⟨cb,0,none⟩=some (.int .i64 c')∧w'.frozen? ⟨cb,0,none⟩=false∧Chg (fun q=>q=cb) w w')) (hc:true=true→c'=c+N):ScP cb c N Q w (.returned (.bool true)) w':=by
 rw [hq.out];exact ⟨_,rfl,h.out.1,h.out.2.1,hc,h.out.2.2⟩
theorem scR_not {nv na d:Nat} {c:Int} {e:Ex} (h:exOk nv na d e=false):scR nv na d c e=false:=by unfold scR;rw [h];rfl
theorem scR_big {nv na d:Nat} {c:Int} {e:Ex} (h:15 < c+1):scR nv na d c e=false:=by
 unfold scR
 have:=exCnt_ge d e
 rw [decide_eq_false (by omega)];simp
theorem exOk_read2 {nv na d:Nat} {k v:Int} {L:List Ex} (hk:k=3) (hl:(L.length:Int)=1) (h0:0≤v) (h1:v < limitOf nv na 3) (hL:0 < L.length):exOk nv na (d+1) (.mk k v L)=(L.all (exOk nv na d)&&atomK L[0].k):=by
 subst hk
 match L,hl with
 | [y],_ =>
  show (((1:Nat):Int) == arity 3&&(decide (0≤v)&&(decide (v < limitOf nv na 3)&&([y].all (exOk nv na d)&&(!((3:Int) == 3)||atomK y.k)))))=_
  rw [decide_eq_true h0,decide_eq_true h1];rfl
 | [],h=>simp at h
 | _::_::_,h=>simp at h;omega
set_option maxHeartbeats 6400000 in
set_option maxRecDepth 100000 in
theorem scan_any (cb:Nat) (pv pa:Option Addr) (nv cv na ca:Nat) (vb:Value) (B:Nat→Prop) (hB:∀ q,B q→¬q=cb) (hnv:nv≤1000000000∧na≤1000000000):∀ (d D:Nat) (n:En) (e:Ex) (c dp:Int) (w:World),d≤5→dp=6-(d:Int)→ExAt w B D n e→w.cell? ⟨cb,0,none⟩=some (.int .i64 c)→w.frozen? ⟨cb,0,none⟩=false→0≤c→c≤15 →
  Calls Try.prog 102 #[.agg #[.slice pv nv cv,.slice pa na ca,vb],.agg #[.int .i64 n.k,.int .i64 n.v,.slice n.p n.n n.c],.int .i64 dp,.pointer (some ⟨cb,0,none⟩)] w fun r w'=>ScP cb c (exCnt d e) (scR nv na d c e) w r w':=by
 have z1:=Hi hB;clear hB;intro d
 induction d with
 | zero =>
  intro D n e c dp w hd v6 hx hc hf oA pA;have h7:(5:Int) < dp:=by omega
  have f7:dp≤6:=by omega
  clear v6;have HQ:Hid (scR nv na 0 c e=false):=Hi (scR_not rfl);generalize scR nv na 0 c e=Q at *
  clear hx;have hC:Chg (fun k=>k=cb) w w:=Chg.refl _ _;have k1:∀ q,(fun k=>k=cb) q→q=cb:=fun q h=>h
  have qA:=Lc hc;go_enter Try.func102,Try.ntmps102
  by_cases hbig:(15:Int) < c+1
  ·skip
   go_upto_region 2 with (fail)
   generalize hnw:World.alloc _ _=w1;have hb:=nmh hnw;clear hnw
   replace hC:=((((hC.setCell cb (0) (.int .i64 (c+1)) (fun _=>rfl)).trans (Cb (bal (Bs _) _))).trans (Cb (bal (Bs _) _)))).trans (Cb hb);have a3:=hb.size;simp only [Sa,Ss] at a3;replace hf:=Kf hb (Lc (Ac (Ac (Tc _ (cb) 0 (.int .i64 (c+1)) hc) _) _)) (Fa (Lc (Ac (Tc _ (cb) 0 (.int .i64 (c+1)) hc) _)) (Fa (Lc (Tc _ (cb) 0 (.int .i64 (c+1)) hc)) (Fs hf _) _) _);replace hc:w1.cell? ⟨cb,0,none⟩=some (.int .i64 (c+1)):=Kc hb (Ac (Ac (Tc _ (cb) 0 (.int .i64 (c+1)) hc) _) _);have a7:Bk w1 (w.heap.size) [.slice pv nv cv,.slice pa na ca,vb]:=Bb (Bk.al (Bk.nw (by simp) rfl) (.cells #[.int .i64 n.k,.int .i64 n.v,.slice n.p n.n n.c] 49)) hb;have t0:Bk w1 (w.heap.size+1) [.int .i64 n.k,.int .i64 n.v,.slice n.p n.n n.c]:=Bb (Bk.nw (by simp) rfl) hb;clear hb;have tA:=Lc hc;have uA:=Bk.lz a7;have vA:=Bk.lz t0;go_upto_region 2 with (fail)
   refine Rgh (S:=fun W'=>W'.cell? ⟨w.heap.size+1,0,none⟩=some (.int .i64 n.k)∧W'.cell? ⟨w.heap.size+1,2,none⟩=some (.slice n.p n.n n.c)) (fun W d=>⟨Bk.kc t0 d 0,Bk.kc t0 d 2⟩) (fun w2 s1 hHeld=>?_);replace hC:=(hC).trans (Cb s1);have r7:=s1.size;replace hf:=Kf s1 (Lc hc) hf;replace hc:=Kc s1 hc;refine (tq 0 17 rfl rfl ?_ ?_ (tq 1 18 rfl rfl ?_ ?_ ?_));iterate 2 (rotate_left;intro W' hSw;(try dsimp only at hSw);go_simp;try with_reducible rfl)
   try simp only [Ep]
   refine Rdy 2 rfl (fun K hK=>?_);replace t0:=Bb t0 s1;obtain ⟨yA,b9,a8,c9⟩:=Bk.f2 t0 0 2 rfl rfl;go_simp
   refine hK.out _ _ ⟨Bk.ce t0 0,Bk.ce t0 2⟩ (fun hHeld=>?_);clear hK K;try simp only [Ep]
   refine (tq 3 20 rfl rfl ?_ ?_ (tq 4 21 rfl rfl ?_ ?_ ?_));iterate 2 (rotate_left;intro W' hSw;(try dsimp only at hSw);go_simp;try with_reducible rfl)
   try simp only [Ep]
   refine (tu 5 22 rfl rfl (tu 6 23 rfl rfl (tq 7 24 rfl rfl ?_ ?_ (tq 8 25 rfl rfl ?_ ?_ ?_))));iterate 2 (rotate_left;intro W' hSw;(try dsimp only at hSw);go_simp;try with_reducible rfl)
   try simp only [Ep]
   refine (tu 9 26 rfl rfl (tu 10 27 rfl rfl (tu 11 28 rfl rfl (tu 12 29 rfl rfl ?_))));try simp only [Ep]
   refine (tu 13 30 rfl rfl (tu 14 31 rfl rfl (tu 15 32 rfl rfl (tq 16 33 rfl rfl ?_ ?_ ?_))));(rotate_left;intro W' hSw;(try dsimp only at hSw);go_simp;try with_reducible rfl)
   try simp only [Ep]
   refine Dn ?_;clear hHeld;have f0:=Hi (Ai hc (Ai hf hC));clear hC hc hf;go_wp2
   exact bodyPost_ret (v:=.bool false) (by simp [results,Try.results102,go_sem]) rfl (scp_no HQ f0)
  skip
  go_upto_region 2 with (fail)
  generalize hnw:World.alloc _ _=w1;have hb:=nmh hnw;clear hnw
  replace hC:=((((hC.setCell cb (0) (.int .i64 (c+1)) (fun _=>rfl)).trans (Cb (bal (Bs _) _))).trans (Cb (bal (Bs _) _)))).trans (Cb hb);have t1:=hb.size;simp only [Sa,Ss] at t1;replace hf:=Kf hb (Lc (Ac (Ac (Tc _ (cb) 0 (.int .i64 (c+1)) hc) _) _)) (Fa (Lc (Ac (Tc _ (cb) 0 (.int .i64 (c+1)) hc) _)) (Fa (Lc (Tc _ (cb) 0 (.int .i64 (c+1)) hc)) (Fs hf _) _) _);replace hc:w1.cell? ⟨cb,0,none⟩=some (.int .i64 (c+1)):=Kc hb (Ac (Ac (Tc _ (cb) 0 (.int .i64 (c+1)) hc) _) _);have c0:Bk w1 (w.heap.size) [.slice pv nv cv,.slice pa na ca,vb]:=Bb (Bk.al (Bk.nw (by simp) rfl) (.cells #[.int .i64 n.k,.int .i64 n.v,.slice n.p n.n n.c] 49)) hb;have a0:Bk w1 (w.heap.size+1) [.int .i64 n.k,.int .i64 n.v,.slice n.p n.n n.c]:=Bb (Bk.nw (by simp) rfl) hb;clear hb;have m0:=Lc hc;have v7:=Bk.lz c0;have w7:=Bk.lz a0;go_upto_region 2 with (fail)
  refine Rgh (S:=fun W'=>W'.cell? ⟨w.heap.size+1,0,none⟩=some (.int .i64 n.k)∧W'.cell? ⟨w.heap.size+1,2,none⟩=some (.slice n.p n.n n.c)) (fun W d=>⟨Bk.kc a0 d 0,Bk.kc a0 d 2⟩) (fun w2 d0 hHeld=>?_);replace hC:=(hC).trans (Cb d0);have o3:=d0.size;replace hf:=Kf d0 (Lc hc) hf;replace hc:=Kc d0 hc;refine (tq 0 17 rfl rfl ?_ ?_ (tq 1 18 rfl rfl ?_ ?_ ?_));iterate 2 (rotate_left;intro W' hSw;(try dsimp only at hSw);go_simp;try with_reducible rfl)
  try simp only [Ep]
  refine Rdy 2 rfl (fun K hK=>?_);replace a0:=Bb a0 d0;obtain ⟨h5,s6,i5,t6⟩:=Bk.f2 a0 0 2 rfl rfl;go_simp
  refine hK.out _ _ ⟨Bk.ce a0 0,Bk.ce a0 2⟩ (fun hHeld=>?_);clear hK K;try simp only [Ep]
  refine (tq 3 20 rfl rfl ?_ ?_ (tq 4 21 rfl rfl ?_ ?_ ?_));iterate 2 (rotate_left;intro W' hSw;(try dsimp only at hSw);go_simp;try with_reducible rfl)
  try simp only [Ep]
  refine (tq 5 22 rfl rfl ?_ ?_ (tq 6 23 rfl rfl ?_ ?_ (tq 7 24 rfl rfl ?_ ?_ (tq 8 25 rfl rfl ?_ ?_ ?_))));iterate 4 (rotate_left;intro W' hSw;(try dsimp only at hSw);go_simp;try with_reducible rfl)
  try simp only [Ep]
  refine (tu 9 26 rfl rfl (tu 10 27 rfl rfl (tu 11 28 rfl rfl (tu 12 29 rfl rfl ?_))));try simp only [Ep]
  refine (tu 13 30 rfl rfl (tu 14 31 rfl rfl (tu 15 32 rfl rfl (tq 16 33 rfl rfl ?_ ?_ ?_))));(rotate_left;intro W' hSw;(try dsimp only at hSw);go_simp;try with_reducible rfl)
  try simp only [Ep]
  refine Dn ?_;clear hHeld;have f0:=Hi (Ai hc (Ai hf hC));clear hC hc hf;go_wp2
  exact bodyPost_ret (v:=.bool false) (by simp [results,Try.results102,go_sem]) rfl (scp_no HQ f0)
 | succ d IH0 =>
  intro D n e c dp w hd v6 hx hc hf oA pA;have h7:¬(5:Int) < dp:=by omega
  have f7:0≤dp:=by omega
  have d2:=Hi v6;clear v6
  cases D with
  | zero=>cases hx
  | succ D =>
   have IH:=Hi IH0;clear IH0;obtain ⟨k,v,L⟩:=e;obtain ⟨nk,b0,np,aB,nc⟩:=n;obtain ⟨q1,q2,q3⟩:=hx.shape;simp only [Ex.k,Ex.v,Ex.kids] at q1 q2 q3;subst q1 q2 q3;have HK:=Hi (fun W (hW:Chg (fun q=>q=cb) w W) j hj=>ExAt.kidm (ExAt.keep hW (fun q hq _ h=>z1.out q hq h) (fun _ h _=>h) Lr hx) j hj);have zA:L.length≤9223372036854775807:=by obtain ⟨_,_,_,_,h,_⟩:=hx;exact h.2.1
   clear hx;obtain ⟨Q,hQ⟩:∃ Q,scR nv na (d+1) c (.mk nk b0 L)=Q:=⟨_,rfl⟩;have HQ:=Hi hQ.symm;rw [hQ];clear hQ;have hC:Chg (fun k=>k=cb) w w:=Chg.refl _ _;have k1:∀ q,(fun k=>k=cb) q→q=cb:=fun q h=>h
   have qA:=Lc hc;go_enter Try.func102,Try.ntmps102
   by_cases hbig:(15:Int) < c+1
   ·skip
    go_upto_region 2 with (fail)
    generalize hnw:World.alloc _ _=w1;have hb:=nmh hnw;clear hnw
    replace hC:=((((hC.setCell cb (0) (.int .i64 (c+1)) (fun _=>rfl)).trans (Cb (bal (Bs _) _))).trans (Cb (bal (Bs _) _)))).trans (Cb hb);have a3:=hb.size;simp only [Sa,Ss] at a3;replace hf:=Kf hb (Lc (Ac (Ac (Tc _ (cb) 0 (.int .i64 (c+1)) hc) _) _)) (Fa (Lc (Ac (Tc _ (cb) 0 (.int .i64 (c+1)) hc) _)) (Fa (Lc (Tc _ (cb) 0 (.int .i64 (c+1)) hc)) (Fs hf _) _) _);replace hc:w1.cell? ⟨cb,0,none⟩=some (.int .i64 (c+1)):=Kc hb (Ac (Ac (Tc _ (cb) 0 (.int .i64 (c+1)) hc) _) _);have a7:Bk w1 (w.heap.size) [.slice pv nv cv,.slice pa na ca,vb]:=Bb (Bk.al (Bk.nw (by simp) rfl) (.cells #[.int .i64 nk,.int .i64 b0,.slice np L.length nc] 49)) hb;have t0:Bk w1 (w.heap.size+1) [.int .i64 nk,.int .i64 b0,.slice np L.length nc]:=Bb (Bk.nw (by simp) rfl) hb;clear hb;have tA:=Lc hc;have uA:=Bk.lz a7;have vA:=Bk.lz t0;go_upto_region 2 with (fail)
    refine Rgh (S:=fun W'=>W'.cell? ⟨w.heap.size+1,0,none⟩=some (.int .i64 nk)∧W'.cell? ⟨w.heap.size+1,2,none⟩=some (.slice np L.length nc)) (fun W d=>⟨Bk.kc t0 d 0,Bk.kc t0 d 2⟩) (fun w2 s1 hHeld=>?_);replace hC:=(hC).trans (Cb s1);have r7:=s1.size;replace hf:=Kf s1 (Lc hc) hf;replace hc:=Kc s1 hc;refine (tq 0 17 rfl rfl ?_ ?_ (tq 1 18 rfl rfl ?_ ?_ ?_));iterate 2 (rotate_left;intro W' hSw;(try dsimp only at hSw);go_simp;try with_reducible rfl)
    try simp only [Ep]
    refine Rdy 2 rfl (fun K hK=>?_);replace t0:=Bb t0 s1;obtain ⟨yA,b9,a8,c9⟩:=Bk.f2 t0 0 2 rfl rfl;go_simp
    refine hK.out _ _ ⟨Bk.ce t0 0,Bk.ce t0 2⟩ (fun hHeld=>?_);clear hK K;try simp only [Ep]
    refine (tq 3 20 rfl rfl ?_ ?_ (tq 4 21 rfl rfl ?_ ?_ ?_));iterate 2 (rotate_left;intro W' hSw;(try dsimp only at hSw);go_simp;try with_reducible rfl)
    try simp only [Ep]
    refine (tu 5 22 rfl rfl (tu 6 23 rfl rfl (tq 7 24 rfl rfl ?_ ?_ (tq 8 25 rfl rfl ?_ ?_ ?_))));iterate 2 (rotate_left;intro W' hSw;(try dsimp only at hSw);go_simp;try with_reducible rfl)
    try simp only [Ep]
    refine (tu 9 26 rfl rfl (tu 10 27 rfl rfl (tu 11 28 rfl rfl (tu 12 29 rfl rfl ?_))));try simp only [Ep]
    refine (tu 13 30 rfl rfl (tu 14 31 rfl rfl (tu 15 32 rfl rfl (tq 16 33 rfl rfl ?_ ?_ ?_))));(rotate_left;intro W' hSw;(try dsimp only at hSw);go_simp;try with_reducible rfl)
    try simp only [Ep]
    refine Dn ?_;clear hHeld;have i0:Hid (Q=false):=Hi (by rw [HQ.out];exact scR_big hbig);have f0:=Hi (Ai hc (Ai hf hC));clear hC hc hf;go_wp2
    exact bodyPost_ret (v:=.bool false) (by simp [results,Try.results102,go_sem]) rfl (scp_no i0 f0)
   go_upto_region 2 with (fail)
   generalize hnw:World.alloc _ _=w1;have hb:=nmh hnw;clear hnw
   replace hC:=((((hC.setCell cb (0) (.int .i64 (c+1)) (fun _=>rfl)).trans (Cb (bal (Bs _) _))).trans (Cb (bal (Bs _) _)))).trans (Cb hb);have t1:=hb.size;simp only [Sa,Ss] at t1;replace hf:=Kf hb (Lc (Ac (Ac (Tc _ (cb) 0 (.int .i64 (c+1)) hc) _) _)) (Fa (Lc (Ac (Tc _ (cb) 0 (.int .i64 (c+1)) hc) _)) (Fa (Lc (Tc _ (cb) 0 (.int .i64 (c+1)) hc)) (Fs hf _) _) _);replace hc:w1.cell? ⟨cb,0,none⟩=some (.int .i64 (c+1)):=Kc hb (Ac (Ac (Tc _ (cb) 0 (.int .i64 (c+1)) hc) _) _);have c0:Bk w1 (w.heap.size) [.slice pv nv cv,.slice pa na ca,vb]:=Bb (Bk.al (Bk.nw (by simp) rfl) (.cells #[.int .i64 nk,.int .i64 b0,.slice np L.length nc] 49)) hb;have a0:Bk w1 (w.heap.size+1) [.int .i64 nk,.int .i64 b0,.slice np L.length nc]:=Bb (Bk.nw (by simp) rfl) hb;clear hb;have m0:=Lc hc;have v7:=Bk.lz c0;have w7:=Bk.lz a0;by_cases hA:arity nk=(L.length:Int)
   ·have dA:(arity nk != (L.length:Int))=false:=by simp [hA]
    have HA:=Hi hA;clear hA;go_upto_region 2 with (fail)
    refine Rgh (S:=fun W'=>W'.cell? ⟨w.heap.size+1,0,none⟩=some (.int .i64 nk)∧W'.cell? ⟨w.heap.size+1,2,none⟩=some (.slice np L.length nc)) (fun W d=>⟨Bk.kc a0 d 0,Bk.kc a0 d 2⟩) (fun w2 d0 hHeld=>?_);replace hC:=(hC).trans (Cb d0);have o3:=d0.size;replace hf:=Kf d0 (Lc hc) hf;replace hc:=Kc d0 hc;refine (tq 0 17 rfl rfl ?_ ?_ (tq 1 18 rfl rfl ?_ ?_ ?_));iterate 2 (rotate_left;intro W' hSw;(try dsimp only at hSw);go_simp;try with_reducible rfl)
    try simp only [Ep]
    refine Rdy 2 rfl (fun K hK=>?_);replace a0:=Bb a0 d0;obtain ⟨h5,s6,i5,t6⟩:=Bk.f2 a0 0 2 rfl rfl;go_simp
    refine hK.out _ _ ⟨Bk.ce a0 0,Bk.ce a0 2⟩ (fun hHeld=>?_);clear hK K;try simp only [Ep]
    refine (tq 3 20 rfl rfl ?_ ?_ (tq 4 21 rfl rfl ?_ ?_ ?_));iterate 2 (rotate_left;intro W' hSw;(try dsimp only at hSw);go_simp;try with_reducible rfl)
    try simp only [Ep]
    refine (tq 5 22 rfl rfl ?_ ?_ (tq 6 23 rfl rfl ?_ ?_ (tq 7 24 rfl rfl ?_ ?_ (tq 8 25 rfl rfl ?_ ?_ ?_))));iterate 4 (rotate_left;intro W' hSw;(try dsimp only at hSw);go_simp;try with_reducible rfl)
    try simp only [Ep]
    refine (tq 9 26 rfl rfl ?_ ?_ (tq 10 27 rfl rfl ?_ ?_ (tq 12 29 rfl rfl ?_ ?_ ?_)));iterate 3 (rotate_left;intro W' hSw;(try dsimp only at hSw);go_simp;try with_reducible rfl)
    try simp only [Ep]
    refine (tq 13 30 rfl rfl ?_ ?_ (tq 14 31 rfl rfl ?_ ?_ ?_));iterate 2 (rotate_left;intro W' hSw;(try dsimp only at hSw);go_simp;try with_reducible rfl)
    try simp only [Ep]
    refine Rdy 11 rfl (fun K hK=>?_);go_simp
    refine (operands_any _ _).mono ?_;rintro e w3 ⟨rfl,q0⟩;replace hC:=(hC).trans (Cb q0);have eA:=q0.size;clear s6 h5 t6 i5;replace hf:=Kf q0 (Lc hc) hf;replace hc:=Kc q0 hc;replace m0:=Lc hc;replace a0:=Bb a0 q0;refine hK.out _ _ ⟨Bk.ce a0 0,Bk.ce a0 2⟩ (fun hHeld=>?_);clear hK K;try simp only [Ep]
    refine (tq 15 32 rfl rfl ?_ ?_ (tq 16 33 rfl rfl ?_ ?_ ?_));iterate 2 (rotate_left;intro W' hSw;(try dsimp only at hSw);go_simp;try with_reducible rfl)
    try simp only [Ep]
    refine Dn ?_;clear hHeld;have i3:Hid (arity nk=(L.length:Int)):=HA;clear HA dA;by_cases hk1:nk=1
    ·skip
     have x7:(nk == 1)=true:=by simp [hk1]
     have y7:(nk == 2)=false:=by simp [hk1]
     have z7:(nk == 3)=false:=by simp [hk1]
     have r0:=Hi hk1;clear hk1;have m1:Hid (limitOf nv na nk=255+1):=Hi (by unfold limitOf;rw [if_pos r0.out];rfl);by_cases hv:0≤b0∧b0≤255
     ·skip
      obtain ⟨b8,d9,c8,e9⟩:=Bk.h2 a0;go_wp2_with fail
      refine (within_any b0 0 (255) _).mono ?_;rintro e w4 ⟨rfl,i1⟩;rw [show wi b0 0 (255)=true from decide_eq_true (p:=0≤b0∧b0≤255) hv];replace hC:=(hC).trans (Cb i1);have fA:=i1.size;clear d9 b8 e9 c8;replace hf:=Kf i1 (Lc hc) hf;replace hc:=Kc i1 hc;replace m0:=Lc hc;have s7:=hv.1;have t7:=hv.2;clear hv;have n1:Hid (Q=(L.all (exOk nv na d)&&decide (c+(1+cntTo d L L.length)≤15))):=Hi (by rw [HQ.out];unfold scR;rw [exCnt_eq];show (exOk nv na (d+1) _&&decide (c+(1+cntTo d L L.length)≤15))=_;congr 1;cases hall:L.all (exOk nv na d) with | true=>exact exOk_yes (by rw [beq_iff_eq];exact i3.out.symm) (by omega) (by rw [m1.out];omega) hall (by rw [beq_eq_false_iff_ne];have:=r0.out;omega) | false=>exact exOk_kid hall);have n2:=Hi (fun k=>cntTo_ge d L k);replace a0:=Bb a0 i1;obtain ⟨d8,f9,e8,g9⟩:=Bk.f2 a0 0 2 rfl rfl;go_wp2_with fail
      go_loopw [71] (fun i wr=>∃ (j:Nat) (x:Int),j≤L.length∧i=.int .i64 j∧wr.cell? ⟨cb,0,none⟩=some (.int .i64 x)∧wr.frozen? ⟨cb,0,none⟩=false∧Hid (x=c+1+cntTo d L j∧okTo nv na d L j=true)∧(0≤x∧x≤15)∧Chg (fun k=>k=cb) w wr∧Bk wr (w.heap.size) [.slice pv nv cv,.slice pa na ca,vb]) (fun i _=>L.length-(intOf i).toNat)
      case atStart=>exact ⟨0,c+1,Nat.zero_le _,rfl,hc,hf,Hi ⟨by simp [cntTo],rfl⟩,⟨by omega,by omega⟩,hC,(Bb (Bb (Bb c0 d0) q0) i1)⟩
      case round =>
       clear hC hc hf c0 a0 d8 f9 e8 g9;obtain ⟨j,x,hj,rfl,hc,hf,k0,z0,hC,l0⟩:=hrel;obtain ⟨wl,rfl⟩:∃ X,X=wr:=⟨_,rfl⟩;obtain ⟨v1,x1⟩:=z0;have f3:=hC.size;by_cases hlt:j < L.length
       ·have z2:(j:Int) < (L.length:Int):=by omega
        obtain ⟨kb,ko,m,hp,l1,x6,hm,e0,e1,e2⟩:=HK.out wl hC j hlt;try simp only at hp
        subst hp;have HM:=Hi (fun W (hW:Chg (fun q=>q=cb) wl W)=>ExAt.keep hW (fun q hq _ h=>z1.out q hq h) (fun _ h _=>h) Lr hm);have g7:¬kb=cb:=fun h=>z1.out _ l1 h
        have x0:Hid (scR nv na d x L[j]=false→Q=false):=Hi (fun h=>by rw [n1.out];unfold scR at h;have h1:=cntTo_succ d L j hlt;have h2:=(n2.out (j+1)).2;have h3:=k0.out.1;cases hy:exOk nv na d L[j] with | false=>rw [okTo_no hlt hy];rfl | true=>rw [hy,Bool.true_and] at h;have:=of_decide_eq_false h;rw [decide_eq_false (by omega)];simp);have m2:Hid (scR nv na d x L[j]=true→okTo nv na d L (j+1)=true∧x+exCnt d L[j]≤15∧x+exCnt d L[j]=c+1+cntTo d L (j+1)):=Hi (fun h=>by unfold scR at h;rw [Bool.and_eq_true] at h;have h1:=cntTo_succ d L j hlt;refine ⟨by rw [okTo_succ hlt,k0.out.2,h.1];rfl,of_decide_eq_true h.2,by rw [h1,k0.out.1];omega⟩);have l2:=Hi (exCnt_ge d L[j]);clear hm l1;generalize L[j]=y at *
        have x3:=Lc hc;have rA:=Bk.lz l0;have sA:=Lc e0
        cases hz:scR nv na d x y with
        | false =>
         obtain ⟨f8,h9,g8,i9,h8,j9⟩:=Bk.h3 l0;go_wp2_with fail
         have g0:=IH.out D m y x (dp+1) _ (by omega) (by have:=d2.out;omega) (HM.out _ (Cb (bal (Bs wl) (.cells #[.int .i64 m.k,.int .i64 m.v,.slice m.p m.n m.c] 49)))) (Ac hc (.cells #[.int .i64 m.k,.int .i64 m.v,.slice m.p m.n m.c] 49)) (Fa (Lc hc) hf (.cells #[.int .i64 m.k,.int .i64 m.v,.slice m.p m.n m.c] 49)) v1 x1;rw [hz] at g0;clear e0 e1 e2 hc hf;refine (g0).mono ?_;rintro e w5 ⟨x2,rfl,hc,hf,y0,s2⟩;clear g0;replace hC:=((hC.trans (Cb (bal (Bs _) _)))).trans s2;have p3:=s2.size;simp only [Sa] at p3;clear h9 f8 i9 g8 j9 h8;have b7:Bk w5 (wl.heap.size) [.int .i64 m.k,.int .i64 m.v,.slice m.p m.n m.c]:=Bk.keep (Bk.n3 (wl.heap.size)) s2 (fun h=>by have:=k1 _ h;omega);clear b7;replace x3:=Lc hc;have HZ:=Hi hz;clear hz;have i0:Hid (Q=false):=Hi (x0.out HZ.out);have f0:=Hi (Ai hc (Ai hf hC));clear hC hc hf;go_wp2
         exact bodyPost_ret (v:=.bool false) (by simp [results,Try.results102,go_sem]) rfl (scp_no i0 f0)
        | true =>
         obtain ⟨i8,k9,j8,l9,k8,m9⟩:=Bk.h3 l0;go_wp2_with fail
         have g0:=IH.out D m y x (dp+1) _ (by omega) (by have:=d2.out;omega) (HM.out _ (Cb (bal (Bs wl) (.cells #[.int .i64 m.k,.int .i64 m.v,.slice m.p m.n m.c] 49)))) (Ac hc (.cells #[.int .i64 m.k,.int .i64 m.v,.slice m.p m.n m.c] 49)) (Fa (Lc hc) hf (.cells #[.int .i64 m.k,.int .i64 m.v,.slice m.p m.n m.c] 49)) v1 x1;rw [hz] at g0;clear e0 e1 e2 hc hf;refine (g0).mono ?_;rintro e w5 ⟨x2,rfl,hc,hf,y0,a2⟩;clear g0;replace hC:=((hC.trans (Cb (bal (Bs _) _)))).trans a2;have s3:=a2.size;simp only [Sa] at s3;clear k9 i8 l9 j8 m9 k8;have c7:Bk w5 (wl.heap.size) [.int .i64 m.k,.int .i64 m.v,.slice m.p m.n m.c]:=Bk.keep (Bk.n3 (wl.heap.size)) a2 (fun h=>by have:=k1 _ h;omega);clear c7;replace x3:=Lc hc;have HZ:=Hi hz;clear hz;obtain ⟨g1,g2,g3⟩:=m2.out HZ.out;have y1:=y0 rfl;have o2:Hid (x2=c+1+cntTo d L (j+1)∧okTo nv na d L (j+1)=true):=Hi ⟨by rw [y1,g3],g1⟩;have v2:=l2.out;have p2:0≤x2∧x2≤15:=by omega
         clear g1 g2 g3 y1 y0 v2;replace l0:=Bk.keep (Bk.al l0 _) a2 (fun h=>by have:=k1 _ h;omega);have n0:=Hi (Ai hc (Ai hf (Ai p2 (Ai hC l0))));go_wp2
         go_roundw
         case rel=>exact ⟨j+1,x2,by omega,by go_num,n0.out.1,n0.out.2.1,o2,n0.out.2.2.1,n0.out.2.2.2.1,n0.out.2.2.2.2⟩
         case measure=>simp [intOf];omega
       have y2:j=L.length:=by omega
       subst y2;have z2:decide (((L.length:Nat):Int) < (L.length:Int))=false:=decide_eq_false (by omega);have i0:Hid (Q=true):=Hi (by rw [n1.out];have h1:=k0.out.2;rw [okTo_all] at h1;rw [h1,decide_eq_true (by have:=k0.out.1;omega)];rfl);have k2:Hid (x=c+exCnt (d+1) (.mk nk b0 L)):=Hi (by rw [exCnt_eq,k0.out.1];show c+1+cntTo d L L.length=c+(1+cntTo d L L.length);omega);have f0:=Hi (Ai hc (Ai hf hC));clear hC hc hf;go_wp2
       exact bodyPost_ret (v:=.bool true) (by simp [results,Try.results102,go_sem]) rfl (scp_yes i0 f0 (fun _=>k2.out))
     skip
     obtain ⟨l8,n9,m8,o9⟩:=Bk.h2 a0;go_wp2_with fail
     refine (within_any b0 0 (255) _).mono ?_;rintro e w4 ⟨rfl,b2⟩;rw [show wi b0 0 (255)=false from decide_eq_false (p:=0≤b0∧b0≤255) hv];replace hC:=(hC).trans (Cb b2);have gA:=b2.size;clear n9 l8 o9 m8;replace hf:=Kf b2 (Lc hc) hf;replace hc:=Kc b2 hc;replace m0:=Lc hc;have i0:Hid (Q=false):=Hi (by rw [HQ.out];refine scR_not ?_;by_cases h0:b0 < 0;(exact exOk_neg h0);(exact exOk_big (by rw [m1.out];omega)));have f0:=Hi (Ai hc (Ai hf hC));clear hC hc hf;go_wp2
     exact bodyPost_ret (v:=.bool false) (by simp [results,Try.results102,go_sem]) rfl (scp_no i0 f0)
    by_cases hk2:nk=2
    ·skip
     have x7:(nk == 1)=false:=by simp [hk2]
     have y7:(nk == 2)=true:=by simp [hk2]
     have z7:(nk == 3)=false:=by simp [hk2]
     have r0:=Hi hk2;clear hk2;have m1:Hid (limitOf nv na nk=(nv:Int)-1+1):=Hi (by unfold limitOf;rw [if_neg (by have:=r0.out;omega),if_pos r0.out];omega);by_cases hv:0≤b0∧b0≤(nv:Int)-1
     ·skip
      replace c0:=Bb (Bb c0 d0) q0;obtain ⟨n8,p9⟩:=Bk.cf c0 0 rfl;obtain ⟨o8,q9,p8,r9⟩:=Bk.h2 a0;go_wp2_with fail
      refine (within_any b0 0 ((nv:Int)-1) _).mono ?_;rintro e w4 ⟨rfl,j1⟩;rw [show wi b0 0 ((nv:Int)-1)=true from decide_eq_true (p:=0≤b0∧b0≤(nv:Int)-1) hv];replace hC:=(hC).trans (Cb j1);have iA:=j1.size;clear p9 n8 q9 o8 r9 p8;replace hf:=Kf j1 (Lc hc) hf;replace hc:=Kc j1 hc;replace m0:=Lc hc;have s7:=hv.1;have t7:=hv.2;clear hv;have n1:Hid (Q=(L.all (exOk nv na d)&&decide (c+(1+cntTo d L L.length)≤15))):=Hi (by rw [HQ.out];unfold scR;rw [exCnt_eq];show (exOk nv na (d+1) _&&decide (c+(1+cntTo d L L.length)≤15))=_;congr 1;cases hall:L.all (exOk nv na d) with | true=>exact exOk_yes (by rw [beq_iff_eq];exact i3.out.symm) (by omega) (by rw [m1.out];omega) hall (by rw [beq_eq_false_iff_ne];have:=r0.out;omega) | false=>exact exOk_kid hall);have n2:=Hi (fun k=>cntTo_ge d L k);replace a0:=Bb a0 j1;obtain ⟨q8,s9,r8,t9⟩:=Bk.f2 a0 0 2 rfl rfl;go_wp2_with fail
      go_loopw [71] (fun i wr=>∃ (j:Nat) (x:Int),j≤L.length∧i=.int .i64 j∧wr.cell? ⟨cb,0,none⟩=some (.int .i64 x)∧wr.frozen? ⟨cb,0,none⟩=false∧Hid (x=c+1+cntTo d L j∧okTo nv na d L j=true)∧(0≤x∧x≤15)∧Chg (fun k=>k=cb) w wr∧Bk wr (w.heap.size) [.slice pv nv cv,.slice pa na ca,vb]) (fun i _=>L.length-(intOf i).toNat)
      case atStart=>exact ⟨0,c+1,Nat.zero_le _,rfl,hc,hf,Hi ⟨by simp [cntTo],rfl⟩,⟨by omega,by omega⟩,hC,(Bb c0 j1)⟩
      case round =>
       clear hC hc hf c0 a0 q8 s9 r8 t9;obtain ⟨j,x,hj,rfl,hc,hf,k0,z0,hC,l0⟩:=hrel;obtain ⟨wl,rfl⟩:∃ X,X=wr:=⟨_,rfl⟩;obtain ⟨v1,x1⟩:=z0;have f3:=hC.size;by_cases hlt:j < L.length
       ·have z2:(j:Int) < (L.length:Int):=by omega
        obtain ⟨kb,ko,m,hp,l1,x6,hm,e0,e1,e2⟩:=HK.out wl hC j hlt;try simp only at hp
        subst hp;have HM:=Hi (fun W (hW:Chg (fun q=>q=cb) wl W)=>ExAt.keep hW (fun q hq _ h=>z1.out q hq h) (fun _ h _=>h) Lr hm);have g7:¬kb=cb:=fun h=>z1.out _ l1 h
        have x0:Hid (scR nv na d x L[j]=false→Q=false):=Hi (fun h=>by rw [n1.out];unfold scR at h;have h1:=cntTo_succ d L j hlt;have h2:=(n2.out (j+1)).2;have h3:=k0.out.1;cases hy:exOk nv na d L[j] with | false=>rw [okTo_no hlt hy];rfl | true=>rw [hy,Bool.true_and] at h;have:=of_decide_eq_false h;rw [decide_eq_false (by omega)];simp);have m2:Hid (scR nv na d x L[j]=true→okTo nv na d L (j+1)=true∧x+exCnt d L[j]≤15∧x+exCnt d L[j]=c+1+cntTo d L (j+1)):=Hi (fun h=>by unfold scR at h;rw [Bool.and_eq_true] at h;have h1:=cntTo_succ d L j hlt;refine ⟨by rw [okTo_succ hlt,k0.out.2,h.1];rfl,of_decide_eq_true h.2,by rw [h1,k0.out.1];omega⟩);have l2:=Hi (exCnt_ge d L[j]);clear hm l1;generalize L[j]=y at *
        have y3:=Lc hc;have wA:=Bk.lz l0;have xA:=Lc e0
        cases hz:scR nv na d x y with
        | false =>
         obtain ⟨s8,v9,t8,w9,v8,x9⟩:=Bk.h3 l0;go_wp2_with fail
         have g0:=IH.out D m y x (dp+1) _ (by omega) (by have:=d2.out;omega) (HM.out _ (Cb (bal (Bs wl) (.cells #[.int .i64 m.k,.int .i64 m.v,.slice m.p m.n m.c] 49)))) (Ac hc (.cells #[.int .i64 m.k,.int .i64 m.v,.slice m.p m.n m.c] 49)) (Fa (Lc hc) hf (.cells #[.int .i64 m.k,.int .i64 m.v,.slice m.p m.n m.c] 49)) v1 x1;rw [hz] at g0;clear e0 e1 e2 hc hf;refine (g0).mono ?_;rintro e w5 ⟨x2,rfl,hc,hf,y0,t2⟩;clear g0;replace hC:=((hC.trans (Cb (bal (Bs _) _)))).trans t2;have t3:=t2.size;simp only [Sa] at t3;clear v9 s8 w9 t8 x9 v8;have d7:Bk w5 (wl.heap.size) [.int .i64 m.k,.int .i64 m.v,.slice m.p m.n m.c]:=Bk.keep (Bk.n3 (wl.heap.size)) t2 (fun h=>by have:=k1 _ h;omega);clear d7;replace y3:=Lc hc;have HZ:=Hi hz;clear hz;have i0:Hid (Q=false):=Hi (x0.out HZ.out);have f0:=Hi (Ai hc (Ai hf hC));clear hC hc hf;go_wp2
         exact bodyPost_ret (v:=.bool false) (by simp [results,Try.results102,go_sem]) rfl (scp_no i0 f0)
        | true =>
         obtain ⟨w8,y9,x8,z9,y8,aA⟩:=Bk.h3 l0;go_wp2_with fail
         have g0:=IH.out D m y x (dp+1) _ (by omega) (by have:=d2.out;omega) (HM.out _ (Cb (bal (Bs wl) (.cells #[.int .i64 m.k,.int .i64 m.v,.slice m.p m.n m.c] 49)))) (Ac hc (.cells #[.int .i64 m.k,.int .i64 m.v,.slice m.p m.n m.c] 49)) (Fa (Lc hc) hf (.cells #[.int .i64 m.k,.int .i64 m.v,.slice m.p m.n m.c] 49)) v1 x1;rw [hz] at g0;clear e0 e1 e2 hc hf;refine (g0).mono ?_;rintro e w5 ⟨x2,rfl,hc,hf,y0,c2⟩;clear g0;replace hC:=((hC.trans (Cb (bal (Bs _) _)))).trans c2;have v3:=c2.size;simp only [Sa] at v3;clear y9 w8 z9 x8 aA y8;have e7:Bk w5 (wl.heap.size) [.int .i64 m.k,.int .i64 m.v,.slice m.p m.n m.c]:=Bk.keep (Bk.n3 (wl.heap.size)) c2 (fun h=>by have:=k1 _ h;omega);clear e7;replace y3:=Lc hc;have HZ:=Hi hz;clear hz;obtain ⟨g1,g2,g3⟩:=m2.out HZ.out;have y1:=y0 rfl;have o2:Hid (x2=c+1+cntTo d L (j+1)∧okTo nv na d L (j+1)=true):=Hi ⟨by rw [y1,g3],g1⟩;have v2:=l2.out;have p2:0≤x2∧x2≤15:=by omega
         clear g1 g2 g3 y1 y0 v2;replace l0:=Bk.keep (Bk.al l0 _) c2 (fun h=>by have:=k1 _ h;omega);have n0:=Hi (Ai hc (Ai hf (Ai p2 (Ai hC l0))));go_wp2
         go_roundw
         case rel=>exact ⟨j+1,x2,by omega,by go_num,n0.out.1,n0.out.2.1,o2,n0.out.2.2.1,n0.out.2.2.2.1,n0.out.2.2.2.2⟩
         case measure=>simp [intOf];omega
       have y2:j=L.length:=by omega
       subst y2;have z2:decide (((L.length:Nat):Int) < (L.length:Int))=false:=decide_eq_false (by omega);have i0:Hid (Q=true):=Hi (by rw [n1.out];have h1:=k0.out.2;rw [okTo_all] at h1;rw [h1,decide_eq_true (by have:=k0.out.1;omega)];rfl);have k2:Hid (x=c+exCnt (d+1) (.mk nk b0 L)):=Hi (by rw [exCnt_eq,k0.out.1];show c+1+cntTo d L L.length=c+(1+cntTo d L L.length);omega);have f0:=Hi (Ai hc (Ai hf hC));clear hC hc hf;go_wp2
       exact bodyPost_ret (v:=.bool true) (by simp [results,Try.results102,go_sem]) rfl (scp_yes i0 f0 (fun _=>k2.out))
     skip
     replace c0:=Bb (Bb c0 d0) q0;obtain ⟨z8,bA⟩:=Bk.cf c0 0 rfl;obtain ⟨a9,j5,z3,k5⟩:=Bk.h2 a0;go_wp2_with fail
     refine (within_any b0 0 ((nv:Int)-1) _).mono ?_;rintro e w4 ⟨rfl,a1⟩;rw [show wi b0 0 ((nv:Int)-1)=false from decide_eq_false (p:=0≤b0∧b0≤(nv:Int)-1) hv];replace hC:=(hC).trans (Cb a1);have i7:=a1.size;clear bA z8 j5 a9 k5 z3;replace hf:=Kf a1 (Lc hc) hf;replace hc:=Kc a1 hc;replace m0:=Lc hc;have i0:Hid (Q=false):=Hi (by rw [HQ.out];refine scR_not ?_;by_cases h0:b0 < 0;(exact exOk_neg h0);(exact exOk_big (by rw [m1.out];omega)));have f0:=Hi (Ai hc (Ai hf hC));clear hC hc hf;go_wp2
     exact bodyPost_ret (v:=.bool false) (by simp [results,Try.results102,go_sem]) rfl (scp_no i0 f0)
    by_cases hk3:nk=3
    ·skip
     have x7:(nk == 1)=false:=by simp [hk3]
     have y7:(nk == 2)=false:=by simp [hk3]
     have z7:(nk == 3)=true:=by simp [hk3]
     have r0:=Hi hk3;clear hk3;have m1:Hid (limitOf nv na nk=(na:Int)-1+1):=Hi (by unfold limitOf;rw [if_neg (by have:=r0.out;omega),if_neg (by have:=r0.out;omega),if_pos r0.out];omega);by_cases hv:0≤b0∧b0≤(na:Int)-1
     ·skip
      replace c0:=Bb (Bb c0 d0) q0;obtain ⟨a4,l5⟩:=Bk.cf c0 1 rfl;obtain ⟨b4,m5,c4,n5⟩:=Bk.h2 a0;go_wp2_with fail
      refine (within_any b0 0 ((na:Int)-1) _).mono ?_;rintro e w4 ⟨rfl,o0⟩;rw [show wi b0 0 ((na:Int)-1)=true from decide_eq_true (p:=0≤b0∧b0≤(na:Int)-1) hv];replace hC:=(hC).trans (Cb o0);have j7:=o0.size;clear l5 a4 m5 b4 n5 c4;replace hf:=Kf o0 (Lc hc) hf;replace hc:=Kc o0 hc;replace m0:=Lc hc;have s7:=hv.1;have t7:=hv.2;clear hv;have cA:0 < L.length:=by have h1:arity nk=1:=(by unfold arity;rw [if_neg (by have:=r0.out;omega),if_pos r0.out]);have h2:=i3.out;rw [h1] at h2;omega
      obtain ⟨kb,ko,m,hp,l1,x6,hm,e0,e1,e2⟩:=HK.out _ hC 0 cA;try simp only at hp
      subst hp;obtain ⟨r1,r2,r3⟩:=hm.shape;rw [r1] at e0;clear r1 r2 r3 hm;have z6:Hid (exOk nv na (d+1) (.mk nk b0 L)=(L.all (exOk nv na d)&&atomK L[0].k)):=Hi (exOk_read2 r0.out (by have h1:arity nk=1:=(by unfold arity;rw [if_neg (by have:=r0.out;omega),if_pos r0.out]);have h2:=i3.out;rw [h1] at h2;omega) (by omega) (by have:=m1.out;rw [r0.out] at this;omega) cA);obtain ⟨y,hy⟩:∃ y,L[0]=y:=⟨_,rfl⟩;rw [hy] at e0 z6;clear hy;simp only [Nat.zero_mul,Nat.add_zero] at e0 e1 e2;replace m0:=Lc hc;have jA:=Lc e0
      cases hat:atomK y.k with
      | false =>
       replace a0:=Bb a0 o0;obtain ⟨d4,o5,e4,p5⟩:=Bk.f2 a0 0 2 rfl rfl;go_wp2_with fail
       refine (isPlain_any y.k _ _ _).mono ?_;rintro e w5 ⟨rfl,p0⟩;rw [hat];replace hC:=(hC).trans (Cb p0);have k7:=p0.size;clear o5 d4 p5 e4;replace hf:=Kf p0 (Lc hc) hf;replace hc:=Kc p0 hc;replace e0:=Kc p0 e0;replace e1:=Kc p0 e1;replace e2:=Kc p0 e2;clear e0 e1 e2;have y6:=Hi hat;clear hat;have i0:Hid (Q=false):=Hi (by rw [HQ.out];exact scR_not (by rw [z6.out,y6.out];simp));have f0:=Hi (Ai hc (Ai hf hC));clear hC hc hf;go_wp2
       exact bodyPost_ret (v:=.bool false) (by simp [results,Try.results102,go_sem]) rfl (scp_no i0 f0)
      | true =>
       replace a0:=Bb a0 o0;obtain ⟨f4,q5,g4,r5⟩:=Bk.f2 a0 0 2 rfl rfl;go_wp2_with fail
       refine (isPlain_any y.k _ _ _).mono ?_;rintro e w5 ⟨rfl,j0⟩;rw [hat];replace hC:=(hC).trans (Cb j0);have l7:=j0.size;clear q5 f4 r5 g4;replace hf:=Kf j0 (Lc hc) hf;replace hc:=Kc j0 hc;replace e0:=Kc j0 e0;replace e1:=Kc j0 e1;replace e2:=Kc j0 e2;clear e0 e1 e2;replace m0:=Lc hc;have y6:=Hi hat;clear hat;have n1:Hid (Q=(L.all (exOk nv na d)&&decide (c+(1+cntTo d L L.length)≤15))):=Hi (by rw [HQ.out];unfold scR;rw [exCnt_eq,z6.out,y6.out,Bool.and_true];rfl);have n2:=Hi (fun k=>cntTo_ge d L k);replace a0:=Bb a0 j0;obtain ⟨h4,s5⟩:=Bk.cf a0 2 rfl;go_wp2_with fail
       go_loopw [71] (fun i wr=>∃ (j:Nat) (x:Int),j≤L.length∧i=.int .i64 j∧wr.cell? ⟨cb,0,none⟩=some (.int .i64 x)∧wr.frozen? ⟨cb,0,none⟩=false∧Hid (x=c+1+cntTo d L j∧okTo nv na d L j=true)∧(0≤x∧x≤15)∧Chg (fun k=>k=cb) w wr∧Bk wr (w.heap.size) [.slice pv nv cv,.slice pa na ca,vb]) (fun i _=>L.length-(intOf i).toNat)
       case atStart=>exact ⟨0,c+1,Nat.zero_le _,rfl,hc,hf,Hi ⟨by simp [cntTo],rfl⟩,⟨by omega,by omega⟩,hC,(Bb (Bb c0 o0) j0)⟩
       case round =>
        clear hC hc hf c0 a0 h4 s5;obtain ⟨j,x,hj,rfl,hc,hf,k0,z0,hC,l0⟩:=hrel;obtain ⟨wl,rfl⟩:∃ X,X=wr:=⟨_,rfl⟩;obtain ⟨v1,x1⟩:=z0;have f3:=hC.size;by_cases hlt:j < L.length
        ·have z2:(j:Int) < (L.length:Int):=by omega
         obtain ⟨kb',ko',m,hp,l1,x6,hm,e0,e1,e2⟩:=HK.out wl hC j hlt;try simp only at hp
         simp only [Option.some.injEq,Addr.mk.injEq,and_true] at hp;obtain ⟨rfl,rfl⟩:=hp;have HM:=Hi (fun W (hW:Chg (fun q=>q=cb) wl W)=>ExAt.keep hW (fun q hq _ h=>z1.out q hq h) (fun _ h _=>h) Lr hm);have g7:¬kb=cb:=fun h=>z1.out _ l1 h
         have x0:Hid (scR nv na d x L[j]=false→Q=false):=Hi (fun h=>by rw [n1.out];unfold scR at h;have h1:=cntTo_succ d L j hlt;have h2:=(n2.out (j+1)).2;have h3:=k0.out.1;cases hy:exOk nv na d L[j] with | false=>rw [okTo_no hlt hy];rfl | true=>rw [hy,Bool.true_and] at h;have:=of_decide_eq_false h;rw [decide_eq_false (by omega)];simp);have m2:Hid (scR nv na d x L[j]=true→okTo nv na d L (j+1)=true∧x+exCnt d L[j]≤15∧x+exCnt d L[j]=c+1+cntTo d L (j+1)):=Hi (fun h=>by unfold scR at h;rw [Bool.and_eq_true] at h;have h1:=cntTo_succ d L j hlt;refine ⟨by rw [okTo_succ hlt,k0.out.2,h.1];rfl,of_decide_eq_true h.2,by rw [h1,k0.out.1];omega⟩);have l2:=Hi (exCnt_ge d L[j]);clear hm l1;generalize L[j]=y at *
         have i2:=Lc hc;have kA:=Bk.lz l0;have lA:=Lc e0
         cases hz:scR nv na d x y with
         | false =>
          obtain ⟨i4,t5,j4,v5,k4,x5⟩:=Bk.h3 l0;go_wp2_with fail
          have g0:=IH.out D m y x (dp+1) _ (by omega) (by have:=d2.out;omega) (HM.out _ (Cb (bal (Bs wl) (.cells #[.int .i64 m.k,.int .i64 m.v,.slice m.p m.n m.c] 49)))) (Ac hc (.cells #[.int .i64 m.k,.int .i64 m.v,.slice m.p m.n m.c] 49)) (Fa (Lc hc) hf (.cells #[.int .i64 m.k,.int .i64 m.v,.slice m.p m.n m.c] 49)) v1 x1;rw [hz] at g0;clear e0 e1 e2 hc hf;refine (g0).mono ?_;rintro e w6 ⟨x2,rfl,hc,hf,y0,o1⟩;clear g0;replace hC:=((hC.trans (Cb (bal (Bs _) _)))).trans o1;have b3:=o1.size;simp only [Sa] at b3;clear t5 i4 v5 j4 x5 k4;have j3:Bk w6 (wl.heap.size) [.int .i64 m.k,.int .i64 m.v,.slice m.p m.n m.c]:=Bk.keep (Bk.n3 (wl.heap.size)) o1 (fun h=>by have:=k1 _ h;omega);clear j3;replace i2:=Lc hc;have HZ:=Hi hz;clear hz;have i0:Hid (Q=false):=Hi (x0.out HZ.out);have f0:=Hi (Ai hc (Ai hf hC));clear hC hc hf;go_wp2
          exact bodyPost_ret (v:=.bool false) (by simp [results,Try.results102,go_sem]) rfl (scp_no i0 f0)
         | true =>
          obtain ⟨l4,y5,m4,z5,n4,a6⟩:=Bk.h3 l0;go_wp2_with fail
          have g0:=IH.out D m y x (dp+1) _ (by omega) (by have:=d2.out;omega) (HM.out _ (Cb (bal (Bs wl) (.cells #[.int .i64 m.k,.int .i64 m.v,.slice m.p m.n m.c] 49)))) (Ac hc (.cells #[.int .i64 m.k,.int .i64 m.v,.slice m.p m.n m.c] 49)) (Fa (Lc hc) hf (.cells #[.int .i64 m.k,.int .i64 m.v,.slice m.p m.n m.c] 49)) v1 x1;rw [hz] at g0;clear e0 e1 e2 hc hf;refine (g0).mono ?_;rintro e w6 ⟨x2,rfl,hc,hf,y0,b1⟩;clear g0;replace hC:=((hC.trans (Cb (bal (Bs _) _)))).trans b1;have c3:=b1.size;simp only [Sa] at c3;clear y5 l4 z5 m4 a6 n4;have k3:Bk w6 (wl.heap.size) [.int .i64 m.k,.int .i64 m.v,.slice m.p m.n m.c]:=Bk.keep (Bk.n3 (wl.heap.size)) b1 (fun h=>by have:=k1 _ h;omega);clear k3;replace i2:=Lc hc;have HZ:=Hi hz;clear hz;obtain ⟨g1,g2,g3⟩:=m2.out HZ.out;have y1:=y0 rfl;have o2:Hid (x2=c+1+cntTo d L (j+1)∧okTo nv na d L (j+1)=true):=Hi ⟨by rw [y1,g3],g1⟩;have v2:=l2.out;have p2:0≤x2∧x2≤15:=by omega
          clear g1 g2 g3 y1 y0 v2;replace l0:=Bk.keep (Bk.al l0 _) b1 (fun h=>by have:=k1 _ h;omega);have n0:=Hi (Ai hc (Ai hf (Ai p2 (Ai hC l0))));go_wp2
          go_roundw
          case rel=>exact ⟨j+1,x2,by omega,by go_num,n0.out.1,n0.out.2.1,o2,n0.out.2.2.1,n0.out.2.2.2.1,n0.out.2.2.2.2⟩
          case measure=>simp [intOf];omega
        have y2:j=L.length:=by omega
        subst y2;have z2:decide (((L.length:Nat):Int) < (L.length:Int))=false:=decide_eq_false (by omega);have i0:Hid (Q=true):=Hi (by rw [n1.out];have h1:=k0.out.2;rw [okTo_all] at h1;rw [h1,decide_eq_true (by have:=k0.out.1;omega)];rfl);have k2:Hid (x=c+exCnt (d+1) (.mk nk b0 L)):=Hi (by rw [exCnt_eq,k0.out.1];show c+1+cntTo d L L.length=c+(1+cntTo d L L.length);omega);have f0:=Hi (Ai hc (Ai hf hC));clear hC hc hf;go_wp2
        exact bodyPost_ret (v:=.bool true) (by simp [results,Try.results102,go_sem]) rfl (scp_yes i0 f0 (fun _=>k2.out))
     skip
     replace c0:=Bb (Bb c0 d0) q0;obtain ⟨o4,b6⟩:=Bk.cf c0 1 rfl;obtain ⟨p4,c6,q4,d6⟩:=Bk.h2 a0;go_wp2_with fail
     refine (within_any b0 0 ((na:Int)-1) _).mono ?_;rintro e w4 ⟨rfl,c1⟩;rw [show wi b0 0 ((na:Int)-1)=false from decide_eq_false (p:=0≤b0∧b0≤(na:Int)-1) hv];replace hC:=(hC).trans (Cb c1);have m7:=c1.size;clear b6 o4 c6 p4 d6 q4;replace hf:=Kf c1 (Lc hc) hf;replace hc:=Kc c1 hc;replace m0:=Lc hc;have i0:Hid (Q=false):=Hi (by rw [HQ.out];refine scR_not ?_;by_cases h0:b0 < 0;(exact exOk_neg h0);(exact exOk_big (by rw [m1.out];omega)));have f0:=Hi (Ai hc (Ai hf hC));clear hC hc hf;go_wp2
     exact bodyPost_ret (v:=.bool false) (by simp [results,Try.results102,go_sem]) rfl (scp_no i0 f0)
    have x7:(nk == 1)=false:=by simp [hk1]
    have y7:(nk == 2)=false:=by simp [hk2]
    have z7:(nk == 3)=false:=by simp [hk3]
    have r0:=Hi (Ai hk1 (Ai hk2 hk3));clear hk1 hk2 hk3;have m1:Hid (limitOf nv na nk=0+1):=Hi (by unfold limitOf;rw [if_neg r0.out.1,if_neg r0.out.2.1,if_neg r0.out.2.2];rfl);by_cases hv:0≤b0∧b0≤0
    ·skip
     obtain ⟨r4,e6,s4,f6⟩:=Bk.h2 a0;go_wp2_with fail
     refine (within_any b0 0 (0) _).mono ?_;rintro e w4 ⟨rfl,s0⟩;rw [show wi b0 0 (0)=true from decide_eq_true (p:=0≤b0∧b0≤0) hv];replace hC:=(hC).trans (Cb s0);have n7:=s0.size;clear e6 r4 f6 s4;replace hf:=Kf s0 (Lc hc) hf;replace hc:=Kc s0 hc;replace m0:=Lc hc;have s7:=hv.1;have t7:=hv.2;clear hv;have n1:Hid (Q=(L.all (exOk nv na d)&&decide (c+(1+cntTo d L L.length)≤15))):=Hi (by rw [HQ.out];unfold scR;rw [exCnt_eq];show (exOk nv na (d+1) _&&decide (c+(1+cntTo d L L.length)≤15))=_;congr 1;cases hall:L.all (exOk nv na d) with | true=>exact exOk_yes (by rw [beq_iff_eq];exact i3.out.symm) (by omega) (by rw [m1.out];omega) hall (by rw [beq_eq_false_iff_ne];have:=r0.out;exact this.2.2) | false=>exact exOk_kid hall);have n2:=Hi (fun k=>cntTo_ge d L k);replace a0:=Bb a0 s0;obtain ⟨t4,g6,v4,h6⟩:=Bk.f2 a0 0 2 rfl rfl;go_wp2_with fail
     go_loopw [71] (fun i wr=>∃ (j:Nat) (x:Int),j≤L.length∧i=.int .i64 j∧wr.cell? ⟨cb,0,none⟩=some (.int .i64 x)∧wr.frozen? ⟨cb,0,none⟩=false∧Hid (x=c+1+cntTo d L j∧okTo nv na d L j=true)∧(0≤x∧x≤15)∧Chg (fun k=>k=cb) w wr∧Bk wr (w.heap.size) [.slice pv nv cv,.slice pa na ca,vb]) (fun i _=>L.length-(intOf i).toNat)
     case atStart=>exact ⟨0,c+1,Nat.zero_le _,rfl,hc,hf,Hi ⟨by simp [cntTo],rfl⟩,⟨by omega,by omega⟩,hC,(Bb (Bb (Bb c0 d0) q0) s0)⟩
     case round =>
      clear hC hc hf c0 a0 t4 g6 v4 h6;obtain ⟨j,x,hj,rfl,hc,hf,k0,z0,hC,l0⟩:=hrel;obtain ⟨wl,rfl⟩:∃ X,X=wr:=⟨_,rfl⟩;obtain ⟨v1,x1⟩:=z0;have f3:=hC.size;by_cases hlt:j < L.length
      ·have z2:(j:Int) < (L.length:Int):=by omega
       obtain ⟨kb,ko,m,hp,l1,x6,hm,e0,e1,e2⟩:=HK.out wl hC j hlt;try simp only at hp
       subst hp;have HM:=Hi (fun W (hW:Chg (fun q=>q=cb) wl W)=>ExAt.keep hW (fun q hq _ h=>z1.out q hq h) (fun _ h _=>h) Lr hm);have g7:¬kb=cb:=fun h=>z1.out _ l1 h
       have x0:Hid (scR nv na d x L[j]=false→Q=false):=Hi (fun h=>by rw [n1.out];unfold scR at h;have h1:=cntTo_succ d L j hlt;have h2:=(n2.out (j+1)).2;have h3:=k0.out.1;cases hy:exOk nv na d L[j] with | false=>rw [okTo_no hlt hy];rfl | true=>rw [hy,Bool.true_and] at h;have:=of_decide_eq_false h;rw [decide_eq_false (by omega)];simp);have m2:Hid (scR nv na d x L[j]=true→okTo nv na d L (j+1)=true∧x+exCnt d L[j]≤15∧x+exCnt d L[j]=c+1+cntTo d L (j+1)):=Hi (fun h=>by unfold scR at h;rw [Bool.and_eq_true] at h;have h1:=cntTo_succ d L j hlt;refine ⟨by rw [okTo_succ hlt,k0.out.2,h.1];rfl,of_decide_eq_true h.2,by rw [h1,k0.out.1];omega⟩);have l2:=Hi (exCnt_ge d L[j]);clear hm l1;generalize L[j]=y at *
       have j2:=Lc hc;have mA:=Bk.lz l0;have nA:=Lc e0
       cases hz:scR nv na d x y with
       | false =>
        obtain ⟨x4,i6,y4,j6,z4,k6⟩:=Bk.h3 l0;go_wp2_with fail
        have g0:=IH.out D m y x (dp+1) _ (by omega) (by have:=d2.out;omega) (HM.out _ (Cb (bal (Bs wl) (.cells #[.int .i64 m.k,.int .i64 m.v,.slice m.p m.n m.c] 49)))) (Ac hc (.cells #[.int .i64 m.k,.int .i64 m.v,.slice m.p m.n m.c] 49)) (Fa (Lc hc) hf (.cells #[.int .i64 m.k,.int .i64 m.v,.slice m.p m.n m.c] 49)) v1 x1;rw [hz] at g0;clear e0 e1 e2 hc hf;refine (g0).mono ?_;rintro e w5 ⟨x2,rfl,hc,hf,y0,p1⟩;clear g0;replace hC:=((hC.trans (Cb (bal (Bs _) _)))).trans p1;have d3:=p1.size;simp only [Sa] at d3;clear i6 x4 j6 y4 k6 z4;have l3:Bk w5 (wl.heap.size) [.int .i64 m.k,.int .i64 m.v,.slice m.p m.n m.c]:=Bk.keep (Bk.n3 (wl.heap.size)) p1 (fun h=>by have:=k1 _ h;omega);clear l3;replace j2:=Lc hc;have HZ:=Hi hz;clear hz;have i0:Hid (Q=false):=Hi (x0.out HZ.out);have f0:=Hi (Ai hc (Ai hf hC));clear hC hc hf;go_wp2
        exact bodyPost_ret (v:=.bool false) (by simp [results,Try.results102,go_sem]) rfl (scp_no i0 f0)
       | true =>
        obtain ⟨a5,l6,b5,m6,c5,n6⟩:=Bk.h3 l0;go_wp2_with fail
        have g0:=IH.out D m y x (dp+1) _ (by omega) (by have:=d2.out;omega) (HM.out _ (Cb (bal (Bs wl) (.cells #[.int .i64 m.k,.int .i64 m.v,.slice m.p m.n m.c] 49)))) (Ac hc (.cells #[.int .i64 m.k,.int .i64 m.v,.slice m.p m.n m.c] 49)) (Fa (Lc hc) hf (.cells #[.int .i64 m.k,.int .i64 m.v,.slice m.p m.n m.c] 49)) v1 x1;rw [hz] at g0;clear e0 e1 e2 hc hf;refine (g0).mono ?_;rintro e w5 ⟨x2,rfl,hc,hf,y0,d1⟩;clear g0;replace hC:=((hC.trans (Cb (bal (Bs _) _)))).trans d1;have e3:=d1.size;simp only [Sa] at e3;clear l6 a5 m6 b5 n6 c5;have m3:Bk w5 (wl.heap.size) [.int .i64 m.k,.int .i64 m.v,.slice m.p m.n m.c]:=Bk.keep (Bk.n3 (wl.heap.size)) d1 (fun h=>by have:=k1 _ h;omega);clear m3;replace j2:=Lc hc;have HZ:=Hi hz;clear hz;obtain ⟨g1,g2,g3⟩:=m2.out HZ.out;have y1:=y0 rfl;have o2:Hid (x2=c+1+cntTo d L (j+1)∧okTo nv na d L (j+1)=true):=Hi ⟨by rw [y1,g3],g1⟩;have v2:=l2.out;have p2:0≤x2∧x2≤15:=by omega
        clear g1 g2 g3 y1 y0 v2;replace l0:=Bk.keep (Bk.al l0 _) d1 (fun h=>by have:=k1 _ h;omega);have n0:=Hi (Ai hc (Ai hf (Ai p2 (Ai hC l0))));go_wp2
        go_roundw
        case rel=>exact ⟨j+1,x2,by omega,by go_num,n0.out.1,n0.out.2.1,o2,n0.out.2.2.1,n0.out.2.2.2.1,n0.out.2.2.2.2⟩
        case measure=>simp [intOf];omega
      have y2:j=L.length:=by omega
      subst y2;have z2:decide (((L.length:Nat):Int) < (L.length:Int))=false:=decide_eq_false (by omega);have i0:Hid (Q=true):=Hi (by rw [n1.out];have h1:=k0.out.2;rw [okTo_all] at h1;rw [h1,decide_eq_true (by have:=k0.out.1;omega)];rfl);have k2:Hid (x=c+exCnt (d+1) (.mk nk b0 L)):=Hi (by rw [exCnt_eq,k0.out.1];show c+1+cntTo d L L.length=c+(1+cntTo d L L.length);omega);have f0:=Hi (Ai hc (Ai hf hC));clear hC hc hf;go_wp2
      exact bodyPost_ret (v:=.bool true) (by simp [results,Try.results102,go_sem]) rfl (scp_yes i0 f0 (fun _=>k2.out))
    skip
    obtain ⟨d5,o6,e5,p6⟩:=Bk.h2 a0;go_wp2_with fail
    refine (within_any b0 0 (0) _).mono ?_;rintro e w4 ⟨rfl,f1⟩;rw [show wi b0 0 (0)=false from decide_eq_false (p:=0≤b0∧b0≤0) hv];replace hC:=(hC).trans (Cb f1);have o7:=f1.size;clear o6 d5 p6 e5;replace hf:=Kf f1 (Lc hc) hf;replace hc:=Kc f1 hc;replace m0:=Lc hc;have i0:Hid (Q=false):=Hi (by rw [HQ.out];refine scR_not ?_;by_cases h0:b0 < 0;(exact exOk_neg h0);(exact exOk_big (by rw [m1.out];omega)));have f0:=Hi (Ai hc (Ai hf hC));clear hC hc hf;go_wp2
    exact bodyPost_ret (v:=.bool false) (by simp [results,Try.results102,go_sem]) rfl (scp_no i0 f0)
   have dA:(arity nk != (L.length:Int))=true:=by simp [hA]
   have HA:=Hi hA;clear hA;go_upto_region 2 with (fail)
   replace m0:=Lc hc;refine Rgh (S:=fun W'=>W'.cell? ⟨w.heap.size+1,0,none⟩=some (.int .i64 nk)∧W'.cell? ⟨w.heap.size+1,2,none⟩=some (.slice np L.length nc)) (fun W d=>⟨Bk.kc a0 d 0,Bk.kc a0 d 2⟩) (fun w2 v0 hHeld=>?_);replace hC:=(hC).trans (Cb v0);have p7:=v0.size;replace hf:=Kf v0 (Lc hc) hf;replace hc:=Kc v0 hc;refine (tq 0 17 rfl rfl ?_ ?_ (tq 1 18 rfl rfl ?_ ?_ ?_));iterate 2 (rotate_left;intro W' hSw;(try dsimp only at hSw);go_simp;try with_reducible rfl)
   try simp only [Ep]
   refine Rdy 2 rfl (fun K hK=>?_);replace a0:=Bb a0 v0;obtain ⟨f5,q6,g5,r6⟩:=Bk.f2 a0 0 2 rfl rfl;go_simp
   refine hK.out _ _ ⟨Bk.ce a0 0,Bk.ce a0 2⟩ (fun hHeld=>?_);clear hK K;try simp only [Ep]
   refine (tq 3 20 rfl rfl ?_ ?_ (tq 4 21 rfl rfl ?_ ?_ ?_));iterate 2 (rotate_left;intro W' hSw;(try dsimp only at hSw);go_simp;try with_reducible rfl)
   try simp only [Ep]
   refine (tq 5 22 rfl rfl ?_ ?_ (tq 6 23 rfl rfl ?_ ?_ (tq 7 24 rfl rfl ?_ ?_ (tq 8 25 rfl rfl ?_ ?_ ?_))));iterate 4 (rotate_left;intro W' hSw;(try dsimp only at hSw);go_simp;try with_reducible rfl)
   try simp only [Ep]
   refine (tq 9 26 rfl rfl ?_ ?_ (tq 10 27 rfl rfl ?_ ?_ (tq 12 29 rfl rfl ?_ ?_ ?_)));iterate 3 (rotate_left;intro W' hSw;(try dsimp only at hSw);go_simp;try with_reducible rfl)
   try simp only [Ep]
   refine (tq 13 30 rfl rfl ?_ ?_ (tq 14 31 rfl rfl ?_ ?_ ?_));iterate 2 (rotate_left;intro W' hSw;(try dsimp only at hSw);go_simp;try with_reducible rfl)
   try simp only [Ep]
   refine Rdy 11 rfl (fun K hK=>?_);go_simp
   refine (operands_any _ _).mono ?_;rintro e w3 ⟨rfl,w0⟩;replace hC:=(hC).trans (Cb w0);have q7:=w0.size;clear q6 f5 r6 g5;replace hf:=Kf w0 (Lc hc) hf;replace hc:=Kc w0 hc;replace a0:=Bb a0 w0;refine hK.out _ _ ⟨Bk.ce a0 0,Bk.ce a0 2⟩ (fun hHeld=>?_);clear hK K;try simp only [Ep]
   refine (tq 15 32 rfl rfl ?_ ?_ (tq 16 33 rfl rfl ?_ ?_ ?_));iterate 2 (rotate_left;intro W' hSw;(try dsimp only at hSw);go_simp;try with_reducible rfl)
   try simp only [Ep]
   refine Dn ?_;clear hHeld;have i0:Hid (Q=false):=Hi (by rw [HQ.out];exact scR_not (exOk_len (by rw [beq_eq_false_iff_ne];exact fun h=>HA.out h.symm)));have f0:=Hi (Ai hc (Ai hf hC));clear hC hc hf;go_wp2
   exact bodyPost_ret (v:=.bool false) (by simp [results,Try.results102,go_sem]) rfl (scp_no i0 f0)
end Go.Proofs.Ytlckklglbodgbaa
