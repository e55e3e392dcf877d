/-
 Parts of the proofs of the laws FnDoubleLabels.
-/
import Derived.Test.YtlckklglbodgbaaPV
import Derived.Test.YtlckklglbodgbaaBK
set_option linter.all false
namespace Go.Proofs.Ytlckklglbodgbaa
open Go.RowKit
def scR (nv na d:Nat) (c:Int) (e:Ex):Bool:=exOk nv na d e&&decide (c+exCnt d e≤15)
theorem exCnt_ge (d:Nat):∀ e:Ex,1≤exCnt d e:=by
 induction d with
 | zero=>intro e;simp [exCnt]
 | succ d ih =>
  intro e
  have:∀ l:List Ex,0≤(l.map (exCnt d)).sum:=by
   intro l
   induction l with
   | nil=>simp
   | cons x l ihl=>simp only [List.map_cons,List.sum_cons];have:=ih x;omega
  have:=this e.kids
  simp only [exCnt];omega
theorem cntTo_ge (d:Nat) (l:List Ex) (k:Nat):0≤cntTo d l k∧cntTo d l k≤cntTo d l l.length:=by
 have a0:∀ l:List Ex,0≤(l.map (exCnt d)).sum:=by
  intro l
  induction l with
  | nil=>simp
  | cons x l ihl=>simp only [List.map_cons,List.sum_cons];have:=exCnt_ge d x;omega
 refine ⟨a0 _,?_⟩;have h1:l=l.take k++l.drop k:=(List.take_append_drop k l).symm
 have h2:cntTo d l l.length=cntTo d l k+((l.drop k).map (exCnt d)).sum:=by
  unfold cntTo
  rw [List.take_of_length_le Lr];conv=>lhs;rw [h1]
  rw [List.map_append,List.sum_append]
 have:=a0 (l.drop k)
 omega
def ScP (cb:Nat) (c N:Int) (b:Bool) (w:World) (r:Ending) (w':World):Prop:=∃ c':Int,r=.returned (.bool b)∧w'.cell? ⟨cb,0,none⟩=some (.int .i64 c')∧w'.frozen? ⟨cb,0,none⟩=false∧(b=true→c'=c+N)∧Chg (fun q=>q=cb) w w'
theorem scR_not {nv na d:Nat} {c:Int} {e:Ex} (h:exOk nv na d e=false):scR nv na d c e=false:=by unfold scR;rw [h];rfl
theorem scR_big {nv na d:Nat} {c:Int} {e:Ex} (h:15 < c+1):scR nv na d c e=false:=by
 unfold scR
 have:=exCnt_ge d e
 rw [decide_eq_false (by omega)];simp
theorem exOk_read2 {nv na d:Nat} {k v:Int} {L:List Ex} (hk:k=3) (hl:(L.length:Int)=1) (h0:0≤v) (h1:v < limitOf nv na 3) (hL:0 < L.length):exOk nv na (d+1) (.mk k v L)=(L.all (exOk nv na d)&&atomK L[0].k):=by
 subst hk
 match L,hl with
 | [y],_ =>
  show (((1:Nat):Int) == arity 3&&(decide (0≤v)&&(decide (v < limitOf nv na 3)&&([y].all (exOk nv na d)&&(!((3:Int) == 3)||atomK y.k)))))=_
  rw [decide_eq_true h0,decide_eq_true h1];rfl
 | [],h=>simp at h
 | _::_::_,h=>simp at h;omega
set_option maxHeartbeats 6400000 in
set_option maxRecDepth 100000 in
theorem scan_any (cb:Nat) (pv pa:Option Addr) (nv cv na ca:Nat) (vb:Value) (B:Nat→Prop) (hB:∀ q,B q→¬q=cb) (hnv:nv≤1000000000∧na≤1000000000):∀ (d D:Nat) (n:En) (e:Ex) (c dp:Int) (w:World),d≤5→dp=6-(d:Int)→ExAt w B D n e→w.cell? ⟨cb,0,none⟩=some (.int .i64 c)→w.frozen? ⟨cb,0,none⟩=false→0≤c→c≤15 →
  Calls Try.prog 102 #[.agg #[.slice pv nv cv,.slice pa na ca,vb],.agg #[.int .i64 n.k,.int .i64 n.v,.slice n.p n.n n.c],.int .i64 dp,.pointer (some ⟨cb,0,none⟩)] w fun r w'=>ScP cb c (exCnt d e) (scR nv na d c e) w r w':=by
 have s1:=Hi hB;clear hB;intro d
 induction d with
 | zero =>
  intro D n e c dp w hd m4 hx hc hf u7 v7;have y4:(5:Int) < dp:=by omega
  have v4:dp≤6:=by omega
  clear m4;have HQ:Hid (scR nv na 0 c e=false):=Hi (scR_not rfl);generalize scR nv na 0 c e=Q at *
  clear hx;have hC:Chg (fun k=>k=cb) w w:=Chg.refl _ _;have w0:∀ q,(fun k=>k=cb) q→q=cb:=fun q h=>h
  have w7:=Lc hc;go_enter Try.func102,Try.ntmps102
  by_cases hbig:(15:Int) < c+1
  ·skip
   go_upto_region 2 with (fail)
   obtain ⟨w1,i1,hb⟩:=nmw (World.alloc (World.alloc (World.setCell w ⟨cb,0,none⟩ (.int .i64 (c+1))) (.cells #[.slice pv nv cv,.slice pa na ca,vb] 26)) (.cells #[.int .i64 n.k,.int .i64 n.v,.slice n.p n.n n.c] 49));replace hC:=((((hC.setCell cb (0) (.int .i64 (c+1)) (fun _=>rfl)).trans (Cb (bal (Bs _) _))).trans (Cb (bal (Bs _) _)))).trans (Cb hb);have l2:=hb.size;simp only [Sa,Ss] at l2;replace hf:=Kf hb (Lc (Ac (Ac (Tc _ (cb) 0 (.int .i64 (c+1)) hc) _) _)) (Fa (Lc (Ac (Tc _ (cb) 0 (.int .i64 (c+1)) hc) _)) (Fa (Lc (Tc _ (cb) 0 (.int .i64 (c+1)) hc)) (Fs hf _) _) _);replace hc:w1.cell? ⟨cb,0,none⟩=some (.int .i64 (c+1)):=Kc hb (Ac (Ac (Tc _ (cb) 0 (.int .i64 (c+1)) hc) _) _);have c2:Bk w1 (w.heap.size) [.slice pv nv cv,.slice pa na ca,vb]:=Bb (Bk.al (Bk.nw (by simp) rfl) (.cells #[.int .i64 n.k,.int .i64 n.v,.slice n.p n.n n.c] 49)) hb;have t1:Bk w1 (w.heap.size+1) [.int .i64 n.k,.int .i64 n.v,.slice n.p n.n n.c]:=Bb (Bk.nw (by simp) rfl) hb;clear hb;rw [← i1];clear i1;have z7:=Lc hc;have a8:=Bk.lz c2;have d8:=Bk.lz t1;go_upto_region 2 with (fail)
   obtain ⟨n1,l4,o1,p1⟩:=Bk.f2 t1 0 2 rfl rfl;refine wp_region_noPanic ?_;refine wp_region_held_drew (S:=(fun W'=>W'.cell? ⟨w.heap.size+1,0,none⟩=some (.int .i64 n.k)∧W'.cell? ⟨w.heap.size+1,2,none⟩=some (.slice n.p n.n n.c))) (by kernel_rfl) ⟨Kc (Bd (Bs w1)) n1,Kc (Bd (Bs w1)) o1⟩ (fun hHeld=>?_);obtain ⟨w2,v0⟩:∃ X,X=World.drew w1:=⟨_,rfl⟩;rw [← v0] at hHeld ⊢;have hb:Below w1.heap.size w1 w2:=by rw [v0];exact Bd (Bs _)
   clear v0;replace hC:=(hC).trans (Cb hb);have y2:=hb.size;replace hf:=Kf hb (Lc hc) hf;replace l4:=Kf hb (Lc n1) l4;replace p1:=Kf hb (Lc o1) p1;replace hc:=Kc hb hc;replace n1:=Kc hb n1;replace o1:=Kc hb o1;replace c2:=Bb c2 hb;replace t1:=Bb t1 hb;clear hb;refine (tq 0 17 rfl rfl ?_ ?_ (tq 1 18 rfl rfl ?_ ?_ ?_));iterate 2 (rotate_left;intro W' hSw;(try dsimp only at hSw);go_simp;try with_reducible rfl)
   try simp only [Ep]
   refine Rdy 2 rfl (fun K hK=>?_);go_simp
   refine hK.out _ _ ⟨n1,o1⟩ (fun hHeld=>?_);clear hK K;try simp only [Ep]
   refine (tq 3 20 rfl rfl ?_ ?_ (tq 4 21 rfl rfl ?_ ?_ ?_));iterate 2 (rotate_left;intro W' hSw;(try dsimp only at hSw);go_simp;try with_reducible rfl)
   try simp only [Ep]
   refine (tu 5 22 rfl rfl (tu 6 23 rfl rfl (tq 7 24 rfl rfl ?_ ?_ (tq 8 25 rfl rfl ?_ ?_ ?_))));iterate 2 (rotate_left;intro W' hSw;(try dsimp only at hSw);go_simp;try with_reducible rfl)
   try simp only [Ep]
   refine (tu 9 26 rfl rfl (tu 10 27 rfl rfl (tu 11 28 rfl rfl (tu 12 29 rfl rfl (tu 13 30 rfl rfl (tu 14 31 rfl rfl (tu 15 32 rfl rfl (tq 16 33 rfl rfl ?_ ?_ ?_))))))));(rotate_left;intro W' hSw;(try dsimp only at hSw);go_simp;try with_reducible rfl)
   try simp only [Ep]
   refine Dn ?_;clear hHeld;have X1:=hc;have X2:=hf;have X3:=hC;have f0:=Hi (Ai X1 (Ai X2 X3));clear X1 X2 X3 hC hc hf;go_wp2
   exact bodyPost_ret (v:=.bool false) (by simp [results,Try.results102,go_sem]) rfl (by rw [HQ.out];unfold ScP;exact ⟨_,rfl,f0.out.1,f0.out.2.1,(fun h=>(by cases h)),f0.out.2.2⟩)
  skip
  go_upto_region 2 with (fail)
  obtain ⟨w1,i1,hb⟩:=nmw (World.alloc (World.alloc (World.setCell w ⟨cb,0,none⟩ (.int .i64 (c+1))) (.cells #[.slice pv nv cv,.slice pa na ca,vb] 26)) (.cells #[.int .i64 n.k,.int .i64 n.v,.slice n.p n.n n.c] 49));replace hC:=((((hC.setCell cb (0) (.int .i64 (c+1)) (fun _=>rfl)).trans (Cb (bal (Bs _) _))).trans (Cb (bal (Bs _) _)))).trans (Cb hb);have j1:=hb.size;simp only [Sa,Ss] at j1;replace hf:=Kf hb (Lc (Ac (Ac (Tc _ (cb) 0 (.int .i64 (c+1)) hc) _) _)) (Fa (Lc (Ac (Tc _ (cb) 0 (.int .i64 (c+1)) hc) _)) (Fa (Lc (Tc _ (cb) 0 (.int .i64 (c+1)) hc)) (Fs hf _) _) _);replace hc:w1.cell? ⟨cb,0,none⟩=some (.int .i64 (c+1)):=Kc hb (Ac (Ac (Tc _ (cb) 0 (.int .i64 (c+1)) hc) _) _);have b0:Bk w1 (w.heap.size) [.slice pv nv cv,.slice pa na ca,vb]:=Bb (Bk.al (Bk.nw (by simp) rfl) (.cells #[.int .i64 n.k,.int .i64 n.v,.slice n.p n.n n.c] 49)) hb;have a0:Bk w1 (w.heap.size+1) [.int .i64 n.k,.int .i64 n.v,.slice n.p n.n n.c]:=Bb (Bk.nw (by simp) rfl) hb;clear hb;rw [← i1];clear i1;have q0:=Lc hc;have r0:=Bk.lz b0;have s0:=Bk.lz a0;go_upto_region 2 with (fail)
  obtain ⟨c0,g0,d0,i0⟩:=Bk.f2 a0 0 2 rfl rfl;refine wp_region_noPanic ?_;refine wp_region_held_drew (S:=(fun W'=>W'.cell? ⟨w.heap.size+1,0,none⟩=some (.int .i64 n.k)∧W'.cell? ⟨w.heap.size+1,2,none⟩=some (.slice n.p n.n n.c))) (by kernel_rfl) ⟨Kc (Bd (Bs w1)) c0,Kc (Bd (Bs w1)) d0⟩ (fun hHeld=>?_);obtain ⟨w2,v0⟩:∃ X,X=World.drew w1:=⟨_,rfl⟩;rw [← v0] at hHeld ⊢;have hb:Below w1.heap.size w1 w2:=by rw [v0];exact Bd (Bs _)
  clear v0;replace hC:=(hC).trans (Cb hb);have z2:=hb.size;replace hf:=Kf hb (Lc hc) hf;replace g0:=Kf hb (Lc c0) g0;replace i0:=Kf hb (Lc d0) i0;replace hc:=Kc hb hc;replace c0:=Kc hb c0;replace d0:=Kc hb d0;replace b0:=Bb b0 hb;replace a0:=Bb a0 hb;clear hb;refine (tq 0 17 rfl rfl ?_ ?_ (tq 1 18 rfl rfl ?_ ?_ ?_));iterate 2 (rotate_left;intro W' hSw;(try dsimp only at hSw);go_simp;try with_reducible rfl)
  try simp only [Ep]
  refine Rdy 2 rfl (fun K hK=>?_);go_simp
  refine hK.out _ _ ⟨c0,d0⟩ (fun hHeld=>?_);clear hK K;try simp only [Ep]
  refine (tq 3 20 rfl rfl ?_ ?_ (tq 4 21 rfl rfl ?_ ?_ ?_));iterate 2 (rotate_left;intro W' hSw;(try dsimp only at hSw);go_simp;try with_reducible rfl)
  try simp only [Ep]
  refine (tq 5 22 rfl rfl ?_ ?_ (tq 6 23 rfl rfl ?_ ?_ (tq 7 24 rfl rfl ?_ ?_ (tq 8 25 rfl rfl ?_ ?_ ?_))));iterate 4 (rotate_left;intro W' hSw;(try dsimp only at hSw);go_simp;try with_reducible rfl)
  try simp only [Ep]
  refine (tu 9 26 rfl rfl (tu 10 27 rfl rfl (tu 11 28 rfl rfl (tu 12 29 rfl rfl (tu 13 30 rfl rfl (tu 14 31 rfl rfl (tu 15 32 rfl rfl (tq 16 33 rfl rfl ?_ ?_ ?_))))))));(rotate_left;intro W' hSw;(try dsimp only at hSw);go_simp;try with_reducible rfl)
  try simp only [Ep]
  refine Dn ?_;clear hHeld;have X1:=hc;have X2:=hf;have X3:=hC;have f0:=Hi (Ai X1 (Ai X2 X3));clear X1 X2 X3 hC hc hf;go_wp2
  exact bodyPost_ret (v:=.bool false) (by simp [results,Try.results102,go_sem]) rfl (by rw [HQ.out];unfold ScP;exact ⟨_,rfl,f0.out.1,f0.out.2.1,(fun h=>(by cases h)),f0.out.2.2⟩)
 | succ d IH0 =>
  intro D n e c dp w hd m4 hx hc hf u7 v7;have y4:¬(5:Int) < dp:=by omega
  have v4:0≤dp:=by omega
  have u1:=Hi m4;clear m4
  cases D with
  | zero=>cases hx
  | succ D =>
   have IH:=Hi IH0;clear IH0;obtain ⟨k,v,L⟩:=e;obtain ⟨nk,j0,np,i8,nc⟩:=n;obtain ⟨q1,q2,q3⟩:=hx.shape;simp only [Ex.k,Ex.v,Ex.kids] at q1 q2 q3;subst q1 q2 q3;have HK:=Hi (fun W (hW:Chg (fun q=>q=cb) w W) j hj=>ExAt.kidm (ExAt.keep hW (fun q hq _ h=>s1.out q hq h) (fun _ h _=>h) Lr hx) j hj);have h8:L.length≤9223372036854775807:=by obtain ⟨_,_,_,_,h,_⟩:=hx;exact h.2.1
   clear hx;obtain ⟨Q,hQ⟩:∃ Q,scR nv na (d+1) c (.mk nk j0 L)=Q:=⟨_,rfl⟩;have HQ:=Hi hQ.symm;rw [hQ];clear hQ;have hC:Chg (fun k=>k=cb) w w:=Chg.refl _ _;have w0:∀ q,(fun k=>k=cb) q→q=cb:=fun q h=>h
   have w7:=Lc hc;go_enter Try.func102,Try.ntmps102
   by_cases hbig:(15:Int) < c+1
   ·skip
    go_upto_region 2 with (fail)
    obtain ⟨w1,i1,hb⟩:=nmw (World.alloc (World.alloc (World.setCell w ⟨cb,0,none⟩ (.int .i64 (c+1))) (.cells #[.slice pv nv cv,.slice pa na ca,vb] 26)) (.cells #[.int .i64 nk,.int .i64 j0,.slice np L.length nc] 49));replace hC:=((((hC.setCell cb (0) (.int .i64 (c+1)) (fun _=>rfl)).trans (Cb (bal (Bs _) _))).trans (Cb (bal (Bs _) _)))).trans (Cb hb);have l2:=hb.size;simp only [Sa,Ss] at l2;replace hf:=Kf hb (Lc (Ac (Ac (Tc _ (cb) 0 (.int .i64 (c+1)) hc) _) _)) (Fa (Lc (Ac (Tc _ (cb) 0 (.int .i64 (c+1)) hc) _)) (Fa (Lc (Tc _ (cb) 0 (.int .i64 (c+1)) hc)) (Fs hf _) _) _);replace hc:w1.cell? ⟨cb,0,none⟩=some (.int .i64 (c+1)):=Kc hb (Ac (Ac (Tc _ (cb) 0 (.int .i64 (c+1)) hc) _) _);have c2:Bk w1 (w.heap.size) [.slice pv nv cv,.slice pa na ca,vb]:=Bb (Bk.al (Bk.nw (by simp) rfl) (.cells #[.int .i64 nk,.int .i64 j0,.slice np L.length nc] 49)) hb;have t1:Bk w1 (w.heap.size+1) [.int .i64 nk,.int .i64 j0,.slice np L.length nc]:=Bb (Bk.nw (by simp) rfl) hb;clear hb;rw [← i1];clear i1;have z7:=Lc hc;have a8:=Bk.lz c2;have d8:=Bk.lz t1;go_upto_region 2 with (fail)
    obtain ⟨n1,l4,o1,p1⟩:=Bk.f2 t1 0 2 rfl rfl;refine wp_region_noPanic ?_;refine wp_region_held_drew (S:=(fun W'=>W'.cell? ⟨w.heap.size+1,0,none⟩=some (.int .i64 nk)∧W'.cell? ⟨w.heap.size+1,2,none⟩=some (.slice np L.length nc))) (by kernel_rfl) ⟨Kc (Bd (Bs w1)) n1,Kc (Bd (Bs w1)) o1⟩ (fun hHeld=>?_);obtain ⟨w2,v0⟩:∃ X,X=World.drew w1:=⟨_,rfl⟩;rw [← v0] at hHeld ⊢;have hb:Below w1.heap.size w1 w2:=by rw [v0];exact Bd (Bs _)
    clear v0;replace hC:=(hC).trans (Cb hb);have y2:=hb.size;replace hf:=Kf hb (Lc hc) hf;replace l4:=Kf hb (Lc n1) l4;replace p1:=Kf hb (Lc o1) p1;replace hc:=Kc hb hc;replace n1:=Kc hb n1;replace o1:=Kc hb o1;replace c2:=Bb c2 hb;replace t1:=Bb t1 hb;clear hb;refine (tq 0 17 rfl rfl ?_ ?_ (tq 1 18 rfl rfl ?_ ?_ ?_));iterate 2 (rotate_left;intro W' hSw;(try dsimp only at hSw);go_simp;try with_reducible rfl)
    try simp only [Ep]
    refine Rdy 2 rfl (fun K hK=>?_);go_simp
    refine hK.out _ _ ⟨n1,o1⟩ (fun hHeld=>?_);clear hK K;try simp only [Ep]
    refine (tq 3 20 rfl rfl ?_ ?_ (tq 4 21 rfl rfl ?_ ?_ ?_));iterate 2 (rotate_left;intro W' hSw;(try dsimp only at hSw);go_simp;try with_reducible rfl)
    try simp only [Ep]
    refine (tu 5 22 rfl rfl (tu 6 23 rfl rfl (tq 7 24 rfl rfl ?_ ?_ (tq 8 25 rfl rfl ?_ ?_ ?_))));iterate 2 (rotate_left;intro W' hSw;(try dsimp only at hSw);go_simp;try with_reducible rfl)
    try simp only [Ep]
    refine (tu 9 26 rfl rfl (tu 10 27 rfl rfl (tu 11 28 rfl rfl (tu 12 29 rfl rfl (tu 13 30 rfl rfl (tu 14 31 rfl rfl (tu 15 32 rfl rfl (tq 16 33 rfl rfl ?_ ?_ ?_))))))));(rotate_left;intro W' hSw;(try dsimp only at hSw);go_simp;try with_reducible rfl)
    try simp only [Ep]
    refine Dn ?_;clear hHeld;have m0:Hid (Q=false):=Hi (by rw [HQ.out];exact scR_big hbig);have X1:=hc;have X2:=hf;have X3:=hC;have f0:=Hi (Ai X1 (Ai X2 X3));clear X1 X2 X3 hC hc hf;go_wp2
    exact bodyPost_ret (v:=.bool false) (by simp [results,Try.results102,go_sem]) rfl (by rw [m0.out];unfold ScP;exact ⟨_,rfl,f0.out.1,f0.out.2.1,(fun h=>(by cases h)),f0.out.2.2⟩)
   go_upto_region 2 with (fail)
   obtain ⟨w1,i1,hb⟩:=nmw (World.alloc (World.alloc (World.setCell w ⟨cb,0,none⟩ (.int .i64 (c+1))) (.cells #[.slice pv nv cv,.slice pa na ca,vb] 26)) (.cells #[.int .i64 nk,.int .i64 j0,.slice np L.length nc] 49));replace hC:=((((hC.setCell cb (0) (.int .i64 (c+1)) (fun _=>rfl)).trans (Cb (bal (Bs _) _))).trans (Cb (bal (Bs _) _)))).trans (Cb hb);have j1:=hb.size;simp only [Sa,Ss] at j1;replace hf:=Kf hb (Lc (Ac (Ac (Tc _ (cb) 0 (.int .i64 (c+1)) hc) _) _)) (Fa (Lc (Ac (Tc _ (cb) 0 (.int .i64 (c+1)) hc) _)) (Fa (Lc (Tc _ (cb) 0 (.int .i64 (c+1)) hc)) (Fs hf _) _) _);replace hc:w1.cell? ⟨cb,0,none⟩=some (.int .i64 (c+1)):=Kc hb (Ac (Ac (Tc _ (cb) 0 (.int .i64 (c+1)) hc) _) _);have b0:Bk w1 (w.heap.size) [.slice pv nv cv,.slice pa na ca,vb]:=Bb (Bk.al (Bk.nw (by simp) rfl) (.cells #[.int .i64 nk,.int .i64 j0,.slice np L.length nc] 49)) hb;have a0:Bk w1 (w.heap.size+1) [.int .i64 nk,.int .i64 j0,.slice np L.length nc]:=Bb (Bk.nw (by simp) rfl) hb;clear hb;rw [← i1];clear i1;have q0:=Lc hc;have r0:=Bk.lz b0;have s0:=Bk.lz a0;by_cases hA:arity nk=(L.length:Int)
   ·have j7:(arity nk != (L.length:Int))=false:=by simp [hA]
    have HA:=Hi hA;clear hA;go_upto_region 2 with (fail)
    obtain ⟨c0,g0,d0,i0⟩:=Bk.f2 a0 0 2 rfl rfl;refine wp_region_noPanic ?_;refine wp_region_held_drew (S:=(fun W'=>W'.cell? ⟨w.heap.size+1,0,none⟩=some (.int .i64 nk)∧W'.cell? ⟨w.heap.size+1,2,none⟩=some (.slice np L.length nc))) (by kernel_rfl) ⟨Kc (Bd (Bs w1)) c0,Kc (Bd (Bs w1)) d0⟩ (fun hHeld=>?_);obtain ⟨w2,v0⟩:∃ X,X=World.drew w1:=⟨_,rfl⟩;rw [← v0] at hHeld ⊢;have hb:Below w1.heap.size w1 w2:=by rw [v0];exact Bd (Bs _)
    clear v0;replace hC:=(hC).trans (Cb hb);have z2:=hb.size;replace hf:=Kf hb (Lc hc) hf;replace g0:=Kf hb (Lc c0) g0;replace i0:=Kf hb (Lc d0) i0;replace hc:=Kc hb hc;replace c0:=Kc hb c0;replace d0:=Kc hb d0;replace b0:=Bb b0 hb;replace a0:=Bb a0 hb;clear hb;refine (tq 0 17 rfl rfl ?_ ?_ (tq 1 18 rfl rfl ?_ ?_ ?_));iterate 2 (rotate_left;intro W' hSw;(try dsimp only at hSw);go_simp;try with_reducible rfl)
    try simp only [Ep]
    refine Rdy 2 rfl (fun K hK=>?_);go_simp
    refine hK.out _ _ ⟨c0,d0⟩ (fun hHeld=>?_);clear hK K;try simp only [Ep]
    refine (tq 3 20 rfl rfl ?_ ?_ (tq 4 21 rfl rfl ?_ ?_ ?_));iterate 2 (rotate_left;intro W' hSw;(try dsimp only at hSw);go_simp;try with_reducible rfl)
    try simp only [Ep]
    refine (tq 5 22 rfl rfl ?_ ?_ (tq 6 23 rfl rfl ?_ ?_ (tq 7 24 rfl rfl ?_ ?_ (tq 8 25 rfl rfl ?_ ?_ ?_))));iterate 4 (rotate_left;intro W' hSw;(try dsimp only at hSw);go_simp;try with_reducible rfl)
    try simp only [Ep]
    refine (tq 9 26 rfl rfl ?_ ?_ (tq 10 27 rfl rfl ?_ ?_ (tq 12 29 rfl rfl ?_ ?_ (tq 13 30 rfl rfl ?_ ?_ (tq 14 31 rfl rfl ?_ ?_ ?_)))));iterate 5 (rotate_left;intro W' hSw;(try dsimp only at hSw);go_simp;try with_reducible rfl)
    try simp only [Ep]
    refine Rdy 11 rfl (fun K hK=>?_);go_simp
    refine (operands_any _ _).mono ?_;rintro e w3 ⟨rfl,hb⟩;replace hC:=(hC).trans (Cb hb);have k7:=hb.size;replace hf:=Kf hb (Lc hc) hf;replace g0:=Kf hb (Lc c0) g0;replace i0:=Kf hb (Lc d0) i0;replace hc:=Kc hb hc;replace c0:=Kc hb c0;replace d0:=Kc hb d0;replace b0:=Bb b0 hb;replace a0:=Bb a0 hb;clear hb;replace q0:=Lc hc;replace r0:=Bk.lz b0;replace s0:=Bk.lz a0;refine hK.out _ _ ⟨c0,d0⟩ (fun hHeld=>?_);clear hK K;try simp only [Ep]
    refine (tq 15 32 rfl rfl ?_ ?_ (tq 16 33 rfl rfl ?_ ?_ ?_));iterate 2 (rotate_left;intro W' hSw;(try dsimp only at hSw);go_simp;try with_reducible rfl)
    try simp only [Ep]
    refine Dn ?_;clear hHeld;have s2:Hid (arity nk=(L.length:Int)):=HA;clear HA j7;by_cases hk1:nk=1
    ·skip
     have g5:(nk == 1)=true:=by simp [hk1]
     have h5:(nk == 2)=false:=by simp [hk1]
     have i5:(nk == 3)=false:=by simp [hk1]
     have u0:=Hi hk1;clear hk1;have d1:Hid (limitOf nv na nk=255+1):=Hi (by unfold limitOf;rw [if_pos u0.out];rfl);by_cases hv:0≤j0∧j0≤255
     ·skip
      obtain ⟨j5,j6⟩:=Bk.cf a0 1 rfl;go_wp2_with fail
      refine (within_any j0 0 (255) _).mono ?_;rintro e w4 ⟨rfl,hb⟩;rw [show wi j0 0 (255)=true from decide_eq_true (p:=0≤j0∧j0≤255) hv];replace hC:=(hC).trans (Cb hb);have l7:=hb.size;clear j6 j5;replace hf:=Kf hb (Lc hc) hf;replace g0:=Kf hb (Lc c0) g0;replace i0:=Kf hb (Lc d0) i0;replace hc:=Kc hb hc;replace c0:=Kc hb c0;replace d0:=Kc hb d0;replace b0:=Bb b0 hb;replace a0:=Bb a0 hb;clear hb;replace q0:=Lc hc;replace r0:=Bk.lz b0;replace s0:=Bk.lz a0;have e5:=hv.1;have f5:=hv.2;clear hv;have f1:Hid (Q=(L.all (exOk nv na d)&&decide (c+(1+cntTo d L L.length)≤15))):=Hi (by rw [HQ.out];unfold scR;rw [exCnt_eq];show (exOk nv na (d+1) _&&decide (c+(1+cntTo d L L.length)≤15))=_;congr 1;cases hall:L.all (exOk nv na d) with | true=>exact exOk_yes (by rw [beq_iff_eq];exact s2.out.symm) (by omega) (by rw [d1.out];omega) hall (by rw [beq_eq_false_iff_ne];have:=u0.out;omega) | false=>exact exOk_kid hall);have a2:=Hi (fun k=>cntTo_ge d L k);go_wp2_with fail
      go_loopw [71] (fun i wr=>∃ (j:Nat) (x:Int),j≤L.length∧i=.int .i64 j∧wr.cell? ⟨cb,0,none⟩=some (.int .i64 x)∧wr.frozen? ⟨cb,0,none⟩=false∧Hid (x=c+1+cntTo d L j∧okTo nv na d L j=true)∧(0≤x∧x≤15)∧Chg (fun k=>k=cb) w wr∧Bk wr (w.heap.size) [.slice pv nv cv,.slice pa na ca,vb]) (fun i _=>L.length-(intOf i).toNat)
      case atStart=>exact ⟨0,c+1,Nat.zero_le _,rfl,hc,hf,Hi ⟨by simp [cntTo],rfl⟩,⟨by omega,by omega⟩,hC,b0⟩
      case round =>
       clear hC hc hf b0 a0 c0 g0 d0 i0;obtain ⟨j,x,hj,rfl,hc,hf,p0,z0,hC,k0⟩:=hrel;obtain ⟨wl,rfl⟩:∃ X,X=wr:=⟨_,rfl⟩;obtain ⟨k1,l1⟩:=z0;have p2:=hC.size;by_cases hlt:j < L.length
       ·have k2:(j:Int) < (L.length:Int):=by omega
        obtain ⟨kb,ko,m,hp,c1,n4,hm,e0,e1,e2⟩:=HK.out wl hC j hlt;try simp only at hp
        subst hp;have HM:=Hi (fun W (hW:Chg (fun q=>q=cb) wl W)=>ExAt.keep hW (fun q hq _ h=>s1.out q hq h) (fun _ h _=>h) Lr hm);have x4:¬kb=cb:=fun h=>s1.out _ c1 h
        have x0:Hid (scR nv na d x L[j]=false→Q=false):=Hi (fun h=>by rw [f1.out];unfold scR at h;have h1:=cntTo_succ d L j hlt;have h2:=(a2.out (j+1)).2;have h3:=p0.out.1;cases hy:exOk nv na d L[j] with | false=>rw [okTo_no hlt hy];rfl | true=>rw [hy,Bool.true_and] at h;have:=of_decide_eq_false h;rw [decide_eq_false (by omega)];simp);have z1:Hid (scR nv na d x L[j]=true→okTo nv na d L (j+1)=true∧x+exCnt d L[j]≤15∧x+exCnt d L[j]=c+1+cntTo d L (j+1)):=Hi (fun h=>by unfold scR at h;rw [Bool.and_eq_true] at h;have h1:=cntTo_succ d L j hlt;refine ⟨by rw [okTo_succ hlt,p0.out.2,h.1];rfl,of_decide_eq_true h.2,by rw [h1,p0.out.1];omega⟩);have y1:=Hi (exCnt_ge d L[j]);clear hm c1;generalize L[j]=y at *
        have i3:=Lc hc;have x7:=Bk.lz k0;have y7:=Lc e0
        cases hz:scR nv na d x y with
        | false =>
         obtain ⟨k5,k6,l5,l6,m5,m6⟩:=Bk.f3 k0 0 1 2 rfl rfl rfl;go_wp2_with fail
         have l0:=IH.out D m y x (dp+1) _ (by omega) (by have:=u1.out;omega) (HM.out _ (Cb (bal (Bs wl) (.cells #[.int .i64 m.k,.int .i64 m.v,.slice m.p m.n m.c] 49)))) (Ac hc (.cells #[.int .i64 m.k,.int .i64 m.v,.slice m.p m.n m.c] 49)) (Fa (Lc hc) hf (.cells #[.int .i64 m.k,.int .i64 m.v,.slice m.p m.n m.c] 49)) k1 l1;rw [hz] at l0;clear e0 e1 e2 hc hf;refine (l0).mono ?_;rintro e w5 ⟨x2,rfl,hc,hf,y0,hb⟩;clear l0;replace hC:=((hC.trans (Cb (bal (Bs _) _)))).trans hb;have a3:=hb.size;simp only [Sa] at a3;clear k6 k5 l6 l5 m6 m5;replace k0:=Bk.keep (Bk.al k0 _) hb (fun h=>by have:=w0 _ h;omega);have q4:Bk w5 (wl.heap.size) [.int .i64 m.k,.int .i64 m.v,.slice m.p m.n m.c]:=Bk.keep (Bk.nw (by simp) rfl) hb (fun h=>by have:=w0 _ h;omega);clear hb;clear q4;replace i3:=Lc hc;have HZ:=Hi hz;clear hz;have m0:Hid (Q=false):=Hi (x0.out HZ.out);have X1:=hc;have X2:=hf;have X3:=hC;have f0:=Hi (Ai X1 (Ai X2 X3));clear X1 X2 X3 hC hc hf;go_wp2
         exact bodyPost_ret (v:=.bool false) (by simp [results,Try.results102,go_sem]) rfl (by rw [m0.out];unfold ScP;exact ⟨_,rfl,f0.out.1,f0.out.2.1,(fun h=>(by cases h)),f0.out.2.2⟩)
        | true =>
         obtain ⟨n5,n6,o5,o6,p5,p6⟩:=Bk.f3 k0 0 1 2 rfl rfl rfl;go_wp2_with fail
         have l0:=IH.out D m y x (dp+1) _ (by omega) (by have:=u1.out;omega) (HM.out _ (Cb (bal (Bs wl) (.cells #[.int .i64 m.k,.int .i64 m.v,.slice m.p m.n m.c] 49)))) (Ac hc (.cells #[.int .i64 m.k,.int .i64 m.v,.slice m.p m.n m.c] 49)) (Fa (Lc hc) hf (.cells #[.int .i64 m.k,.int .i64 m.v,.slice m.p m.n m.c] 49)) k1 l1;rw [hz] at l0;clear e0 e1 e2 hc hf;refine (l0).mono ?_;rintro e w5 ⟨x2,rfl,hc,hf,y0,hb⟩;clear l0;replace hC:=((hC.trans (Cb (bal (Bs _) _)))).trans hb;have b3:=hb.size;simp only [Sa] at b3;clear n6 n5 o6 o5 p6 p5;replace k0:=Bk.keep (Bk.al k0 _) hb (fun h=>by have:=w0 _ h;omega);have r4:Bk w5 (wl.heap.size) [.int .i64 m.k,.int .i64 m.v,.slice m.p m.n m.c]:=Bk.keep (Bk.nw (by simp) rfl) hb (fun h=>by have:=w0 _ h;omega);clear hb;clear r4;replace i3:=Lc hc;have HZ:=Hi hz;clear hz;obtain ⟨g1,g2,g3⟩:=z1.out HZ.out;have m1:=y0 rfl;have b2:Hid (x2=c+1+cntTo d L (j+1)∧okTo nv na d L (j+1)=true):=Hi ⟨by rw [m1,g3],g1⟩;have i2:=y1.out;have d2:0≤x2∧x2≤15:=by omega
         clear g1 g2 g3 m1 y0 i2;have t0:=Hi (Ai hc (Ai hf (Ai d2 (Ai hC k0))));go_wp2
         go_roundw
         case rel=>exact ⟨j+1,x2,by omega,by go_num,t0.out.1,t0.out.2.1,b2,t0.out.2.2.1,t0.out.2.2.2.1,t0.out.2.2.2.2⟩
         case measure=>simp [intOf];omega
       have j2:j=L.length:=by omega
       subst j2;have k2:decide (((L.length:Nat):Int) < (L.length:Int))=false:=decide_eq_false (by omega);have m0:Hid (Q=true):=Hi (by rw [f1.out];have h1:=p0.out.2;rw [okTo_all] at h1;rw [h1,decide_eq_true (by have:=p0.out.1;omega)];rfl);have x1:Hid (x=c+exCnt (d+1) (.mk nk j0 L)):=Hi (by rw [exCnt_eq,p0.out.1];show c+1+cntTo d L L.length=c+(1+cntTo d L L.length);omega);have X1:=hc;have X2:=hf;have X3:=hC;have f0:=Hi (Ai X1 (Ai X2 X3));clear X1 X2 X3 hC hc hf;go_wp2
       exact bodyPost_ret (v:=.bool true) (by simp [results,Try.results102,go_sem]) rfl (by rw [m0.out];unfold ScP;exact ⟨_,rfl,f0.out.1,f0.out.2.1,(fun _=>x1.out),f0.out.2.2⟩)
     skip
     obtain ⟨q5,q6⟩:=Bk.cf a0 1 rfl;go_wp2_with fail
     refine (within_any j0 0 (255) _).mono ?_;rintro e w4 ⟨rfl,hb⟩;rw [show wi j0 0 (255)=false from decide_eq_false (p:=0≤j0∧j0≤255) hv];replace hC:=(hC).trans (Cb hb);have m7:=hb.size;clear q6 q5;replace hf:=Kf hb (Lc hc) hf;replace g0:=Kf hb (Lc c0) g0;replace i0:=Kf hb (Lc d0) i0;replace hc:=Kc hb hc;replace c0:=Kc hb c0;replace d0:=Kc hb d0;replace b0:=Bb b0 hb;replace a0:=Bb a0 hb;clear hb;replace q0:=Lc hc;replace r0:=Bk.lz b0;replace s0:=Bk.lz a0;have m0:Hid (Q=false):=Hi (by rw [HQ.out];refine scR_not ?_;by_cases h0:j0 < 0;(exact exOk_neg h0);(exact exOk_big (by rw [d1.out];omega)));have X1:=hc;have X2:=hf;have X3:=hC;have f0:=Hi (Ai X1 (Ai X2 X3));clear X1 X2 X3 hC hc hf;go_wp2
     exact bodyPost_ret (v:=.bool false) (by simp [results,Try.results102,go_sem]) rfl (by rw [m0.out];unfold ScP;exact ⟨_,rfl,f0.out.1,f0.out.2.1,(fun h=>(by cases h)),f0.out.2.2⟩)
    by_cases hk2:nk=2
    ·skip
     have g5:(nk == 1)=false:=by simp [hk2]
     have h5:(nk == 2)=true:=by simp [hk2]
     have i5:(nk == 3)=false:=by simp [hk2]
     have u0:=Hi hk2;clear hk2;have d1:Hid (limitOf nv na nk=(nv:Int)-1+1):=Hi (by unfold limitOf;rw [if_neg (by have:=u0.out;omega),if_pos u0.out];omega);by_cases hv:0≤j0∧j0≤(nv:Int)-1
     ·skip
      obtain ⟨r5,r6⟩:=Bk.cf b0 0 rfl;obtain ⟨s5,s6⟩:=Bk.cf a0 1 rfl;go_wp2_with fail
      refine (within_any j0 0 ((nv:Int)-1) _).mono ?_;rintro e w4 ⟨rfl,hb⟩;rw [show wi j0 0 ((nv:Int)-1)=true from decide_eq_true (p:=0≤j0∧j0≤(nv:Int)-1) hv];replace hC:=(hC).trans (Cb hb);have n7:=hb.size;clear r6 r5 s6 s5;replace hf:=Kf hb (Lc hc) hf;replace g0:=Kf hb (Lc c0) g0;replace i0:=Kf hb (Lc d0) i0;replace hc:=Kc hb hc;replace c0:=Kc hb c0;replace d0:=Kc hb d0;replace b0:=Bb b0 hb;replace a0:=Bb a0 hb;clear hb;replace q0:=Lc hc;replace r0:=Bk.lz b0;replace s0:=Bk.lz a0;have e5:=hv.1;have f5:=hv.2;clear hv;have f1:Hid (Q=(L.all (exOk nv na d)&&decide (c+(1+cntTo d L L.length)≤15))):=Hi (by rw [HQ.out];unfold scR;rw [exCnt_eq];show (exOk nv na (d+1) _&&decide (c+(1+cntTo d L L.length)≤15))=_;congr 1;cases hall:L.all (exOk nv na d) with | true=>exact exOk_yes (by rw [beq_iff_eq];exact s2.out.symm) (by omega) (by rw [d1.out];omega) hall (by rw [beq_eq_false_iff_ne];have:=u0.out;omega) | false=>exact exOk_kid hall);have a2:=Hi (fun k=>cntTo_ge d L k);go_wp2_with fail
      go_loopw [71] (fun i wr=>∃ (j:Nat) (x:Int),j≤L.length∧i=.int .i64 j∧wr.cell? ⟨cb,0,none⟩=some (.int .i64 x)∧wr.frozen? ⟨cb,0,none⟩=false∧Hid (x=c+1+cntTo d L j∧okTo nv na d L j=true)∧(0≤x∧x≤15)∧Chg (fun k=>k=cb) w wr∧Bk wr (w.heap.size) [.slice pv nv cv,.slice pa na ca,vb]) (fun i _=>L.length-(intOf i).toNat)
      case atStart=>exact ⟨0,c+1,Nat.zero_le _,rfl,hc,hf,Hi ⟨by simp [cntTo],rfl⟩,⟨by omega,by omega⟩,hC,b0⟩
      case round =>
       clear hC hc hf b0 a0 c0 g0 d0 i0;obtain ⟨j,x,hj,rfl,hc,hf,p0,z0,hC,k0⟩:=hrel;obtain ⟨wl,rfl⟩:∃ X,X=wr:=⟨_,rfl⟩;obtain ⟨k1,l1⟩:=z0;have p2:=hC.size;by_cases hlt:j < L.length
       ·have k2:(j:Int) < (L.length:Int):=by omega
        obtain ⟨kb,ko,m,hp,c1,n4,hm,e0,e1,e2⟩:=HK.out wl hC j hlt;try simp only at hp
        subst hp;have HM:=Hi (fun W (hW:Chg (fun q=>q=cb) wl W)=>ExAt.keep hW (fun q hq _ h=>s1.out q hq h) (fun _ h _=>h) Lr hm);have x4:¬kb=cb:=fun h=>s1.out _ c1 h
        have x0:Hid (scR nv na d x L[j]=false→Q=false):=Hi (fun h=>by rw [f1.out];unfold scR at h;have h1:=cntTo_succ d L j hlt;have h2:=(a2.out (j+1)).2;have h3:=p0.out.1;cases hy:exOk nv na d L[j] with | false=>rw [okTo_no hlt hy];rfl | true=>rw [hy,Bool.true_and] at h;have:=of_decide_eq_false h;rw [decide_eq_false (by omega)];simp);have z1:Hid (scR nv na d x L[j]=true→okTo nv na d L (j+1)=true∧x+exCnt d L[j]≤15∧x+exCnt d L[j]=c+1+cntTo d L (j+1)):=Hi (fun h=>by unfold scR at h;rw [Bool.and_eq_true] at h;have h1:=cntTo_succ d L j hlt;refine ⟨by rw [okTo_succ hlt,p0.out.2,h.1];rfl,of_decide_eq_true h.2,by rw [h1,p0.out.1];omega⟩);have y1:=Hi (exCnt_ge d L[j]);clear hm c1;generalize L[j]=y at *
        have j3:=Lc hc;have b8:=Bk.lz k0;have c8:=Lc e0
        cases hz:scR nv na d x y with
        | false =>
         obtain ⟨t5,t6,u5,u6,v5,v6⟩:=Bk.f3 k0 0 1 2 rfl rfl rfl;go_wp2_with fail
         have l0:=IH.out D m y x (dp+1) _ (by omega) (by have:=u1.out;omega) (HM.out _ (Cb (bal (Bs wl) (.cells #[.int .i64 m.k,.int .i64 m.v,.slice m.p m.n m.c] 49)))) (Ac hc (.cells #[.int .i64 m.k,.int .i64 m.v,.slice m.p m.n m.c] 49)) (Fa (Lc hc) hf (.cells #[.int .i64 m.k,.int .i64 m.v,.slice m.p m.n m.c] 49)) k1 l1;rw [hz] at l0;clear e0 e1 e2 hc hf;refine (l0).mono ?_;rintro e w5 ⟨x2,rfl,hc,hf,y0,hb⟩;clear l0;replace hC:=((hC.trans (Cb (bal (Bs _) _)))).trans hb;have c3:=hb.size;simp only [Sa] at c3;clear t6 t5 u6 u5 v6 v5;replace k0:=Bk.keep (Bk.al k0 _) hb (fun h=>by have:=w0 _ h;omega);have s4:Bk w5 (wl.heap.size) [.int .i64 m.k,.int .i64 m.v,.slice m.p m.n m.c]:=Bk.keep (Bk.nw (by simp) rfl) hb (fun h=>by have:=w0 _ h;omega);clear hb;clear s4;replace j3:=Lc hc;have HZ:=Hi hz;clear hz;have m0:Hid (Q=false):=Hi (x0.out HZ.out);have X1:=hc;have X2:=hf;have X3:=hC;have f0:=Hi (Ai X1 (Ai X2 X3));clear X1 X2 X3 hC hc hf;go_wp2
         exact bodyPost_ret (v:=.bool false) (by simp [results,Try.results102,go_sem]) rfl (by rw [m0.out];unfold ScP;exact ⟨_,rfl,f0.out.1,f0.out.2.1,(fun h=>(by cases h)),f0.out.2.2⟩)
        | true =>
         obtain ⟨x5,x6,y5,y6,z5,z6⟩:=Bk.f3 k0 0 1 2 rfl rfl rfl;go_wp2_with fail
         have l0:=IH.out D m y x (dp+1) _ (by omega) (by have:=u1.out;omega) (HM.out _ (Cb (bal (Bs wl) (.cells #[.int .i64 m.k,.int .i64 m.v,.slice m.p m.n m.c] 49)))) (Ac hc (.cells #[.int .i64 m.k,.int .i64 m.v,.slice m.p m.n m.c] 49)) (Fa (Lc hc) hf (.cells #[.int .i64 m.k,.int .i64 m.v,.slice m.p m.n m.c] 49)) k1 l1;rw [hz] at l0;clear e0 e1 e2 hc hf;refine (l0).mono ?_;rintro e w5 ⟨x2,rfl,hc,hf,y0,hb⟩;clear l0;replace hC:=((hC.trans (Cb (bal (Bs _) _)))).trans hb;have d3:=hb.size;simp only [Sa] at d3;clear x6 x5 y6 y5 z6 z5;replace k0:=Bk.keep (Bk.al k0 _) hb (fun h=>by have:=w0 _ h;omega);have t4:Bk w5 (wl.heap.size) [.int .i64 m.k,.int .i64 m.v,.slice m.p m.n m.c]:=Bk.keep (Bk.nw (by simp) rfl) hb (fun h=>by have:=w0 _ h;omega);clear hb;clear t4;replace j3:=Lc hc;have HZ:=Hi hz;clear hz;obtain ⟨g1,g2,g3⟩:=z1.out HZ.out;have m1:=y0 rfl;have b2:Hid (x2=c+1+cntTo d L (j+1)∧okTo nv na d L (j+1)=true):=Hi ⟨by rw [m1,g3],g1⟩;have i2:=y1.out;have d2:0≤x2∧x2≤15:=by omega
         clear g1 g2 g3 m1 y0 i2;have t0:=Hi (Ai hc (Ai hf (Ai d2 (Ai hC k0))));go_wp2
         go_roundw
         case rel=>exact ⟨j+1,x2,by omega,by go_num,t0.out.1,t0.out.2.1,b2,t0.out.2.2.1,t0.out.2.2.2.1,t0.out.2.2.2.2⟩
         case measure=>simp [intOf];omega
       have j2:j=L.length:=by omega
       subst j2;have k2:decide (((L.length:Nat):Int) < (L.length:Int))=false:=decide_eq_false (by omega);have m0:Hid (Q=true):=Hi (by rw [f1.out];have h1:=p0.out.2;rw [okTo_all] at h1;rw [h1,decide_eq_true (by have:=p0.out.1;omega)];rfl);have x1:Hid (x=c+exCnt (d+1) (.mk nk j0 L)):=Hi (by rw [exCnt_eq,p0.out.1];show c+1+cntTo d L L.length=c+(1+cntTo d L L.length);omega);have X1:=hc;have X2:=hf;have X3:=hC;have f0:=Hi (Ai X1 (Ai X2 X3));clear X1 X2 X3 hC hc hf;go_wp2
       exact bodyPost_ret (v:=.bool true) (by simp [results,Try.results102,go_sem]) rfl (by rw [m0.out];unfold ScP;exact ⟨_,rfl,f0.out.1,f0.out.2.1,(fun _=>x1.out),f0.out.2.2⟩)
     skip
     obtain ⟨a6,a7⟩:=Bk.cf b0 0 rfl;obtain ⟨b6,b7⟩:=Bk.cf a0 1 rfl;go_wp2_with fail
     refine (within_any j0 0 ((nv:Int)-1) _).mono ?_;rintro e w4 ⟨rfl,hb⟩;rw [show wi j0 0 ((nv:Int)-1)=false from decide_eq_false (p:=0≤j0∧j0≤(nv:Int)-1) hv];replace hC:=(hC).trans (Cb hb);have o7:=hb.size;clear a7 a6 b7 b6;replace hf:=Kf hb (Lc hc) hf;replace g0:=Kf hb (Lc c0) g0;replace i0:=Kf hb (Lc d0) i0;replace hc:=Kc hb hc;replace c0:=Kc hb c0;replace d0:=Kc hb d0;replace b0:=Bb b0 hb;replace a0:=Bb a0 hb;clear hb;replace q0:=Lc hc;replace r0:=Bk.lz b0;replace s0:=Bk.lz a0;have m0:Hid (Q=false):=Hi (by rw [HQ.out];refine scR_not ?_;by_cases h0:j0 < 0;(exact exOk_neg h0);(exact exOk_big (by rw [d1.out];omega)));have X1:=hc;have X2:=hf;have X3:=hC;have f0:=Hi (Ai X1 (Ai X2 X3));clear X1 X2 X3 hC hc hf;go_wp2
     exact bodyPost_ret (v:=.bool false) (by simp [results,Try.results102,go_sem]) rfl (by rw [m0.out];unfold ScP;exact ⟨_,rfl,f0.out.1,f0.out.2.1,(fun h=>(by cases h)),f0.out.2.2⟩)
    by_cases hk3:nk=3
    ·skip
     have g5:(nk == 1)=false:=by simp [hk3]
     have h5:(nk == 2)=false:=by simp [hk3]
     have i5:(nk == 3)=true:=by simp [hk3]
     have u0:=Hi hk3;clear hk3;have d1:Hid (limitOf nv na nk=(na:Int)-1+1):=Hi (by unfold limitOf;rw [if_neg (by have:=u0.out;omega),if_neg (by have:=u0.out;omega),if_pos u0.out];omega);by_cases hv:0≤j0∧j0≤(na:Int)-1
     ·skip
      obtain ⟨c6,c7⟩:=Bk.cf b0 1 rfl;obtain ⟨d6,d7⟩:=Bk.cf a0 1 rfl;go_wp2_with fail
      refine (within_any j0 0 ((na:Int)-1) _).mono ?_;rintro e w4 ⟨rfl,hb⟩;rw [show wi j0 0 ((na:Int)-1)=true from decide_eq_true (p:=0≤j0∧j0≤(na:Int)-1) hv];replace hC:=(hC).trans (Cb hb);have p7:=hb.size;clear c7 c6 d7 d6;replace hf:=Kf hb (Lc hc) hf;replace g0:=Kf hb (Lc c0) g0;replace i0:=Kf hb (Lc d0) i0;replace hc:=Kc hb hc;replace c0:=Kc hb c0;replace d0:=Kc hb d0;replace b0:=Bb b0 hb;replace a0:=Bb a0 hb;clear hb;replace q0:=Lc hc;replace r0:=Bk.lz b0;replace s0:=Bk.lz a0;have e5:=hv.1;have f5:=hv.2;clear hv;have i7:0 < L.length:=by have h1:arity nk=1:=(by unfold arity;rw [if_neg (by have:=u0.out;omega),if_pos u0.out]);have h2:=s2.out;rw [h1] at h2;omega
      obtain ⟨kb,ko,m,hp,c1,n4,hm,e0,e1,e2⟩:=HK.out _ hC 0 i7;try simp only at hp
      subst hp;obtain ⟨r1,r2,r3⟩:=hm.shape;rw [r1] at e0;clear r1 r2 r3 hm;have p4:Hid (exOk nv na (d+1) (.mk nk j0 L)=(L.all (exOk nv na d)&&atomK L[0].k)):=Hi (exOk_read2 u0.out (by have h1:arity nk=1:=(by unfold arity;rw [if_neg (by have:=u0.out;omega),if_pos u0.out]);have h2:=s2.out;rw [h1] at h2;omega) (by omega) (by have:=d1.out;rw [u0.out] at this;omega) i7);obtain ⟨y,hy⟩:∃ y,L[0]=y:=⟨_,rfl⟩;rw [hy] at e0 p4;clear hy;simp only [Nat.zero_mul,Nat.add_zero] at e0 e1 e2;replace q0:=Lc hc;replace r0:=Bk.lz b0;replace s0:=Bk.lz a0;have e8:=Lc e0
      cases hat:atomK y.k with
      | false =>
       go_wp2_with fail
       refine (isPlain_any y.k _ _ _).mono ?_;rintro e w5 ⟨rfl,hb⟩;rw [hat];replace hC:=(hC).trans (Cb hb);have q7:=hb.size;replace hf:=Kf hb (Lc hc) hf;replace g0:=Kf hb (Lc c0) g0;replace i0:=Kf hb (Lc d0) i0;replace hc:=Kc hb hc;replace c0:=Kc hb c0;replace d0:=Kc hb d0;replace e0:=Kc hb e0;replace e1:=Kc hb e1;replace e2:=Kc hb e2;replace b0:=Bb b0 hb;replace a0:=Bb a0 hb;clear hb;clear e0 e1 e2;have o4:=Hi hat;clear hat;have m0:Hid (Q=false):=Hi (by rw [HQ.out];exact scR_not (by rw [p4.out,o4.out];simp));have X1:=hc;have X2:=hf;have X3:=hC;have f0:=Hi (Ai X1 (Ai X2 X3));clear X1 X2 X3 hC hc hf;go_wp2
       exact bodyPost_ret (v:=.bool false) (by simp [results,Try.results102,go_sem]) rfl (by rw [m0.out];unfold ScP;exact ⟨_,rfl,f0.out.1,f0.out.2.1,(fun h=>(by cases h)),f0.out.2.2⟩)
      | true =>
       go_wp2_with fail
       refine (isPlain_any y.k _ _ _).mono ?_;rintro e w5 ⟨rfl,hb⟩;rw [hat];replace hC:=(hC).trans (Cb hb);have r7:=hb.size;replace hf:=Kf hb (Lc hc) hf;replace g0:=Kf hb (Lc c0) g0;replace i0:=Kf hb (Lc d0) i0;replace hc:=Kc hb hc;replace c0:=Kc hb c0;replace d0:=Kc hb d0;replace e0:=Kc hb e0;replace e1:=Kc hb e1;replace e2:=Kc hb e2;replace b0:=Bb b0 hb;replace a0:=Bb a0 hb;clear hb;clear e0 e1 e2;replace q0:=Lc hc;replace r0:=Bk.lz b0;replace s0:=Bk.lz a0;have o4:=Hi hat;clear hat;have f1:Hid (Q=(L.all (exOk nv na d)&&decide (c+(1+cntTo d L L.length)≤15))):=Hi (by rw [HQ.out];unfold scR;rw [exCnt_eq,p4.out,o4.out,Bool.and_true];rfl);have a2:=Hi (fun k=>cntTo_ge d L k);go_wp2_with fail
       go_loopw [71] (fun i wr=>∃ (j:Nat) (x:Int),j≤L.length∧i=.int .i64 j∧wr.cell? ⟨cb,0,none⟩=some (.int .i64 x)∧wr.frozen? ⟨cb,0,none⟩=false∧Hid (x=c+1+cntTo d L j∧okTo nv na d L j=true)∧(0≤x∧x≤15)∧Chg (fun k=>k=cb) w wr∧Bk wr (w.heap.size) [.slice pv nv cv,.slice pa na ca,vb]) (fun i _=>L.length-(intOf i).toNat)
       case atStart=>exact ⟨0,c+1,Nat.zero_le _,rfl,hc,hf,Hi ⟨by simp [cntTo],rfl⟩,⟨by omega,by omega⟩,hC,b0⟩
       case round =>
        clear hC hc hf b0 a0 c0 g0 d0 i0;obtain ⟨j,x,hj,rfl,hc,hf,p0,z0,hC,k0⟩:=hrel;obtain ⟨wl,rfl⟩:∃ X,X=wr:=⟨_,rfl⟩;obtain ⟨k1,l1⟩:=z0;have p2:=hC.size;by_cases hlt:j < L.length
        ·have k2:(j:Int) < (L.length:Int):=by omega
         obtain ⟨kb',ko',m,hp,c1,n4,hm,e0,e1,e2⟩:=HK.out wl hC j hlt;try simp only at hp
         simp only [Option.some.injEq,Addr.mk.injEq,and_true] at hp;obtain ⟨rfl,rfl⟩:=hp;have HM:=Hi (fun W (hW:Chg (fun q=>q=cb) wl W)=>ExAt.keep hW (fun q hq _ h=>s1.out q hq h) (fun _ h _=>h) Lr hm);have x4:¬kb=cb:=fun h=>s1.out _ c1 h
         have x0:Hid (scR nv na d x L[j]=false→Q=false):=Hi (fun h=>by rw [f1.out];unfold scR at h;have h1:=cntTo_succ d L j hlt;have h2:=(a2.out (j+1)).2;have h3:=p0.out.1;cases hy:exOk nv na d L[j] with | false=>rw [okTo_no hlt hy];rfl | true=>rw [hy,Bool.true_and] at h;have:=of_decide_eq_false h;rw [decide_eq_false (by omega)];simp);have z1:Hid (scR nv na d x L[j]=true→okTo nv na d L (j+1)=true∧x+exCnt d L[j]≤15∧x+exCnt d L[j]=c+1+cntTo d L (j+1)):=Hi (fun h=>by unfold scR at h;rw [Bool.and_eq_true] at h;have h1:=cntTo_succ d L j hlt;refine ⟨by rw [okTo_succ hlt,p0.out.2,h.1];rfl,of_decide_eq_true h.2,by rw [h1,p0.out.1];omega⟩);have y1:=Hi (exCnt_ge d L[j]);clear hm c1;generalize L[j]=y at *
         have k3:=Lc hc;have f8:=Bk.lz k0;have g8:=Lc e0
         cases hz:scR nv na d x y with
         | false =>
          obtain ⟨e6,e7,f6,f7,g6,g7⟩:=Bk.f3 k0 0 1 2 rfl rfl rfl;go_wp2_with fail
          have l0:=IH.out D m y x (dp+1) _ (by omega) (by have:=u1.out;omega) (HM.out _ (Cb (bal (Bs wl) (.cells #[.int .i64 m.k,.int .i64 m.v,.slice m.p m.n m.c] 49)))) (Ac hc (.cells #[.int .i64 m.k,.int .i64 m.v,.slice m.p m.n m.c] 49)) (Fa (Lc hc) hf (.cells #[.int .i64 m.k,.int .i64 m.v,.slice m.p m.n m.c] 49)) k1 l1;rw [hz] at l0;clear e0 e1 e2 hc hf;refine (l0).mono ?_;rintro e w6 ⟨x2,rfl,hc,hf,y0,hb⟩;clear l0;replace hC:=((hC.trans (Cb (bal (Bs _) _)))).trans hb;have e3:=hb.size;simp only [Sa] at e3;clear e7 e6 f7 f6 g7 g6;replace k0:=Bk.keep (Bk.al k0 _) hb (fun h=>by have:=w0 _ h;omega);have u4:Bk w6 (wl.heap.size) [.int .i64 m.k,.int .i64 m.v,.slice m.p m.n m.c]:=Bk.keep (Bk.nw (by simp) rfl) hb (fun h=>by have:=w0 _ h;omega);clear hb;clear u4;replace k3:=Lc hc;have HZ:=Hi hz;clear hz;have m0:Hid (Q=false):=Hi (x0.out HZ.out);have X1:=hc;have X2:=hf;have X3:=hC;have f0:=Hi (Ai X1 (Ai X2 X3));clear X1 X2 X3 hC hc hf;go_wp2
          exact bodyPost_ret (v:=.bool false) (by simp [results,Try.results102,go_sem]) rfl (by rw [m0.out];unfold ScP;exact ⟨_,rfl,f0.out.1,f0.out.2.1,(fun h=>(by cases h)),f0.out.2.2⟩)
         | true =>
          obtain ⟨h6,h7,i6,z3,l3,a4⟩:=Bk.f3 k0 0 1 2 rfl rfl rfl;go_wp2_with fail
          have l0:=IH.out D m y x (dp+1) _ (by omega) (by have:=u1.out;omega) (HM.out _ (Cb (bal (Bs wl) (.cells #[.int .i64 m.k,.int .i64 m.v,.slice m.p m.n m.c] 49)))) (Ac hc (.cells #[.int .i64 m.k,.int .i64 m.v,.slice m.p m.n m.c] 49)) (Fa (Lc hc) hf (.cells #[.int .i64 m.k,.int .i64 m.v,.slice m.p m.n m.c] 49)) k1 l1;rw [hz] at l0;clear e0 e1 e2 hc hf;refine (l0).mono ?_;rintro e w6 ⟨x2,rfl,hc,hf,y0,hb⟩;clear l0;replace hC:=((hC.trans (Cb (bal (Bs _) _)))).trans hb;have m2:=hb.size;simp only [Sa] at m2;clear h7 h6 z3 i6 a4 l3;replace k0:=Bk.keep (Bk.al k0 _) hb (fun h=>by have:=w0 _ h;omega);have t2:Bk w6 (wl.heap.size) [.int .i64 m.k,.int .i64 m.v,.slice m.p m.n m.c]:=Bk.keep (Bk.nw (by simp) rfl) hb (fun h=>by have:=w0 _ h;omega);clear hb;clear t2;replace k3:=Lc hc;have HZ:=Hi hz;clear hz;obtain ⟨g1,g2,g3⟩:=z1.out HZ.out;have m1:=y0 rfl;have b2:Hid (x2=c+1+cntTo d L (j+1)∧okTo nv na d L (j+1)=true):=Hi ⟨by rw [m1,g3],g1⟩;have i2:=y1.out;have d2:0≤x2∧x2≤15:=by omega
          clear g1 g2 g3 m1 y0 i2;have t0:=Hi (Ai hc (Ai hf (Ai d2 (Ai hC k0))));go_wp2
          go_roundw
          case rel=>exact ⟨j+1,x2,by omega,by go_num,t0.out.1,t0.out.2.1,b2,t0.out.2.2.1,t0.out.2.2.2.1,t0.out.2.2.2.2⟩
          case measure=>simp [intOf];omega
        have j2:j=L.length:=by omega
        subst j2;have k2:decide (((L.length:Nat):Int) < (L.length:Int))=false:=decide_eq_false (by omega);have m0:Hid (Q=true):=Hi (by rw [f1.out];have h1:=p0.out.2;rw [okTo_all] at h1;rw [h1,decide_eq_true (by have:=p0.out.1;omega)];rfl);have x1:Hid (x=c+exCnt (d+1) (.mk nk j0 L)):=Hi (by rw [exCnt_eq,p0.out.1];show c+1+cntTo d L L.length=c+(1+cntTo d L L.length);omega);have X1:=hc;have X2:=hf;have X3:=hC;have f0:=Hi (Ai X1 (Ai X2 X3));clear X1 X2 X3 hC hc hf;go_wp2
        exact bodyPost_ret (v:=.bool true) (by simp [results,Try.results102,go_sem]) rfl (by rw [m0.out];unfold ScP;exact ⟨_,rfl,f0.out.1,f0.out.2.1,(fun _=>x1.out),f0.out.2.2⟩)
     skip
     obtain ⟨m3,b4⟩:=Bk.cf b0 1 rfl;obtain ⟨n3,c4⟩:=Bk.cf a0 1 rfl;go_wp2_with fail
     refine (within_any j0 0 ((na:Int)-1) _).mono ?_;rintro e w4 ⟨rfl,hb⟩;rw [show wi j0 0 ((na:Int)-1)=false from decide_eq_false (p:=0≤j0∧j0≤(na:Int)-1) hv];replace hC:=(hC).trans (Cb hb);have z4:=hb.size;clear b4 m3 c4 n3;replace hf:=Kf hb (Lc hc) hf;replace g0:=Kf hb (Lc c0) g0;replace i0:=Kf hb (Lc d0) i0;replace hc:=Kc hb hc;replace c0:=Kc hb c0;replace d0:=Kc hb d0;replace b0:=Bb b0 hb;replace a0:=Bb a0 hb;clear hb;replace q0:=Lc hc;replace r0:=Bk.lz b0;replace s0:=Bk.lz a0;have m0:Hid (Q=false):=Hi (by rw [HQ.out];refine scR_not ?_;by_cases h0:j0 < 0;(exact exOk_neg h0);(exact exOk_big (by rw [d1.out];omega)));have X1:=hc;have X2:=hf;have X3:=hC;have f0:=Hi (Ai X1 (Ai X2 X3));clear X1 X2 X3 hC hc hf;go_wp2
     exact bodyPost_ret (v:=.bool false) (by simp [results,Try.results102,go_sem]) rfl (by rw [m0.out];unfold ScP;exact ⟨_,rfl,f0.out.1,f0.out.2.1,(fun h=>(by cases h)),f0.out.2.2⟩)
    have g5:(nk == 1)=false:=by simp [hk1]
    have h5:(nk == 2)=false:=by simp [hk2]
    have i5:(nk == 3)=false:=by simp [hk3]
    have u0:=Hi (Ai hk1 (Ai hk2 hk3));clear hk1 hk2 hk3;have d1:Hid (limitOf nv na nk=0+1):=Hi (by unfold limitOf;rw [if_neg u0.out.1,if_neg u0.out.2.1,if_neg u0.out.2.2];rfl);by_cases hv:0≤j0∧j0≤0
    ·skip
     obtain ⟨o3,d4⟩:=Bk.cf a0 1 rfl;go_wp2_with fail
     refine (within_any j0 0 (0) _).mono ?_;rintro e w4 ⟨rfl,hb⟩;rw [show wi j0 0 (0)=true from decide_eq_true (p:=0≤j0∧j0≤0) hv];replace hC:=(hC).trans (Cb hb);have a5:=hb.size;clear d4 o3;replace hf:=Kf hb (Lc hc) hf;replace g0:=Kf hb (Lc c0) g0;replace i0:=Kf hb (Lc d0) i0;replace hc:=Kc hb hc;replace c0:=Kc hb c0;replace d0:=Kc hb d0;replace b0:=Bb b0 hb;replace a0:=Bb a0 hb;clear hb;replace q0:=Lc hc;replace r0:=Bk.lz b0;replace s0:=Bk.lz a0;have e5:=hv.1;have f5:=hv.2;clear hv;have f1:Hid (Q=(L.all (exOk nv na d)&&decide (c+(1+cntTo d L L.length)≤15))):=Hi (by rw [HQ.out];unfold scR;rw [exCnt_eq];show (exOk nv na (d+1) _&&decide (c+(1+cntTo d L L.length)≤15))=_;congr 1;cases hall:L.all (exOk nv na d) with | true=>exact exOk_yes (by rw [beq_iff_eq];exact s2.out.symm) (by omega) (by rw [d1.out];omega) hall (by rw [beq_eq_false_iff_ne];have:=u0.out;exact this.2.2) | false=>exact exOk_kid hall);have a2:=Hi (fun k=>cntTo_ge d L k);go_wp2_with fail
     go_loopw [71] (fun i wr=>∃ (j:Nat) (x:Int),j≤L.length∧i=.int .i64 j∧wr.cell? ⟨cb,0,none⟩=some (.int .i64 x)∧wr.frozen? ⟨cb,0,none⟩=false∧Hid (x=c+1+cntTo d L j∧okTo nv na d L j=true)∧(0≤x∧x≤15)∧Chg (fun k=>k=cb) w wr∧Bk wr (w.heap.size) [.slice pv nv cv,.slice pa na ca,vb]) (fun i _=>L.length-(intOf i).toNat)
     case atStart=>exact ⟨0,c+1,Nat.zero_le _,rfl,hc,hf,Hi ⟨by simp [cntTo],rfl⟩,⟨by omega,by omega⟩,hC,b0⟩
     case round =>
      clear hC hc hf b0 a0 c0 g0 d0 i0;obtain ⟨j,x,hj,rfl,hc,hf,p0,z0,hC,k0⟩:=hrel;obtain ⟨wl,rfl⟩:∃ X,X=wr:=⟨_,rfl⟩;obtain ⟨k1,l1⟩:=z0;have p2:=hC.size;by_cases hlt:j < L.length
      ·have k2:(j:Int) < (L.length:Int):=by omega
       obtain ⟨kb,ko,m,hp,c1,n4,hm,e0,e1,e2⟩:=HK.out wl hC j hlt;try simp only at hp
       subst hp;have HM:=Hi (fun W (hW:Chg (fun q=>q=cb) wl W)=>ExAt.keep hW (fun q hq _ h=>s1.out q hq h) (fun _ h _=>h) Lr hm);have x4:¬kb=cb:=fun h=>s1.out _ c1 h
       have x0:Hid (scR nv na d x L[j]=false→Q=false):=Hi (fun h=>by rw [f1.out];unfold scR at h;have h1:=cntTo_succ d L j hlt;have h2:=(a2.out (j+1)).2;have h3:=p0.out.1;cases hy:exOk nv na d L[j] with | false=>rw [okTo_no hlt hy];rfl | true=>rw [hy,Bool.true_and] at h;have:=of_decide_eq_false h;rw [decide_eq_false (by omega)];simp);have z1:Hid (scR nv na d x L[j]=true→okTo nv na d L (j+1)=true∧x+exCnt d L[j]≤15∧x+exCnt d L[j]=c+1+cntTo d L (j+1)):=Hi (fun h=>by unfold scR at h;rw [Bool.and_eq_true] at h;have h1:=cntTo_succ d L j hlt;refine ⟨by rw [okTo_succ hlt,p0.out.2,h.1];rfl,of_decide_eq_true h.2,by rw [h1,p0.out.1];omega⟩);have y1:=Hi (exCnt_ge d L[j]);clear hm c1;generalize L[j]=y at *
       have v1:=Lc hc;have s7:=Bk.lz k0;have t7:=Lc e0
       cases hz:scR nv na d x y with
       | false =>
        obtain ⟨p3,e4,s3,f4,t3,g4⟩:=Bk.f3 k0 0 1 2 rfl rfl rfl;go_wp2_with fail
        have l0:=IH.out D m y x (dp+1) _ (by omega) (by have:=u1.out;omega) (HM.out _ (Cb (bal (Bs wl) (.cells #[.int .i64 m.k,.int .i64 m.v,.slice m.p m.n m.c] 49)))) (Ac hc (.cells #[.int .i64 m.k,.int .i64 m.v,.slice m.p m.n m.c] 49)) (Fa (Lc hc) hf (.cells #[.int .i64 m.k,.int .i64 m.v,.slice m.p m.n m.c] 49)) k1 l1;rw [hz] at l0;clear e0 e1 e2 hc hf;refine (l0).mono ?_;rintro e w5 ⟨x2,rfl,hc,hf,y0,hb⟩;clear l0;replace hC:=((hC.trans (Cb (bal (Bs _) _)))).trans hb;have n2:=hb.size;simp only [Sa] at n2;clear e4 p3 f4 s3 g4 t3;replace k0:=Bk.keep (Bk.al k0 _) hb (fun h=>by have:=w0 _ h;omega);have u2:Bk w5 (wl.heap.size) [.int .i64 m.k,.int .i64 m.v,.slice m.p m.n m.c]:=Bk.keep (Bk.nw (by simp) rfl) hb (fun h=>by have:=w0 _ h;omega);clear hb;clear u2;replace v1:=Lc hc;have HZ:=Hi hz;clear hz;have m0:Hid (Q=false):=Hi (x0.out HZ.out);have X1:=hc;have X2:=hf;have X3:=hC;have f0:=Hi (Ai X1 (Ai X2 X3));clear X1 X2 X3 hC hc hf;go_wp2
        exact bodyPost_ret (v:=.bool false) (by simp [results,Try.results102,go_sem]) rfl (by rw [m0.out];unfold ScP;exact ⟨_,rfl,f0.out.1,f0.out.2.1,(fun h=>(by cases h)),f0.out.2.2⟩)
       | true =>
        obtain ⟨u3,h4,v3,i4,x3,j4⟩:=Bk.f3 k0 0 1 2 rfl rfl rfl;go_wp2_with fail
        have l0:=IH.out D m y x (dp+1) _ (by omega) (by have:=u1.out;omega) (HM.out _ (Cb (bal (Bs wl) (.cells #[.int .i64 m.k,.int .i64 m.v,.slice m.p m.n m.c] 49)))) (Ac hc (.cells #[.int .i64 m.k,.int .i64 m.v,.slice m.p m.n m.c] 49)) (Fa (Lc hc) hf (.cells #[.int .i64 m.k,.int .i64 m.v,.slice m.p m.n m.c] 49)) k1 l1;rw [hz] at l0;clear e0 e1 e2 hc hf;refine (l0).mono ?_;rintro e w5 ⟨x2,rfl,hc,hf,y0,hb⟩;clear l0;replace hC:=((hC.trans (Cb (bal (Bs _) _)))).trans hb;have o2:=hb.size;simp only [Sa] at o2;clear h4 u3 i4 v3 j4 x3;replace k0:=Bk.keep (Bk.al k0 _) hb (fun h=>by have:=w0 _ h;omega);have v2:Bk w5 (wl.heap.size) [.int .i64 m.k,.int .i64 m.v,.slice m.p m.n m.c]:=Bk.keep (Bk.nw (by simp) rfl) hb (fun h=>by have:=w0 _ h;omega);clear hb;clear v2;replace v1:=Lc hc;have HZ:=Hi hz;clear hz;obtain ⟨g1,g2,g3⟩:=z1.out HZ.out;have m1:=y0 rfl;have b2:Hid (x2=c+1+cntTo d L (j+1)∧okTo nv na d L (j+1)=true):=Hi ⟨by rw [m1,g3],g1⟩;have i2:=y1.out;have d2:0≤x2∧x2≤15:=by omega
        clear g1 g2 g3 m1 y0 i2;have t0:=Hi (Ai hc (Ai hf (Ai d2 (Ai hC k0))));go_wp2
        go_roundw
        case rel=>exact ⟨j+1,x2,by omega,by go_num,t0.out.1,t0.out.2.1,b2,t0.out.2.2.1,t0.out.2.2.2.1,t0.out.2.2.2.2⟩
        case measure=>simp [intOf];omega
      have j2:j=L.length:=by omega
      subst j2;have k2:decide (((L.length:Nat):Int) < (L.length:Int))=false:=decide_eq_false (by omega);have m0:Hid (Q=true):=Hi (by rw [f1.out];have h1:=p0.out.2;rw [okTo_all] at h1;rw [h1,decide_eq_true (by have:=p0.out.1;omega)];rfl);have x1:Hid (x=c+exCnt (d+1) (.mk nk j0 L)):=Hi (by rw [exCnt_eq,p0.out.1];show c+1+cntTo d L L.length=c+(1+cntTo d L L.length);omega);have X1:=hc;have X2:=hf;have X3:=hC;have f0:=Hi (Ai X1 (Ai X2 X3));clear X1 X2 X3 hC hc hf;go_wp2
      exact bodyPost_ret (v:=.bool true) (by simp [results,Try.results102,go_sem]) rfl (by rw [m0.out];unfold ScP;exact ⟨_,rfl,f0.out.1,f0.out.2.1,(fun _=>x1.out),f0.out.2.2⟩)
    skip
    obtain ⟨y3,k4⟩:=Bk.cf a0 1 rfl;go_wp2_with fail
    refine (within_any j0 0 (0) _).mono ?_;rintro e w4 ⟨rfl,hb⟩;rw [show wi j0 0 (0)=false from decide_eq_false (p:=0≤j0∧j0≤0) hv];replace hC:=(hC).trans (Cb hb);have b5:=hb.size;clear k4 y3;replace hf:=Kf hb (Lc hc) hf;replace g0:=Kf hb (Lc c0) g0;replace i0:=Kf hb (Lc d0) i0;replace hc:=Kc hb hc;replace c0:=Kc hb c0;replace d0:=Kc hb d0;replace b0:=Bb b0 hb;replace a0:=Bb a0 hb;clear hb;replace q0:=Lc hc;replace r0:=Bk.lz b0;replace s0:=Bk.lz a0;have m0:Hid (Q=false):=Hi (by rw [HQ.out];refine scR_not ?_;by_cases h0:j0 < 0;(exact exOk_neg h0);(exact exOk_big (by rw [d1.out];omega)));have X1:=hc;have X2:=hf;have X3:=hC;have f0:=Hi (Ai X1 (Ai X2 X3));clear X1 X2 X3 hC hc hf;go_wp2
    exact bodyPost_ret (v:=.bool false) (by simp [results,Try.results102,go_sem]) rfl (by rw [m0.out];unfold ScP;exact ⟨_,rfl,f0.out.1,f0.out.2.1,(fun h=>(by cases h)),f0.out.2.2⟩)
   have j7:(arity nk != (L.length:Int))=true:=by simp [hA]
   have HA:=Hi hA;clear hA;go_upto_region 2 with (fail)
   replace q0:=Lc hc;replace r0:=Bk.lz b0;replace s0:=Bk.lz a0;obtain ⟨n0,a1,o0,b1⟩:=Bk.f2 a0 0 2 rfl rfl;refine wp_region_noPanic ?_;refine wp_region_held_drew (S:=(fun W'=>W'.cell? ⟨w.heap.size+1,0,none⟩=some (.int .i64 nk)∧W'.cell? ⟨w.heap.size+1,2,none⟩=some (.slice np L.length nc))) (by kernel_rfl) ⟨Kc (Bd (Bs w1)) n0,Kc (Bd (Bs w1)) o0⟩ (fun hHeld=>?_);obtain ⟨w2,v0⟩:∃ X,X=World.drew w1:=⟨_,rfl⟩;rw [← v0] at hHeld ⊢;have hb:Below w1.heap.size w1 w2:=by rw [v0];exact Bd (Bs _)
   clear v0;replace hC:=(hC).trans (Cb hb);have c5:=hb.size;replace hf:=Kf hb (Lc hc) hf;replace a1:=Kf hb (Lc n0) a1;replace b1:=Kf hb (Lc o0) b1;replace hc:=Kc hb hc;replace n0:=Kc hb n0;replace o0:=Kc hb o0;replace b0:=Bb b0 hb;replace a0:=Bb a0 hb;clear hb;refine (tq 0 17 rfl rfl ?_ ?_ (tq 1 18 rfl rfl ?_ ?_ ?_));iterate 2 (rotate_left;intro W' hSw;(try dsimp only at hSw);go_simp;try with_reducible rfl)
   try simp only [Ep]
   refine Rdy 2 rfl (fun K hK=>?_);go_simp
   refine hK.out _ _ ⟨n0,o0⟩ (fun hHeld=>?_);clear hK K;try simp only [Ep]
   refine (tq 3 20 rfl rfl ?_ ?_ (tq 4 21 rfl rfl ?_ ?_ ?_));iterate 2 (rotate_left;intro W' hSw;(try dsimp only at hSw);go_simp;try with_reducible rfl)
   try simp only [Ep]
   refine (tq 5 22 rfl rfl ?_ ?_ (tq 6 23 rfl rfl ?_ ?_ (tq 7 24 rfl rfl ?_ ?_ (tq 8 25 rfl rfl ?_ ?_ ?_))));iterate 4 (rotate_left;intro W' hSw;(try dsimp only at hSw);go_simp;try with_reducible rfl)
   try simp only [Ep]
   refine (tq 9 26 rfl rfl ?_ ?_ (tq 10 27 rfl rfl ?_ ?_ (tq 12 29 rfl rfl ?_ ?_ (tq 13 30 rfl rfl ?_ ?_ (tq 14 31 rfl rfl ?_ ?_ ?_)))));iterate 5 (rotate_left;intro W' hSw;(try dsimp only at hSw);go_simp;try with_reducible rfl)
   try simp only [Ep]
   refine Rdy 11 rfl (fun K hK=>?_);go_simp
   refine (operands_any _ _).mono ?_;rintro e w3 ⟨rfl,hb⟩;replace hC:=(hC).trans (Cb hb);have d5:=hb.size;replace hf:=Kf hb (Lc hc) hf;replace a1:=Kf hb (Lc n0) a1;replace b1:=Kf hb (Lc o0) b1;replace hc:=Kc hb hc;replace n0:=Kc hb n0;replace o0:=Kc hb o0;replace b0:=Bb b0 hb;replace a0:=Bb a0 hb;clear hb;refine hK.out _ _ ⟨n0,o0⟩ (fun hHeld=>?_);clear hK K;try simp only [Ep]
   refine (tq 15 32 rfl rfl ?_ ?_ (tq 16 33 rfl rfl ?_ ?_ ?_));iterate 2 (rotate_left;intro W' hSw;(try dsimp only at hSw);go_simp;try with_reducible rfl)
   try simp only [Ep]
   refine Dn ?_;clear hHeld;have m0:Hid (Q=false):=Hi (by rw [HQ.out];exact scR_not (exOk_len (by rw [beq_eq_false_iff_ne];exact fun h=>HA.out h.symm)));have X1:=hc;have X2:=hf;have X3:=hC;have f0:=Hi (Ai X1 (Ai X2 X3));clear X1 X2 X3 hC hc hf;go_wp2
   exact bodyPost_ret (v:=.bool false) (by simp [results,Try.results102,go_sem]) rfl (by rw [m0.out];unfold ScP;exact ⟨_,rfl,f0.out.1,f0.out.2.1,(fun h=>(by cases h)),f0.out.2.2⟩)
end Go.Proofs.Ytlckklglbodgbaa
