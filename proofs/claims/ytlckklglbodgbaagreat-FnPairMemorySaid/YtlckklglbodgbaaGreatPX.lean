/-
 Parts of the proofs of the laws FnPairMemory,FnSplitMemory.
-/
import Derived.Test.YtlckklglbodgbaaGreatY
import Derived.Test.YtlckklglbodgbaaGreatGC
set_option linter.all false
namespace Go.Proofs.YtlckklglbodgbaaGreat
open Go.RowKit
theorem info_expr:(Tryz.prog.info? 73).map (fun i=>(i.zero,i.size,i.bytes))=some (some (.agg #[.int .i64 0,.int .i64 0,.slice none 0 0]),3,40):=by kernel_rfl
theorem tExprs:SliceT Tryz.prog 71 73 (.agg #[.int .i64 0,.int .i64 0,.slice none 0 0]) 3 40:=⟨Tryz.underlying71,info_expr,rfl,by omega,by omega⟩
structure KidsAt (W:World) (b8 d:Nat) (v:Value) (rs:List En) (l:List Ex):Prop where
 len:rs.length=l.length
 own:W.ownsRow (b8+1) 73 3 v l.length (rows enc rs)
 kid:∀ j (h:j < rs.length) (h':j < l.length),ExAt W (fun q=>b8 < q∧¬v.ownBlock=some q) d rs[j] l[j]
 thin:∀ x ∈ l,Thin d x
theorem KidsAt.keep {W W':World} {b8 d:Nat} {v:Value} {rs:List En} {l:List Ex} (h:KidsAt W b8 d v rs l) {S:Nat→Prop} (hc:Chg S W W') (hS:∀ q,b8 < q→¬S q):KidsAt W' b8 d v rs l:=
 ⟨h.len,Ow h.own hc (fun q hq=>hS q (by have:=h.own.lt q hq;omega)),fun j h1 h2=>ExAt.keep hc (fun q hq _=>hS q hq.1) (fun _ hq _=>hq) Lr (h.kid j h1 h2),h.thin⟩
theorem KidsAt.below {W W':World} {b8 d:Nat} {v:Value} {rs:List En} {l:List Ex} (h:KidsAt W b8 d v rs l) (hb:Below W.heap.size W W'):KidsAt W' b8 d v rs l:=
 ⟨h.len,Ob h.own hb,fun j h1 h2=>(h.kid j h1 h2).below hb,h.thin⟩
theorem KidsAt.nil {W:World} {b8 d:Nat}:KidsAt W b8 d (.slice none 0 0) [] []:=⟨rfl,World.ownsRow_nil _ _ _ _,fun j h=>by simp at h,fun x h=>by cases h⟩
theorem KidsAt.push {W W':World} {b8 d:Nat} {v v':Value} {rs:List En} {l:List Ex} {n:En} {e:Ex} {b1:Nat} (h:KidsAt W b8 d v rs l) (ho:W'.ownsRow (b8+1) 73 3 v' (l.length+1) (rows enc rs++enc n)) (hc:Chg (fun k=>v.ownBlock=some k) W W') (hN:NewOr W v v')
  (hn:ExAt W (fun q=>b1≤q) d n e) (ht:Thin d e) (h8:b8 < b1) (hv:∀ q,v.ownBlock=some q→q < b1):KidsAt W' b8 d v' (rs++[n]) (l++[e]):=by
 have hA:∀ q,q < W.heap.size→¬v.ownBlock=some q→¬v'.ownBlock=some q:=fun q hq h1 h2=>by
  rcases hN with e1 | ⟨g,e1,e2⟩
  ·exact h1 (e1 ▸ h2)
  rw [e1] at h2;have:=Si h2;omega
 refine ⟨by simp [h.len],?_,rows_push h.len (fun j h1 h2=>?_) ?_,fun x hx=>?_⟩
 ·rw [rows_append,rows_one,List.length_append];exact ho
 ·exact ExAt.keep hc (fun q hq _=>hq.2) (fun q hq hlt=>⟨hq.1,hA q hlt hq.2⟩) Lr (h.kid j h1 h2)
 ·exact ExAt.keep hc (fun q (hq:b1≤q) _ h1=>by have:=hv q h1;omega) (fun q (hq:b1≤q) hlt=>⟨by omega,hA q hlt (fun h1=>by have:=hv q h1;omega)⟩) Lr hn
 rcases List.mem_append.1 hx with h1 | h1
 ·exact h.thin x h1
 rw [List.mem_singleton.1 h1];exact ht
theorem KidsAt.node {W:World} {b8 d:Nat} {a:Option Addr} {c:Nat} {rs:List En} {l:List Ex} (h:KidsAt W b8 d (.slice a l.length c) rs l) (hl:l.length≤3) (k v:Int):ExAt W (fun q=>b8 < q) (d+1) ⟨k,v,a,l.length,c⟩ (.mk k v l)∧Thin (d+1) (.mk k v l):=
 ⟨⟨rfl,rfl,RowOf.of_own h.len h.own (show l.length≤_ by omega) (fun q hq _=>hq) (fun j h1 h2=>ExAt.keep (S:=fun _=>False) (Chg.refl _ _) (fun _ _ _=>id) (fun q hq _=>hq.1) Lr (h.kid j h1 h2))⟩,hl,h.thin⟩
theorem drawn_kinds {kd:Int} (h:kd ∈ [4,10,8,9,3,6,7,5,11]):kd=3∨((kd == 3)=false∧∃ ar:Nat,arity kd=ar∧1≤ar∧ar≤3):=by
 simp only [List.mem_cons,List.not_mem_nil,or_false] at h;rcases h with rfl | rfl | rfl | rfl | rfl | rfl | rfl | rfl | rfl
 ·exact Or.inr ⟨rfl,2,rfl,by omega,by omega⟩
 ·exact Or.inr ⟨rfl,2,rfl,by omega,by omega⟩
 ·exact Or.inr ⟨rfl,2,rfl,by omega,by omega⟩
 ·exact Or.inr ⟨rfl,2,rfl,by omega,by omega⟩
 ·exact Or.inl rfl
 ·exact Or.inr ⟨rfl,2,rfl,by omega,by omega⟩
 ·exact Or.inr ⟨rfl,2,rfl,by omega,by omega⟩
 ·exact Or.inr ⟨rfl,2,rfl,by omega,by omega⟩
 exact Or.inr ⟨rfl,3,rfl,by omega,by omega⟩
theorem dcost_le {d:Nat} (h:d≤4):dcost d≤10000∧8≤dcost d:=by
 have:d=0∨d=1∨d=2∨d=3∨d=4:=by omega
 rcases this with rfl | rfl | rfl | rfl | rfl <;> decide
set_option maxHeartbeats 6400000 in
set_option maxRecDepth 100000 in
theorem l2Draw_any (pv pa:Option Addr) (nv cv na ca:Nat) (vb:Value) (B g:Nat) (hnv:1≤nv) (hnb:nv≤1000∧na≤1000):∀ (d p:Nat) (w:World),d≤4→Rnd w B g p→p+dcost d≤1000000000 →
  Calls Tryz.prog 137 #[.pointer (some ⟨g,0,none⟩),.agg #[.slice pv nv cv,.slice pa na ca,vb],.int .i64 d] w fun r w'=>∃ (n:En) (e:Ex) (p':Nat),r=.returned (.agg #[.int .i64 n.k,.int .i64 n.v,.slice n.p n.n n.c])∧ExAt w' (fun q=>w.heap.size≤q) (d+1) n e∧Thin (d+1) e∧Rnd w' B g p'∧p'≤p+dcost d∧Chg (fun q=>q=g) w w':=by
 intro d
 induction d with
 | zero =>
  intro p w hd hR hp;have f3:dcost 0=8:=rfl;have i3:=dcost_le hd;have hg:=hR.lt;have hC:Chg (fun k=>k=g) w w:=Chg.refl _ _;have t1:∀ q,(fun k=>k=g) q→q=g:=fun q h=>h
  go_enter Tryz.func137,Tryz.ntmps137
  go_wp2_with fail
  refine (l2DrawAtom_any pv pa nv cv na ca vb B g (p) _ ((hR.below (bal (Bs _) (.cells #[.slice pv nv cv,.slice pa na ca,vb] 26))).below (bal (Bs _) (.cells #[.int .i64 0,.int .i64 0,.slice none 0 0] 73))) (by omega) hnv hnb).mono ?_;rintro e w1 ⟨k,v,p1,rfl,g0,p2,hc⟩;replace hC:=(((hC.trans (Cb (bal (Bs _) _))).trans (Cb (bal (Bs _) _)))).trans hc;replace hR:=g0;clear g0;have t0:=hc.size;simp only [Sa] at t0;have b0:Bk w1 (w.heap.size) [.slice pv nv cv,.slice pa na ca,vb]:=Bk.kg (Bk.al (Bk.n3 (w.heap.size)) (.cells #[.int .i64 0,.int .i64 0,.slice none 0 0] 73)) hc;have e0:Bk w1 (w.heap.size+1) [.int .i64 0,.int .i64 0,.slice none 0 0]:=Bk.kg (Bk.n3 (w.heap.size+1)) hc;clear hc;have x5:=Bk.lz b0;have y5:=Bk.lz e0;have tC:=(((hC.sN (w.heap.size+1) (0) (.int .i64 k)).sN (w.heap.size+1) (1) (.int .i64 v)).sN (w.heap.size+1) (2) (.slice none 0 0));have tR:=(((hR.kC (w.heap.size+1) (0) (.int .i64 k)).kC (w.heap.size+1) (1) (.int .i64 v)).kC (w.heap.size+1) (2) (.slice none 0 0));obtain ⟨a4,r4,e4,v4,v1,i2⟩:=Bk.h3 e0;obtain ⟨c5,e5,f5⟩:=Bk.g3 (Bk.t3 e0 (.int .i64 k) (.int .i64 v) (.slice none 0 0));have tt:=True.intro;go_wp2
  exact bodyPost_ret (v:=.agg #[.int .i64 k,.int .i64 v,.slice none 0 0]) (by simp [results,Tryz.results137,go_sem,c5,e5,f5]) rfl (by exact ⟨⟨k,v,none,0,0⟩,.mk k v [],_,rfl,ExAt.leaf k v,⟨by simp [Ex.kids],fun x hx=>by simp [Ex.kids] at hx⟩,tR,by omega,tC⟩)
 | succ d IH =>
  intro p w hd hR hp;have f3:dcost (d+1)=8+3*dcost d:=rfl;have i3:=dcost_le (d:=d) (by omega);have H8:Hid (8≤dcost (d+1)):=Hi (by omega);have j1:=Hi f3;clear f3;by_cases hd1:d=0
  ·subst hd1;have z5:Hid (8≤dcost 1):=Hi (by decide);have k5:p+2≤1000000000:=by have:=H8.out;omega
   have hg:=hR.lt;have hC:Chg (fun k=>k=g) w w:=Chg.refl _ _;have t1:∀ q,(fun k=>k=g) q→q=g:=fun q h=>h
   go_enter Tryz.func137,Tryz.ntmps137
   go_wp2_with fail
   refine (l2DrawAtom_any pv pa nv cv na ca vb B g (p) _ ((hR.below (bal (Bs _) (.cells #[.slice pv nv cv,.slice pa na ca,vb] 26))).below (bal (Bs _) (.cells #[.int .i64 0,.int .i64 0,.slice none 0 0] 73))) (by omega) hnv hnb).mono ?_;rintro e w1 ⟨k,v,p1,rfl,g0,p2,hc⟩;replace hC:=(((hC.trans (Cb (bal (Bs _) _))).trans (Cb (bal (Bs _) _)))).trans hc;replace hR:=g0;clear g0;have t0:=hc.size;simp only [Sa] at t0;have b0:Bk w1 (w.heap.size) [.slice pv nv cv,.slice pa na ca,vb]:=Bk.kg (Bk.al (Bk.n3 (w.heap.size)) (.cells #[.int .i64 0,.int .i64 0,.slice none 0 0] 73)) hc;have e0:Bk w1 (w.heap.size+1) [.int .i64 0,.int .i64 0,.slice none 0 0]:=Bk.kg (Bk.n3 (w.heap.size+1)) hc;clear hc;have x5:=Bk.lz b0;have y5:=Bk.lz e0;have tC:=(((hC.sN (w.heap.size+1) (0) (.int .i64 k)).sN (w.heap.size+1) (1) (.int .i64 v)).sN (w.heap.size+1) (2) (.slice none 0 0));have tR:=(((hR.kC (w.heap.size+1) (0) (.int .i64 k)).kC (w.heap.size+1) (1) (.int .i64 v)).kC (w.heap.size+1) (2) (.slice none 0 0));obtain ⟨a4,r4,e4,v4,v1,i2⟩:=Bk.h3 e0;obtain ⟨c5,e5,f5⟩:=Bk.g3 (Bk.t3 e0 (.int .i64 k) (.int .i64 v) (.slice none 0 0));have tt:=True.intro;go_wp2
   exact bodyPost_ret (v:=.agg #[.int .i64 k,.int .i64 v,.slice none 0 0]) (by simp [results,Tryz.results137,go_sem,c5,e5,f5]) rfl (by exact ⟨⟨k,v,none,0,0⟩,.mk k v [],_,rfl,ExAt.leaf k v,⟨by simp [Ex.kids],fun x hx=>by simp [Ex.kids] at hx⟩,tR,by have:=z5.out;omega,tC⟩)
  have q1:decide ((d:Int)+1 < 2)=false:=decide_eq_false (by omega);have q2:(2:Int)≤(d:Int)+1:=by omega
  have hg:=hR.lt;have hC:Chg (fun k=>k=g) w w:=Chg.refl _ _;have t1:∀ q,(fun k=>k=g) q→q=g:=fun q h=>h
  go_enter Tryz.func137,Tryz.ntmps137
  go_wp2_with fail
  refine (pick_any _ _ B g (p) ((hR.below (bal (Bs _) (.cells #[.slice pv nv cv,.slice pa na ca,vb] 26))).below (bal (Bs _) (.cells #[.int .i64 0,.int .i64 0,.slice none 0 0] 73))) (by omega) (by omega) (by omega)).mono ?_;rintro e w1 ⟨r,r0,r1,rfl,g0,hc⟩;replace hC:=(((hC.trans (Cb (bal (Bs _) _))).trans (Cb (bal (Bs _) _)))).trans hc;replace hR:=g0;clear g0;have t0:=hc.size;simp only [Sa] at t0;have b0:Bk w1 (w.heap.size) [.slice pv nv cv,.slice pa na ca,vb]:=Bk.kg (Bk.al (Bk.n3 (w.heap.size)) (.cells #[.int .i64 0,.int .i64 0,.slice none 0 0] 73)) hc;have e0:Bk w1 (w.heap.size+1) [.int .i64 0,.int .i64 0,.slice none 0 0]:=Bk.kg (Bk.n3 (w.heap.size+1)) hc;clear hc;have x5:=Bk.lz b0;have y5:=Bk.lz e0;by_cases h0:r=0
  ·subst h0;have k5:p+1+2≤1000000000:=by have:=j1.out;omega
   obtain ⟨a4,r4,e4,v4,v1,i2⟩:=Bk.h3 b0;go_wp2_with fail
   refine (l2DrawAtom_any pv pa nv cv na ca vb B g (p+1) _ hR (by omega) hnv hnb).mono ?_;rintro e w2 ⟨k,v,p1,rfl,g0,p2,l1⟩;replace hC:=(hC).trans l1;replace hR:=g0;clear g0;have l5:=l1.size;clear r4 a4 v4 e4 i2 v1;have tC:=(((hC.sN (w.heap.size+1) (0) (.int .i64 k)).sN (w.heap.size+1) (1) (.int .i64 v)).sN (w.heap.size+1) (2) (.slice none 0 0));have tR:=(((hR.kC (w.heap.size+1) (0) (.int .i64 k)).kC (w.heap.size+1) (1) (.int .i64 v)).kC (w.heap.size+1) (2) (.slice none 0 0));replace e0:=Bk.kg e0 l1;obtain ⟨n6,y6,o6,z6,p6,a7⟩:=Bk.h3 e0;obtain ⟨h7,i7,j7⟩:=Bk.g3 (Bk.t3 e0 (.int .i64 k) (.int .i64 v) (.slice none 0 0));have tt:=True.intro;go_wp2
   exact bodyPost_ret (v:=.agg #[.int .i64 k,.int .i64 v,.slice none 0 0]) (by simp [results,Tryz.results137,go_sem,h7,i7,j7]) rfl (by exact ⟨⟨k,v,none,0,0⟩,.mk k v [],_,rfl,ExAt.leaf k v,⟨by simp [Ex.kids],fun x hx=>by simp [Ex.kids] at hx⟩,tR,by have:=j1.out;omega,tC⟩)
  have q0:(r == 0)=false:=by simpa using h0
  have k5:p+8≤1000000000:=by have:=j1.out;omega
  go_wp2_with fail
  refine (num_any _ [4,10,8,9,3,6,7,5,11] _ B g (p+1) (hR.below (bal (Bs _) (.cells #[.int .i64 4,.int .i64 10,.int .i64 8,.int .i64 9,.int .i64 3,.int .i64 6,.int .i64 7,.int .i64 5,.int .i64 11] 3))) (Ro (World.ownsRow_lit (base:=(w1).heap.size) (e:=3) (size:=1) (w1) #[.int .i64 4,.int .i64 10,.int .i64 8,.int .i64 9,.int .i64 3,.int .i64 6,.int .i64 7,.int .i64 5,.int .i64 11] 9 Lr (by unfold maxLen;omega) (by simp)) (by simp)) (fun b o c hb=>by simp at hb;omega) (by simp) (by simp) (by omega)).mono ?_;rintro e w2 ⟨kd,o3,rfl,g0,l0⟩;replace hC:=((hC.trans (Cb (bal (Bs _) _)))).trans l0;replace hR:=g0;clear g0;have r2:=l0.size;simp only [Sa] at r2;have c3:Bk w2 (w1.heap.size) [.int .i64 4,.int .i64 10,.int .i64 8,.int .i64 9,.int .i64 3,.int .i64 6,.int .i64 7,.int .i64 5,.int .i64 11]:=Bk.kg (Bk.n9 (w1.heap.size)) l0;clear c3;rcases drawn_kinds o3 with rfl | ⟨q3,ar,har,ha1,ha3⟩
  ·clear o3;by_cases hna:na=0
   ·have q4:((na:Int) == 0)=true:=by simp [hna]
    clear hna;replace b0:=Bk.kg (Bk.al b0 _) l0;obtain ⟨p3,f4,r3,g4,s3,h4⟩:=Bk.h3 b0;go_wp2_with fail
    refine (l2DrawAtom_any pv pa nv cv na ca vb B g (p+1+1) _ hR (by omega) hnv hnb).mono ?_;rintro e w3 ⟨k,v,p1,rfl,g0,p2,m1⟩;replace hC:=(hC).trans m1;replace hR:=g0;clear g0;have m5:=m1.size;clear f4 p3 g4 r3 h4 s3;have tC:=(((hC.sN (w.heap.size+1) (0) (.int .i64 k)).sN (w.heap.size+1) (1) (.int .i64 v)).sN (w.heap.size+1) (2) (.slice none 0 0));have tR:=(((hR.kC (w.heap.size+1) (0) (.int .i64 k)).kC (w.heap.size+1) (1) (.int .i64 v)).kC (w.heap.size+1) (2) (.slice none 0 0));replace e0:=Bk.kg (Bk.kg (Bk.al e0 _) l0) m1;obtain ⟨q6,b7,r6,c7,s6,d7⟩:=Bk.h3 e0;obtain ⟨k7,l7,m7⟩:=Bk.g3 (Bk.t3 e0 (.int .i64 k) (.int .i64 v) (.slice none 0 0));have tt:=True.intro;go_wp2
    exact bodyPost_ret (v:=.agg #[.int .i64 k,.int .i64 v,.slice none 0 0]) (by simp [results,Tryz.results137,go_sem,k7,l7,m7]) rfl (by exact ⟨⟨k,v,none,0,0⟩,.mk k v [],_,rfl,ExAt.leaf k v,⟨by simp [Ex.kids],fun x hx=>by simp [Ex.kids] at hx⟩,tR,by have:=j1.out;omega,tC⟩)
   have q4:((na:Int) == 0)=false:=by simp;omega
   replace b0:=Bk.kg (Bk.al b0 _) l0;obtain ⟨v3,i4⟩:=Bk.cf b0 1 rfl;go_upto_region 7 with (fail)
   clear i4 v3;refine Rgh (S:=fun W'=>W'.cell? ⟨w.heap.size,1,none⟩=some (.slice pa na ca)∧W'.cell? ⟨w.heap.size,0,none⟩=some (.slice pv nv cv)∧W'.cell? ⟨w.heap.size,2,none⟩=some (vb)) (fun W d=>⟨Bk.kc b0 d 1,Bk.kc b0 d 0,Bk.kc b0 d 2⟩) (fun w3 p0 hHeld=>?_);replace hC:=(hC).trans (Cb p0);replace hR:=hR.below p0;have n5:=p0.size;refine (tq 0 32 rfl rfl ?_ ?_ (tq 1 33 rfl rfl ?_ ?_ (tq 2 34 rfl rfl ?_ ?_ (tq 3 35 rfl rfl ?_ ?_ (tq 4 36 rfl rfl ?_ ?_ (tq 6 38 rfl rfl ?_ ?_ (tq 7 39 rfl rfl ?_ ?_ ?_)))))));iterate 7 (rotate_left;intro W' hSw;(try dsimp only at hSw);go_simp;try with_reducible rfl)
   try simp only [Ep]
   refine Rdy 5 rfl (fun K hK=>?_);replace b0:=Bb b0 p0;obtain ⟨x3,j4,y3,l4,z3,m4⟩:=Bk.h3 b0;go_simp
   refine (pick_any _ _ B g (p+1+1) hR (by omega) (by omega) (by omega)).mono ?_;rintro e w4 ⟨i,i0,i1,rfl,g0,e1⟩;replace hC:=(hC).trans e1;replace hR:=g0;clear g0;have o5:=e1.size;clear j4 x3 l4 y3 m4 z3;replace b0:=Bk.kg b0 e1;refine hK.out _ _ ⟨Bk.ce b0 1,Bk.ce b0 0,Bk.ce b0 2⟩ (fun hHeld=>?_);clear hK K;try simp only [Ep]
   refine Rdy 8 rfl (fun K hK=>?_);go_simp
   refine (l2DrawAtom_any pv pa nv cv na ca vb B g (p+1+1+1) _ hR (by omega) hnv hnb).mono ?_;rintro e w5 ⟨k,kv,p1,rfl,g0,p2,f1⟩;replace hC:=(hC).trans f1;replace hR:=g0;clear g0;have p5:=f1.size;replace b0:=Bk.kg b0 f1;refine hK.out _ _ ⟨Bk.ce b0 1,Bk.ce b0 0,Bk.ce b0 2⟩ (fun hHeld=>?_);clear hK K;try simp only [Ep]
   refine Rdy 9 rfl (fun K hK=>?_);go_simp
   generalize hnw:World.alloc _ _=w6;have m0:=nmh hnw;clear hnw
   replace hC:=((hC.trans (Cb (bal (Bs _) _)))).trans (Cb m0);replace hR:=(hR.below (bal (Bs _) _)).below m0;have w0:=Ob (World.ownsRow_lit (base:=(w5).heap.size) (e:=73) (size:=3) (w5) #[.int .i64 k,.int .i64 kv,.slice none 0 0] 1 Lr (by unfold maxLen;omega) (by simp)) m0;try simp only [Sa,Ss] at w0
   have t2:=m0.size;simp only [Sa] at t2;replace e0:=Bb (Bk.al (Bk.keep (Bk.kg (Bb (Bk.kg (Bk.al e0 _) l0) p0) e1) f1 (fun h=>by have:=t1 _ h;omega)) _) m0;have d3:=Bb (Bk.n3 (w5.heap.size)) m0;have g1:=w0.lt;try simp only [Sa] at g1
   have l6:=Bk.lz d3;replace b0:=Bb (Bk.al b0 _) m0;refine hK.out _ _ ⟨Bk.ce b0 1,Bk.ce b0 0,Bk.ce b0 2⟩ (fun hHeld=>?_);clear hK K;try simp only [Ep]
   refine (tq 10 42 rfl rfl (.agg #[.int .i64 3,.int .i64 i,.slice (some ⟨w5.heap.size,0,none⟩) 1 1]) (fun W' _=>by kernel_rfl) ?_);try simp only [Ep]
   refine Rdy 11 rfl (fun K hK=>?_);obtain ⟨b4,n4,c4,o4,d4,p4⟩:=Bk.h3 e0;go_simp
   generalize hnw:World.setCell _ _ _=w7;have n0:=nmh hnw;clear hnw
   replace hC:=((((hC.sN _ _ _).sN _ _ _).sN _ _ _)).trans (Cb n0);replace hR:=(((hR.kC _ _ _).kC _ _ _).kC _ _ _).below n0;have v2:=n0.size;simp only [Ss] at v2;clear n4 b4 o4 c4 p4 d4;replace w0:=Ob (Oe (Oe (Oe w0 _ _ (fun h=>by have:=g1 _ h;omega) _) _ _ (fun h=>by have:=g1 _ h;omega) _) _ _ (fun h=>by have:=g1 _ h;omega) _) n0;replace b0:=Bb (Bk.nn (Bk.nn (Bk.nn b0 _) _) _) n0;refine hK.out _ _ ⟨Bk.ce b0 1,Bk.ce b0 0,Bk.ce b0 2⟩ (fun hHeld=>?_);clear hK K;try simp only [Ep]
   refine Dn ?_;clear hHeld;have hT:=Hi (KidsAt.node (W:=w7) (b8:=w.heap.size) (d:=d+1) (rs:=[⟨k,kv,none,0,0⟩]) (l:=[.mk k kv []]) (a:=some ⟨w5.heap.size,0,none⟩) (c:=1) ⟨rfl,Om w0 (by omega),fun j h1 h2=>by (have hj:j=0:=by simp at h1;omega);subst hj;exact ExAt.leaf k kv,fun x hx=>by rw [List.mem_singleton.1 hx];exact ⟨by simp [Ex.kids],fun x hx=>by simp [Ex.kids] at hx⟩⟩ (by simp) 3 i);have tC:=hC;have tR:=hR;replace e0:=Bb (Bk.t3 e0 (.int .i64 3) (.int .i64 i) (.slice (some ⟨w5.heap.size,0,none⟩) 1 1)) n0;obtain ⟨t6,e7,v6,f7,x6,g7⟩:=Bk.h3 e0;obtain ⟨n7,o7,p7⟩:=Bk.g3 e0;have tt:=True.intro;go_wp2
   exact bodyPost_ret (v:=.agg #[.int .i64 3,.int .i64 i,.slice (some ⟨w5.heap.size,0,none⟩) 1 1]) (by simp [results,Tryz.results137,go_sem,n7,o7,p7]) rfl (by exact ⟨⟨3,i,some ⟨w5.heap.size,0,none⟩,1,1⟩,.mk 3 i [.mk k kv []],_,rfl,ExAt.keep (S:=fun _=>False) (Cb (Bs _)) (fun _ _ _=>id) (fun q (hq:w.heap.size < q) _=>by show w.heap.size≤q;omega) (by omega) hT.out.1,Thin.mono (by omega) hT.out.2,tR,by have:=j1.out;omega,tC⟩)
  have a6:=Hi har;clear har o3 h0 q0;go_wp2_with fail
  refine (l2Arity_any _ _).mono ?_;rintro e w3 ⟨rfl,q5⟩;rw [a6.out];have hb:Below ((World.alloc w2 (.cells #[.int .i64 kd,.int .i64 0,.slice none 0 0] 73))).heap.size ((World.alloc w2 (.cells #[.int .i64 kd,.int .i64 0,.slice none 0 0] 73))) w3:=by rw [q5];exact Bs _
  clear q5;replace hC:=((hC.trans (Cb (bal (Bs _) _)))).trans (Cb hb);replace hR:=(hR.below (bal (Bs _) _)).below hb;have x2:=hb.size;simp only [Sa] at x2;replace b0:=Bk.kg (Bk.al b0 _) l0;replace b0:=Bb (Bk.al b0 _) hb;replace e0:=Bk.kg (Bk.al e0 _) l0;replace e0:=Bb (Bk.al e0 _) hb;have k1:=Bb (Bk.n3 (w2.heap.size)) hb;clear hb;have m6:=Bk.lz k1;obtain ⟨x1,s4,y1,t4,z1,j2⟩:=Bk.h3 k1;obtain ⟨a2,x4,b2,y4,e2,z4⟩:=Bk.h3 b0;obtain ⟨f2,k2,g2,l2,a1,b1⟩:=Bk.h3 e0;have c6:=Hi (show _∧_∧_∧_∧_∧_∧_∧_∧_∧_∧_∧_∧_ from ⟨x1,y1,z1,j2,a2,b2,e2,f2,g2,a1,k2,l2,b1⟩);have j6:w.heap.size≤w2.heap.size∧w2.heap.size < w3.heap.size∧w.heap.size≤w.heap.size+1∧w.heap.size+1 < w2.heap.size:=by omega
  have g5:Hid (let wr:=w3;∃ i,i=Value.int .i64 (ar:Nat)∧(∃ (k:Nat) (rs:List En) (l:List Ex) (a:Option Addr) (c pk:Nat),k≤ar∧i=.int .i64 ((ar:Int)-k)∧l.length=k∧KidsAt wr w2.heap.size (d+1) (.slice a k c) rs l∧wr.cell? ⟨w2.heap.size,0,none⟩=some (.int .i64 kd)∧wr.cell? ⟨w2.heap.size,1,none⟩=some (.int .i64 0)∧wr.cell? ⟨w2.heap.size,2,none⟩=some (.slice a k c)∧wr.frozen? ⟨w2.heap.size,2,none⟩=false∧wr.cell? ⟨w.heap.size,0,none⟩=some (.slice pv nv cv)∧wr.cell? ⟨w.heap.size,1,none⟩=some (.slice pa na ca)∧wr.cell? ⟨w.heap.size,2,none⟩=some (vb)∧wr.cell? ⟨w.heap.size+1,0,none⟩=some (.int .i64 0)∧wr.cell? ⟨w.heap.size+1,1,none⟩=some (.int .i64 0)∧wr.cell? ⟨w.heap.size+1,2,none⟩=some (.slice none 0 0)∧wr.frozen? ⟨w.heap.size+1,0,none⟩=false∧wr.frozen? ⟨w.heap.size+1,1,none⟩=false∧wr.frozen? ⟨w.heap.size+1,2,none⟩=false∧Rnd wr B g pk∧pk≤p+2+k*dcost d∧Chg (fun q=>q=g) w wr∧wr.heap.size≤wr.heap.size)):=Hi ⟨_,rfl,0,[],[],none,0,p+1+1,by omega,by simp,rfl,KidsAt.nil,x1,y1,z1,j2,a2,b2,e2,f2,g2,a1,k2,l2,b1,hR,by omega,hC,Lr⟩;clear c6 hR hC b0 e0 k1 x1 s4 y1 t4 z1 j2 a2 x4 b2 y4 e2 z4 f2 k2 g2 l2 a1 b1;go_wp2_with fail
  go_loopw [9] (fun i wr=>∃ (k:Nat) (rs:List En) (l:List Ex) (a:Option Addr) (c pk:Nat),k≤ar∧i=.int .i64 ((ar:Int)-k)∧l.length=k∧KidsAt wr w2.heap.size (d+1) (.slice a k c) rs l∧wr.cell? ⟨w2.heap.size,0,none⟩=some (.int .i64 kd)∧wr.cell? ⟨w2.heap.size,1,none⟩=some (.int .i64 0)∧wr.cell? ⟨w2.heap.size,2,none⟩=some (.slice a k c)∧wr.frozen? ⟨w2.heap.size,2,none⟩=false∧wr.cell? ⟨w.heap.size,0,none⟩=some (.slice pv nv cv)∧wr.cell? ⟨w.heap.size,1,none⟩=some (.slice pa na ca)∧wr.cell? ⟨w.heap.size,2,none⟩=some (vb)∧wr.cell? ⟨w.heap.size+1,0,none⟩=some (.int .i64 0)∧wr.cell? ⟨w.heap.size+1,1,none⟩=some (.int .i64 0)∧wr.cell? ⟨w.heap.size+1,2,none⟩=some (.slice none 0 0)∧wr.frozen? ⟨w.heap.size+1,0,none⟩=false∧wr.frozen? ⟨w.heap.size+1,1,none⟩=false∧wr.frozen? ⟨w.heap.size+1,2,none⟩=false∧Rnd wr B g pk∧pk≤p+2+k*dcost d∧Chg (fun q=>q=g) w wr∧wr.heap.size≤wr.heap.size) (fun i _=>(intOf i).toNat)
  case atStart=>obtain ⟨i,hi,h⟩:=g5.out;rw [hi] at h;exact h
  case round =>
   obtain ⟨k,rs,l,a,c,pk,hk,rfl,j3,j0,d0,d1,d2,df,c0,c1,c2,s0,s1,s2,x0,y0,z0,hR,r7,hC,s7⟩:=hrel;clear g5;have k8:=Lc d0;have k4:=Lc c0;have k6:=Lc s0;have e3:=j0.own.lt;by_cases hlt:k < ar
   ·have qi:(0:Int) < (ar:Int)-k:=by omega
    have q7:k*dcost d≤2*dcost d:=Nat.mul_le_mul_right _ (by omega);have i6:pk+dcost d≤1000000000:=by have:=j1.out;omega
    have f6:Hid (IntKind.i64.wrap (d:Int)=d):=Hi (IntWalk.i64_in _ (by omega));have b3:=Hi j3;clear j3;have n2:∀ q,(Value.slice a k c).ownBlock=some q→q < wr.heap.size:=fun q hq=>(j0.own.lt q hq).2
    go_upto_region 12 with (fail)
    have y2:=Lc d0;have z2:=Lc c0;have a3:=Lc s0;refine Rgl (S:=fun W'=>W'.cell? ⟨w2.heap.size,2,none⟩=some (.slice a k c)∧W'.cell? ⟨w.heap.size,0,none⟩=some (.slice pv nv cv)∧W'.cell? ⟨w.heap.size,1,none⟩=some (.slice pa na ca)∧W'.cell? ⟨w.heap.size,2,none⟩=some (vb)) 10 (fun W d=>⟨Kc d d2,Kc d c0,Kc d c1,Kc d c2⟩) (fun w4 hb hHeld=>?_);have f0:=j0.below hb;replace hC:=(hC).trans (Cb hb);replace hR:=hR.below hb;have k3:=hb.size;replace df:=Kf hb (Lc d2) df;replace x0:=Kf hb (Lc s0) x0;replace y0:=Kf hb (Lc s1) y0;replace z0:=Kf hb (Lc s2) z0;replace d0:=Kc hb d0;replace d1:=Kc hb d1;replace d2:=Kc hb d2;replace c0:=Kc hb c0;replace c1:=Kc hb c1;replace c2:=Kc hb c2;replace s0:=Kc hb s0;replace s1:=Kc hb s1;replace s2:=Kc hb s2;clear hb;clear j0;have j0:=f0;clear f0;refine (Lq1 0 51 rfl rfl ?_ ?_ (Lq1 1 52 rfl rfl ?_ ?_ (Lq1 2 53 rfl rfl ?_ ?_ (Lq1 3 54 rfl rfl ?_ ?_ (Lq1 4 55 rfl rfl ?_ ?_ (Lq1 5 56 rfl rfl ?_ ?_ ?_))))));iterate 6 (rotate_left;intro W' hSw;(try dsimp only at hSw);go_simp;try with_reducible rfl)
    try simp only [Ep]
    refine Lrdy 6 rfl (fun K hK=>?_);go_simp
    rw [f6.out];refine (IH pk _ (by omega) hR i6).mono ?_;rintro e w5 ⟨n,e,p1,rfl,hE,g6,g0,p2,hc⟩;have f0:=j0.keep hc (fun q hq (h:q=g)=>by omega);replace hC:=(hC).trans hc;replace hR:=g0;clear g0;have l3:=hc.size;replace df:=Gf hc (Lc d2) df (fun h=>by have:=t1 _ h;omega);replace x0:=Gf hc (Lc s0) x0 (fun h=>by have:=t1 _ h;omega);replace y0:=Gf hc (Lc s1) y0 (fun h=>by have:=t1 _ h;omega);replace z0:=Gf hc (Lc s2) z0 (fun h=>by have:=t1 _ h;omega);replace d0:=Gg hc d0;replace d1:=Gg hc d1;replace d2:=Gg hc d2;replace c0:=Gg hc c0;replace c1:=Gg hc c1;replace c2:=Gg hc c2;replace s0:=Gg hc s0;replace s1:=Gg hc s1;replace s2:=Gg hc s2;clear hc;clear j0;have j0:=f0;clear f0;replace y2:=Lc d0;replace z2:=Lc c0;replace a3:=Lc s0;refine hK.out _ _ ⟨d2,c0,c1,c2⟩ (fun hHeld=>?_);clear hK K;try simp only [Ep]
    refine Lrdy 7 rfl (fun K hK=>?_);go_simp
    generalize hnw:World.alloc _ _=w6;have hb:=nmh hnw;clear hnw
    have f0:=(j0.below (bal (Bs _) (.cells #[.int .i64 n.k,.int .i64 n.v,.slice n.p n.n n.c] 73))).below hb;replace hC:=((hC.trans (Cb (bal (Bs _) _)))).trans (Cb hb);replace hR:=(hR.below (bal (Bs _) _)).below hb;have k0:=Ob (World.ownsRow_lit (base:=(w5).heap.size) (e:=73) (size:=3) (w5) #[.int .i64 n.k,.int .i64 n.v,.slice n.p n.n n.c] 1 Lr (by unfold maxLen;omega) (by simp)) hb;try simp only [Sa,Ss] at k0
    replace hE:=((hE.below (bal (Bs _) _)).below hb);have n1:=hb.size;simp only [Sa] at n1;replace df:=Kf hb (Lc (Ac d2 _)) (Fa (Lc d2) df _);replace x0:=Kf hb (Lc (Ac s0 _)) (Fa (Lc s0) x0 _);replace y0:=Kf hb (Lc (Ac s1 _)) (Fa (Lc s1) y0 _);replace z0:=Kf hb (Lc (Ac s2 _)) (Fa (Lc s2) z0 _);replace d0:=Kc hb (Ac d0 _);replace d1:=Kc hb (Ac d1 _);replace d2:=Kc hb (Ac d2 _);replace c0:=Kc hb (Ac c0 _);replace c1:=Kc hb (Ac c1 _);replace c2:=Kc hb (Ac c2 _);replace s0:=Kc hb (Ac s0 _);replace s1:=Kc hb (Ac s1 _);replace s2:=Kc hb (Ac s2 _);have o0:=Bb (Bk.n3 (w5.heap.size)) hb;clear hb;have v0:=k0.lt;try simp only [Sa] at v0
    clear j0;have j0:=f0;clear f0;have r5:=Bk.lz o0;refine hK.out _ _ ⟨d2,c0,c1,c2⟩ (fun hHeld=>?_);clear hK K;try simp only [Ep]
    refine Lrdy 8 rfl (fun K hK=>?_);have e3:=j0.own.lt;have iK:∀ q,(Value.slice a k c).ownBlock=some q→w.heap.size≤q∧w2.heap.size < q∧q < w4.heap.size:=fun q hq=>by have h1:=n2 q hq;have h2:=e3 q hq;omega
    have m2:w6.ownsRow (w2.heap.size+1) 73 3 (.slice a k c) k (rows enc rs):=by have h:=j0.own;rw [b3.out] at h;exact h
    refine step_aps tExprs rfl _ _ rfl (w2.heap.size+1) _ k (rows enc rs) rfl m2 _ 1 (enc n) rfl (Ro k0 (by simp)) (one_enc n) (by omega) (by omega) ?_;intro vA w7 oA hc i5 _;obtain ⟨pA,tA,rfl⟩:=Oh oA;have f0:=KidsAt.push j0 (by rw [b3.out];exact oA) hc i5 hE g6 (by omega) (fun q hq=>by have:=n2 q hq;omega);replace hC:=chg_app hC hc (fun q hq h=>by have:=iK q h;omega);replace hR:=hR.keep hc (fun h=>by have:=iK _ h;omega) (fun k hk h=>by have:=iK _ h;omega);replace hE:=ExAt.keep hc (fun q (hq:w4.heap.size≤q) _ h=>by have:=iK q h;omega) (fun _ h _=>h) Lr hE;have m3:=hc.size;replace df:=Gf hc (Lc d2) df (fun h=>by have:=iK _ h;omega);replace x0:=Gf hc (Lc s0) x0 (fun h=>by have:=iK _ h;omega);replace y0:=Gf hc (Lc s1) y0 (fun h=>by have:=iK _ h;omega);replace z0:=Gf hc (Lc s2) z0 (fun h=>by have:=iK _ h;omega);replace d0:=Gc hc d0 (fun h=>by have:=iK _ h;omega);replace d1:=Gc hc d1 (fun h=>by have:=iK _ h;omega);replace d2:=Gc hc d2 (fun h=>by have:=iK _ h;omega);replace c0:=Gc hc c0 (fun h=>by have:=iK _ h;omega);replace c1:=Gc hc c1 (fun h=>by have:=iK _ h;omega);replace c2:=Gc hc c2 (fun h=>by have:=iK _ h;omega);replace s0:=Gc hc s0 (fun h=>by have:=iK _ h;omega);replace s1:=Gc hc s1 (fun h=>by have:=iK _ h;omega);replace s2:=Gc hc s2 (fun h=>by have:=iK _ h;omega);replace k0:=Ow k0 hc (fun gq h h2=>by have:=v0 gq h;have:=iK gq h2;omega);replace o0:=Bk.keep o0 hc (fun h=>by have:=iK _ h;omega);clear hc;clear j0;have j0:=f0;clear f0;clear i5 oA m2 iK e3;refine hK.out _ _ ⟨d2,c0,c1,c2⟩ (fun hHeld=>?_);clear hK K;try simp only [Ep]
    refine (Lq1 9 60 rfl rfl ?_ ?_ ?_);(rotate_left;intro W' hSw;(try dsimp only at hSw);go_simp;try with_reducible rfl)
    try simp only [Ep]
    refine Lend 10 rfl (fun K hK=>?_);go_simp
    generalize hnw:World.setCell _ _ _=w8;have a0:=nmh hnw;clear hnw
    have f0:=(j0.keep (C1 (w2.heap.size) 2 (.slice pA (k+1) tA)) (fun q hq (h:q=(w2.heap.size))=>by omega)).below a0;replace hC:=((hC.sN _ _ _)).trans (Cb a0);replace hR:=(hR.kC _ _ _).below a0;have o1:=a0.size;simp only [Ss] at o1;replace df:=Kf a0 (Lc (Tc _ (w2.heap.size) 2 (.slice pA (k+1) tA) d2)) (Fs df _);replace x0:=Kf a0 (Lc (Nn s0 _)) (Fs x0 _);replace y0:=Kf a0 (Lc (Nn s1 _)) (Fs y0 _);replace z0:=Kf a0 (Lc (Nn s2 _)) (Fs z0 _);replace d0:=Kc a0 (Nn d0 _);replace d1:=Kc a0 (Nn d1 _);replace d2:w8.cell? ⟨w2.heap.size,2,none⟩=some (.slice pA (k+1) tA):=Kc a0 (Tc _ (w2.heap.size) 2 (.slice pA (k+1) tA) d2);replace c0:=Kc a0 (Nn c0 _);replace c1:=Kc a0 (Nn c1 _);replace c2:=Kc a0 (Nn c2 _);replace s0:=Kc a0 (Nn s0 _);replace s1:=Kc a0 (Nn s1 _);replace s2:=Kc a0 (Nn s2 _);replace k0:=Ob (Oe k0 _ _ (fun h=>by have:=v0 _ h;omega) _) a0;clear j0;have j0:=f0;clear f0;refine hK.out _ _ trivial (fun hHeld=>?_);clear hK K;try simp only [Ep]
    refine Dn ?_;clear hHeld;have j5:(l++[e]).length=k+1:=by rw [List.length_append,b3.out];rfl
    have d6:=Hi j5;clear j5;have o2:(k+1)*dcost d=k*dcost d+dcost d:=Nat.succ_mul _ _;have e6:=Hi o2;clear o2;have b6:=Hi j0;clear j0;have HH:=Hi (Ai hR hC);clear hR hC;go_wp2
    go_roundw
    case rel=>exact ⟨k+1,rs++[n],l++[e],pA,tA,p1,by omega,by congr 1;omega,d6.out,b6.out,d0,d1,d2,df,c0,c1,c2,s0,s1,s2,x0,y0,z0,HH.out.1,by have:=e6.out;omega,HH.out.2,by omega⟩
    case measure=>simp [intOf];omega
   have h6:k=ar:=by omega
   subst h6;subst j3;have h5:=Hi (KidsAt.node j0 (by omega) kd 0);clear j0;have s5:=Lc d0;have t5:=Lc c0;have v5:=Lc s0;have tE:=Hi (ExAt.keep (C1 (w.heap.size+1) 2 (.slice a l.length c)) (fun q (hq:w2.heap.size < q) _ (h:q=(w.heap.size+1))=>by omega) (fun _ h _=>h) Lr (ExAt.keep (C1 (w.heap.size+1) 1 (.int .i64 0)) (fun q (hq:w2.heap.size < q) _ (h:q=(w.heap.size+1))=>by omega) (fun _ h _=>h) Lr (ExAt.keep (C1 (w.heap.size+1) 0 (.int .i64 kd)) (fun q (hq:w2.heap.size < q) _ (h:q=(w.heap.size+1))=>by omega) (fun _ h _=>h) Lr h5.out.1)));have tC:=(((hC.sN (w.heap.size+1) (0) (.int .i64 kd)).sN (w.heap.size+1) (1) (.int .i64 0)).sN (w.heap.size+1) (2) (.slice a l.length c));have tR:=(((hR.kC (w.heap.size+1) (0) (.int .i64 kd)).kC (w.heap.size+1) (1) (.int .i64 0)).kC (w.heap.size+1) (2) (.slice a l.length c));have a5:=(Nn (b:=(w.heap.size+1)) (j:=2) (Nn (b:=(w.heap.size+1)) (j:=1) (Tc _ (w.heap.size+1) 0 (.int .i64 kd) s0) (.int .i64 0)) (.slice a l.length c));have b5:=(Nn (b:=(w.heap.size+1)) (j:=2) (Tc _ (w.heap.size+1) 1 (.int .i64 0) (Nn (b:=(w.heap.size+1)) (j:=0) s1 (.int .i64 kd))) (.slice a l.length c));have d5:=(Tc _ (w.heap.size+1) 2 (.slice a l.length c) (Nn (b:=(w.heap.size+1)) (j:=1) (Nn (b:=(w.heap.size+1)) (j:=0) s2 (.int .i64 kd)) (.int .i64 0)));have tt:=True.intro;go_wp2
   exact bodyPost_ret (v:=.agg #[.int .i64 kd,.int .i64 0,.slice a l.length c]) (by simp [results,Tryz.results137,go_sem,a5,b5,d5]) rfl (by exact ⟨⟨kd,0,a,l.length,c⟩,.mk kd 0 l,_,rfl,ExAt.keep (S:=fun _=>False) (Chg.refl _ _) (fun _ _ _=>id) (fun q (hq:w2.heap.size < q) _=>by show w.heap.size≤q;omega) (by omega) tE.out,Thin.mono (by omega) h5.out.2,tR,by have:=j1.out;have:l.length*dcost d≤3*dcost d:=Nat.mul_le_mul_right _ (by omega);omega,tC⟩)
end Go.Proofs.YtlckklglbodgbaaGreat
