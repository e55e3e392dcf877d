/-
 Parts of the proofs of the laws FnRemoveDead,FnRemoveDeadLeak,FnSpecFenced,FnSpecMemory.
-/
import Derived.Deep.CutBlock
import Derived.Test.YtnpidfbcbmeijaaGreatPY
import Derived.Test.YtnpidfbcbmeijaaGreatZM
set_option linter.all false
namespace Go.Proofs.YtnpidfbcbmeijaaGreat
open Go.RowKit
structure OwnR (w:World) (base:Nat) (v:Value) (n:Nat):Prop where
 h:∃ xs:List Int,xs.length=n∧w.ownsRow base 3 1 v n (ints xs)
section
variable {w w':World} {base n:Nat} {v:Value}
theorem OwnR.keep (h:OwnR w base v n) {S:Nat→Prop} (hc:Chg S w w') (hs:∀ q,v.ownBlock=some q→¬S q):OwnR w' base v n:=by
 obtain ⟨xs,h1,h2⟩:=h.h;exact ⟨xs,h1,Ow h2 hc hs⟩
theorem OwnR.below (h:OwnR w base v n) (hb:Below w.heap.size w w'):OwnR w' base v n:=h.keep (S:=fun _=>False) (Cb hb) (fun _ _=>id)
theorem OwnR.put {g c:Nat} (h:OwnR w base v n) (hv:v=.slice (some ⟨g,0,none⟩) n c) (k:Nat) (z:Int):OwnR (w.setCell ⟨g,k,none⟩ (.int .i64 z)) base v n:=by
 subst hv;obtain ⟨xs,h1,h2⟩:=h.h;have h3:=(h2.stored k (.int .i64 z)).1;rw [ints_set] at h3;exact ⟨xs.set k z,by rw [List.length_set];exact h1,h3⟩
theorem OwnR.pos (h:OwnR w base v n) (hn:0 < n):∃ g c,v=.slice (some ⟨g,0,none⟩) n c:=by
 obtain ⟨xs,_,h2⟩:=h.h;exact own_pos h2 hn
theorem OwnR.at {g c:Nat} (h:OwnR w base (.slice (some ⟨g,0,none⟩) n c) n) (k:Nat) (hk:k < n):(∃ x:Int,w.cell? ⟨g,k,none⟩=some (.int .i64 x))∧w.frozen? ⟨g,k,none⟩=false:=by
 obtain ⟨xs,rfl,h2⟩:=h.h;exact ⟨⟨xs[k],by rw [h2.cellAt k (by omega),ints_at xs k hk]⟩,h2.frozenAt k⟩
theorem OwnR.lt (h:OwnR w base v n):∀ q,v.ownBlock=some q→base≤q∧q < w.heap.size:=by
 obtain ⟨xs,_,h2⟩:=h.h;exact h2.lt
end
end Go.Proofs.YtnpidfbcbmeijaaGreat
namespace Go.Proofs.YtnpidfbcbmeijaaGreat
open Go.RowKit
def L7B (la fa:Option Addr) (q:Nat):Prop:=(Value.slice la 0 0).ownBlock=some q∨(Value.slice fa 0 0).ownBlock=some q
theorem blk_len {a:Option Addr} {n c n' c':Nat}:(Value.slice a n c).ownBlock=(Value.slice a n' c').ownBlock:=by cases a <;> rfl
structure L7 (w:World) (base:Nat) (la fa:Option Addr) (k lc fc:Nat):Prop where
 l:∃ il:List Ins,il.length=k∧w.ownsRow base 62 5 (.slice la k lc) k (inss il)
 f:∃ fl:List Int,fl.length=k∧w.ownsRow base 3 1 (.slice fa k fc) k (ints fl)
section
variable {w w':World} {base:Nat} {la fa:Option Addr} {k lc fc:Nat}
theorem L7.lt (h:L7 w base la fa k lc fc):∀ q,L7B la fa q→base≤q∧q < w.heap.size:=by
 obtain ⟨⟨il,_,h1⟩,⟨fl,_,h2⟩⟩:=h;rintro q (hq | hq)
 ·exact h1.lt q (by rw [← hq];exact blk_len)
 exact h2.lt q (by rw [← hq];exact blk_len)
theorem L7.keep (h:L7 w base la fa k lc fc) {S:Nat→Prop} (hc:Chg S w w') (hs:∀ q,L7B la fa q→¬S q):L7 w' base la fa k lc fc:=by
 obtain ⟨⟨il,e1,h1⟩,⟨fl,e2,h2⟩⟩:=h;exact ⟨⟨il,e1,Ow h1 hc (fun q hq=>hs q (Or.inl (by rw [← hq];exact blk_len)))⟩,⟨fl,e2,Ow h2 hc (fun q hq=>hs q (Or.inr (by rw [← hq];exact blk_len)))⟩⟩
theorem L7.below (h:L7 w base la fa k lc fc) (hb:Below w.heap.size w w'):L7 w' base la fa k lc fc:=h.keep (S:=fun _=>False) (Cb hb) (fun _ _=>id)
theorem L7.nil:L7 w base none none 0 0 0:=⟨⟨[],rfl,World.ownsRow_nil _ _ _ _⟩,⟨[],rfl,World.ownsRow_nil _ _ _ _⟩⟩
end
set_option maxHeartbeats 6400000 in
set_option maxRecDepth 100000 in
theorem l7Add_any (base:Nat) (la fa:Option Addr) (lc fc k:Nat) (ap stmt x0 x1 x2 x3 x4:Int) (w:World) (hL:L7 w base la fa k lc fc) (hb:base≤w.heap.size) (hk:k≤1000000) :
  Calls Tryz.prog 125 #[.agg #[.slice la k lc,.slice fa k fc,.int .i64 ap],.int .i64 stmt,.agg #[.int .i64 x0,.int .i64 x1,.int .i64 x2,.int .i64 x3,.int .i64 x4]] w fun r w'=>∃ (la' fa':Option Addr) (lc' fc' k':Nat),r=.returned (.agg #[.slice la' k' lc',.slice fa' k' fc',.int .i64 ap])∧L7 w' base la' fa' k' lc' fc'∧(∀ q,L7B la' fa' q→L7B la fa q∨w.heap.size≤q)∧k'=k+1∧Chg (fun q=>L7B la fa q) w w':=by
 have p2:=hL.lt;obtain ⟨⟨il,n1,oI⟩,⟨fl,m1,oF⟩⟩:=hL;have q1:=Hi n1;have o1:=Hi m1;clear n1 m1;have l1:=own_diff oI oF (by decide);have a0:∀ q,(Value.slice la k lc).ownBlock=some q→q < w.heap.size:=fun q h=>(oI.lt q h).2
 have e0:∀ q,(Value.slice fa k fc).ownBlock=some q→q < w.heap.size:=fun q h=>(oF.lt q h).2
 have b0:Chg (fun q=>L7B la fa q) w w:=Chg.refl _ _;have p1:=Hi l1;clear l1;go_enter Tryz.func125,Tryz.ntmps125
 go_upto_region 1 with (fail)
 obtain ⟨w1,g0,hb⟩:=nmw (World.alloc (World.alloc (World.alloc w (.cells #[.slice la k lc,.slice fa k fc,.int .i64 ap] 135)) (.cells #[.int .i64 x0,.int .i64 x1,.int .i64 x2,.int .i64 x3,.int .i64 x4] 62)) (.cells #[.slice none 0 0,.slice none 0 0,.int .i64 0] 135));have d0:=(((b0.trans (Cb (bal (Bs _) (.cells #[.slice la k lc,.slice fa k fc,.int .i64 ap] 135)))).trans (Cb (bal (Bs _) (.cells #[.int .i64 x0,.int .i64 x1,.int .i64 x2,.int .i64 x3,.int .i64 x4] 62)))).trans (Cb (bal (Bs _) (.cells #[.slice none 0 0,.slice none 0 0,.int .i64 0] 135)))).trans (Cb hb);have y0:=hb.size;simp only [Sa] at y0;replace oI:=Ob (Ob (Ob (Ob oI (bal (Bs _) _)) (bal (Bs _) _)) (bal (Bs _) _)) hb;replace oF:=Ob (Ob (Ob (Ob oF (bal (Bs _) _)) (bal (Bs _) _)) (bal (Bs _) _)) hb;have c0:Bk w1 (w.heap.size) [.slice la k lc,.slice fa k fc,.int .i64 ap]:=Bb (Bk.al (Bk.al (Bk.nw (by simp) rfl) (.cells #[.int .i64 x0,.int .i64 x1,.int .i64 x2,.int .i64 x3,.int .i64 x4] 62)) (.cells #[.slice none 0 0,.slice none 0 0,.int .i64 0] 135)) hb;have o0:w1.cell? ⟨w.heap.size+1,0,none⟩=some (.int .i64 x0):=Kc hb (Ac (Wc (by simp) (by rfl)) _);have t0:w1.cell? ⟨w.heap.size+1,1,none⟩=some (.int .i64 x1):=Kc hb (Ac (Wc (by simp) (by rfl)) _);have u0:w1.cell? ⟨w.heap.size+1,2,none⟩=some (.int .i64 x2):=Kc hb (Ac (Wc (by simp) (by rfl)) _);have v0:w1.cell? ⟨w.heap.size+1,3,none⟩=some (.int .i64 x3):=Kc hb (Ac (Wc (by simp) (by rfl)) _);have w0:w1.cell? ⟨w.heap.size+1,4,none⟩=some (.int .i64 x4):=Kc hb (Ac (Wc (by simp) (by rfl)) _);have f0:Bk w1 (w.heap.size+1+1) [.slice none 0 0,.slice none 0 0,.int .i64 0]:=Bb (Bk.nw (by simp) rfl) hb;clear hb;clear b0;have b0:=d0;clear d0;rw [← g0];clear g0;have v1:=Bk.lz c0;have u1:=Lc o0;have z0:=Bk.lz f0;obtain ⟨a1,f1⟩:=Bk.cf c0 0 rfl;go_wp2_with (at_builtin;go_must (refine wpList_aps tInstrs rfl _ _ rfl base _ k (inss il) rfl (Ob oI (bal (Bs _) (.cells #[.int .i64 x0,.int .i64 x1,.int .i64 x2,.int .i64 x3,.int .i64 x4] 62))) _ 1 (insc ⟨x0,x1,x2,x3,x4⟩) rfl (Ro (World.ownsRow_lit (base:=(w1).heap.size) (e:=62) (size:=5) (w1) #[.int .i64 x0,.int .i64 x1,.int .i64 x2,.int .i64 x3,.int .i64 x4] 1 Lr (by unfold maxLen;omega) (by simp)) (by simp)) (one_insc ⟨x0,x1,x2,x3,x4⟩) (by omega) (by first | omega | (simp only [Sa,Ss];omega)) ?_))
 intro vA w2 oX hc i0 _;obtain ⟨pX,tX,rfl⟩:=Oh oX;have d0:=chg_app (b0.trans (Cb (bal (Bs _) (.cells #[.int .i64 x0,.int .i64 x1,.int .i64 x2,.int .i64 x3,.int .i64 x4] 62)))) hc (fun q hq h=>Or.inl (by rw [← h];exact blk_len));have h0:∀ q,(Value.slice pX (k+1) tX).ownBlock=some q→(Value.slice la k lc).ownBlock=some q∨w.heap.size+3≤q:=fun q h=>by rcases i0 with e1 | ⟨g,e1,e2⟩;(exact Or.inl (by rw [← h,← e1]));(rw [e1] at h;have:=Si h;simp only [Sa,Ss] at e2;exact Or.inr (by omega))
 have j0:=hc.size;simp only [Sa] at j0;clear f1 a1;replace oF:=Ow (Ob oF (bal (Bs _) _)) hc (fun gq h h2=>(fun gq h h2=>p1.out gq h2 h) gq h h2);replace o0:=Gc hc (Ac o0 _) (fun h=>by have:=a0 _ h;omega);replace t0:=Gc hc (Ac t0 _) (fun h=>by have:=a0 _ h;omega);replace u0:=Gc hc (Ac u0 _) (fun h=>by have:=a0 _ h;omega);replace v0:=Gc hc (Ac v0 _) (fun h=>by have:=a0 _ h;omega);replace w0:=Gc hc (Ac w0 _) (fun h=>by have:=a0 _ h;omega);replace c0:=Bk.keep (Bk.al c0 _) hc (fun h=>by have:=a0 _ h;omega);replace f0:=Bk.keep (Bk.al f0 _) hc (fun h=>by have:=a0 _ h;omega);have r0:Bk w2 (w1.heap.size) [.int .i64 x0,.int .i64 x1,.int .i64 x2,.int .i64 x3,.int .i64 x4]:=Bk.keep (Bk.nw (by simp) rfl) hc (fun h=>by have:=a0 _ h;omega);clear hc;clear b0;have b0:=d0;clear d0;have n0:∀ q,(Value.slice pX (k+1) tX).ownBlock=some q→(q < w.heap.size∨w.heap.size+3≤q)∧q < w2.heap.size:=fun q h=>by have h2:=oX.lt q h;rcases h0 q h with h1 | h1;(have:=a0 q h1;omega);omega
 have r1:=Hi h0;clear h0 i0 oI;clear o0 t0 u0 v0 w0 r0;have t1:=Hi (own_diff oX oF (by decide));obtain ⟨b1,g1⟩:=Bk.cf c0 0 rfl;go_upto_region 2 with (fail)
 obtain ⟨w3,g0,hb⟩:=nmw (World.setCell w2 ⟨w.heap.size,0,none⟩ (.slice pX (k+1) tX));have d0:=(b0.sN (w.heap.size) 0 (.slice pX (k+1) tX)).trans (Cb hb);have k0:=hb.size;simp only [Ss] at k0;clear g1 b1;replace oF:=Ob (Oe oF _ _ (fun h=>by have:=e0 _ h;omega) _) hb;replace oX:=Ob (Oe oX _ _ (fun h=>by have:=n0 _ h;omega) _) hb;replace c0:Bk w3 (w.heap.size) [.slice pX (k+1) tX,.slice fa k fc,.int .i64 ap]:=Bb (Bk.at c0 0 (.slice pX (k+1) tX)) hb;replace f0:=Bb (Bk.nn f0 _) hb;clear hb;clear b0;have b0:=d0;clear d0;rw [← g0];clear g0;replace v1:=Bk.lz c0;replace z0:=Bk.lz f0;obtain ⟨c1,i1⟩:=Bk.cf c0 1 rfl;go_wp2_with (at_builtin;go_must (refine wpList_aps tInts rfl _ _ rfl base _ k (ints fl) rfl (Ob oF (bal (Bs _) (.cells #[.int .i64 stmt] 3))) _ 1 (ints [stmt]) rfl (Ro (World.ownsRow_lit (base:=(w3).heap.size) (e:=3) (size:=1) (w3) #[.int .i64 stmt] 1 Lr (by unfold maxLen;omega) (by simp)) (by simp)) (one_ints [stmt]) (by omega) (by first | omega | (simp only [Sa,Ss];omega)) ?_))
 intro vA w4 oY hc i0 _;obtain ⟨pY,tY,rfl⟩:=Oh oY;have d0:=chg_app (b0.trans (Cb (bal (Bs _) (.cells #[.int .i64 stmt] 3)))) hc (fun q hq h=>Or.inr (by rw [← h];exact blk_len));have h0:∀ q,(Value.slice pY (k+1) tY).ownBlock=some q→(Value.slice fa k fc).ownBlock=some q∨w.heap.size+3≤q:=fun q h=>by rcases i0 with e1 | ⟨g,e1,e2⟩;(exact Or.inl (by rw [← h,← e1]));(rw [e1] at h;have:=Si h;simp only [Sa,Ss] at e2;exact Or.inr (by omega))
 have l0:=hc.size;simp only [Sa] at l0;clear i1 c1;replace oX:=Ow (Ob oX (bal (Bs _) _)) hc (fun gq h h2=>(fun gq h h2=>t1.out gq h h2) gq h h2);replace c0:=Bk.keep (Bk.al c0 _) hc (fun h=>by have:=e0 _ h;omega);replace f0:=Bk.keep (Bk.al f0 _) hc (fun h=>by have:=e0 _ h;omega);have s0:w4.cell? ⟨w3.heap.size,0,none⟩=some (.int .i64 stmt):=Gc hc (Wc (by simp) (by rfl)) (fun h=>by have:=e0 _ h;omega);have q0:w4.frozen? ⟨w3.heap.size,0,none⟩=false:=Gf hc (by simp <;> omega) (Fn (by simp)) (fun h=>by have:=e0 _ h;omega);clear hc;clear b0;have b0:=d0;clear d0;have p0:∀ q,(Value.slice pY (k+1) tY).ownBlock=some q→(q < w.heap.size∨w.heap.size+3≤q)∧q < w4.heap.size:=fun q h=>by have h2:=oY.lt q h;rcases h0 q h with h1 | h1;(have:=e0 q h1;omega);omega
 have s1:=Hi h0;clear h0 i0 oF;clear s0 q0;obtain ⟨d1,j1⟩:=Bk.cf c0 1 rfl;go_upto_region 3 with (fail)
 obtain ⟨w5,g0,hb⟩:=nmw (World.setCell w4 ⟨w.heap.size,1,none⟩ (.slice pY (k+1) tY));have d0:=(b0.sN (w.heap.size) 1 (.slice pY (k+1) tY)).trans (Cb hb);have m0:=hb.size;simp only [Ss] at m0;clear j1 d1;replace oX:=Ob (Oe oX _ _ (fun h=>by have:=n0 _ h;omega) _) hb;replace oY:=Ob (Oe oY _ _ (fun h=>by have:=p0 _ h;omega) _) hb;replace c0:Bk w5 (w.heap.size) [.slice pX (k+1) tX,.slice pY (k+1) tY,.int .i64 ap]:=Bb (Bk.at c0 1 (.slice pY (k+1) tY)) hb;replace f0:=Bb (Bk.nn f0 _) hb;clear hb;clear b0;have b0:=d0;clear d0;rw [← g0];clear g0;obtain ⟨y1,f2,z1,g2,a2,i2⟩:=Bk.f3 c0 0 1 2 rfl rfl rfl;obtain ⟨b2,j2,c2,k2,d2,l2⟩:=Bk.f3 f0 0 1 2 rfl rfl rfl;have k1:=(Bk.at (Bk.at (Bk.at f0 0 (.slice pX (k+1) tX)) 1 (.slice pY (k+1) tY)) 2 (.int .i64 ap));obtain ⟨m2,n2,o2⟩:=Bk.g3 k1;have HX:=Hi (Oe (Oe (Oe oX (w.heap.size+1+1) 0 (fun h=>by have:=n0 _ h;omega) (.slice pX (k+1) tX)) (w.heap.size+1+1) 1 (fun h=>by have:=n0 _ h;omega) (.slice pY (k+1) tY)) (w.heap.size+1+1) 2 (fun h=>by have:=n0 _ h;omega) (.int .i64 ap));have HY:=Hi (Oe (Oe (Oe oY (w.heap.size+1+1) 0 (fun h=>by have:=p0 _ h;omega) (.slice pX (k+1) tX)) (w.heap.size+1+1) 1 (fun h=>by have:=p0 _ h;omega) (.slice pY (k+1) tY)) (w.heap.size+1+1) 2 (fun h=>by have:=p0 _ h;omega) (.int .i64 ap));have HE:=Hi (((b0.sN (w.heap.size+1+1) 0 (.slice pX (k+1) tX)).sN (w.heap.size+1+1) 1 (.slice pY (k+1) tY)).sN (w.heap.size+1+1) 2 (.int .i64 ap));clear oX oY b0 k1;go_wp2
 exact bodyPost_ret (v:=.agg #[.slice pX (k+1) tX,.slice pY (k+1) tY,.int .i64 ap]) (by simp [results,Tryz.results125,go_sem,m2,n2,o2]) rfl (by exact ⟨pX,pY,tX,tY,k+1,rfl,⟨⟨il++[⟨x0,x1,x2,x3,x4⟩],by rw [List.length_append,q1.out];rfl,by have h:=HX.out;rw [← rows_one insc,← rows_append] at h;exact h⟩,⟨fl++[stmt],by rw [List.length_append,o1.out];rfl,by have h:=HY.out;rw [← ints_append] at h;exact h⟩⟩,fun q h=>by
   rcases h with h | h
   ·rcases r1.out q (by rw [← h];exact blk_len) with h1 | h1
    ·exact Or.inl (Or.inl (by rw [← h1];exact blk_len))
    exact Or.inr (by omega)
   rcases s1.out q (by rw [← h];exact blk_len) with h1 | h1
   ·exact Or.inl (Or.inr (by rw [← h1];exact blk_len))
   exact Or.inr (by omega),rfl,HE.out⟩)
theorem inss_set (il:List Ins) (t:Nat) (ht:t < il.length) (j:Nat) (hj:j < 5) (v:Int):∃ il':List Ins,il'.length=il.length∧(inss il).set (t*5+j) (.int .i64 v)=inss il':=by
 induction il generalizing t with
 | nil=>simp at ht
 | cons x l ih =>
  have hx:(insc x).length=5:=insc_len x
  cases t with
  | zero =>
   have hc:∃ y:Ins,(insc x).set j (.int .i64 v)=insc y:=by
    have h5:j=0∨j=1∨j=2∨j=3∨j=4:=by omega
    rcases h5 with rfl | rfl | rfl | rfl | rfl
    ·exact ⟨⟨v,x.a,x.b,x.c,x.d⟩,rfl⟩
    ·exact ⟨⟨x.op,v,x.b,x.c,x.d⟩,rfl⟩
    ·exact ⟨⟨x.op,x.a,v,x.c,x.d⟩,rfl⟩
    ·exact ⟨⟨x.op,x.a,x.b,v,x.d⟩,rfl⟩
    exact ⟨⟨x.op,x.a,x.b,x.c,v⟩,rfl⟩
   obtain ⟨y,hy⟩:=hc;refine ⟨y::l,rfl,?_⟩;show (insc x++inss l).set (0*5+j) _=insc y++inss l
   rw [Nat.zero_mul,Nat.zero_add,List.set_append_left _ _ (by omega),hy]
  | succ t =>
   obtain ⟨l',h1,h2⟩:=ih t (by simp at ht;omega);refine ⟨x::l',by simp [h1],?_⟩;show (insc x++inss l).set ((t+1)*5+j) _=insc x++inss l'
   rw [List.set_append_right _ _ (by omega),hx,show (t+1)*5+j-5=t*5+j from by omega,h2]
theorem L7.pos {w:World} {base:Nat} {la fa:Option Addr} {k lc fc:Nat} (h:L7 w base la fa k lc fc) (hk:0 < k):∃ g,la=some ⟨g,0,none⟩:=by
 obtain ⟨⟨il,_,h1⟩,_⟩:=h;rcases h1.2 with ⟨_,h'⟩ | ⟨g,cap,_,h',_⟩
 ·omega
 simp only [Value.slice.injEq] at h';exact ⟨g,h'.1⟩
theorem L7.at {w:World} {base:Nat} {fa:Option Addr} {g k lc fc:Nat} (h:L7 w base (some ⟨g,0,none⟩) fa k lc fc) (t j:Nat) (ht:t < k) (hj:j < 5):(∃ x:Int,w.cell? ⟨g,t*5+j,none⟩=some (.int .i64 x))∧w.frozen? ⟨g,t*5+j,none⟩=false:=by
 obtain ⟨⟨il,hl,h1⟩,_⟩:=h;refine ⟨?_,h1.frozenAt _⟩;have a0:t < il.length:=by omega
 have hh:=h1.cellAt (t*5+j) (by omega);rw [rows_get insc_len il t a0 j hj] at hh;have h5:j=0∨j=1∨j=2∨j=3∨j=4:=by omega
 rcases h5 with rfl | rfl | rfl | rfl | rfl <;> exact ⟨_,hh⟩
theorem L7.put {w:World} {base:Nat} {fa:Option Addr} {g k lc fc:Nat} (h:L7 w base (some ⟨g,0,none⟩) fa k lc fc) (t j:Nat) (ht:t < k) (hj:j < 5) (v:Int):L7 (w.setCell ⟨g,t*5+j,none⟩ (.int .i64 v)) base (some ⟨g,0,none⟩) fa k lc fc:=by
 obtain ⟨⟨il,hl,h1⟩,⟨fl,hf,h2⟩⟩:=h;obtain ⟨il',e1,e2⟩:=inss_set il t (by omega) j hj v;have hs:=(h1.stored (t*5+j) (.int .i64 v)).1;rw [e2] at hs;exact ⟨⟨il',by omega,hs⟩,⟨fl,hf,Oe h2 g _ (fun hq=>own_diff h1 h2 (by decide) g rfl hq) _⟩⟩
def sbd:Nat→Nat
 | 0=>0
 | d+1=>250+4*sbd d
end Go.Proofs.YtnpidfbcbmeijaaGreat
namespace Go.Proofs.YtnpidfbcbmeijaaGreat
open Go.RowKit
structure RowI (w:World) (b n:Nat):Prop where
 h:∃ xs:List Int,xs.length=n∧Bk w b (ints xs)
section
variable {w w':World} {b n:Nat}
theorem RowI.of {xs:List Int} (h:Bk w b (ints xs)) (hn:xs.length=n):RowI w b n:=⟨xs,hn,h⟩
theorem RowI.keep (h:RowI w b n) {S:Nat→Prop} (hc:Chg S w w') (hs:¬S b):RowI w' b n:=by
 obtain ⟨xs,h1,h2⟩:=h.h;exact ⟨xs,h1,h2.keep hc hs⟩
theorem RowI.below (h:RowI w b n) (hb:Below w.heap.size w w'):RowI w' b n:=by
 obtain ⟨xs,h1,h2⟩:=h.h;exact ⟨xs,h1,h2.below hb⟩
theorem RowI.put (h:RowI w b n) (k:Nat) (v:Int):RowI (w.setCell ⟨b,k,none⟩ (.int .i64 v)) b n:=by
 obtain ⟨xs,h1,h2⟩:=h.h;refine ⟨xs.set k v,by rw [List.length_set];exact h1,?_⟩;have:=h2.at k (.int .i64 v)
 rwa [show (ints xs).set k (.int .i64 v)=ints (xs.set k v) from by simp [ints,List.map_set]] at this
theorem RowI.at (h:RowI w b n) (k:Nat) (hk:k < n):∃ x:Int,w.cell? ⟨b,k,none⟩=some (.int .i64 x)∧w.frozen? ⟨b,k,none⟩=false:=by
 obtain ⟨xs,h1,h2⟩:=h.h;have a0:k < xs.length:=by omega
 exact ⟨xs[k],h2.cell k (by simp [ints,a0]),h2.froz k (by simp [ints];exact a0)⟩
theorem RowI.lt (h:RowI w b n) (hn:0 < n):b < w.heap.size:=by
 obtain ⟨x,hx,_⟩:=h.at 0 hn;exact Lc hx
end
structure DrawC (w:World) (base:Nat) (va vb vl:Value) (nv na n:Nat):Prop where
 h:∃ c:Cd,c.vars.length=nv∧c.arrays.length=na∧c.list.length=n∧OwnC w base va vb vl c
section
variable {w w':World} {base base':Nat} {va vb vl:Value} {nv na n:Nat}
theorem DrawC.lt (h:DrawC w base va vb vl nv na n):∀ q,OwnB va vb vl q→base≤q∧q < w.heap.size:=by
 obtain ⟨c,_,_,_,h⟩:=h.h;exact h.lt
theorem DrawC.keep (h:DrawC w base va vb vl nv na n) {S:Nat→Prop} (hc:Chg S w w') (hs:∀ q,OwnB va vb vl q→¬S q):DrawC w' base va vb vl nv na n:=by
 obtain ⟨c,h1,h2,h3,h⟩:=h.h;exact ⟨c,h1,h2,h3,h.keep hc hs⟩
theorem DrawC.below (h:DrawC w base va vb vl nv na n) (hb:Below w.heap.size w w'):DrawC w' base va vb vl nv na n:=by
 obtain ⟨c,h1,h2,h3,h⟩:=h.h;exact ⟨c,h1,h2,h3,h.below hb⟩
theorem DrawC.mono (h:DrawC w base va vb vl nv na n) (hb:base'≤base):DrawC w base' va vb vl nv na n:=by
 obtain ⟨c,h1,h2,h3,h⟩:=h.h;exact ⟨c,h1,h2,h3,h.mono hb⟩
theorem DrawC.shape (h:DrawC w base va vb vl nv na n):∃ a0 c0 a1 c1 a2 c2,va=.slice a0 nv c0∧vb=.slice a1 na c1∧vl=.slice a2 n c2:=by
 obtain ⟨c,rfl,rfl,rfl,h'⟩:=h.h;exact h'.shape
theorem DrawC.reads (h:DrawC w base va vb vl nv na n) (h0:nv≤1048576) (h1:na≤1048576) (h2:n≤1048576):∃ c:Cd,c.vars.length=nv∧c.arrays.length=na∧c.list.length=n∧ReadsC w va vb vl c:=by
 obtain ⟨c,rfl,rfl,rfl,h'⟩:=h.h;exact ⟨c,rfl,rfl,rfl,h'.reads (by omega) (by omega) (by omega)⟩
theorem DrawC.pos {a:Option Addr} {cl:Nat} (h:DrawC w base va vb (.slice a n cl) nv na n) (hn:0 < n):∃ g,a=some ⟨g,0,none⟩:=by
 obtain ⟨c,_,_,h3,h⟩:=h.h;rcases h.l.2 with ⟨_,h'⟩ | ⟨g,cap,_,h',_⟩
 ·omega
 simp only [Value.slice.injEq] at h';exact ⟨g,h'.1⟩
theorem DrawC.at {g cl:Nat} (h:DrawC w base va vb (.slice (some ⟨g,0,none⟩) n cl) nv na n) (t j:Nat) (ht:t < n) (hj:j < 5):(∃ x:Int,w.cell? ⟨g,t*5+j,none⟩=some (.int .i64 x))∧w.frozen? ⟨g,t*5+j,none⟩=false:=by
 obtain ⟨c,_,_,rfl,h'⟩:=h.h;refine ⟨?_,h'.l.frozenAt _⟩;have a0:t < c.list.length:=ht;have hh:=h'.l.cellAt (t*5+j) (by omega);rw [inss,rows_get insc_len c.list t a0 j hj] at hh;have h5:j=0∨j=1∨j=2∨j=3∨j=4:=by omega
 rcases h5 with rfl | rfl | rfl | rfl | rfl <;> exact ⟨_,hh⟩
theorem DrawC.put {g cl:Nat} (h:DrawC w base va vb (.slice (some ⟨g,0,none⟩) n cl) nv na n) (t j:Nat) (ht:t < n) (hj:j < 5) (v:Int):DrawC (w.setCell ⟨g,t*5+j,none⟩ (.int .i64 v)) base va vb (.slice (some ⟨g,0,none⟩) n cl) nv na n:=by
 obtain ⟨c,h1,h2,rfl,h'⟩:=h.h;obtain ⟨il',e1,e2⟩:=inss_set c.list t ht j hj v;have hs:=(h'.l.stored (t*5+j) (.int .i64 v)).1;rw [e2] at hs;have hd:∀ u:Value,∀ xs m,w.ownsRow base 3 1 u m xs→¬u.ownBlock=some g:=fun u xs m hu hq=>own_diff h'.l hu (by decide) g rfl hq
 exact ⟨⟨c.vars,c.arrays,il'⟩,h1,h2,e1,Oe h'.a g _ (hd _ _ _ h'.a) _,Oe h'.b g _ (hd _ _ _ h'.b) _,by simpa only [e1] using hs,h'.ab⟩
end
structure HeadD (w:World) (base:Nat) (va vb:Value) (nv na:Nat):Prop where
 h:∃ us ys:List Int,us.length=nv∧ys.length=na∧w.ownsRow base 3 1 va us.length (ints us)∧w.ownsRow base 3 1 vb ys.length (ints ys)∧∀ q,va.ownBlock=some q→vb.ownBlock=some q→False
section
variable {w w':World} {base base':Nat} {va vb vl:Value} {nv na n:Nat}
theorem HeadD.lt (h:HeadD w base va vb nv na):∀ q,(va.ownBlock=some q∨vb.ownBlock=some q)→base≤q∧q < w.heap.size:=by
 obtain ⟨us,ys,_,_,h1,h2,_⟩:=h.h;rintro q (hq | hq)
 ·exact h1.lt q hq
 exact h2.lt q hq
theorem HeadD.keep (h:HeadD w base va vb nv na) {S:Nat→Prop} (hc:Chg S w w') (hs:∀ q,(va.ownBlock=some q∨vb.ownBlock=some q)→¬S q):HeadD w' base va vb nv na:=by
 obtain ⟨us,ys,e1,e2,h1,h2,h3⟩:=h.h;exact ⟨us,ys,e1,e2,Ow h1 hc (fun q hq=>hs q (Or.inl hq)),Ow h2 hc (fun q hq=>hs q (Or.inr hq)),h3⟩
theorem HeadD.below (h:HeadD w base va vb nv na) (hb:Below w.heap.size w w'):HeadD w' base va vb nv na:=h.keep (S:=fun _=>False) (Cb hb) (fun _ _=>id)
theorem HeadD.mono (h:HeadD w base va vb nv na) (hb:base'≤base):HeadD w base' va vb nv na:=by
 obtain ⟨us,ys,e1,e2,h1,h2,h3⟩:=h.h;exact ⟨us,ys,e1,e2,Om h1 hb,Om h2 hb,h3⟩
theorem HeadD.of {us ys:List Int} (h1:w.ownsRow base 3 1 va us.length (ints us)) (h2:w.ownsRow base 3 1 vb ys.length (ints ys)) (h3:∀ q,va.ownBlock=some q→¬vb.ownBlock=some q):HeadD w base va vb us.length ys.length:=⟨us,ys,rfl,rfl,h1,h2,h3⟩
theorem HeadD.code (h:HeadD w base va vb nv na) {xs:List Ins} (hx:xs.length=n) (hl:w.ownsRow base 62 5 vl n (inss xs)):DrawC w base va vb vl nv na n:=by
 obtain ⟨us,ys,e1,e2,h1,h2,h3⟩:=h.h;subst hx;exact ⟨⟨us,ys,xs⟩,e1,e2,rfl,⟨h1,h2,hl,h3⟩⟩
end
theorem DrawC.of {w:World} {base:Nat} {va vb vl:Value} {c:Cd} (h:OwnC w base va vb vl c):DrawC w base va vb vl c.vars.length c.arrays.length c.list.length:=⟨c,rfl,rfl,rfl,h⟩
end Go.Proofs.YtnpidfbcbmeijaaGreat
