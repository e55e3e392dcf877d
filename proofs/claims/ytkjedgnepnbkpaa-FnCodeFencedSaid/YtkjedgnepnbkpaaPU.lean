/-
 Parts of the proofs of the laws FnCodeFenced,FnCountBranches.
-/
import Derived.Test.YtkjedgnepnbkpaaQJ
import Derived.Test.YtkjedgnepnbkpaaFE
set_option linter.all false
namespace Go.Proofs.Ytkjedgnepnbkpaa
open Go.RowKit
def bnd3:Nat→Nat
 | 0=>0
 | d+1=>1+3*bnd3 d
set_option maxHeartbeats 6400000 in
set_option maxRecDepth 100000 in
theorem l7Add_any (base:Nat) (la fa:Option Addr) (lc fc k:Nat) (ap stmt x0 x1 x2 x3 x4:Int) (w:World) (hL:L7 w base la fa k lc fc) (hb:base≤w.heap.size) (hk:k≤1000000) :
  Calls Try.prog 163 #[.agg #[.slice la k lc,.slice fa k fc,.int .i64 ap],.int .i64 stmt,.agg #[.int .i64 x0,.int .i64 x1,.int .i64 x2,.int .i64 x3,.int .i64 x4]] w fun r w'=>∃ (la' fa':Option Addr) (lc' fc' k':Nat),r=.returned (.agg #[.slice la' k' lc',.slice fa' k' fc',.int .i64 ap])∧L7 w' base la' fa' k' lc' fc'∧(∀ q,L7B la' fa' q→L7B la fa q∨w.heap.size≤q)∧k'=k+1∧Chg (fun q=>L7B la fa q) w w':=by
 have p2:=hL.lt
 obtain ⟨⟨il,n1,oI⟩,⟨fl,m1,oF⟩⟩:=hL
 have q1:=Lib.hid n1;have o1:=Lib.hid m1;clear n1 m1
 have l1:=own_diff oI oF (by decide)
 have a0:∀ q,(Value.slice la k lc).ownBlock=some q→q < w.heap.size:=fun q h=>(oI.lt q h).2
 have e0:∀ q,(Value.slice fa k fc).ownBlock=some q→q < w.heap.size:=fun q h=>(oF.lt q h).2
 have b0:Chg (fun q=>L7B la fa q) w w:=Chg.refl _ _
 have p1:=Lib.hid l1;clear l1
 go_enter Try.func163,Try.ntmps163
 go_upto_region 1 with (fail)
 obtain ⟨w1,g0,hb⟩:=nmw (World.alloc (World.alloc (World.alloc w (.cells #[.slice la k lc,.slice fa k fc,.int .i64 ap] 155)) (.cells #[.int .i64 x0,.int .i64 x1,.int .i64 x2,.int .i64 x3,.int .i64 x4] 32)) (.cells #[.slice none 0 0,.slice none 0 0,.int .i64 0] 155))
 have d0:=(((b0.trans (Chg.of_below (bal (Bs _) (.cells #[.slice la k lc,.slice fa k fc,.int .i64 ap] 155)))).trans (Chg.of_below (bal (Bs _) (.cells #[.int .i64 x0,.int .i64 x1,.int .i64 x2,.int .i64 x3,.int .i64 x4] 32)))).trans (Chg.of_below (bal (Bs _) (.cells #[.slice none 0 0,.slice none 0 0,.int .i64 0] 155)))).trans (Chg.of_below hb)
 have y0:=hb.size
 simp only [Sa] at y0
 replace oI:=Ob (Ob (Ob (Ob oI (bal (Bs _) _)) (bal (Bs _) _)) (bal (Bs _) _)) hb
 replace oF:=Ob (Ob (Ob (Ob oF (bal (Bs _) _)) (bal (Bs _) _)) (bal (Bs _) _)) hb
 have c0:Bk w1 (w.heap.size) [.slice la k lc,.slice fa k fc,.int .i64 ap]:=Bk.below (Bk.al (Bk.al (Bk.nw (by simp) rfl) (.cells #[.int .i64 x0,.int .i64 x1,.int .i64 x2,.int .i64 x3,.int .i64 x4] 32)) (.cells #[.slice none 0 0,.slice none 0 0,.int .i64 0] 155)) hb
 have o0:w1.cell? ⟨w.heap.size+1,0,none⟩=some (.int .i64 x0):=Kc hb (Ac (Wc (by simp) (by rfl)) _)
 have t0:w1.cell? ⟨w.heap.size+1,1,none⟩=some (.int .i64 x1):=Kc hb (Ac (Wc (by simp) (by rfl)) _)
 have u0:w1.cell? ⟨w.heap.size+1,2,none⟩=some (.int .i64 x2):=Kc hb (Ac (Wc (by simp) (by rfl)) _)
 have v0:w1.cell? ⟨w.heap.size+1,3,none⟩=some (.int .i64 x3):=Kc hb (Ac (Wc (by simp) (by rfl)) _)
 have w0:w1.cell? ⟨w.heap.size+1,4,none⟩=some (.int .i64 x4):=Kc hb (Ac (Wc (by simp) (by rfl)) _)
 have f0:Bk w1 (w.heap.size+1+1) [.slice none 0 0,.slice none 0 0,.int .i64 0]:=Bk.below (Bk.nw (by simp) rfl) hb
 clear hb
 clear b0;have b0:=d0;clear d0
 rw [← g0]
 clear g0
 have v1:=Bk.lz c0
 have u1:=Lc o0
 have z0:=Bk.lz f0
 obtain ⟨a1,f1⟩:=Bk.cf c0 0 rfl
 go_wp2_with (at_builtin;go_must (refine wpList_aps tInstrs rfl _ _ rfl base _ k (inss il) rfl (Ob oI (bal (Bs _) (.cells #[.int .i64 x0,.int .i64 x1,.int .i64 x2,.int .i64 x3,.int .i64 x4] 32))) _ 1 (insc ⟨x0,x1,x2,x3,x4⟩) rfl (Ro (World.ownsRow_lit (base:=(w1).heap.size) (e:=32) (size:=5) (w1) #[.int .i64 x0,.int .i64 x1,.int .i64 x2,.int .i64 x3,.int .i64 x4] 1 (Nat.le_refl _) (by unfold maxLen;omega) (by simp)) (by simp)) (one_insc ⟨x0,x1,x2,x3,x4⟩) (by omega) (by first | omega | (simp only [Sa,Ss];omega)) ?_))
 intro vA w2 oX hc i0 _
 obtain ⟨pX,tX,rfl⟩:=Oh oX
 have d0:=chg_app (b0.trans (Chg.of_below (bal (Bs _) (.cells #[.int .i64 x0,.int .i64 x1,.int .i64 x2,.int .i64 x3,.int .i64 x4] 32)))) hc (fun q hq h=>Or.inl (by rw [← h];exact blk_len))
 have h0:∀ q,(Value.slice pX (k+1) tX).ownBlock=some q→(Value.slice la k lc).ownBlock=some q∨w.heap.size+3≤q:=fun q h=>by rcases i0 with e1 | ⟨g,e1,e2⟩;(exact Or.inl (by rw [← h,← e1]));(rw [e1] at h;have:=Option.some.inj h;simp only [Sa,Ss] at e2;exact Or.inr (by omega))
 have j0:=hc.size
 simp only [Sa] at j0
 clear f1 a1
 replace oF:=Ow (Ob oF (bal (Bs _) _)) hc (fun gq h h2=>(fun gq h h2=>p1.out gq h2 h) gq h h2)
 replace o0:=Gc hc (Ac o0 _) (fun h=>by have:=a0 _ h;omega)
 replace t0:=Gc hc (Ac t0 _) (fun h=>by have:=a0 _ h;omega)
 replace u0:=Gc hc (Ac u0 _) (fun h=>by have:=a0 _ h;omega)
 replace v0:=Gc hc (Ac v0 _) (fun h=>by have:=a0 _ h;omega)
 replace w0:=Gc hc (Ac w0 _) (fun h=>by have:=a0 _ h;omega)
 replace c0:=Bk.keep (Bk.al c0 _) hc (fun h=>by have:=a0 _ h;omega)
 replace f0:=Bk.keep (Bk.al f0 _) hc (fun h=>by have:=a0 _ h;omega)
 have r0:Bk w2 (w1.heap.size) [.int .i64 x0,.int .i64 x1,.int .i64 x2,.int .i64 x3,.int .i64 x4]:=Bk.keep (Bk.nw (by simp) rfl) hc (fun h=>by have:=a0 _ h;omega)
 clear hc
 clear b0;have b0:=d0;clear d0
 have n0:∀ q,(Value.slice pX (k+1) tX).ownBlock=some q→(q < w.heap.size∨w.heap.size+3≤q)∧q < w2.heap.size:=fun q h=>by have h2:=oX.lt q h;rcases h0 q h with h1 | h1;(have:=a0 q h1;omega);omega
 have r1:=Lib.hid h0;clear h0 i0 oI
 clear o0 t0 u0 v0 w0 r0
 have t1:=Lib.hid (own_diff oX oF (by decide))
 obtain ⟨b1,g1⟩:=Bk.cf c0 0 rfl
 go_upto_region 2 with (fail)
 obtain ⟨w3,g0,hb⟩:=nmw (World.setCell w2 ⟨w.heap.size,0,none⟩ (.slice pX (k+1) tX))
 have d0:=(b0.sN (w.heap.size) 0 (.slice pX (k+1) tX)).trans (Chg.of_below hb)
 have k0:=hb.size
 simp only [Ss] at k0
 clear g1 b1
 replace oF:=Ob (Oe oF _ _ (fun h=>by have:=e0 _ h;omega) _) hb
 replace oX:=Ob (Oe oX _ _ (fun h=>by have:=n0 _ h;omega) _) hb
 replace c0:Bk w3 (w.heap.size) [.slice pX (k+1) tX,.slice fa k fc,.int .i64 ap]:=Bk.below (Bk.at c0 0 (.slice pX (k+1) tX)) hb
 replace f0:=Bk.below (Bk.nn f0 _) hb
 clear hb
 clear b0;have b0:=d0;clear d0
 rw [← g0]
 clear g0
 replace v1:=Bk.lz c0
 replace z0:=Bk.lz f0
 obtain ⟨c1,i1⟩:=Bk.cf c0 1 rfl
 go_wp2_with (at_builtin;go_must (refine wpList_aps tInts rfl _ _ rfl base _ k (ints fl) rfl (Ob oF (bal (Bs _) (.cells #[.int .i64 stmt] 3))) _ 1 (ints [stmt]) rfl (Ro (World.ownsRow_lit (base:=(w3).heap.size) (e:=3) (size:=1) (w3) #[.int .i64 stmt] 1 (Nat.le_refl _) (by unfold maxLen;omega) (by simp)) (by simp)) (one_ints [stmt]) (by omega) (by first | omega | (simp only [Sa,Ss];omega)) ?_))
 intro vA w4 oY hc i0 _
 obtain ⟨pY,tY,rfl⟩:=Oh oY
 have d0:=chg_app (b0.trans (Chg.of_below (bal (Bs _) (.cells #[.int .i64 stmt] 3)))) hc (fun q hq h=>Or.inr (by rw [← h];exact blk_len))
 have h0:∀ q,(Value.slice pY (k+1) tY).ownBlock=some q→(Value.slice fa k fc).ownBlock=some q∨w.heap.size+3≤q:=fun q h=>by rcases i0 with e1 | ⟨g,e1,e2⟩;(exact Or.inl (by rw [← h,← e1]));(rw [e1] at h;have:=Option.some.inj h;simp only [Sa,Ss] at e2;exact Or.inr (by omega))
 have l0:=hc.size
 simp only [Sa] at l0
 clear i1 c1
 replace oX:=Ow (Ob oX (bal (Bs _) _)) hc (fun gq h h2=>(fun gq h h2=>t1.out gq h h2) gq h h2)
 replace c0:=Bk.keep (Bk.al c0 _) hc (fun h=>by have:=e0 _ h;omega)
 replace f0:=Bk.keep (Bk.al f0 _) hc (fun h=>by have:=e0 _ h;omega)
 have s0:w4.cell? ⟨w3.heap.size,0,none⟩=some (.int .i64 stmt):=Gc hc (Wc (by simp) (by rfl)) (fun h=>by have:=e0 _ h;omega)
 have q0:w4.frozen? ⟨w3.heap.size,0,none⟩=false:=Gf hc (by simp <;> omega) (Fn (by simp)) (fun h=>by have:=e0 _ h;omega)
 clear hc
 clear b0;have b0:=d0;clear d0
 have p0:∀ q,(Value.slice pY (k+1) tY).ownBlock=some q→(q < w.heap.size∨w.heap.size+3≤q)∧q < w4.heap.size:=fun q h=>by have h2:=oY.lt q h;rcases h0 q h with h1 | h1;(have:=e0 q h1;omega);omega
 have s1:=Lib.hid h0;clear h0 i0 oF
 clear s0 q0
 obtain ⟨d1,j1⟩:=Bk.cf c0 1 rfl
 go_upto_region 3 with (fail)
 obtain ⟨w5,g0,hb⟩:=nmw (World.setCell w4 ⟨w.heap.size,1,none⟩ (.slice pY (k+1) tY))
 have d0:=(b0.sN (w.heap.size) 1 (.slice pY (k+1) tY)).trans (Chg.of_below hb)
 have m0:=hb.size
 simp only [Ss] at m0
 clear j1 d1
 replace oX:=Ob (Oe oX _ _ (fun h=>by have:=n0 _ h;omega) _) hb
 replace oY:=Ob (Oe oY _ _ (fun h=>by have:=p0 _ h;omega) _) hb
 replace c0:Bk w5 (w.heap.size) [.slice pX (k+1) tX,.slice pY (k+1) tY,.int .i64 ap]:=Bk.below (Bk.at c0 1 (.slice pY (k+1) tY)) hb
 replace f0:=Bk.below (Bk.nn f0 _) hb
 clear hb
 clear b0;have b0:=d0;clear d0
 rw [← g0]
 clear g0
 obtain ⟨y1,f2,z1,g2,a2,i2⟩:=Bk.f3 c0 0 1 2 rfl rfl rfl
 obtain ⟨b2,j2,c2,k2,d2,l2⟩:=Bk.f3 f0 0 1 2 rfl rfl rfl
 have k1:=(Bk.at (Bk.at (Bk.at f0 0 (.slice pX (k+1) tX)) 1 (.slice pY (k+1) tY)) 2 (.int .i64 ap))
 obtain ⟨m2,n2,o2⟩:=Bk.g3 k1
 have HX:=Lib.hid (Oe (Oe (Oe oX (w.heap.size+1+1) 0 (fun h=>by have:=n0 _ h;omega) (.slice pX (k+1) tX)) (w.heap.size+1+1) 1 (fun h=>by have:=n0 _ h;omega) (.slice pY (k+1) tY)) (w.heap.size+1+1) 2 (fun h=>by have:=n0 _ h;omega) (.int .i64 ap));have HY:=Lib.hid (Oe (Oe (Oe oY (w.heap.size+1+1) 0 (fun h=>by have:=p0 _ h;omega) (.slice pX (k+1) tX)) (w.heap.size+1+1) 1 (fun h=>by have:=p0 _ h;omega) (.slice pY (k+1) tY)) (w.heap.size+1+1) 2 (fun h=>by have:=p0 _ h;omega) (.int .i64 ap));have HE:=Lib.hid (((b0.sN (w.heap.size+1+1) 0 (.slice pX (k+1) tX)).sN (w.heap.size+1+1) 1 (.slice pY (k+1) tY)).sN (w.heap.size+1+1) 2 (.int .i64 ap));clear oX oY b0 k1
 go_wp2
 exact bodyPost_ret (v:=.agg #[.slice pX (k+1) tX,.slice pY (k+1) tY,.int .i64 ap]) (by simp [results,Try.results163,go_sem,m2,n2,o2]) rfl (by exact ⟨pX,pY,tX,tY,k+1,rfl,⟨⟨il++[⟨x0,x1,x2,x3,x4⟩],by rw [List.length_append,q1.out];rfl,by have h:=HX.out;rw [← rows_one insc,← rows_append] at h;exact h⟩,⟨fl++[stmt],by rw [List.length_append,o1.out];rfl,by have h:=HY.out;rw [← ints_append] at h;exact h⟩⟩,fun q h=>by
   rcases h with h | h
   ·rcases r1.out q (by rw [← h];exact blk_len) with h1 | h1
    ·exact Or.inl (Or.inl (by rw [← h1];exact blk_len))
    exact Or.inr (by omega)
   rcases s1.out q (by rw [← h];exact blk_len) with h1 | h1
   ·exact Or.inl (Or.inr (by rw [← h1];exact blk_len))
   exact Or.inr (by omega),rfl,HE.out⟩)
theorem L7.pos {w:World} {base:Nat} {la fa:Option Addr} {k lc fc:Nat} (h:L7 w base la fa k lc fc) (hk:0 < k):∃ g,la=some ⟨g,0,none⟩:=by
 obtain ⟨⟨il,_,h1⟩,_⟩:=h
 rcases h1.2 with ⟨_,h'⟩ | ⟨g,cap,_,h',_⟩
 ·omega
 simp only [Value.slice.injEq] at h';exact ⟨g,h'.1⟩
def sbd:Nat→Nat
 | 0=>0
 | d+1=>250+4*sbd d
end Go.Proofs.Ytkjedgnepnbkpaa
