/-
 Parts of the proofs of the laws FnCodeFenced,FnCountBranches.
-/
import Derived.Test.YtkjedgnepnbkpaaFE
set_option maxHeartbeats 12800000
set_option maxRecDepth 100000
set_option linter.all false
namespace Go.Proofs.Ytkjedgnepnbkpaa
open Go.RowKit
theorem l8Target_any (x:Ins) (w:World) :
  Calls Try.prog 108 #[.agg #[.int .i64 x.op,.int .i64 x.a,.int .i64 x.b,.int .i64 x.c,.int .i64 x.d]] w fun e w'=>e=.returned (.int .i64 (tgt x))∧Below w.heap.size w w':=by
 have a0:=bal (Bs w) (.cells #[.int .i64 x.op,.int .i64 x.a,.int .i64 x.b,.int .i64 x.c,.int .i64 x.d] 32)
 obtain ⟨op,a,b,c,d⟩:=x
 rcases tgt_cases ⟨op,a,b,c,d⟩ with ⟨h,ht,_⟩ | ⟨h,ht,_⟩ | ⟨h,ht,_⟩ | ⟨⟨h1,h2,h3⟩,ht,_⟩
 ·rw [ht]
  simp only at h ⊢ a0
  subst h
  clear ht
  go_enter Try.func108,Try.ntmps108
  go_wp2
  go_ret
  exact ⟨rfl,a0⟩
 ·rw [ht]
  simp only at h ⊢ a0
  subst h
  clear ht
  go_enter Try.func108,Try.ntmps108
  go_wp2
  go_ret
  exact ⟨rfl,a0⟩
 ·rw [ht]
  simp only at h ⊢ a0
  subst h
  clear ht
  go_enter Try.func108,Try.ntmps108
  go_wp2
  go_ret
  exact ⟨rfl,a0⟩
 rw [ht]
 simp only at h1 h2 h3 ⊢ a0
 have e1:(op == 8)=false:=by simp [h1]
 have e2:(op == 9)=false:=by simp [h2]
 have e3:(op == 10)=false:=by simp [h3]
 clear ht h1 h2 h3
 go_enter Try.func108,Try.ntmps108
 go_wp2
 go_ret
 exact ⟨rfl,a0⟩
theorem to_any (x:Ins) (t:Int) (w:World) (hop:x.op=8∨x.op=9∨x.op=10) :
  Calls Try.prog 55 #[.agg #[.int .i64 x.op,.int .i64 x.a,.int .i64 x.b,.int .i64 x.c,.int .i64 x.d],.int .i64 t] w fun e w'=>e=.returned (.agg #[.int .i64 (aim x t).op,.int .i64 (aim x t).a,.int .i64 (aim x t).b,.int .i64 (aim x t).c,.int .i64 (aim x t).d])∧Below w.heap.size w w':=by
 obtain ⟨op,a,b,c,d⟩:=x
 rcases tgt_cases ⟨op,a,b,c,d⟩ with ⟨h,_,ht⟩ | ⟨h,_,ht⟩ | ⟨h,_,ht⟩ | ⟨⟨h1,h2,h3⟩,_,_⟩
 ·rw [ht]
  simp only at h ⊢
  subst h
  clear ht hop
  go_enter Try.func55,Try.ntmps55
  go_wp2
  exact bodyPost_ret (v:=.agg #[.int .i64 8,.int .i64 t,.int .i64 b,.int .i64 c,.int .i64 d]) (by simp [results,Try.results55,go_sem]) rfl ⟨rfl,by repeat (first | exact Below.refl _ _ | refine Below.alloc ?_ (by simp;try omega) _ | refine Below.setCell ?_ (by simp;try omega) _)⟩
 ·rw [ht]
  simp only at h ⊢
  subst h
  clear ht hop
  go_enter Try.func55,Try.ntmps55
  go_wp2
  exact bodyPost_ret (v:=.agg #[.int .i64 9,.int .i64 a,.int .i64 t,.int .i64 c,.int .i64 d]) (by simp [results,Try.results55,go_sem]) rfl ⟨rfl,by repeat (first | exact Below.refl _ _ | refine Below.alloc ?_ (by simp;try omega) _ | refine Below.setCell ?_ (by simp;try omega) _)⟩
 ·rw [ht]
  simp only at h ⊢
  subst h
  clear ht hop
  go_enter Try.func55,Try.ntmps55
  go_wp2
  exact bodyPost_ret (v:=.agg #[.int .i64 10,.int .i64 a,.int .i64 t,.int .i64 c,.int .i64 d]) (by simp [results,Try.results55,go_sem]) rfl ⟨rfl,by repeat (first | exact Below.refl _ _ | refine Below.alloc ?_ (by simp;try omega) _ | refine Below.setCell ?_ (by simp;try omega) _)⟩
 simp only at h1 h2 h3 hop
 omega
theorem l8Aim_any (x:Ins) (t:Int) (w:World) (hop:x.op=8∨x.op=9∨x.op=10) :
  Calls Try.prog 109 #[.agg #[.int .i64 x.op,.int .i64 x.a,.int .i64 x.b,.int .i64 x.c,.int .i64 x.d],.int .i64 t] w fun e w'=>e=.returned (.agg #[.int .i64 (aim x t).op,.int .i64 (aim x t).a,.int .i64 (aim x t).b,.int .i64 (aim x t).c,.int .i64 (aim x t).d])∧Below w.heap.size w w':=by
 obtain ⟨op,a,b,c,d⟩:=x
 rcases tgt_cases ⟨op,a,b,c,d⟩ with ⟨h,_,ht⟩ | ⟨h,_,ht⟩ | ⟨h,_,ht⟩ | ⟨⟨h1,h2,h3⟩,_,_⟩
 ·rw [ht]
  simp only at h ⊢
  subst h
  clear ht hop
  go_enter Try.func109,Try.ntmps109
  go_wp2
  exact bodyPost_ret (v:=.agg #[.int .i64 8,.int .i64 t,.int .i64 b,.int .i64 c,.int .i64 d]) (by simp [results,Try.results109,go_sem]) rfl ⟨rfl,by repeat (first | exact Below.refl _ _ | refine Below.alloc ?_ (by simp;try omega) _ | refine Below.setCell ?_ (by simp;try omega) _)⟩
 ·rw [ht]
  simp only at h ⊢
  subst h
  clear ht hop
  go_enter Try.func109,Try.ntmps109
  go_wp2
  exact bodyPost_ret (v:=.agg #[.int .i64 9,.int .i64 a,.int .i64 t,.int .i64 c,.int .i64 d]) (by simp [results,Try.results109,go_sem]) rfl ⟨rfl,by repeat (first | exact Below.refl _ _ | refine Below.alloc ?_ (by simp;try omega) _ | refine Below.setCell ?_ (by simp;try omega) _)⟩
 ·rw [ht]
  simp only at h ⊢
  subst h
  clear ht hop
  go_enter Try.func109,Try.ntmps109
  go_wp2
  exact bodyPost_ret (v:=.agg #[.int .i64 10,.int .i64 a,.int .i64 t,.int .i64 c,.int .i64 d]) (by simp [results,Try.results109,go_sem]) rfl ⟨rfl,by repeat (first | exact Below.refl _ _ | refine Below.alloc ?_ (by simp;try omega) _ | refine Below.setCell ?_ (by simp;try omega) _)⟩
 simp only at h1 h2 h3 hop
 omega
theorem with_any (va vb vc:Value) (c:Cd) (av:Option Addr) (nv cv:Nat) (w:World) (hr:ReadsC w va vb vc c) (h0:c.vars.length≤1073741824) (h1:c.arrays.length≤1073741824) :
  Calls Try.prog 56 #[.agg #[va,vb,vc],.slice av nv cv] w fun e w'=>∃ ua ub,e=.returned (.agg #[ua,ub,.slice av nv cv])∧w'.ownsRow w.heap.size 3 1 ua c.vars.length (ints c.vars)∧w'.ownsRow w.heap.size 3 1 ub c.arrays.length (ints c.arrays)∧(∀ q,ua.ownBlock=some q→ub.ownBlock=some q→False)∧Below w.heap.size w w':=by
 obtain ⟨a0,c0,a1,c1,a2,c2,rfl,rfl,rfl⟩:=hr.shape
 obtain ⟨w2,d0⟩:∃ w2,w2=(w.alloc (.cells #[.slice a0 c.vars.length c0,.slice a1 c.arrays.length c1,.slice a2 c.list.length c2] 26)).alloc (.cells #[.slice none 0 0,.slice none 0 0,.slice none 0 0] 26):=⟨_,rfl⟩
 have k0:Below w.heap.size w w2:=by rw [d0];exact bal (bal (Bs w) _) _
 have v0:w.heap.size+2≤w2.heap.size:=by rw [d0];simp
 have b0:w2.cell? ⟨w.heap.size,0,none⟩=some (.slice a0 c.vars.length c0):=by rw [d0];exact Ac (Wc rfl rfl) _
 have b1:w2.cell? ⟨w.heap.size,1,none⟩=some (.slice a1 c.arrays.length c1):=by rw [d0];exact Ac (Wc rfl rfl) _
 have b2:w2.cell? ⟨w.heap.size,2,none⟩=some (.slice a2 c.list.length c2):=by rw [d0];exact Ac (Wc rfl rfl) _
 have q0:w2.cell? ⟨w.heap.size+1,0,none⟩=some (.slice none 0 0):=by rw [d0];exact Wc (by simp) rfl
 have q1:w2.cell? ⟨w.heap.size+1,1,none⟩=some (.slice none 0 0):=by rw [d0];exact Wc (by simp) rfl
 have q2:w2.cell? ⟨w.heap.size+1,2,none⟩=some (.slice none 0 0):=by rw [d0];exact Wc (by simp) rfl
 have g0:w2.frozen? ⟨w.heap.size+1,0,none⟩=false:=by rw [d0];exact Fn (by simp)
 have g1:w2.frozen? ⟨w.heap.size+1,1,none⟩=false:=by rw [d0];exact Fn (by simp)
 have g2:w2.frozen? ⟨w.heap.size+1,2,none⟩=false:=by rw [d0];exact Fn (by simp)
 have r:=hr.below k0
 have D:=Below.drew (Bs w2)
 have e0:=Lib.hid b0
 have f0:=Lib.hid b1
 have j0:=Lib.hid b2
 clear hr
 go_enter Try.func56,Try.ntmps56
 go_wp2_with fail
 rw [← d0]
 clear d0 b0 b1 b2
 refine wp_region_held_drew (S:=fun W'=>W'.cell? ⟨w.heap.size,0,none⟩=some (.slice a0 c.vars.length c0)∧W'.cell? ⟨w.heap.size,1,none⟩=some (.slice a1 c.arrays.length c1)∧W'.cell? ⟨w.heap.size,2,none⟩=some (.slice a2 c.list.length c2)) (by kernel_rfl) ⟨Kc D e0.out,Kc D f0.out,Kc D j0.out⟩ (fun hHeld=>?_)
 refine tq 0 5 rfl rfl ?_ ?_ ?_
 rotate_left
 ·intro W' hSw;obtain ⟨s0,s1,s2⟩:=hSw;go_simp;try with_reducible rfl
 simp only [Ep]
 refine tq 1 6 rfl rfl ?_ ?_ ?_
 rotate_left
 ·intro W' hSw;obtain ⟨s0,s1,s2⟩:=hSw;go_simp;try with_reducible rfl
 simp only [Ep]
 refine tq 3 8 rfl rfl ?_ ?_ ?_
 rotate_left
 ·intro W' hSw;obtain ⟨s0,s1,s2⟩:=hSw;go_simp;try with_reducible rfl
 simp only [Ep]
 refine tq 4 9 rfl rfl ?_ ?_ ?_
 rotate_left
 ·intro W' hSw;obtain ⟨s0,s1,s2⟩:=hSw;go_simp;try with_reducible rfl
 simp only [Ep]
 refine tq 6 11 rfl rfl ?_ ?_ ?_
 rotate_left
 ·intro W' hSw;obtain ⟨s0,s1,s2⟩:=hSw;go_simp;try with_reducible rfl
 simp only [Ep]
 refine Rdy 2 rfl (fun K hK=>?_)
 go_simp
 go_at_call 110
 refine (clone_any _ c.vars _ (r.below D).a (by omega)).mono ?_
 rintro e w3 ⟨u0,rfl,o0,hb⟩
 obtain ⟨p0,t0,rfl⟩:=Oh o0
 have l0:=o0.lt
 replace o0:=Om o0 D.size
 have D0:=btr D hb
 have s0:=hb.size
 clear hb
 go_wp2_with fail
 refine hK.out _ _ ⟨Kc D0 e0.out,Kc D0 f0.out,Kc D0 j0.out⟩ (fun hHeld=>?_)
 clear hK K
 refine Rdy 5 rfl (fun K hK=>?_)
 go_simp
 go_at_call 110
 refine (clone_any _ c.arrays _ (r.below D0).b (by omega)).mono ?_
 rintro e w4 ⟨u1,rfl,o1,hb⟩
 obtain ⟨p1,t1,rfl⟩:=Oh o1
 have r0:=o1.lt
 replace o1:=Om o1 D0.size
 replace o0:=Ob o0 hb
 have D1:=btr D0 hb
 have s1:=hb.size
 clear hb
 go_wp2_with fail
 refine hK.out _ _ ⟨Kc D1 e0.out,Kc D1 f0.out,Kc D1 j0.out⟩ (fun hHeld=>?_)
 clear hK K
 refine tq 7 12 rfl rfl ?_ ?_ ?_
 rotate_left
 ·intro W' hSw;obtain ⟨s0,s1,s2⟩:=hSw;go_simp;try with_reducible rfl
 simp only [Ep]
 have x0:=Kc D1 q0
 have y0:=Kf D1 (Lc q0) g0
 have x1:=Kc D1 q1
 have y1:=Kf D1 (Lc q1) g1
 have x2:=Kc D1 q2
 have y2:=Kf D1 (Lc q2) g2
 have i0:=o0.lt
 have i1:=o1.lt
 have k1:=Lc x0
 have m0:=(Oe (Oe (Oe o0 (w.heap.size+1) 0 (fun h=>by have:=i0 _ h;omega) (.slice p0 c.vars.length t0)) (w.heap.size+1) 1 (fun h=>by have:=i0 _ h;omega) (.slice p1 c.arrays.length t1)) (w.heap.size+1) 2 (fun h=>by have:=i0 _ h;omega) (.slice av nv cv))
 have m1:=(Oe (Oe (Oe o1 (w.heap.size+1) 0 (fun h=>by have:=i1 _ h;omega) (.slice p0 c.vars.length t0)) (w.heap.size+1) 1 (fun h=>by have:=i1 _ h;omega) (.slice p1 c.arrays.length t1)) (w.heap.size+1) 2 (fun h=>by have:=i1 _ h;omega) (.slice av nv cv))
 have n0:=(Nn (b:=(w.heap.size+1)) (j:=2) (Nn (b:=(w.heap.size+1)) (j:=1) (Tc _ (w.heap.size+1) 0 (.slice p0 c.vars.length t0) x0) (.slice p1 c.arrays.length t1)) (.slice av nv cv))
 have n1:=(Nn (b:=(w.heap.size+1)) (j:=2) (Tc _ (w.heap.size+1) 1 (.slice p1 c.arrays.length t1) (Nn (b:=(w.heap.size+1)) (j:=0) x1 (.slice p0 c.vars.length t0))) (.slice av nv cv))
 have n2:=(Tc _ (w.heap.size+1) 2 (.slice av nv cv) (Nn (b:=(w.heap.size+1)) (j:=1) (Nn (b:=(w.heap.size+1)) (j:=0) x2 (.slice p0 c.vars.length t0)) (.slice p1 c.arrays.length t1)))
 have tt:=(bst (bst (bst (btr k0 D1) (w.heap.size+1) 0 (by omega) (.slice p0 c.vars.length t0)) (w.heap.size+1) 1 (by omega) (.slice p1 c.arrays.length t1)) (w.heap.size+1) 2 (by omega) (.slice av nv cv))
 have Z:=And.intro (Nn (b:=(w.heap.size+1)) (j:=2) (Nn (b:=(w.heap.size+1)) (j:=1) (Nn (b:=(w.heap.size+1)) (j:=0) (Kc D1 e0.out) (.slice p0 c.vars.length t0)) (.slice p1 c.arrays.length t1)) (.slice av nv cv)) (And.intro (Nn (b:=(w.heap.size+1)) (j:=2) (Nn (b:=(w.heap.size+1)) (j:=1) (Nn (b:=(w.heap.size+1)) (j:=0) (Kc D1 f0.out) (.slice p0 c.vars.length t0)) (.slice p1 c.arrays.length t1)) (.slice av nv cv)) (Nn (b:=(w.heap.size+1)) (j:=2) (Nn (b:=(w.heap.size+1)) (j:=1) (Nn (b:=(w.heap.size+1)) (j:=0) (Kc D1 j0.out) (.slice p0 c.vars.length t0)) (.slice p1 c.arrays.length t1)) (.slice av nv cv)))
 refine Rdy 8 rfl (fun K hK=>?_)
 go_simp
 refine hK.out _ _ Z (fun hHeld=>?_)
 clear hK K
 refine wpAnyH_done (by kernel_rfl) ?_ _
 clear x0 x1 x2 y0 y1 y2 q0 q1 q2 g0 g1 g2 Z hHeld
 go_wp2
 exact bodyPost_ret (v:=.agg #[.slice p0 c.vars.length t0,.slice p1 c.arrays.length t1,.slice av nv cv]) (by simp [results,Try.results56,go_sem,n0,n1,n2]) rfl ⟨_,_,rfl,Om m0 (by omega),Om m1 (by omega),(fun q h h'=>by have:=l0 q h;have:=r0 q h';omega),tt⟩
end Go.Proofs.Ytkjedgnepnbkpaa
