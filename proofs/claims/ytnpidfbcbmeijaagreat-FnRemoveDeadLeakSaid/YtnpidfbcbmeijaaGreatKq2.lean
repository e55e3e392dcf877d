/-
 Parts of the proofs of the laws FnRemoveDead,FnRemoveDeadLeak,FnSpecFenced,FnSpecMemory.
-/
import Derived.Test.YtnpidfbcbmeijaaGreatO
import Derived.Test.YtnpidfbcbmeijaaGreatKq1
set_option linter.all false
namespace Go.Proofs.YtnpidfbcbmeijaaGreat
open Go.RowKit
theorem bools_append (a b:List Bool):bools (a++b)=bools a++bools b:=by simp [bools]
theorem Reads.len {w:World} {sz n:Nat} {v:Value} {vs:List Value} (h:Reads w sz v n vs):vs.length=n*sz:=h.1
theorem one_rows {α:Type} {f:α→List Value} (h:∀ x,∀ u ∈ f x,u.oneCell'=true) (l:List α):∀ u ∈ rows f l,u.oneCell'=true:=by
 induction l with
 | nil=>intro u hu;cases hu
 | cons e l ih =>
  intro u hu;simp only [rows,List.mem_append] at hu;rcases hu with hu | hu
  ·exact h e u hu
  exact ih u hu
theorem set_next {α:Type} (l:List α) (z:α) (k:Nat) (h:k < l.length):(l.take k++List.replicate (l.length-k) z).set k l[k]=l.take (k+1)++List.replicate (l.length-(k+1)) z:=by
 apply List.ext_getElem?
 intro j;simp only [List.getElem?_set,List.getElem?_append,List.length_take,List.length_append,List.length_replicate,List.getElem?_take,List.getElem?_replicate];grind
theorem cloneInstr_any (v:Value) (l:List Ins) (w:World) (hr:Reads w 5 v l.length (inss l)) (hsz:l.length≤1073741824) :
  Calls Tryz.prog 88 #[v] w fun e w'=>∃ u,e=.returned u∧w'.ownsRow w.heap.size 62 5 u l.length (inss l)∧Below w.heap.size w w':=by
 have v0:=hr;have d1:=fun w a n c=>Lib.run_eql_slice_nil (P:=Tryz.prog) w 24 62 a n c 0 0 Tryz.underlying24
 obtain ⟨_,hn,a,l1,b,w1,rfl,⟨z0,l0⟩,ha,w0⟩:=hr
 cases a with
 | none =>
  have h0:=l0 rfl;have h1:l=[]:=List.eq_nil_of_length_eq_zero (by omega);subst h1 h0;go_enter Tryz.func88,Tryz.ntmps88
  go_wp2
  go_ret
  exact ⟨_,rfl,World.ownsRow_nil _ _ _ _,Below.refl _ _⟩
 | some a =>
  have e0:=own_nil_rows w 62 5;have e1:=v0.below ((Below.refl w.heap.size w).alloc Lr (.cells #[] 62));clear v0 ha w0 l0;go_enter Tryz.func88,Tryz.ntmps88
  go_wp2_with (at_builtin;refine wpList_aps tInstrs rfl _ _ rfl w.heap.size _ 0 [] rfl e0 _ _ _ rfl e1 (one_rows one_insc l) (by omega) ?c1 ?_)
  case c1=>simp
  intro v' w' ho' hc' hn' _;have hb:=((Below.refl w.heap.size w).alloc Lr (.cells #[] 62)).trans (hc'.below w.heap.size (by simp) (fun k hk=>not_own e0 hk));clear hc' hn' d1 e0;go_wp2
  go_ret
  exact ⟨_,rfl,by simpa using ho',hb⟩
set_option maxHeartbeats 6400000 in
theorem own_any (va vb vc:Value) (c:Cd) (w:World) (hr:ReadsC w va vb vc c) (h0:c.vars.length≤1073741824) (h1:c.arrays.length≤1073741824) (h2:c.list.length≤1073741824) :
  Calls Tryz.prog 53 #[.agg #[va,vb,vc]] w fun e w'=>∃ ua ub uc,e=.returned (.agg #[ua,ub,uc])∧OwnC w' w.heap.size ua ub uc c∧Below w.heap.size w w':=by
 obtain ⟨a0,c0,a1,c1,a2,c2,rfl,rfl,rfl⟩:=hr.shape;obtain ⟨w2,d0⟩:∃ w2,w2=(w.alloc (.cells #[.slice a0 c.vars.length c0,.slice a1 c.arrays.length c1,.slice a2 c.list.length c2] 26)).alloc (.cells #[.slice none 0 0,.slice none 0 0,.slice none 0 0] 26):=⟨_,rfl⟩;have r0:Below w.heap.size w w2:=by rw [d0];exact bal (bal (Bs w) _) _
 have r1:w.heap.size+2≤w2.heap.size:=by rw [d0];simp
 have b0:w2.cell? ⟨w.heap.size,0,none⟩=some (.slice a0 c.vars.length c0):=by rw [d0];exact Ac (Wc rfl rfl) _
 have b1:w2.cell? ⟨w.heap.size,1,none⟩=some (.slice a1 c.arrays.length c1):=by rw [d0];exact Ac (Wc rfl rfl) _
 have b2:w2.cell? ⟨w.heap.size,2,none⟩=some (.slice a2 c.list.length c2):=by rw [d0];exact Ac (Wc rfl rfl) _
 have q0:w2.cell? ⟨w.heap.size+1,0,none⟩=some (.slice none 0 0):=by rw [d0];exact Wc (by simp) rfl
 have q1:w2.cell? ⟨w.heap.size+1,1,none⟩=some (.slice none 0 0):=by rw [d0];exact Wc (by simp) rfl
 have q2:w2.cell? ⟨w.heap.size+1,2,none⟩=some (.slice none 0 0):=by rw [d0];exact Wc (by simp) rfl
 have g0:w2.frozen? ⟨w.heap.size+1,0,none⟩=false:=by rw [d0];exact Fn (by simp)
 have g1:w2.frozen? ⟨w.heap.size+1,1,none⟩=false:=by rw [d0];exact Fn (by simp)
 have g2:w2.frozen? ⟨w.heap.size+1,2,none⟩=false:=by rw [d0];exact Fn (by simp)
 have r:=hr.below r0;have D:=Bd (Bs w2);have f0:=Hi b0;have j0:=Hi b1;have k0:=Hi b2;clear hr;go_enter Tryz.func53,Tryz.ntmps53
 go_wp2_with fail
 rw [← d0];clear d0 b0 b1 b2;refine wp_region_held_drew (S:=fun W'=>W'.cell? ⟨w.heap.size,0,none⟩=some (.slice a0 c.vars.length c0)∧W'.cell? ⟨w.heap.size,1,none⟩=some (.slice a1 c.arrays.length c1)∧W'.cell? ⟨w.heap.size,2,none⟩=some (.slice a2 c.list.length c2)) (by kernel_rfl) ⟨Kc D f0.out,Kc D j0.out,Kc D k0.out⟩ (fun hHeld=>?_);refine tq 0 3 rfl rfl ?_ ?_ ?_;rotate_left
 ·intro W' hSw;obtain ⟨s0,s1,s2⟩:=hSw;go_simp;try with_reducible rfl
 simp only [Ep];refine tq 1 4 rfl rfl ?_ ?_ ?_;rotate_left
 ·intro W' hSw;obtain ⟨s0,s1,s2⟩:=hSw;go_simp;try with_reducible rfl
 simp only [Ep];refine tq 3 6 rfl rfl ?_ ?_ ?_;rotate_left
 ·intro W' hSw;obtain ⟨s0,s1,s2⟩:=hSw;go_simp;try with_reducible rfl
 simp only [Ep];refine tq 4 7 rfl rfl ?_ ?_ ?_;rotate_left
 ·intro W' hSw;obtain ⟨s0,s1,s2⟩:=hSw;go_simp;try with_reducible rfl
 simp only [Ep];refine tq 6 9 rfl rfl ?_ ?_ ?_;rotate_left
 ·intro W' hSw;obtain ⟨s0,s1,s2⟩:=hSw;go_simp;try with_reducible rfl
 simp only [Ep];refine tq 7 10 rfl rfl ?_ ?_ ?_;rotate_left
 ·intro W' hSw;obtain ⟨s0,s1,s2⟩:=hSw;go_simp;try with_reducible rfl
 simp only [Ep];refine Rdy 2 rfl (fun K hK=>?_);go_simp
 go_at_call 74
 refine (clone_any _ c.vars _ (r.below D).a (by omega)).mono ?_;rintro e w3 ⟨u0,rfl,o0,hb⟩;obtain ⟨p0,t0,rfl⟩:=Oh o0;have f1:=o0.lt;replace o0:=Om o0 D.size;have D0:=btr D hb;have s0:=hb.size;clear hb;go_wp2_with fail
 refine hK.out _ _ ⟨Kc D0 f0.out,Kc D0 j0.out,Kc D0 k0.out⟩ (fun hHeld=>?_);clear hK K;refine Rdy 5 rfl (fun K hK=>?_);go_simp
 go_at_call 74
 refine (clone_any _ c.arrays _ (r.below D0).b (by omega)).mono ?_;rintro e w4 ⟨u1,rfl,o1,hb⟩;obtain ⟨p1,t1,rfl⟩:=Oh o1;have j1:=o1.lt;replace o1:=Om o1 D0.size;replace o0:=Ob o0 hb;have D1:=btr D0 hb;have s1:=hb.size;clear hb;go_wp2_with fail
 refine hK.out _ _ ⟨Kc D1 f0.out,Kc D1 j0.out,Kc D1 k0.out⟩ (fun hHeld=>?_);clear hK K;refine Rdy 8 rfl (fun K hK=>?_);go_simp
 go_at_call 88
 refine (cloneInstr_any _ c.list _ (r.below D1).l (by omega)).mono ?_;rintro e w5 ⟨u2,rfl,o2,hb⟩;obtain ⟨p2,t2,rfl⟩:=Oh o2;have v1:=o2.lt;replace o2:=Om o2 D1.size;replace o0:=Ob o0 hb;replace o1:=Ob o1 hb;have D2:=btr D1 hb;have s2:=hb.size;clear hb;go_wp2_with fail
 refine hK.out _ _ ⟨Kc D2 f0.out,Kc D2 j0.out,Kc D2 k0.out⟩ (fun hHeld=>?_);clear hK K;refine tq 9 12 rfl rfl ?_ ?_ ?_;rotate_left
 ·intro W' hSw;obtain ⟨s0,s1,s2⟩:=hSw;go_simp;try with_reducible rfl
 simp only [Ep];have x0:=Kc D2 q0;have y0:=Kf D2 (Lc q0) g0;have i0:=o0.lt;have x1:=Kc D2 q1;have y1:=Kf D2 (Lc q1) g1;have i1:=o1.lt;have x2:=Kc D2 q2;have y2:=Kf D2 (Lc q2) g2;have i2:=o2.lt;have k1:=Lc x0;have m0:=(Oe (Oe (Oe o0 (w.heap.size+1) 0 (fun h=>by have:=i0 _ h;omega) (.slice p0 c.vars.length t0)) (w.heap.size+1) 1 (fun h=>by have:=i0 _ h;omega) (.slice p1 c.arrays.length t1)) (w.heap.size+1) 2 (fun h=>by have:=i0 _ h;omega) (.slice p2 c.list.length t2));have n0:=(Nn (b:=(w.heap.size+1)) (j:=2) (Nn (b:=(w.heap.size+1)) (j:=1) (Tc _ (w.heap.size+1) 0 (.slice p0 c.vars.length t0) x0) (.slice p1 c.arrays.length t1)) (.slice p2 c.list.length t2));have m1:=(Oe (Oe (Oe o1 (w.heap.size+1) 0 (fun h=>by have:=i1 _ h;omega) (.slice p0 c.vars.length t0)) (w.heap.size+1) 1 (fun h=>by have:=i1 _ h;omega) (.slice p1 c.arrays.length t1)) (w.heap.size+1) 2 (fun h=>by have:=i1 _ h;omega) (.slice p2 c.list.length t2));have n1:=(Nn (b:=(w.heap.size+1)) (j:=2) (Tc _ (w.heap.size+1) 1 (.slice p1 c.arrays.length t1) (Nn (b:=(w.heap.size+1)) (j:=0) x1 (.slice p0 c.vars.length t0))) (.slice p2 c.list.length t2));have m2:=(Oe (Oe (Oe o2 (w.heap.size+1) 0 (fun h=>by have:=i2 _ h;omega) (.slice p0 c.vars.length t0)) (w.heap.size+1) 1 (fun h=>by have:=i2 _ h;omega) (.slice p1 c.arrays.length t1)) (w.heap.size+1) 2 (fun h=>by have:=i2 _ h;omega) (.slice p2 c.list.length t2));have n2:=(Tc _ (w.heap.size+1) 2 (.slice p2 c.list.length t2) (Nn (b:=(w.heap.size+1)) (j:=1) (Nn (b:=(w.heap.size+1)) (j:=0) x2 (.slice p0 c.vars.length t0)) (.slice p1 c.arrays.length t1)));have tt:=(bst (bst (bst (btr r0 D2) (w.heap.size+1) 0 (by omega) (.slice p0 c.vars.length t0)) (w.heap.size+1) 1 (by omega) (.slice p1 c.arrays.length t1)) (w.heap.size+1) 2 (by omega) (.slice p2 c.list.length t2));have Z:=Ai (Nn (b:=(w.heap.size+1)) (j:=2) (Nn (b:=(w.heap.size+1)) (j:=1) (Nn (b:=(w.heap.size+1)) (j:=0) (Kc D2 f0.out) (.slice p0 c.vars.length t0)) (.slice p1 c.arrays.length t1)) (.slice p2 c.list.length t2)) (Ai (Nn (b:=(w.heap.size+1)) (j:=2) (Nn (b:=(w.heap.size+1)) (j:=1) (Nn (b:=(w.heap.size+1)) (j:=0) (Kc D2 j0.out) (.slice p0 c.vars.length t0)) (.slice p1 c.arrays.length t1)) (.slice p2 c.list.length t2)) (Nn (b:=(w.heap.size+1)) (j:=2) (Nn (b:=(w.heap.size+1)) (j:=1) (Nn (b:=(w.heap.size+1)) (j:=0) (Kc D2 k0.out) (.slice p0 c.vars.length t0)) (.slice p1 c.arrays.length t1)) (.slice p2 c.list.length t2)));refine Rdy 10 rfl (fun K hK=>?_);go_simp
 refine hK.out _ _ Z (fun hHeld=>?_);clear hK K;refine wpAnyH_done (by kernel_rfl) ?_ _;clear x0 x1 x2 y0 y1 y2 q0 q1 q2 g0 g1 g2 Z hHeld;go_wp2
 exact bodyPost_ret (v:=.agg #[.slice p0 c.vars.length t0,.slice p1 c.arrays.length t1,.slice p2 c.list.length t2]) (by simp [results,Tryz.results53,go_sem,n0,n1,n2]) rfl ⟨_,_,_,rfl,⟨Om m0 (by omega),Om m1 (by omega),Om m2 (by omega),(fun q h h'=>by have:=f1 q h;have:=j1 q h';omega)⟩,tt⟩
end Go.Proofs.YtnpidfbcbmeijaaGreat
