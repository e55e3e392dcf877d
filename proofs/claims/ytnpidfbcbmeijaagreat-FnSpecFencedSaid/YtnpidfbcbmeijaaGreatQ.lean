/-
 Parts of the proofs of the laws FnRemoveDead,FnRemoveDeadLeak,FnSpecFenced,FnSpecMemory.
-/
import Derived.Test.YtnpidfbcbmeijaaGreatZE
set_option maxHeartbeats 12800000
set_option maxRecDepth 100000
set_option linter.all false
namespace Go.Proofs.YtnpidfbcbmeijaaGreat
open Go.RowKit
theorem mk_boolF (n:Nat) (h:n≤1073741824) (u:World):(Instr.makeSlice 30 (.int .i64 n) (.int .i64 n)).run Tryz.prog u =
  .ok (.slice (some ⟨u.heap.size,0,none⟩) n n) (u.alloc (.cells (madeCells #[.bool false] n) 4)):=by
 obtain ⟨i0,hi,a0,b0,c0⟩:=info_parts info_bool;have h:=run_make (P:=Tryz.prog) u 30 4 i0 (.bool false) Tryz.underlying30 hi a0 .i64 .i64 n n (by omega) (Int.le_refl _) (by rw [c0];omega) (by omega);rw [Int.toNat_natCast,b0,Nat.mul_one] at h;exact h
theorem br_in {nv na nl:Nat} {x:Ins} (h:insOk nv na nl x=true) (hb:isBr x.op=true):0≤x.b∧x.b < nl:=by
 obtain ⟨op,a,b,c,d⟩:=x;unfold isBr at hb
 simp only [Bool.or_eq_true,beq_iff_eq] at hb
 have a0:wi b 0 ((nl:Int)-1)=true:=by
  rcases hb with rfl | rfl
  all_goals
   unfold insOk at h
   simp [shp,flds,fOk] at h
   exact h.2.2.1
 have:=of_decide_eq_true a0
 constructor <;> simp only <;> omega
theorem bools_replicate (n:Nat) (b:Bool):bools (List.replicate n b)=List.replicate n (.bool b):=by simp [bools]
theorem bools_set (l:List Bool) (k:Nat) (b:Bool):(bools l).set k (.bool b)=bools (l.set k b):=by simp [bools,List.map_set]
theorem bools_at (l:List Bool) (k:Nat) (h:k < l.length):(bools l)[k]? = some (.bool l[k]):=by simp [bools,h]
def noCode:Cd:=⟨[],[],[]⟩
theorem noCode_own (w:World) (base:Nat):OwnC w base (.slice none 0 0) (.slice none 0 0) (.slice none 0 0) noCode:=
 ⟨World.ownsRow_nil _ _ _ _,World.ownsRow_nil _ _ _ _,World.ownsRow_nil _ _ _ _,fun q h=>by simp [Value.ownBlock] at h⟩
theorem tgt_in {nv na nl:Nat} {x:Ins} (h:insOk nv na nl x=true) (h0:0≤tgt x):tgt x < nl∧(x.op=8∨x.op=9∨x.op=10):=by
 rcases tgt_cases x with ⟨h8,ht,_⟩ | ⟨h9,ht,_⟩ | ⟨h9,ht,_⟩ | ⟨_,ht,_⟩
 ·refine ⟨?_,Or.inl h8⟩;rw [ht];obtain ⟨op,a,b,c,d⟩:=x;simp only at h8
  subst h8;unfold insOk at h
  simp [shp,flds,fOk] at h
  have:=of_decide_eq_true h.2.1
  simp only
  omega
 ·have:=br_in h (by unfold isBr;rw [h9];rfl)
  exact ⟨by rw [ht];exact this.2,Or.inr (Or.inl h9)⟩
 ·have:=br_in h (by unfold isBr;rw [h9];rfl)
  exact ⟨by rw [ht];exact this.2,Or.inr (Or.inr h9)⟩
 omega
theorem drop_cons {α:Type} (l:List α) (k:Nat) (h:k < l.length) (a:List α) (ha:a.length=k) (y:α):(a++l.drop k).set k y=(a++[y])++l.drop (k+1):=set_dropped a l y k ha h
theorem l8Target_any (x:Ins) (w:World) :
  Calls Tryz.prog 36 #[.agg #[.int .i64 x.op,.int .i64 x.a,.int .i64 x.b,.int .i64 x.c,.int .i64 x.d]] w fun e w'=>e=.returned (.int .i64 (tgt x))∧Below w.heap.size w w':=by
 have a0:=bal (Bs w) (.cells #[.int .i64 x.op,.int .i64 x.a,.int .i64 x.b,.int .i64 x.c,.int .i64 x.d] 62);obtain ⟨op,a,b,c,d⟩:=x;rcases tgt_cases ⟨op,a,b,c,d⟩ with ⟨h,ht,_⟩ | ⟨h,ht,_⟩ | ⟨h,ht,_⟩ | ⟨⟨h1,h2,h3⟩,ht,_⟩
 ·rw [ht];simp only at h ⊢ a0
  subst h;clear ht;go_enter Tryz.func36,Tryz.ntmps36
  go_wp2
  go_ret
  exact ⟨rfl,a0⟩
 ·rw [ht];simp only at h ⊢ a0
  subst h;clear ht;go_enter Tryz.func36,Tryz.ntmps36
  go_wp2
  go_ret
  exact ⟨rfl,a0⟩
 ·rw [ht];simp only at h ⊢ a0
  subst h;clear ht;go_enter Tryz.func36,Tryz.ntmps36
  go_wp2
  go_ret
  exact ⟨rfl,a0⟩
 rw [ht];simp only at h1 h2 h3 ⊢ a0
 have e1:(op == 8)=false:=by simp [h1]
 have e2:(op == 9)=false:=by simp [h2]
 have e3:(op == 10)=false:=by simp [h3]
 clear ht h1 h2 h3;go_enter Tryz.func36,Tryz.ntmps36
 go_wp2
 go_ret
 exact ⟨rfl,a0⟩
theorem to_any (x:Ins) (t:Int) (w:World) (hop:x.op=8∨x.op=9∨x.op=10) :
  Calls Tryz.prog 32 #[.agg #[.int .i64 x.op,.int .i64 x.a,.int .i64 x.b,.int .i64 x.c,.int .i64 x.d],.int .i64 t] w fun e w'=>e=.returned (.agg #[.int .i64 (aim x t).op,.int .i64 (aim x t).a,.int .i64 (aim x t).b,.int .i64 (aim x t).c,.int .i64 (aim x t).d])∧Below w.heap.size w w':=by
 obtain ⟨op,a,b,c,d⟩:=x;rcases tgt_cases ⟨op,a,b,c,d⟩ with ⟨h,_,ht⟩ | ⟨h,_,ht⟩ | ⟨h,_,ht⟩ | ⟨⟨h1,h2,h3⟩,_,_⟩
 ·rw [ht];simp only at h ⊢
  subst h;clear ht hop;go_enter Tryz.func32,Tryz.ntmps32
  go_wp2
  exact bodyPost_ret (v:=.agg #[.int .i64 8,.int .i64 t,.int .i64 b,.int .i64 c,.int .i64 d]) (by simp [results,Tryz.results32,go_sem]) rfl ⟨rfl,by repeat (first | exact Below.refl _ _ | refine Below.alloc ?_ (by simp;try omega) _ | refine Below.setCell ?_ (by simp;try omega) _)⟩
 ·rw [ht];simp only at h ⊢
  subst h;clear ht hop;go_enter Tryz.func32,Tryz.ntmps32
  go_wp2
  exact bodyPost_ret (v:=.agg #[.int .i64 9,.int .i64 a,.int .i64 t,.int .i64 c,.int .i64 d]) (by simp [results,Tryz.results32,go_sem]) rfl ⟨rfl,by repeat (first | exact Below.refl _ _ | refine Below.alloc ?_ (by simp;try omega) _ | refine Below.setCell ?_ (by simp;try omega) _)⟩
 ·rw [ht];simp only at h ⊢
  subst h;clear ht hop;go_enter Tryz.func32,Tryz.ntmps32
  go_wp2
  exact bodyPost_ret (v:=.agg #[.int .i64 10,.int .i64 a,.int .i64 t,.int .i64 c,.int .i64 d]) (by simp [results,Tryz.results32,go_sem]) rfl ⟨rfl,by repeat (first | exact Below.refl _ _ | refine Below.alloc ?_ (by simp;try omega) _ | refine Below.setCell ?_ (by simp;try omega) _)⟩
 simp only at h1 h2 h3 hop
 omega
theorem l8Aim_any (x:Ins) (t:Int) (w:World) (hop:x.op=8∨x.op=9∨x.op=10) :
  Calls Tryz.prog 37 #[.agg #[.int .i64 x.op,.int .i64 x.a,.int .i64 x.b,.int .i64 x.c,.int .i64 x.d],.int .i64 t] w fun e w'=>e=.returned (.agg #[.int .i64 (aim x t).op,.int .i64 (aim x t).a,.int .i64 (aim x t).b,.int .i64 (aim x t).c,.int .i64 (aim x t).d])∧Below w.heap.size w w':=by
 obtain ⟨op,a,b,c,d⟩:=x;rcases tgt_cases ⟨op,a,b,c,d⟩ with ⟨h,_,ht⟩ | ⟨h,_,ht⟩ | ⟨h,_,ht⟩ | ⟨⟨h1,h2,h3⟩,_,_⟩
 ·rw [ht];simp only at h ⊢
  subst h;clear ht hop;go_enter Tryz.func37,Tryz.ntmps37
  go_wp2
  exact bodyPost_ret (v:=.agg #[.int .i64 8,.int .i64 t,.int .i64 b,.int .i64 c,.int .i64 d]) (by simp [results,Tryz.results37,go_sem]) rfl ⟨rfl,by repeat (first | exact Below.refl _ _ | refine Below.alloc ?_ (by simp;try omega) _ | refine Below.setCell ?_ (by simp;try omega) _)⟩
 ·rw [ht];simp only at h ⊢
  subst h;clear ht hop;go_enter Tryz.func37,Tryz.ntmps37
  go_wp2
  exact bodyPost_ret (v:=.agg #[.int .i64 9,.int .i64 a,.int .i64 t,.int .i64 c,.int .i64 d]) (by simp [results,Tryz.results37,go_sem]) rfl ⟨rfl,by repeat (first | exact Below.refl _ _ | refine Below.alloc ?_ (by simp;try omega) _ | refine Below.setCell ?_ (by simp;try omega) _)⟩
 ·rw [ht];simp only at h ⊢
  subst h;clear ht hop;go_enter Tryz.func37,Tryz.ntmps37
  go_wp2
  exact bodyPost_ret (v:=.agg #[.int .i64 10,.int .i64 a,.int .i64 t,.int .i64 c,.int .i64 d]) (by simp [results,Tryz.results37,go_sem]) rfl ⟨rfl,by repeat (first | exact Below.refl _ _ | refine Below.alloc ?_ (by simp;try omega) _ | refine Below.setCell ?_ (by simp;try omega) _)⟩
 simp only at h1 h2 h3 hop
 omega
theorem with_any (va vb vc:Value) (c:Cd) (av:Option Addr) (nv cv:Nat) (w:World) (hr:ReadsC w va vb vc c) (h0:c.vars.length≤1073741824) (h1:c.arrays.length≤1073741824) :
  Calls Tryz.prog 33 #[.agg #[va,vb,vc],.slice av nv cv] w fun e w'=>∃ ua ub,e=.returned (.agg #[ua,ub,.slice av nv cv])∧w'.ownsRow w.heap.size 3 1 ua c.vars.length (ints c.vars)∧w'.ownsRow w.heap.size 3 1 ub c.arrays.length (ints c.arrays)∧(∀ q,ua.ownBlock=some q→ub.ownBlock=some q→False)∧Below w.heap.size w w':=by
 obtain ⟨a0,c0,a1,c1,a2,c2,rfl,rfl,rfl⟩:=hr.shape;obtain ⟨w2,d0⟩:∃ w2,w2=(w.alloc (.cells #[.slice a0 c.vars.length c0,.slice a1 c.arrays.length c1,.slice a2 c.list.length c2] 26)).alloc (.cells #[.slice none 0 0,.slice none 0 0,.slice none 0 0] 26):=⟨_,rfl⟩;have k0:Below w.heap.size w w2:=by rw [d0];exact bal (bal (Bs w) _) _
 have v0:w.heap.size+2≤w2.heap.size:=by rw [d0];simp
 have b0:w2.cell? ⟨w.heap.size,0,none⟩=some (.slice a0 c.vars.length c0):=by rw [d0];exact Ac (Wc rfl rfl) _
 have b1:w2.cell? ⟨w.heap.size,1,none⟩=some (.slice a1 c.arrays.length c1):=by rw [d0];exact Ac (Wc rfl rfl) _
 have b2:w2.cell? ⟨w.heap.size,2,none⟩=some (.slice a2 c.list.length c2):=by rw [d0];exact Ac (Wc rfl rfl) _
 have q0:w2.cell? ⟨w.heap.size+1,0,none⟩=some (.slice none 0 0):=by rw [d0];exact Wc (by simp) rfl
 have q1:w2.cell? ⟨w.heap.size+1,1,none⟩=some (.slice none 0 0):=by rw [d0];exact Wc (by simp) rfl
 have q2:w2.cell? ⟨w.heap.size+1,2,none⟩=some (.slice none 0 0):=by rw [d0];exact Wc (by simp) rfl
 have g0:w2.frozen? ⟨w.heap.size+1,0,none⟩=false:=by rw [d0];exact Fn (by simp)
 have g1:w2.frozen? ⟨w.heap.size+1,1,none⟩=false:=by rw [d0];exact Fn (by simp)
 have g2:w2.frozen? ⟨w.heap.size+1,2,none⟩=false:=by rw [d0];exact Fn (by simp)
 have r:=hr.below k0;have D:=Bd (Bs w2);have e0:=Hi b0;have f0:=Hi b1;have j0:=Hi b2;clear hr;go_enter Tryz.func33,Tryz.ntmps33
 go_wp2_with fail
 rw [← d0];clear d0 b0 b1 b2;refine wp_region_held_drew (S:=fun W'=>W'.cell? ⟨w.heap.size,0,none⟩=some (.slice a0 c.vars.length c0)∧W'.cell? ⟨w.heap.size,1,none⟩=some (.slice a1 c.arrays.length c1)∧W'.cell? ⟨w.heap.size,2,none⟩=some (.slice a2 c.list.length c2)) (by kernel_rfl) ⟨Kc D e0.out,Kc D f0.out,Kc D j0.out⟩ (fun hHeld=>?_);refine tq 0 5 rfl rfl ?_ ?_ ?_;rotate_left
 ·intro W' hSw;obtain ⟨s0,s1,s2⟩:=hSw;go_simp;try with_reducible rfl
 simp only [Ep];refine tq 1 6 rfl rfl ?_ ?_ ?_;rotate_left
 ·intro W' hSw;obtain ⟨s0,s1,s2⟩:=hSw;go_simp;try with_reducible rfl
 simp only [Ep];refine tq 3 8 rfl rfl ?_ ?_ ?_;rotate_left
 ·intro W' hSw;obtain ⟨s0,s1,s2⟩:=hSw;go_simp;try with_reducible rfl
 simp only [Ep];refine tq 4 9 rfl rfl ?_ ?_ ?_;rotate_left
 ·intro W' hSw;obtain ⟨s0,s1,s2⟩:=hSw;go_simp;try with_reducible rfl
 simp only [Ep];refine tq 6 11 rfl rfl ?_ ?_ ?_;rotate_left
 ·intro W' hSw;obtain ⟨s0,s1,s2⟩:=hSw;go_simp;try with_reducible rfl
 simp only [Ep];refine Rdy 2 rfl (fun K hK=>?_);go_simp
 go_at_call 74
 refine (clone_any _ c.vars _ (r.below D).a (by omega)).mono ?_;rintro e w3 ⟨u0,rfl,o0,hb⟩;obtain ⟨p0,t0,rfl⟩:=Oh o0;have l0:=o0.lt;replace o0:=Om o0 D.size;have D0:=btr D hb;have s0:=hb.size;clear hb;go_wp2_with fail
 refine hK.out _ _ ⟨Kc D0 e0.out,Kc D0 f0.out,Kc D0 j0.out⟩ (fun hHeld=>?_);clear hK K;refine Rdy 5 rfl (fun K hK=>?_);go_simp
 go_at_call 74
 refine (clone_any _ c.arrays _ (r.below D0).b (by omega)).mono ?_;rintro e w4 ⟨u1,rfl,o1,hb⟩;obtain ⟨p1,t1,rfl⟩:=Oh o1;have r0:=o1.lt;replace o1:=Om o1 D0.size;replace o0:=Ob o0 hb;have D1:=btr D0 hb;have s1:=hb.size;clear hb;go_wp2_with fail
 refine hK.out _ _ ⟨Kc D1 e0.out,Kc D1 f0.out,Kc D1 j0.out⟩ (fun hHeld=>?_);clear hK K;refine tq 7 12 rfl rfl ?_ ?_ ?_;rotate_left
 ·intro W' hSw;obtain ⟨s0,s1,s2⟩:=hSw;go_simp;try with_reducible rfl
 simp only [Ep];have x0:=Kc D1 q0;have y0:=Kf D1 (Lc q0) g0;have x1:=Kc D1 q1;have y1:=Kf D1 (Lc q1) g1;have x2:=Kc D1 q2;have y2:=Kf D1 (Lc q2) g2;have i0:=o0.lt;have i1:=o1.lt;have k1:=Lc x0;have m0:=(Oe (Oe (Oe o0 (w.heap.size+1) 0 (fun h=>by have:=i0 _ h;omega) (.slice p0 c.vars.length t0)) (w.heap.size+1) 1 (fun h=>by have:=i0 _ h;omega) (.slice p1 c.arrays.length t1)) (w.heap.size+1) 2 (fun h=>by have:=i0 _ h;omega) (.slice av nv cv));have m1:=(Oe (Oe (Oe o1 (w.heap.size+1) 0 (fun h=>by have:=i1 _ h;omega) (.slice p0 c.vars.length t0)) (w.heap.size+1) 1 (fun h=>by have:=i1 _ h;omega) (.slice p1 c.arrays.length t1)) (w.heap.size+1) 2 (fun h=>by have:=i1 _ h;omega) (.slice av nv cv));have n0:=(Nn (b:=(w.heap.size+1)) (j:=2) (Nn (b:=(w.heap.size+1)) (j:=1) (Tc _ (w.heap.size+1) 0 (.slice p0 c.vars.length t0) x0) (.slice p1 c.arrays.length t1)) (.slice av nv cv));have n1:=(Nn (b:=(w.heap.size+1)) (j:=2) (Tc _ (w.heap.size+1) 1 (.slice p1 c.arrays.length t1) (Nn (b:=(w.heap.size+1)) (j:=0) x1 (.slice p0 c.vars.length t0))) (.slice av nv cv));have n2:=(Tc _ (w.heap.size+1) 2 (.slice av nv cv) (Nn (b:=(w.heap.size+1)) (j:=1) (Nn (b:=(w.heap.size+1)) (j:=0) x2 (.slice p0 c.vars.length t0)) (.slice p1 c.arrays.length t1)));have tt:=(bst (bst (bst (btr k0 D1) (w.heap.size+1) 0 (by omega) (.slice p0 c.vars.length t0)) (w.heap.size+1) 1 (by omega) (.slice p1 c.arrays.length t1)) (w.heap.size+1) 2 (by omega) (.slice av nv cv));have Z:=Ai (Nn (b:=(w.heap.size+1)) (j:=2) (Nn (b:=(w.heap.size+1)) (j:=1) (Nn (b:=(w.heap.size+1)) (j:=0) (Kc D1 e0.out) (.slice p0 c.vars.length t0)) (.slice p1 c.arrays.length t1)) (.slice av nv cv)) (Ai (Nn (b:=(w.heap.size+1)) (j:=2) (Nn (b:=(w.heap.size+1)) (j:=1) (Nn (b:=(w.heap.size+1)) (j:=0) (Kc D1 f0.out) (.slice p0 c.vars.length t0)) (.slice p1 c.arrays.length t1)) (.slice av nv cv)) (Nn (b:=(w.heap.size+1)) (j:=2) (Nn (b:=(w.heap.size+1)) (j:=1) (Nn (b:=(w.heap.size+1)) (j:=0) (Kc D1 j0.out) (.slice p0 c.vars.length t0)) (.slice p1 c.arrays.length t1)) (.slice av nv cv)));refine Rdy 8 rfl (fun K hK=>?_);go_simp
 refine hK.out _ _ Z (fun hHeld=>?_);clear hK K;refine wpAnyH_done (by kernel_rfl) ?_ _;clear x0 x1 x2 y0 y1 y2 q0 q1 q2 g0 g1 g2 Z hHeld;go_wp2
 exact bodyPost_ret (v:=.agg #[.slice p0 c.vars.length t0,.slice p1 c.arrays.length t1,.slice av nv cv]) (by simp [results,Tryz.results33,go_sem,n0,n1,n2]) rfl ⟨_,_,rfl,Om m0 (by omega),Om m1 (by omega),(fun q h h'=>by have:=l0 q h;have:=r0 q h';omega),tt⟩
theorem set5 {a w:World} {b:Nat} {u0 u1 u2 u3 u4 v0 v1 v2 v3 v4:Value} (h0:w.cell? ⟨b,0,none⟩=some u0) (h1:w.cell? ⟨b,1,none⟩=some u1) (h2:w.cell? ⟨b,2,none⟩=some u2) (h3:w.cell? ⟨b,3,none⟩=some u3) (h4:w.cell? ⟨b,4,none⟩=some u4) (hC:Chg (fun q=>q=b) a w) :
  (((((w.setCell ⟨b,0,none⟩ v0).setCell ⟨b,1,none⟩ v1).setCell ⟨b,2,none⟩ v2).setCell ⟨b,3,none⟩ v3).setCell ⟨b,4,none⟩ v4).cell? ⟨b,0,none⟩=some v0∧(((((w.setCell ⟨b,0,none⟩ v0).setCell ⟨b,1,none⟩ v1).setCell ⟨b,2,none⟩ v2).setCell ⟨b,3,none⟩ v3).setCell ⟨b,4,none⟩ v4).cell? ⟨b,1,none⟩=some v1∧(((((w.setCell ⟨b,0,none⟩ v0).setCell ⟨b,1,none⟩ v1).setCell ⟨b,2,none⟩ v2).setCell ⟨b,3,none⟩ v3).setCell ⟨b,4,none⟩ v4).cell? ⟨b,2,none⟩=some v2∧(((((w.setCell ⟨b,0,none⟩ v0).setCell ⟨b,1,none⟩ v1).setCell ⟨b,2,none⟩ v2).setCell ⟨b,3,none⟩ v3).setCell ⟨b,4,none⟩ v4).cell? ⟨b,3,none⟩=some v3∧(((((w.setCell ⟨b,0,none⟩ v0).setCell ⟨b,1,none⟩ v1).setCell ⟨b,2,none⟩ v2).setCell ⟨b,3,none⟩ v3).setCell ⟨b,4,none⟩ v4).cell? ⟨b,4,none⟩=some v4∧Chg (fun q=>q=b) a (((((w.setCell ⟨b,0,none⟩ v0).setCell ⟨b,1,none⟩ v1).setCell ⟨b,2,none⟩ v2).setCell ⟨b,3,none⟩ v3).setCell ⟨b,4,none⟩ v4):=by
 have e0:=Tc w b 0 v0 h0;have e1:=Tc _ b 1 v1 (Nn (b:=b) (j:=0) h1 v0);have e2:=Tc _ b 2 v2 (Nn (b:=b) (j:=1) (Nn (b:=b) (j:=0) h2 v0) v1);have e3:=Tc _ b 3 v3 (Nn (b:=b) (j:=2) (Nn (b:=b) (j:=1) (Nn (b:=b) (j:=0) h3 v0) v1) v2);have e4:=Tc _ b 4 v4 (Nn (b:=b) (j:=3) (Nn (b:=b) (j:=2) (Nn (b:=b) (j:=1) (Nn (b:=b) (j:=0) h4 v0) v1) v2) v3);exact ⟨(Nn (b:=b) (j:=4) (Nn (b:=b) (j:=3) (Nn (b:=b) (j:=2) (Nn (b:=b) (j:=1) e0 v1) v2) v3) v4),(Nn (b:=b) (j:=4) (Nn (b:=b) (j:=3) (Nn (b:=b) (j:=2) e1 v2) v3) v4),(Nn (b:=b) (j:=4) (Nn (b:=b) (j:=3) e2 v3) v4),(Nn (b:=b) (j:=4) e3 v4),e4,(((((hC.setCell b 0 v0 (fun _=>rfl)).setCell b 1 v1 (fun _=>rfl)).setCell b 2 v2 (fun _=>rfl)).setCell b 3 v3 (fun _=>rfl)).setCell b 4 v4 (fun _=>rfl))⟩
theorem evN_one (c:Cd) (s:Ms):evN c 1 s=stEvs (insAt c s.pc) s:=by simp [evN,stN]
def prj (L:List Ev):List Ev:=L.filter (fun e=>wi e.1 2 4)
theorem prj_app (a b:List Ev):prj (a++b)=prj a++prj b:=List.filter_append ..
def accE (x:Ins) (s:Ms):List Ev:=if x.op=4 then [(2,adr x.b (gi s.regs x.c))] else if x.op=5 then [(3,adr x.a (gi s.regs x.b))] else if x.op=11 then [(4,gi s.regs x.a)] else []
theorem stEvs_acc (x:Ins) (s:Ms):stEvs x s=(5,s.pc)::accE x s:=rfl
theorem insAt_eq {c:Cd} {k:Nat} (h:k < c.list.length):insAt c (k:Int)=c.list[k]:=by
 unfold insAt;rw [Int.toNat_natCast,List.getElem?_eq_getElem h];rfl
theorem tgt_ge {nv na nl:Nat} {x:Ins} (h:insOk nv na nl x=true) (hop:x.op=8∨x.op=9∨x.op=10):0≤tgt x∧tgt x < nl:=by
 obtain ⟨op,a,b,c,d⟩:=x;obtain ⟨P1,P2,P3,P4,P5,P6,P7,P8,P9,a0,b0⟩:=ins_parts h;simp only at hop
 rcases hop with rfl | rfl | rfl
 ·exact P8 rfl
 ·exact (P9 rfl).2
 exact (a0 rfl).2
theorem equalN_any_eq (d:Nat) (x0 x1 x2 x3 x4 y0 y1 y2 y3 y4:Int) (W:World):(Op.equalIn (d+2) 62 (.agg #[.int .i64 x0,.int .i64 x1,.int .i64 x2,.int .i64 x3,.int .i64 x4]) (.agg #[.int .i64 y0,.int .i64 y1,.int .i64 y2,.int .i64 y3,.int .i64 y4])).run Tryz.prog W=.ok (x0 == y0&&x1 == y1&&x2 == y2&&x3 == y3&&x4 == y4) W:=by
 have a0:∀ (d:Nat) (a b:Int) (W:World),(Op.equalIn (d+1) 3 (.int .i64 a) (.int .i64 b)).run Tryz.prog W=.ok (a == b) W:=fun d a b W=>by simp [Op.equalIn,run_underlying Tryz.underlying3]
 rw [Op.equalIn];simp only [Sem.run_bind,run_underlying Tryz.underlying62,Result.andThen_ok];simp [a0,part]
 by_cases h0:x0=y0 <;> by_cases h1:x1=y1 <;> by_cases h2:x2=y2 <;> by_cases h3:x3=y3 <;> by_cases h4:x4=y4 <;> simp [h0,h1,h2,h3,h4]
theorem equalN_any_ne (x0 x1 x2 x3 x4 y0 y1 y2 y3 y4:Int) (W:World):(binOp .neq 62 (.agg #[.int .i64 x0,.int .i64 x1,.int .i64 x2,.int .i64 x3,.int .i64 x4]) (.agg #[.int .i64 y0,.int .i64 y1,.int .i64 y2,.int .i64 y3,.int .i64 y4])).run Tryz.prog W=.ok (.bool (!(x0 == y0&&x1 == y1&&x2 == y2&&x3 == y3&&x4 == y4))) W:=by
 have h:(Op.equal 62 (.agg #[.int .i64 x0,.int .i64 x1,.int .i64 x2,.int .i64 x3,.int .i64 x4]) (.agg #[.int .i64 y0,.int .i64 y1,.int .i64 y2,.int .i64 y3,.int .i64 y4])).run Tryz.prog W=.ok (x0 == y0&&x1 == y1&&x2 == y2&&x3 == y3&&x4 == y4) W:=equalN_any_eq 9998 x0 x1 x2 x3 x4 y0 y1 y2 y3 y4 W;simp only [binOp,Sem.run_bind,h,Result.andThen_ok];rfl
theorem equalN_any (va vb:Value) (xs ys:List Ins) (w:World) (ha:Reads w 5 va xs.length (inss xs)) (hb:Reads w 5 vb ys.length (inss ys)) :
  Calls Tryz.prog 39 #[va,vb] w fun e w'=>e=.returned (.bool (decide (xs=ys)))∧Below w.heap.size w w':=by
 obtain ⟨_,hn,a,l0,b,n0,rfl,j0,ha,f0⟩:=ha;obtain ⟨_,hn',a',cap',b',off',rfl,hcap',ha',g0⟩:=hb;have HC:=Hi (reads_Instr f0);have HD:=Hi (reads_Instr g0);clear f0 g0;by_cases hl:xs.length=ys.length
 ·have e0:((xs.length:Int) != (ys.length:Int))=false:=by simp [hl]
  have HL:=Hi hl;clear hl;go_enter Tryz.func39,Tryz.ntmps39
  go_wp2
  go_loopw [13] (fun i wr=>∃ k:Nat,k≤xs.length∧i=.int .i64 k∧xs.take k=ys.take k∧∃ d,wr=w.drewN d) (fun i _=>xs.length-(intOf i).toNat)
  case atStart=>exact ⟨0,Nat.zero_le _,rfl,rfl,0,rfl⟩
  case round =>
   obtain ⟨k,hk,rfl,he,d,rfl⟩:=hrel;have HE:=Hi he;clear he;by_cases hlt:k < xs.length
   ·obtain ⟨rfl,m0⟩:=ha (by omega);obtain ⟨rfl,hbs'⟩:=ha' (by have:=HL.out;omega);have hlt':k < ys.length:=by have:=HL.out;omega
    obtain ⟨c0,c1,c2,c3,c4⟩:=HC.out k hlt;obtain ⟨d0,d1,d2,d3,d4⟩:=HD.out k hlt';have b0:=Hi (fun h=>take_succ_eq hlt hlt' HE.out h);have i0:=Hi (fun (h:xs=ys)=>show xs[k]=ys[k] by subst h;rfl);generalize xs[k]=x at *
    generalize ys[k]=y at *
    clear HC HD ha ha';have a0:∀ W,(binOp .neq 62 (.agg #[.int .i64 x.op,.int .i64 x.a,.int .i64 x.b,.int .i64 x.c,.int .i64 x.d]) (.agg #[.int .i64 y.op,.int .i64 y.a,.int .i64 y.b,.int .i64 y.c,.int .i64 y.d])).run Tryz.prog W=.ok (.bool (!(x.op == y.op&&x.a == y.a&&x.b == y.b&&x.c == y.c&&x.d == y.d))) W:=fun W=>equalN_any_ne x.op x.a x.b x.c x.d y.op y.a y.b y.c y.d W
    by_cases hxy:x=y
    ·have h0:=Hi (b0.out hxy);clear b0;subst hxy;clear a0;go_wp2
     go_quiet (fail)
     go_wp2
     go_roundw
     case rel=>exact ⟨k+1,by omega,by go_num,h0.out,_,rfl⟩
     case measure=>simp [intOf];omega
    have hq:(x.op == y.op&&x.a == y.a&&x.b == y.b&&x.c == y.c&&x.d == y.d)=false:=by
     cases hz:(x.op == y.op&&x.a == y.a&&x.b == y.b&&x.c == y.c&&x.d == y.d) with
     | false=>rfl
     | true =>
      simp only [Bool.and_eq_true,beq_iff_eq] at hz;exact absurd (by obtain ⟨x0,x1,x2,x3,x4⟩:=x;obtain ⟨y0,y1,y2,y3,y4⟩:=y;simp only at hz;simp [hz]) hxy
    have HX:=Hi hxy;clear hxy;have k0:∀ W,(binOp .neq 62 (.agg #[.int .i64 x.op,.int .i64 x.a,.int .i64 x.b,.int .i64 x.c,.int .i64 x.d]) (.agg #[.int .i64 y.op,.int .i64 y.a,.int .i64 y.b,.int .i64 y.c,.int .i64 y.d])).run Tryz.prog W=.ok (.bool true) W:=fun W=>by rw [a0 W,hq];rfl
    clear a0 hq;go_wp2
    go_quiet (fail)
    go_wp2
    go_ret
    exact ⟨ret_bool (decide_eq_false (fun h=>HX.out (i0.out h))).symm,by rw [World.drewN_drewN];exact below_drewN' w _⟩
   go_wp2
   go_ret
   exact ⟨ret_bool (decide_eq_true (by have h:=HE.out;rwa [List.take_of_length_le (by omega),List.take_of_length_le (by have:=HL.out;omega)] at h)).symm,below_drewN' w _⟩
 have e0:((xs.length:Int) != (ys.length:Int))=true:=by simp;omega
 have HL:=Hi hl;clear hl;go_enter Tryz.func39,Tryz.ntmps39
 go_wp2
 go_ret
 exact ⟨ret_bool (decide_eq_false (fun h=>HL.out (by rw [h]))).symm,Bs w⟩
theorem CodeSame_any (va vb vc ta tb tc:Value) (c d:Cd) (w:World) (hr:ReadsC w va vb vc c) (hs:ReadsC w ta tb tc d) :
  Calls Tryz.prog 10 #[.agg #[va,vb,vc],.agg #[ta,tb,tc]] w fun e w'=>e=.returned (.bool (decide (c=d)))∧Below w.heap.size w w':=by
 obtain ⟨a0,c0,a1,c1,a2,c2,rfl,rfl,rfl⟩:=hr.shape;obtain ⟨e0,f0,e1,f1,e2,f2,rfl,rfl,rfl⟩:=hs.shape;obtain ⟨xs,ys,zs⟩:=c;obtain ⟨us,ws,ts⟩:=d;have HR:=Hi (fun W (hW:Below w.heap.size w W)=>hr.below hW);have HS:=Hi (fun W (hW:Below w.heap.size w W)=>hs.below hW);clear hr hs;simp only at HR HS ⊢
 go_enter Tryz.func10,Tryz.ntmps10
 go_wp2_with fail
 refine (equalI_any _ _ xs us _ (HR.out _ (bal (bal (Bs w) (.cells #[.slice a0 xs.length c0,.slice a1 ys.length c1,.slice a2 zs.length c2] 26)) (.cells #[.slice e0 us.length f0,.slice e1 ws.length f1,.slice e2 ts.length f2] 26))).a (HS.out _ (bal (bal (Bs w) (.cells #[.slice a0 xs.length c0,.slice a1 ys.length c1,.slice a2 zs.length c2] 26)) (.cells #[.slice e0 us.length f0,.slice e1 ws.length f1,.slice e2 ts.length f2] 26))).a).mono ?_;rintro e w1 ⟨rfl,hb⟩;have i0:=hb.size;simp only [Sa] at i0;have d0:Bk w1 (w.heap.size) [.slice a0 xs.length c0,.slice a1 ys.length c1,.slice a2 zs.length c2]:=Bb (Bk.al (Bk.nw (by simp) rfl) (.cells #[.slice e0 us.length f0,.slice e1 ws.length f1,.slice e2 ts.length f2] 26)) hb;have g0:Bk w1 (w.heap.size+1) [.slice e0 us.length f0,.slice e1 ws.length f1,.slice e2 ts.length f2]:=Bb (Bk.nw (by simp) rfl) hb;have b0:=btr (bal (bal (Bs w) (.cells #[.slice a0 xs.length c0,.slice a1 ys.length c1,.slice a2 zs.length c2] 26)) (.cells #[.slice e0 us.length f0,.slice e1 ws.length f1,.slice e2 ts.length f2] 26)) hb;clear hb;have x0:=Bk.lt d0 (show 0 < 3 by decide);have y0:=Bk.lt g0 (show 0 < 3 by decide);by_cases h0:xs=us
 ·rw [decide_eq_true h0];have Z0:=Hi h0;clear h0;have t0:=Bk.cell d0 1 (v:=.slice a1 ys.length c1) rfl;have v0:=Bk.froz d0 1 (show 1 < 3 by decide);have u0:=Bk.cell g0 1 (v:=.slice e1 ws.length f1) rfl;have w0:=Bk.froz g0 1 (show 1 < 3 by decide);go_wp2_with fail
  refine (equalI_any _ _ ys ws _ (HR.out _ b0).b (HS.out _ b0).b).mono ?_;rintro e w2 ⟨rfl,hb⟩;have n0:=hb.size;clear v0 t0 w0 u0;replace d0:=Bb d0 hb;replace g0:=Bb g0 hb;replace b0:=btr b0 hb;clear hb;have p0:=Bk.lt d0 (show 0 < 3 by decide);have q0:=Bk.lt g0 (show 0 < 3 by decide);by_cases h1:ys=ws
  ·rw [decide_eq_true h1];have Z1:=Hi h1;clear h1;have j0:=Bk.cell d0 2 (v:=.slice a2 zs.length c2) rfl;have l0:=Bk.froz d0 2 (show 2 < 3 by decide);have k0:=Bk.cell g0 2 (v:=.slice e2 ts.length f2) rfl;have m0:=Bk.froz g0 2 (show 2 < 3 by decide);go_wp2_with fail
   refine (equalN_any _ _ zs ts _ (HR.out _ b0).l (HS.out _ b0).l).mono ?_;rintro e w3 ⟨rfl,hb⟩;have o0:=hb.size;clear l0 j0 m0 k0;replace d0:=Bb d0 hb;replace g0:=Bb g0 hb;replace b0:=btr b0 hb;clear hb;have r0:=Bk.lt d0 (show 0 < 3 by decide);have s0:=Bk.lt g0 (show 0 < 3 by decide);by_cases h2:zs=ts
   ·rw [decide_eq_true h2];have Z2:=Hi h2;clear h2;have tt:=b0;go_wp2
    exact bodyPost_ret (v:=.bool true) (by simp [results,Tryz.results10,go_sem]) rfl (by exact ⟨ret_bool (decide_eq_true (by rw [Z0.out,Z1.out,Z2.out])).symm,tt⟩)
   rw [decide_eq_false h2];have Z2:=Hi h2;clear h2;have tt:=b0;go_wp2
   exact bodyPost_ret (v:=.bool false) (by simp [results,Tryz.results10,go_sem]) rfl (by exact ⟨ret_bool (decide_eq_false (fun h=>Z2.out (by injection h))).symm,tt⟩)
  rw [decide_eq_false h1];have Z1:=Hi h1;clear h1;have tt:=b0;go_wp2
  exact bodyPost_ret (v:=.bool false) (by simp [results,Tryz.results10,go_sem]) rfl (by exact ⟨ret_bool (decide_eq_false (fun h=>Z1.out (by injection h))).symm,tt⟩)
 rw [decide_eq_false h0];have Z0:=Hi h0;clear h0;have tt:=b0;go_wp2
 exact bodyPost_ret (v:=.bool false) (by simp [results,Tryz.results10,go_sem]) rfl (by exact ⟨ret_bool (decide_eq_false (fun h=>Z0.out (by injection h))).symm,tt⟩)
end Go.Proofs.YtnpidfbcbmeijaaGreat
