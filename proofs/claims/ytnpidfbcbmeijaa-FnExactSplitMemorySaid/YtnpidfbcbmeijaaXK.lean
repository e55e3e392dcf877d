/-
 Parts of the proofs of the laws FnExactSplitMemory.
-/
import Derived.Test.YtnpidfbcbmeijaaRows
import Derived.Test.YtnpidfbcbmeijaaGT
import Derived.Test.YtnpidfbcbmeijaaGR
import Derived.Test.YtnpidfbcbmeijaaME
import Derived.Test.YtnpidfbcbmeijaaMC
import Derived.Test.YtnpidfbcbmeijaaML
set_option linter.all false
namespace Go.Proofs.Ytnpidfbcbmeijaa
open Go.RowKit
def mkM (k:Int) (m:Mm):Mm:=⟨marks k m.vals.length,mk2I (k+m.vals.length) m.arrs⟩
theorem markMemory_x (vx vy:Value) (us:List Value) (m:Mm) (k:Int) (w:World) (base:Nat) (ho:OwnM w base vx vy us m) (h0:0≤k) (h1:k+m.vals.length+pre2 m.arrs m.arrs.length≤1073741824) (hv:m.vals.length≤1048576) (ha:m.arrs.length≤1048576) :
  Calls Try.prog 19 #[.agg #[vx,vy],.int .i64 k] w fun e w'=>e=.returned (.int .i64 (k+m.vals.length+pre2 m.arrs m.arrs.length))∧OwnM w' base vx vy us (mkM k m)∧Chg (fun q=>OwnBM vx vy us q) w w':=by
 obtain ⟨a0,c0,a1,c1,rfl,rfl⟩:=ho.shape;have io:=ho.lt;have p0:=bal (Bs w) (.cells #[.slice a0 m.vals.length c0,.slice a1 m.arrs.length c1] 40);have l0:=ho.below p0;have j0:=ho.ap;go_enter Try.func19,Try.ntmps19
 go_wp2_with fail
 refine (markIntS_any _ m.vals k _ base l0.x (by omega) h0 (by omega)).mono ?_;rintro e w1 ⟨rfl,ox,d0⟩;have u0:=d0.size;simp only [Sa] at u0;have b0:=Gc d0 (Wc (b:=w.heap.size) (j:=1) (w:=w) (cs:=#[.slice a0 m.vals.length c0,.slice a1 m.arrs.length c1]) (t:=40) rfl rfl) (fun h=>by have:=io _ (Or.inl h);omega);have k0:=Lc b0;have oy:=l0.y.keep d0 (fun q h h2=>j0 q h2 h)
 have o0:Chg (fun q=>OwnBM (.slice a0 m.vals.length c0) (.slice a1 m.arrs.length c1) us q) w w1:=by
  have h2:=Cb (S:=fun q=>OwnBM (.slice a0 m.vals.length c0) (.slice a1 m.arrs.length c1) us q) p0;exact h2.trans (d0.mono (fun _ _ h=>Or.inl h))
 have n0:=Hi j0;clear ho l0 d0 j0;go_wp2_with fail
 refine (markIntSS_any _ us m.arrs (k+m.vals.length) _ base oy (by omega) (by omega) (by omega)).mono ?_;rintro e w2 ⟨rfl,r0,i0⟩;have q0:=Ow ox i0 (fun q h h2=>n0.out q h h2);have HO:Hid (OwnM w2 base (.slice a0 m.vals.length c0) (.slice a1 m.arrs.length c1) us (mkM k m)):=Hi ⟨by show World.ownsRow _ _ _ _ _ (marks k m.vals.length).length _;rw [marks_length];exact q0,r0,n0.out⟩;have s0:=o0.trans (i0.mono (T:=fun q=>OwnBM (.slice a0 m.vals.length c0) (.slice a1 m.arrs.length c1) us q) (fun _ _ h=>Or.inr h));clear oy i0 o0 b0 ox q0 r0;go_wp2
 go_ret
 exact ⟨rfl,HO.out,s0⟩
set_option maxHeartbeats 3200000 in
theorem heldMemory_any (vx vy:Value) (m:Mm) (k:Int) (w:World) (hr:ReadsM w vx vy (mkM k m)) (h0:0≤k) (h1:k+m.vals.length+pre2 m.arrs m.arrs.length≤1073741824) :
  Calls Try.prog 20 #[.agg #[vx,vy],.int .i64 k] w fun e w'=>e=.returned (.int .i64 (k+m.vals.length+pre2 m.arrs m.arrs.length))∧Below w.heap.size w w':=by
 have hx:Reads w 1 vx m.vals.length (ints (marks k m.vals.length)):=by have h:=hr.x;rw [show (mkM k m).vals=marks k m.vals.length from rfl,marks_length] at h;exact h
 have hy:Reads2 ints w vy (mk2I (k+m.vals.length) m.arrs):=hr.y;obtain ⟨a0,c0,rfl⟩:=reads_shape hx;obtain ⟨a1,c1,hv⟩:=hy.shape;rw [mk2I_len] at hv;subst hv;have HX:=Hi (fun W (hW:Below w.heap.size w W)=>heldIntS_b _ m.vals.length k W (hx.below hW) (by omega) h0 (by omega));have HY:=Hi (fun W (hW:Below w.heap.size w W)=>heldIntSS_any _ m.arrs (k+m.vals.length) W (hy.below hW) (by omega) (by omega));have v0:¬k+(m.vals.length:Int) < 0:=by omega
 have w0:¬k+(m.vals.length:Int)+(pre2 m.arrs m.arrs.length:Nat) < 0:=by omega
 clear hr hx hy h0 h1;go_enter Try.func20,Try.ntmps20
 go_wp2_with fail
 refine (HX.out _ (bal (Bs w) (.cells #[.slice a0 m.vals.length c0,.slice a1 m.arrs.length c1] 40))).mono ?_;rintro e w1 ⟨rfl,hb⟩;have m0:=hb.size;simp only [Sa] at m0;have e0:w1.cell? ⟨w.heap.size,0,none⟩=some (.slice a0 m.vals.length c0):=Kc hb (Wc (by simp) (by rfl));have g0:w1.cell? ⟨w.heap.size,1,none⟩=some (.slice a1 m.arrs.length c1):=Kc hb (Wc (by simp) (by rfl));have f0:=btr (bal (Bs w) (.cells #[.slice a0 m.vals.length c0,.slice a1 m.arrs.length c1] 40)) hb;clear hb;have x0:=Lc e0;go_wp2_with fail
 refine (HY.out _ f0).mono ?_;rintro e w2 ⟨rfl,hb⟩;have t0:=hb.size;replace e0:=Kc hb e0;replace g0:=Kc hb g0;replace f0:=btr f0 hb;clear hb;clear e0 g0;have tt:=f0;go_wp2
 exact bodyPost_ret (v:=.int .i64 (k+m.vals.length+pre2 m.arrs m.arrs.length)) (by simp [results,Try.results20,go_sem]) rfl (by exact ⟨rfl,tt⟩)
theorem mkM_sm {k:Int} {m:Mm} (h1:m.vals.length≤1048576) (h2:m.arrs.length≤1048576) (h3:pre2 m.arrs m.arrs.length≤1048576):(mkM k m).vals.length≤1048576∧(mkM k m).arrs.length≤1048576∧pre2 (mkM k m).arrs (mkM k m).arrs.length≤1048576:=
 ⟨by show (marks _ _).length≤_;rw [marks_length];exact h1,by show (mk2I _ _).length≤_;rw [mk2I_len];exact h2,by show pre2 (mk2I _ _) (mk2I _ _).length≤_;rw [mk2I_len,mk2I_pre];exact h3⟩
theorem memOk_sz {nv na:Nat} {m:Mm} (h:memOk nv na m=true):m.vals.length=nv∧m.arrs.length=na∧pre2 m.arrs m.arrs.length≤4*na:=by
 unfold memOk at h
 simp only [Bool.and_eq_true,decide_eq_true_eq,List.all_eq_true] at h;obtain ⟨h1,h2,_,h4⟩:=h;refine ⟨h1,h2,?_⟩;have:=pre2_le m.arrs 4 (fun k r hr=>by have:=(h4 r (List.mem_of_getElem? hr)).1;omega) m.arrs.length Lr
 omega
theorem run_pre {P:Program} {t e:TypeId} {z:Value} {size bytes:Nat} (T:SliceT P t e z size bytes) (a:Option Addr) (n c k:Nat) (hk:k≤c) (W:World) :
  (Instr.slice t (.slice a n c) none (some (.int .i64 (k:Int))) none).run P W=.ok (.slice a k c) W:=by
 obtain ⟨i,hi,a0,b0,c0⟩:=info_parts T.info;have h1:(0:Int)≤(k:Int)∧(k:Int)≤(c:Int):=by omega
 have ha:(if c=0 then a else Option.map (fun x=>x.add 0) a)=a:=by
  split
  ·rfl
  cases a <;> simp [Addr.add]
 simp [Instr.slice,Instr.sliceBounds,Instr.sliceBound,asIntOf,run_underlying T.under,sizeOf,typeInfo,hi,hk,ha]
theorem run_post {P:Program} {t e:TypeId} {z:Value} {size bytes:Nat} (T:SliceT P t e z size bytes) (a:Option Addr) (n c k:Nat) (hk:k≤n) (W:World) :
  (Instr.slice t (.slice a n c) (some (.int .i64 (k:Int))) none none).run P W=.ok (.slice (if c=k then a else a.map (fun x=>x.add (k*size))) (n-k) (c-k)) W:=by
 obtain ⟨i,hi,b0,a0,c0⟩:=info_parts T.info;subst a0;simp [Instr.slice,Instr.sliceBounds,Instr.sliceBound,asIntOf,run_underlying T.under,sizeOf,typeInfo,hi,hk]
end Go.Proofs.Ytnpidfbcbmeijaa
