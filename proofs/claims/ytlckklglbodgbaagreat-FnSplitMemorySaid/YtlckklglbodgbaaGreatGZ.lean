/-
 Parts of the proofs of the laws FnPairMemory,FnSplitMemory.
-/
import Derived.Test.YtlckklglbodgbaaGreatGY
set_option linter.all false
namespace Go.Proofs.YtlckklglbodgbaaGreat
open Go.RowKit
theorem memOk_sz {nv na:Nat} {m:Mm} (h:memOk nv na m=true):m.vals.length=nv∧m.arrs.length=na∧pre2 m.arrs m.arrs.length≤4*na:=by
 unfold memOk at h
 simp only [Bool.and_eq_true,decide_eq_true_eq,List.all_eq_true] at h;obtain ⟨h1,h2,_,h4⟩:=h;refine ⟨h1,h2,?_⟩;have:=pre2_le m.arrs 4 (fun k r hr=>by have:=(h4 r (List.mem_of_getElem? hr)).1;omega) m.arrs.length Lr
 omega
theorem run_pre {P:Program} {t e:TypeId} {z:Value} {size bytes:Nat} (T:SliceT P t e z size bytes) (a:Option Addr) (n c k:Nat) (hk:k≤c) (W:World) :
  (Instr.slice t (.slice a n c) none (some (.int .i64 (k:Int))) none).run P W=.ok (.slice a k c) W:=by
 obtain ⟨i,hi,a0,b0,c0⟩:=info_parts T.info;have h1:(0:Int)≤(k:Int)∧(k:Int)≤(c:Int):=by omega
 have ha:(if c=0 then a else Option.map (fun x=>x.add 0) a)=a:=by
  split
  ·rfl
  cases a <;> simp [Addr.add]
 simp [Instr.slice,Instr.sliceBounds,Instr.sliceBound,asIntOf,run_underlying T.under,sizeOf,typeInfo,hi,hk,ha]
theorem run_post {P:Program} {t e:TypeId} {z:Value} {size bytes:Nat} (T:SliceT P t e z size bytes) (a:Option Addr) (n c k:Nat) (hk:k≤n) (W:World) :
  (Instr.slice t (.slice a n c) (some (.int .i64 (k:Int))) none none).run P W=.ok (.slice (if c=k then a else a.map (fun x=>x.add (k*size))) (n-k) (c-k)) W:=by
 obtain ⟨i,hi,b0,a0,c0⟩:=info_parts T.info;subst a0;simp [Instr.slice,Instr.sliceBounds,Instr.sliceBound,asIntOf,run_underlying T.under,sizeOf,typeInfo,hi,hk]
theorem reads_cap2 {w:World} {size:Nat} {a:Option Addr} {n c:Nat} {vs:List Value} (h:Reads w size (.slice a n c) n vs):n≤c:=by
 obtain ⟨_,_,a',c',b,a0,hv,⟨hc,_⟩,_⟩:=h;simp only [Value.slice.injEq,true_and] at hv;omega
theorem reads_pre {w:World} {size:Nat} {a:Option Addr} {n c:Nat} {vs:List Value} (h:Reads w size (.slice a n c) n vs) (k:Nat) (hk:k≤n):Reads w size (.slice a k c) k (vs.take (k*size)):=by
 obtain ⟨h1,h2,a',c',b,d0,hv,⟨hc,b0⟩,ha,a0⟩:=h;simp only [Value.slice.injEq,true_and] at hv;obtain ⟨rfl,rfl⟩:=hv;have e0:k*size≤vs.length:=by rw [h1];exact Nat.mul_le_mul_right _ hk
 refine ⟨by rw [List.length_take];omega,by omega,a,c,b,d0,rfl,⟨by omega,b0⟩,fun h0=>ha (by omega),fun j hj=>?_⟩;have c0:j < vs.length:=by rw [List.length_take] at hj;omega
 rw [List.getElem_take];exact a0 j c0
theorem reads_post {w:World} {size:Nat} {a:Option Addr} {n c:Nat} {vs:List Value} (h:Reads w size (.slice a n c) n vs) (k:Nat) (hk:k≤n) :
  Reads w size (.slice (if c=k then a else a.map (fun x=>x.add (k*size))) (n-k) (c-k)) (n-k) (vs.drop (k*size)):=by
 obtain ⟨h1,h2,a',c',b,e0,hv,⟨hc,c0⟩,ha,a0⟩:=h;simp only [Value.slice.injEq,true_and] at hv;obtain ⟨rfl,rfl⟩:=hv;have f0:k*size≤vs.length:=by rw [h1];exact Nat.mul_le_mul_right _ hk
 refine ⟨by rw [List.length_drop,h1,Nat.sub_mul],by omega,_,_,b,e0+k*size,rfl,⟨by omega,?_⟩,fun h0=>?_,fun j hj=>?_⟩
 ·intro d0;by_cases b0:c=k
  ·omega
  rw [if_neg b0] at d0
  cases a with
  | none=>have:=c0 rfl;omega
  | some x=>cases d0
 ·obtain ⟨rfl,hb⟩:=ha (by omega);have b0:¬c=k:=by omega
  rw [if_neg b0];exact ⟨by simp [addr_add],hb⟩
 rw [List.getElem_drop];rw [List.length_drop] at hj;rw [← a0 (k*size+j) (by omega)];congr 2
 omega
theorem ints_pre {w:World} {a:Option Addr} {c:Nat} {xs:List Int} (h:Reads w 1 (.slice a xs.length c) xs.length (ints xs)) (k:Nat) (hk:k≤xs.length):Reads w 1 (.slice a k c) (xs.take k).length (ints (xs.take k)):=by
 have:=reads_pre h k hk
 rw [Nat.mul_one] at this;rw [List.length_take,Nat.min_eq_left hk];simpa [ints,List.map_take] using this
theorem ints_post {w:World} {a:Option Addr} {c:Nat} {xs:List Int} (h:Reads w 1 (.slice a xs.length c) xs.length (ints xs)) (k:Nat) (hk:k≤xs.length):Reads w 1 (.slice (if c=k then a else a.map (fun x=>x.add (k*1))) (xs.length-k) (c-k)) (xs.drop k).length (ints (xs.drop k)):=by
 have:=reads_post h k hk
 rw [List.length_drop];rw [Nat.mul_one] at this ⊢;simpa [ints,List.map_drop] using this
theorem rows_pre {w:World} {a:Option Addr} {c:Nat} {rs:List (List Int)} (h:Reads2 ints w (.slice a rs.length c) rs) (k:Nat) (hk:k≤rs.length):Reads2 ints w (.slice a k c) (rs.take k):=by
 obtain ⟨vs,h1,h2⟩:=h;have h3:=reads_pre h1 k hk;rw [Nat.mul_one] at h3;refine ⟨vs.take k,by rw [List.length_take,Nat.min_eq_left hk];exact h3,fun j u r hu hr=>?_⟩;rw [List.getElem?_take] at hu hr;by_cases hj:j < k
 ·rw [if_pos hj] at hu hr;exact h2 j u r hu hr
 rw [if_neg hj] at hu;cases hu
theorem rows_post {w:World} {a:Option Addr} {c:Nat} {rs:List (List Int)} (h:Reads2 ints w (.slice a rs.length c) rs) (k:Nat) (hk:k≤rs.length):Reads2 ints w (.slice (if c=k then a else a.map (fun x=>x.add (k*1))) (rs.length-k) (c-k)) (rs.drop k):=by
 obtain ⟨vs,h1,h2⟩:=h;have h3:=reads_post h1 k hk;rw [Nat.mul_one] at h3 ⊢;refine ⟨vs.drop k,by rw [List.length_drop];exact h3,fun j u r hu hr=>?_⟩;rw [List.getElem?_drop] at hu hr;exact h2 _ u r hu hr
def spl1 (ok:Bool) (nv na:Nat) (m:Mm):Mm:=match ok with | true=>⟨m.vals.take nv,m.arrs.take na⟩ | false=>⟨[],[]⟩
def spl2 (ok:Bool) (nv na:Nat) (m:Mm):Mm:=match ok with | true=>⟨m.vals.drop nv,m.arrs.drop na⟩ | false=>⟨[],[]⟩
def SplP (base:Nat) (ok:Bool) (a b:Mm) (r:Ending) (w':World):Prop:=∃ ax ay au bx by' bu,r=.returned (.tuple #[.agg #[ax,ay],.agg #[bx,by'],.bool ok])∧OwnM w' base ax ay au a∧OwnM w' base bx by' bu b∧∀ q,OwnBM ax ay au q→¬OwnBM bx by' bu q
theorem pre2_take {rs:List (List Int)} (k:Nat):pre2 (rs.take k) (rs.take k).length≤pre2 rs rs.length:=by
 have e:rs=rs.take k++rs.drop k:=(List.take_append_drop k rs).symm
 have h:∀ a b:List (List Int),pre2 (a++b) (a++b).length=pre2 a a.length+pre2 b b.length:=fun a b=>by
  unfold pre2
  rw [List.take_of_length_le Lr,List.take_of_length_le Lr,List.take_of_length_le Lr,List.map_append,List.sum_append]
 have:=h (rs.take k) (rs.drop k)
 rw [← e] at this;omega
theorem pre2_drop {rs:List (List Int)} (k:Nat):pre2 (rs.drop k) (rs.drop k).length≤pre2 rs rs.length:=by
 have e:rs=rs.take k++rs.drop k:=(List.take_append_drop k rs).symm
 have h:∀ a b:List (List Int),pre2 (a++b) (a++b).length=pre2 a a.length+pre2 b b.length:=fun a b=>by
  unfold pre2
  rw [List.take_of_length_le Lr,List.take_of_length_le Lr,List.take_of_length_le Lr,List.map_append,List.sum_append]
 have:=h (rs.take k) (rs.drop k)
 rw [← e] at this;omega
def splB (xs ys:List Int) (L:List St) (m:Mm):Bool:=dblR xs ys L&&memOk (dX (dblR xs ys L) xs).length (dX (dblR xs ys L) ys).length m
set_option maxHeartbeats 6400000 in
set_option maxRecDepth 100000 in
theorem iSplit_any (va vb u vx vy:Value) (xs ys:List Int) (A:Nat→Prop) (D:Nat) (L:List St) (m:Mm) (w:World) (hp:ReadsP w A D va vb u xs ys L) (hm:ReadsM w vx vy m) (hn:xs.length≤1048576∧ys.length≤1048576∧stNs L≤1048576)
  (hsm:m.vals.length≤1048576∧m.arrs.length≤1048576∧pre2 m.arrs m.arrs.length≤1048576) :
  Calls Tryz.prog 10 #[.agg #[va,vb,u],.agg #[vx,vy]] w fun r w'=>SplP w.heap.size (splB xs ys L m) (spl1 (splB xs ys L m) xs.length ys.length m) (spl2 (splB xs ys L m) xs.length ys.length m) r w'∧Below w.heap.size w w':=by
 obtain ⟨pv,cv,pa,ca,pu,cu,rfl,rfl,rfl⟩:=hp.shape;obtain ⟨px,cx,py,cy,rfl,rfl⟩:=hm.shape
 have q2:Hid (∀ W,Below w.heap.size w W→Calls Tryz.prog 19 #[.agg #[.slice pv xs.length cv,.slice pa ys.length ca,.slice pu L.length cu]] W fun r W'=>∃ (g1 g2:Option Addr) (c1 c2:Nat),r=.returned (.tuple #[.agg #[.slice g1 (dX (dblR xs ys L) xs).length c1,.slice g2 (dX (dblR xs ys L) ys).length c2,.slice none 0 0],.bool (dblR xs ys L)])∧OwnRp W' W.heap.size (.slice g1 (dX (dblR xs ys L) xs).length c1) (.slice g2 (dX (dblR xs ys L) ys).length c2) (dX (dblR xs ys L) xs) (dX (dblR xs ys L) ys)∧Below W.heap.size W W'):=Hi (fun W hW=>(iDouble_any _ _ xs ys A D _ L W (hp.below hW).a (hp.below hW).b (hp.below hW).t ⟨by omega,by omega⟩).mono (fun r W' h=>by
  obtain ⟨h1,h2⟩:=h;obtain ⟨ua,ub,h3,h4,h5,h6⟩:=h1;obtain ⟨g1,c1,rfl⟩:=Oh h4;obtain ⟨g2,c2,rfl⟩:=Oh h5;exact ⟨g1,g2,c1,c2,h3,⟨h4,h5,h6⟩,h2⟩))
 have HX:Hid (dblR xs ys L=true→(dX (dblR xs ys L) xs).length=xs.length+xs.length∧(dX (dblR xs ys L) ys).length=ys.length+ys.length):=Hi (fun h=>by rw [h];simp [dX]);have HM:Hid (∀ (xs ys:List Int) (g1 g2:Option Addr) (c1 c2:Nat) (b:Nat) W,Below w.heap.size w W→OwnRp W b (.slice g1 xs.length c1) (.slice g2 ys.length c2) xs ys→Calls Tryz.prog 26 #[.slice g1 xs.length c1,.slice g2 ys.length c2,.agg #[.slice px m.vals.length cx,.slice py m.arrs.length cy]] W fun r W'=>r=.returned (.bool (memOk xs.length ys.length m))∧Below W.heap.size W W'):=Hi (fun xs ys g1 g2 c1 c2 b W hW h=>isMemory_any _ _ _ _ xs ys m W h.reads.a h.reads.b (hm.below hW).x (hm.below hW).y);have r2:Hid (∀ n k,memOk n k m=true→m.vals.length=n∧m.arrs.length=k):=Hi (fun n k h=>⟨(memOk_sz h).1,(memOk_sz h).2.1⟩)
 have s2:Hid (xs.length≤m.vals.length→ys.length≤m.arrs.length→∀ W,Below w.heap.size w W→Calls Tryz.prog 27 #[.agg #[.slice px xs.length cx,.slice py ys.length cy]] W fun r W'=>∃ ux uy us,r=.returned (.agg #[ux,uy])∧OwnM W' W.heap.size ux uy us (spl1 true xs.length ys.length m)∧Below W.heap.size W W'):=Hi (fun k1 k2 W hW=>(memOwn_any _ _ (spl1 true xs.length ys.length m) W (ints_pre (hm.below hW).x xs.length k1) (rows_pre (hm.below hW).y ys.length k2) (by simp only [spl1,List.length_take];omega) (by simp only [spl1,List.length_take];omega) (Nat.le_trans (pre2_take _) hsm.2.2)).mono (fun r W' h=>by
  obtain ⟨ux,uy,us,h1,h2,h3,h4,h5⟩:=h;exact ⟨ux,uy,us,h1,⟨h2,h3,h4⟩,h5⟩))
 have u2:Hid (xs.length≤m.vals.length→ys.length≤m.arrs.length→∀ W,Below w.heap.size w W→Calls Tryz.prog 27 #[.agg #[.slice (if cx=xs.length then px else px.map (fun x=>x.add (xs.length*1))) (m.vals.length-xs.length) (cx-xs.length),.slice (if cy=ys.length then py else py.map (fun x=>x.add (ys.length*1))) (m.arrs.length-ys.length) (cy-ys.length)]] W fun r W'=>∃ ux uy us,r=.returned (.agg #[ux,uy])∧OwnM W' W.heap.size ux uy us (spl2 true xs.length ys.length m)∧Below W.heap.size W W'):=Hi (fun k1 k2 W hW=>(memOwn_any _ _ (spl2 true xs.length ys.length m) W (ints_post (hm.below hW).x xs.length k1) (rows_post (hm.below hW).y ys.length k2) (by simp only [spl2,List.length_drop];omega) (by simp only [spl2,List.length_drop];omega) (Nat.le_trans (pre2_drop _) hsm.2.2)).mono (fun r W' h=>by
  obtain ⟨ux,uy,us,h1,h2,h3,h4,h5⟩:=h;exact ⟨ux,uy,us,h1,⟨h2,h3,h4⟩,h5⟩))
 have e3:=reads_cap2 hm.x;have f3:m.arrs.length≤cy:=by obtain ⟨_,h,_⟩:=hm.y;exact reads_cap2 h
 have HQ:Hid (splB xs ys L m=(dblR xs ys L&&memOk (dX (dblR xs ys L) xs).length (dX (dblR xs ys L) ys).length m)):=Hi rfl;have v2:Hid (xs.length≤m.vals.length→ys.length≤m.arrs.length→(spl1 true xs.length ys.length m).vals.length=xs.length∧(spl1 true xs.length ys.length m).arrs.length=ys.length∧(spl2 true xs.length ys.length m).vals.length=m.vals.length-xs.length∧(spl2 true xs.length ys.length m).arrs.length=m.arrs.length-ys.length):=Hi (fun h1 h2=>⟨by simp [spl1];omega,by simp [spl1];omega,by simp [spl2],by simp [spl2]⟩);clear hp hm hn hsm;generalize splB xs ys L m=Q at *
 generalize dX (dblR xs ys L) xs=XS at *
 generalize dX (dblR xs ys L) ys=YS at *
 generalize dblR xs ys L=X at *
 go_enter Tryz.func10,Tryz.ntmps10
 go_wp2_with fail
 refine (q2.out _ (bal (bal (bal (bal (Bs w) (.cells #[.slice pv xs.length cv,.slice pa ys.length ca,.slice pu L.length cu] 26)) (.cells #[.slice px m.vals.length cx,.slice py m.arrs.length cy] 29)) (.cells #[.slice none 0 0,.slice none 0 0] 29)) (.cells #[.slice none 0 0,.slice none 0 0] 29))).mono ?_;rintro e w1 ⟨g1,g2,c1,c2,rfl,oq,hb⟩;have y0:=hb.size;simp only [Sa] at y0;have p0:=Bb (Bk.al (Bk.al (Bk.al (Bk.n3 (w.heap.size)) (.cells #[.slice px m.vals.length cx,.slice py m.arrs.length cy] 29)) (.cells #[.slice none 0 0,.slice none 0 0] 29)) (.cells #[.slice none 0 0,.slice none 0 0] 29)) hb;have b0:=Bb (Bk.al (Bk.al (Bk.n2 (w.heap.size+1)) (.cells #[.slice none 0 0,.slice none 0 0] 29)) (.cells #[.slice none 0 0,.slice none 0 0] 29)) hb;have g0:=Bb (Bk.al (Bk.n2 (w.heap.size+1+1)) (.cells #[.slice none 0 0,.slice none 0 0] 29)) hb;have l0:=Bb (Bk.n2 (w.heap.size+1+1+1)) hb;have c0:=btr (bal (bal (bal (bal (Bs w) (.cells #[.slice pv xs.length cv,.slice pa ys.length ca,.slice pu L.length cu] 26)) (.cells #[.slice px m.vals.length cx,.slice py m.arrs.length cy] 29)) (.cells #[.slice none 0 0,.slice none 0 0] 29)) (.cells #[.slice none 0 0,.slice none 0 0] 29)) hb;clear hb;have g5:=Bk.lz p0;have i5:=Bk.lz b0;have j5:=Bk.lz g0;have k5:=Bk.lz l0;have w0:=oq.lt;try simp only [Sa] at w0
 cases X with
 | false =>
  have s0:Hid (Q=false):=Hi (by first | (rw [HQ.out];simp;done) | (rw [HQ.out,r0.out];rfl));obtain ⟨z0,v3,a1,x3⟩:=Bk.h2 g0;obtain ⟨b1,y3,d1,z3⟩:=Bk.h2 l0;have g3:w.heap.size+1+1 < w1.heap.size:=by omega
  have i3:w.heap.size+1+1+1 < w1.heap.size:=by omega
  have j4:=(Ac (Nn (b:=(w.heap.size+1+1+1)) (j:=1) (Nn (b:=(w.heap.size+1+1+1)) (j:=0) (Nn (b:=(w.heap.size+1+1)) (j:=1) (Tc _ (w.heap.size+1+1) 0 (.slice none 0 0) z0) (.slice none 0 0)) (.slice none 0 0)) (.slice none 0 0)) (.cells #[.slice g1 XS.length c1,.slice g2 YS.length c2,.slice none 0 0] 26));have k4:=(Ac (Nn (b:=(w.heap.size+1+1+1)) (j:=1) (Nn (b:=(w.heap.size+1+1+1)) (j:=0) (Tc _ (w.heap.size+1+1) 1 (.slice none 0 0) (Nn (b:=(w.heap.size+1+1)) (j:=0) a1 (.slice none 0 0))) (.slice none 0 0)) (.slice none 0 0)) (.cells #[.slice g1 XS.length c1,.slice g2 YS.length c2,.slice none 0 0] 26));have l4:=(Ac (Nn (b:=(w.heap.size+1+1+1)) (j:=1) (Tc _ (w.heap.size+1+1+1) 0 (.slice none 0 0) (Nn (b:=(w.heap.size+1+1)) (j:=1) (Nn (b:=(w.heap.size+1+1)) (j:=0) b1 (.slice none 0 0)) (.slice none 0 0))) (.slice none 0 0)) (.cells #[.slice g1 XS.length c1,.slice g2 YS.length c2,.slice none 0 0] 26));have m4:=(Ac (Tc _ (w.heap.size+1+1+1) 1 (.slice none 0 0) (Nn (b:=(w.heap.size+1+1+1)) (j:=0) (Nn (b:=(w.heap.size+1+1)) (j:=1) (Nn (b:=(w.heap.size+1+1)) (j:=0) d1 (.slice none 0 0)) (.slice none 0 0)) (.slice none 0 0))) (.cells #[.slice g1 XS.length c1,.slice g2 YS.length c2,.slice none 0 0] 26));have tt:=(bal (bst (bst (bst (bst c0 (w.heap.size+1+1) 0 (by omega) (.slice none 0 0)) (w.heap.size+1+1) 1 (by omega) (.slice none 0 0)) (w.heap.size+1+1+1) 0 (by omega) (.slice none 0 0)) (w.heap.size+1+1+1) 1 (by omega) (.slice none 0 0)) (.cells #[.slice g1 XS.length c1,.slice g2 YS.length c2,.slice none 0 0] 26));go_wp2
  exact bodyPost_ret (v:=.tuple #[.agg #[.slice none 0 0,.slice none 0 0],.agg #[.slice none 0 0,.slice none 0 0],.bool false]) (by simp [results,Tryz.results10,go_sem,j4,k4,l4,m4]) rfl (by exact by rw [s0.out];exact ⟨⟨_,_,_,_,_,_,rfl,ownM_nil _ _,ownM_nil _ _,fun q h=>by rcases h with h | h | ⟨k,u,h,_⟩ <;> cases h⟩,tt⟩)
 | true =>
  obtain ⟨e1,v1,f1,x1⟩:=Bk.h2 b0;go_wp2_with fail
  refine (HM.out XS YS _ _ _ _ _ _ (bal c0 (.cells #[.slice g1 XS.length c1,.slice g2 YS.length c2,.slice none 0 0] 26)) (oq.below (bal (Bs _) (.cells #[.slice g1 XS.length c1,.slice g2 YS.length c2,.slice none 0 0] 26)))).mono ?_;rintro e w2 ⟨rfl,a0⟩;have t0:=a0.size;simp only [Sa] at t0;clear v1 e1 x1 f1;replace oq:=(oq.below (bal (Bs _) _)).below a0;have q0:=Bb (Bk.n3 (w1.heap.size)) a0;replace c0:=btr (bal c0 _) a0;have j3:=Bk.lz q0;clear oq;clear w0;obtain ⟨M1,r0⟩:∃ b,Hid (memOk XS.length YS.length m=b):=⟨_,Hi rfl⟩;rw [r0.out]
  cases M1 with
  | false =>
   have s0:Hid (Q=false):=Hi (by first | (rw [HQ.out];simp;done) | (rw [HQ.out,r0.out];rfl));replace g0:=Bb (Bk.al g0 _) a0;obtain ⟨k3,a4,l3,b4⟩:=Bk.h2 g0;replace l0:=Bb (Bk.al l0 _) a0;obtain ⟨m3,c4,o3,d4⟩:=Bk.h2 l0;obtain ⟨n4,o4⟩:=Bk.g2 (Bk.nn (b':=(w.heap.size+1+1+1)) (j':=1) (Bk.nn (b':=(w.heap.size+1+1+1)) (j':=0) (Bk.t2 g0 (.slice none 0 0) (.slice none 0 0)) (.slice none 0 0)) (.slice none 0 0));obtain ⟨q4,r4⟩:=Bk.g2 (Bk.t2 (Bk.nn (b':=(w.heap.size+1+1)) (j':=1) (Bk.nn (b':=(w.heap.size+1+1)) (j':=0) l0 (.slice none 0 0)) (.slice none 0 0)) (.slice none 0 0) (.slice none 0 0));have tt:=(bst (bst (bst (bst c0 (w.heap.size+1+1) 0 (by omega) (.slice none 0 0)) (w.heap.size+1+1) 1 (by omega) (.slice none 0 0)) (w.heap.size+1+1+1) 0 (by omega) (.slice none 0 0)) (w.heap.size+1+1+1) 1 (by omega) (.slice none 0 0));go_wp2
   exact bodyPost_ret (v:=.tuple #[.agg #[.slice none 0 0,.slice none 0 0],.agg #[.slice none 0 0,.slice none 0 0],.bool false]) (by simp [results,Tryz.results10,go_sem,n4,o4,q4,r4]) rfl (by exact by rw [s0.out];exact ⟨⟨_,_,_,_,_,_,rfl,ownM_nil _ _,ownM_nil _ _,fun q h=>by rcases h with h | h | ⟨k,u,h,_⟩ <;> cases h⟩,tt⟩)
  | true =>
   have s0:Hid (Q=true):=Hi (by rw [HQ.out,r0.out];rfl);have k0:xs.length≤m.vals.length∧ys.length≤m.arrs.length:=by have h1:=r2.out _ _ r0.out;have h2:=HX.out (by first | rfl | trivial);omega
   obtain ⟨k0,m0⟩:=k0;have c5:=run_pre tInts px m.vals.length cx xs.length (by omega);have d5:=run_post tInts px m.vals.length cx xs.length k0;have e5:=run_pre tIntSS py m.arrs.length cy ys.length (by omega);have f5:=run_post tIntSS py m.arrs.length cy ys.length m0;have K1:=Hi (s2.out k0 m0);have K2:=Hi (u2.out k0 m0);have KR:=Hi (v2.out k0 m0);clear s2 u2 HM r2 HX q2 v2;generalize (if cx=xs.length then px else px.map (fun x=>x.add (xs.length*1)))=tpp at *
   generalize (if cy=ys.length then py else py.map (fun x=>x.add (ys.length*1)))=tqq at *
   have HM1b:=r0;clear HM1b k0 m0 e3 f3;go_upto_region 4 with (fail)
   replace p0:=Bb (Bk.al p0 _) a0;refine Rgh (S:=fun W'=>W'.cell? ⟨w.heap.size,0,none⟩=some (.slice pv xs.length cv)∧W'.cell? ⟨w.heap.size,1,none⟩=some (.slice pa ys.length ca)) (fun W d=>Bk.d2 p0 d) (fun w3 h0 hHeld=>?_);have y2:=h0.size;replace c0:=btr c0 h0;refine (tq 0 29 rfl rfl ?_ ?_ (tq 1 30 rfl rfl ?_ ?_ (tq 2 31 rfl rfl ?_ ?_ (tq 3 32 rfl rfl ?_ ?_ (tq 4 33 rfl rfl ?_ ?_ (tq 5 34 rfl rfl ?_ ?_ (tq 6 9 rfl rfl ?_ ?_ (tq 7 10 rfl rfl ?_ ?_ ?_))))))));iterate 8 (rotate_left;intro W' hSw;(try dsimp only at hSw);go_simp;try with_reducible rfl)
   try simp only [Ep]
   refine Dn ?_;clear hHeld;replace p0:=Bb p0 h0;obtain ⟨i1,y1,j1,z1⟩:=Bk.h2 p0;go_upto_region 5 with (fail)
   clear y1 i1 z1 j1;replace b0:=Bb (Bb (Bk.al b0 _) a0) h0;refine Rgh (S:=fun W'=>W'.cell? ⟨w.heap.size+1,0,none⟩=some (.slice px m.vals.length cx)∧W'.cell? ⟨w.heap.size+1,1,none⟩=some (.slice py m.arrs.length cy)) (fun W d=>Bk.d2 b0 d) (fun w4 i0 hHeld=>?_);have z2:=i0.size;replace c0:=btr c0 i0;refine (tq 0 35 rfl rfl ?_ ?_ (tq 1 36 rfl rfl ?_ ?_ (tq 2 37 rfl rfl ?_ ?_ (tq 3 38 rfl rfl ?_ ?_ (tq 4 39 rfl rfl ?_ ?_ (tq 5 40 rfl rfl ?_ ?_ (tq 6 41 rfl rfl ?_ ?_ (tq 7 42 rfl rfl ?_ ?_ (tq 8 43 rfl rfl (.agg #[.slice px xs.length cx,.slice py ys.length cy]) (fun W' _=>by kernel_rfl) (tq 10 45 rfl rfl ?_ ?_ (tq 11 46 rfl rfl ?_ ?_ (tq 12 47 rfl rfl ?_ ?_ (tq 13 48 rfl rfl ?_ ?_ (tq 14 49 rfl rfl ?_ ?_ (tq 15 50 rfl rfl ?_ ?_ (tq 16 51 rfl rfl ?_ ?_ (tq 17 52 rfl rfl ?_ ?_ (tq 18 53 rfl rfl (.agg #[.slice tpp (m.vals.length-xs.length) (cx-xs.length),.slice tqq (m.arrs.length-ys.length) (cy-ys.length)]) (fun W' _=>by kernel_rfl) ?_))))))))))))))))));iterate 16 (rotate_left;intro W' hSw;(try dsimp only at hSw);go_simp;try with_reducible rfl)
   try simp only [Ep]
   refine Rdy 9 rfl (fun K hK=>?_);replace b0:=Bb b0 i0;obtain ⟨l1,a2,m1,b2⟩:=Bk.h2 b0;go_simp
   refine (K1.out _ c0).mono ?_;rintro e w5 ⟨y4,a5,c3,rfl,OA,j0⟩;obtain ⟨p1,t1,p2,t2,rfl,rfl⟩:=OA.shape;have a3:=j0.size;clear a2 l1 b2 m1;replace c0:=btr c0 j0;have n0:=OA.lt;replace b0:=Bb b0 j0;refine hK.out _ _ (Bk.e2 b0) (fun hHeld=>?_);clear hK K;try simp only [Ep]
   refine Rdy 19 rfl (fun K hK=>?_);go_simp
   refine (K2.out _ c0).mono ?_;rintro e w6 ⟨z4,b5,d3,rfl,OB,f0⟩;obtain ⟨p3,t3,p4,t4,rfl,rfl⟩:=OB.shape;have b3:=f0.size;replace OA:=OA.below f0;replace c0:=btr c0 f0;have o0:=OB.lt;replace b0:=Bb b0 f0;refine hK.out _ _ (Bk.e2 b0) (fun hHeld=>?_);clear hK K;try simp only [Ep]
   refine Rdy 20 rfl (fun K hK=>?_);replace g0:=Bb (Bb (Bb (Bb (Bb (Bk.al g0 _) a0) h0) i0) j0) f0;obtain ⟨n1,f2,o1,i2⟩:=Bk.h2 g0;go_simp
   generalize hnw:World.setCell _ _ _=w7;have d0:=nmh hnw;clear hnw
   have u0:=d0.size;simp only [Ss] at u0;clear f2 n1 i2 o1;replace OA:=((OA.keep (C1 _ _ _) (fun gq h h2=>by have:=n0 gq h;omega)).keep (C1 _ _ _) (fun gq h h2=>by have:=n0 gq h;omega)).below d0;replace OB:=((OB.keep (C1 _ _ _) (fun gq h h2=>by have:=o0 gq h;omega)).keep (C1 _ _ _) (fun gq h h2=>by have:=o0 gq h;omega)).below d0;replace l0:=Bb (Bk.nn (Bk.nn (Bb (Bb (Bb (Bb (Bb (Bk.al l0 _) a0) h0) i0) j0) f0) _) _) d0;replace c0:=btr (bst (bst c0 (w.heap.size+1+1) 0 (by omega) (.slice p1 ((spl1 true xs.length ys.length m).vals.length) t1)) (w.heap.size+1+1) 1 (by omega) (.slice p2 ((spl1 true xs.length ys.length m).arrs.length) t2)) d0;replace b0:=Bb (Bk.nn (Bk.nn b0 _) _) d0;refine hK.out _ _ (Bk.e2 b0) (fun hHeld=>?_);clear hK K;try simp only [Ep]
   refine Rdy 21 rfl (fun K hK=>?_);replace g0:=Bb (Bk.t2 g0 (.slice p1 ((spl1 true xs.length ys.length m).vals.length) t1) (.slice p2 ((spl1 true xs.length ys.length m).arrs.length) t2)) d0;obtain ⟨q1,j2,r1,l2⟩:=Bk.h2 g0;obtain ⟨s1,m2,u1,o2⟩:=Bk.h2 l0;go_simp
   generalize hnw:World.setCell _ _ _=w8;have e0:=nmh hnw;clear hnw
   have v0:=e0.size;simp only [Ss] at v0;clear j2 q1 l2 r1 m2 s1 o2 u1;replace OA:=((OA.keep (C1 _ _ _) (fun gq h h2=>by have:=n0 gq h;omega)).keep (C1 _ _ _) (fun gq h h2=>by have:=n0 gq h;omega)).below e0;replace OB:=((OB.keep (C1 _ _ _) (fun gq h h2=>by have:=o0 gq h;omega)).keep (C1 _ _ _) (fun gq h h2=>by have:=o0 gq h;omega)).below e0;replace p0:=Bb (Bk.nn (Bk.nn (Bb (Bk.nn (Bk.nn (Bb (Bb (Bb p0 i0) j0) f0) _) _) d0) _) _) e0;replace q0:=Bb (Bk.nn (Bk.nn (Bb (Bk.nn (Bk.nn (Bb (Bb (Bb (Bb q0 h0) i0) j0) f0) _) _) d0) _) _) e0;replace c0:=btr (bst (bst c0 (w.heap.size+1+1+1) 0 (by omega) (.slice p3 ((spl2 true xs.length ys.length m).vals.length) t3)) (w.heap.size+1+1+1) 1 (by omega) (.slice p4 ((spl2 true xs.length ys.length m).arrs.length) t4)) e0;replace b0:=Bb (Bk.nn (Bk.nn b0 _) _) e0;refine hK.out _ _ (Bk.e2 b0) (fun hHeld=>?_);clear hK K;try simp only [Ep]
   refine (tq 22 6 rfl rfl ?_ ?_ ?_);(rotate_left;intro W' hSw;(try dsimp only at hSw);go_simp;try with_reducible rfl)
   try simp only [Ep]
   refine Dn ?_;clear hHeld;have x2:∀ q,OwnBM (.slice p1 (spl1 true xs.length ys.length m).vals.length t1) (.slice p2 (spl1 true xs.length ys.length m).arrs.length t2) c3 q→¬OwnBM (.slice p3 (spl2 true xs.length ys.length m).vals.length t3) (.slice p4 (spl2 true xs.length ys.length m).arrs.length t4) d3 q:=fun q h h2=>by have:=n0 q h;have:=o0 q h2;omega
   have x0:=Hi (Ai (OwnM.mono OA (base':=w.heap.size) (by omega)) (Ai (OwnM.mono OB (base':=w.heap.size) (by omega)) x2));clear OA OB x2;replace g0:=Bb (Bk.nn (Bk.nn g0 _) _) e0;obtain ⟨q3,e4,r3,f4⟩:=Bk.h2 g0;replace l0:=Bb (Bk.t2 l0 (.slice p3 ((spl2 true xs.length ys.length m).vals.length) t3) (.slice p4 ((spl2 true xs.length ys.length m).arrs.length) t4)) e0;obtain ⟨s3,g4,u3,i4⟩:=Bk.h2 l0;obtain ⟨s4,u4⟩:=Bk.g2 g0;obtain ⟨v4,x4⟩:=Bk.g2 l0;have tt:=c0;go_wp2
   exact bodyPost_ret (v:=.tuple #[.agg #[.slice p1 ((spl1 true xs.length ys.length m).vals.length) t1,.slice p2 ((spl1 true xs.length ys.length m).arrs.length) t2],.agg #[.slice p3 ((spl2 true xs.length ys.length m).vals.length) t3,.slice p4 ((spl2 true xs.length ys.length m).arrs.length) t4],.bool true]) (by simp [results,Tryz.results10,go_sem,s4,u4,v4,x4]) rfl (by exact by rw [s0.out];exact ⟨⟨_,_,_,_,_,_,rfl,x0.out.1,x0.out.2.1,x0.out.2.2⟩,tt⟩)
theorem dblR_parts {xs ys:List Int} {L:List St} (h:dblR xs ys L=true):pvR xs ys L=true∧1≤xs.length∧xs.length≤6∧ys.length≤1∧labsOk xs=true∧labsOk ys=true:=by
 unfold dblR at h
 simp only [Bool.and_eq_true,decide_eq_true_eq] at h;obtain ⟨h1,h2,h3⟩:=h;refine ⟨h1,?_⟩;rw [pvR_spec] at h1;simp only [declOk,Bool.and_eq_true,decide_eq_true_eq] at h1;exact ⟨h1.1.1.1,h2,h3,h1.1.2.2.1,h1.1.2.2.2⟩
end Go.Proofs.YtlckklglbodgbaaGreat
