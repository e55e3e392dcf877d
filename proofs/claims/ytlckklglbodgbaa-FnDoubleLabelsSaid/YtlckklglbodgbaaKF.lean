/-
 Parts of the proofs of the laws FnDoubleLabels.
-/
import Derived.Test.YtlckklglbodgbaaKE
set_option maxHeartbeats 12800000
set_option maxRecDepth 100000
set_option linter.all false
namespace Go.Proofs.Ytlckklglbodgbaa
open Go.RowKit
def CkP (xs ys:List Int) (L:List St) (w:World) (r:Ending) (w':World):Prop:=∃ c a:Int,r=.returned (.tuple #[.int .i64 c,.int .i64 a])∧(c=0→pvR xs ys L=true)∧Below w.heap.size w w'
theorem l4Check_any (xs ys:List Int) (A:Nat→Prop) (D:Nat) (va vb u:Value) (L:List St) (w:World) (hr:Reads w 1 va xs.length (ints xs)) (hs:Reads w 1 vb ys.length (ints ys)) (hx:BlAt w A D u L) (hn:stNs L≤1048576) :
  Calls Try.prog 57 #[.agg #[va,vb,u],.bool false] w fun r w'=>CkP xs ys L w r w':=by
 obtain ⟨pv,cv,rfl⟩:=reads_shape hr;obtain ⟨pa,ca,rfl⟩:=reads_shape hs;obtain ⟨pu,cu,rfl⟩:=RowOf.shape hx;have HV:=Hi (fun W (hW:Below w.heap.size w W)=>sProgramValid_any _ _ xs ys A D _ L W (hr.below hW) (hs.below hW) (hx.below hW) hn);have HB:=Hi (fun (h:pvR xs ys L=true) W (hW:Below w.heap.size w W)=>l4Block_any xs ys pv pa pu cv ca L.length cu 5 A D _ L 0 0 W (hr.below hW) (hs.below hW) (hx.below hW) (by rw [pvR_spec] at h;simp only [Bool.and_eq_true] at h;exact h.2.1));clear hr hs hx hn;generalize hX:pvR xs ys L=X at *
 have HX:=Hi hX;clear hX;go_enter Try.func57,Try.ntmps57
 go_wp2_with fail
 refine (HV.out _ (bal (Bs w) (.cells #[.slice pv xs.length cv,.slice pa ys.length ca,.slice pu L.length cu] 26))).mono ?_;rintro e w1 ⟨rfl,hb⟩;have c0:=hb.size;simp only [Sa] at c0;have b0:Bk w1 (w.heap.size) [.slice pv xs.length cv,.slice pa ys.length ca,.slice pu L.length cu]:=Bb (Bk.nw (by simp) rfl) hb;have a0:=btr (bal (Bs w) (.cells #[.slice pv xs.length cv,.slice pa ys.length ca,.slice pu L.length cu] 26)) hb;clear hb;have m0:=Bk.lz b0
 cases X with
 | false =>
  have tt:=a0;go_wp2
  exact bodyPost_ret (v:=.tuple #[.int .i64 5,.int .i64 (-1)]) (by simp [results,Try.results57,go_sem]) rfl (by exact (by unfold CkP;exact ⟨_,_,rfl,fun h=>absurd h (by omega),tt⟩))
 | true =>
  obtain ⟨g0,j0,h0,k0,i0,l0⟩:=Bk.f3 b0 0 1 2 rfl rfl rfl;go_wp2_with fail
  refine (HB.out (by first | rfl | trivial) _ a0).mono ?_;rintro e w2 ⟨c,a,rfl,hb⟩;have d0:=hb.size;clear j0 g0 k0 h0 l0 i0;replace b0:=Bb b0 hb;replace a0:=btr a0 hb;clear hb;by_cases hc:c=0
  ·have f0:(c == 0)=true:=by simp [hc]
   have e0:=Hi hc;clear hc;have tt:=a0;go_wp2
   exact bodyPost_ret (v:=.tuple #[.int .i64 c,.int .i64 (-1)]) (by simp [results,Try.results57,go_sem]) rfl (by exact (by unfold CkP;exact ⟨_,_,rfl,fun _=>HX.out,tt⟩))
  have f0:(c == 0)=false:=by simp [hc]
  have e0:=Hi hc;clear hc;have tt:=a0;go_wp2
  exact bodyPost_ret (v:=.tuple #[.int .i64 c,.int .i64 a]) (by simp [results,Try.results57,go_sem]) rfl (by exact (by unfold CkP;exact ⟨_,_,rfl,fun _=>HX.out,tt⟩))
theorem CheckFlow_any (xs ys:List Int) (A:Nat→Prop) (D:Nat) (va vb u:Value) (L:List St) (w:World) (hr:Reads w 1 va xs.length (ints xs)) (hs:Reads w 1 vb ys.length (ints ys)) (hx:BlAt w A D u L) (hn:stNs L≤1048576) :
  Calls Try.prog 95 #[.agg #[va,vb,u]] w fun r w'=>CkP xs ys L w r w':=by
 obtain ⟨pv,cv,rfl⟩:=reads_shape hr;obtain ⟨pa,ca,rfl⟩:=reads_shape hs;obtain ⟨pu,cu,rfl⟩:=RowOf.shape hx;have HV:=Hi (fun W (hW:Below w.heap.size w W)=>l4Check_any xs ys A D _ _ _ L W (hr.below hW) (hs.below hW) (hx.below hW) hn);clear hr hs hx hn;go_enter Try.func95,Try.ntmps95
 go_wp2_with fail
 refine (HV.out _ (bal (Bs w) (.cells #[.slice pv xs.length cv,.slice pa ys.length ca,.slice pu L.length cu] 26))).mono ?_;rintro e w1 ⟨c,a,rfl,hc,hb⟩;have b0:=Hi hc;clear hc;have a0:=hb.size;simp only [Sa] at a0;have c0:Bk w1 (w.heap.size) [.slice pv xs.length cv,.slice pa ys.length ca,.slice pu L.length cu]:=Bb (Bk.nw (by simp) rfl) hb;have d0:=btr (bal (Bs w) (.cells #[.slice pv xs.length cv,.slice pa ys.length ca,.slice pu L.length cu] 26)) hb;clear hb;have e0:=Bk.lz c0;have tt:=d0;go_wp2
 exact bodyPost_ret (v:=.tuple #[.int .i64 c,.int .i64 a]) (by simp [results,Try.results95,go_sem]) rfl (by exact (by unfold CkP;exact ⟨_,_,rfl,b0.out,tt⟩))
structure ReadsM (w:World) (vx vy:Value) (m:Mm):Prop where
 x:Reads w 1 vx m.vals.length (ints m.vals)
 y:Reads2 ints w vy m.arrs
theorem ReadsM.below {w w':World} {vx vy:Value} {m:Mm} (h:ReadsM w vx vy m) (hb:Below w.heap.size w w'):ReadsM w' vx vy m:=⟨h.x.below hb,h.y.below hb⟩
theorem ReadsM.shape {w:World} {vx vy:Value} {m:Mm} (h:ReadsM w vx vy m):∃ a0 c0 a1 c1,vx=.slice a0 m.vals.length c0∧vy=.slice a1 m.arrs.length c1:=by
 obtain ⟨a0,c0,h0⟩:=reads_shape h.x;obtain ⟨a1,c1,h1⟩:=h.y.shape;exact ⟨a0,c0,a1,c1,h0,h1⟩
structure OwnM (w:World) (base:Nat) (vx vy:Value) (us:List Value) (m:Mm):Prop where
 x:w.ownsRow base 3 1 vx m.vals.length (ints m.vals)
 y:Own2I w base vy us m.arrs
 ap:∀ q,vx.ownBlock=some q→¬OwnB2 vy us q
def OwnBM (vx vy:Value) (us:List Value) (q:Nat):Prop:=vx.ownBlock=some q∨OwnB2 vy us q
section
variable {w w':World} {base base':Nat} {vx vy:Value} {us:List Value} {m:Mm}
theorem OwnM.lt (h:OwnM w base vx vy us m):∀ q,OwnBM vx vy us q→base≤q∧q < w.heap.size:=by
 rintro q (hq | hq)
 ·exact h.x.lt q hq
 exact h.y.lt q hq
theorem OwnM.keep (h:OwnM w base vx vy us m) {S:Nat→Prop} (hc:Chg S w w') (hs:∀ q,OwnBM vx vy us q→¬S q):OwnM w' base vx vy us m:=
 ⟨Ow h.x hc (fun q hq=>hs q (Or.inl hq)),h.y.keep hc (fun q hq=>hs q (Or.inr hq)),h.ap⟩
theorem OwnM.below (h:OwnM w base vx vy us m) (hb:Below w.heap.size w w'):OwnM w' base vx vy us m:=h.keep (S:=fun _=>False) (Cb hb) (fun _ _=>id)
theorem OwnM.mono (h:OwnM w base vx vy us m) (hb:base'≤base):OwnM w base' vx vy us m:=⟨Om h.x hb,h.y.mono hb,h.ap⟩
theorem OwnM.reads (h:OwnM w base vx vy us m) (h0:m.vals.length≤1048576) (h1:m.arrs.length≤1048576) (h2:pre2 m.arrs m.arrs.length≤1048576):ReadsM w vx vy m:=
 ⟨Ro h.x (by omega),h.y.reads (by omega) (fun k r hr=>by
  obtain ⟨hk,rfl⟩:=List.getElem?_eq_some_iff.1 hr;have:=pre2_all m.arrs k hk m.arrs.length hk
  omega)⟩
theorem OwnM.shape (h:OwnM w base vx vy us m):∃ a0 c0 a1 c1,vx=.slice a0 m.vals.length c0∧vy=.slice a1 m.arrs.length c1:=by
 obtain ⟨a0,c0,h0⟩:=Oh h.x;obtain ⟨a1,c1,h1⟩:=h.y.shape;exact ⟨a0,c0,a1,c1,h0,h1⟩
end
end Go.Proofs.Ytlckklglbodgbaa
namespace Go.Proofs.Ytlckklglbodgbaa
open Go.RowKit
theorem newOr_blk {w:World} {v v':Value} (h:NewOr w v v'):∀ q,v'.ownBlock=some q→v.ownBlock=some q∨w.heap.size≤q:=by
 intro q hq;rcases h with h | ⟨g,h,hg⟩
 ·exact Or.inl (h ▸ hq)
 rw [hq] at h;cases h;exact Or.inr hg
def Kp {α β:Type} (R:World→(Nat→Prop)→α→β→Prop):Prop:=∀ (W W':World) (S A A':Nat→Prop) (a:α) (c:β),Chg S W W'→(∀ q,A q→q < W.heap.size→¬S q)→(∀ q,A q→q < W.heap.size→A' q)→R W A a c→R W' A' a c
structure GrAt {α β:Type} (f:α→List Value) (sz:Nat) (e:TypeId) (R:World→(Nat→Prop)→α→β→Prop) (P:Nat→Prop) (W:World) (b:Nat) (v:Value) (rs:List α) (l:List β):Prop where
 len:rs.length=l.length
 own:W.ownsRow b e sz v l.length (rows f rs)
 kid:∀ j (h:j < rs.length) (h':j < l.length),R W (fun q=>P q∧¬v.ownBlock=some q) rs[j] l[j]
section
variable {α β:Type} {f:α→List Value} {sz:Nat} {e:TypeId} {R:World→(Nat→Prop)→α→β→Prop} {P:Nat→Prop} {W W':World} {b:Nat} {v v':Value} {rs:List α} {l:List β}
theorem GrAt.keep (h:GrAt f sz e R P W b v rs l) (hR:Kp R) {S:Nat→Prop} (hc:Chg S W W') (h1:∀ q,v.ownBlock=some q→¬S q) (h2:∀ q,P q→q < W.heap.size→¬S q):GrAt f sz e R P W' b v rs l:=
 ⟨h.len,Ow h.own hc h1,fun j a c=>hR W W' S _ _ _ _ hc (fun q hq hl=>h2 q hq.1 hl) (fun q hq _=>hq) (h.kid j a c)⟩
theorem GrAt.below (h:GrAt f sz e R P W b v rs l) (hR:Kp R) (hb:Below W.heap.size W W'):GrAt f sz e R P W' b v rs l:=h.keep hR (S:=fun _=>False) (Cb hb) (fun _ _=>id) (fun _ _ _=>id)
theorem GrAt.nil:GrAt f sz e R P W b (.slice none 0 0) [] []:=⟨rfl,World.ownsRow_nil _ _ _ _,fun j h=>by simp at h⟩
theorem GrAt.push (h:GrAt f sz e R P W b v rs l) (hR:Kp R) {n:α} {x:β} {A:Nat→Prop} (ho:W'.ownsRow b e sz v' (l.length+1) (rows f rs++f n)) (hc:Chg (fun k=>v.ownBlock=some k) W W') (hN:NewOr W v v')
  (hn:R W A n x) (hA:∀ q,A q→q < W.heap.size→P q∧¬v.ownBlock=some q):GrAt f sz e R P W' b v' (rs++[n]) (l++[x]):=by
 have hB:∀ q,q < W.heap.size→¬v.ownBlock=some q→¬v'.ownBlock=some q:=fun q hq h1 h2=>by
  rcases hN with e1 | ⟨g,e1,e2⟩
  ·exact h1 (e1 ▸ h2)
  rw [e1] at h2;have:=Si h2;omega
 refine ⟨by simp [h.len],?_,rows_push h.len (fun j h1 h2=>?_) ?_⟩
 ·rw [rows_append,rows_one,List.length_append];exact ho
 ·exact hR W W' _ _ _ _ _ hc (fun q hq _=>hq.2) (fun q hq hl=>⟨hq.1,hB q hl hq.2⟩) (h.kid j h1 h2)
 exact hR W W' _ _ _ _ _ hc (fun q hq hl=>(hA q hq hl).2) (fun q hq hl=>⟨(hA q hq hl).1,hB q hl (hA q hq hl).2⟩) hn
theorem GrAt.mono (h:GrAt f sz e R P W b v rs l) (hR:Kp R) {P':Nat→Prop} (hP:∀ q,P q→q < W.heap.size→P' q):GrAt f sz e R P' W b v rs l:=
 ⟨h.len,h.own,fun j a c=>hR W W (fun _=>False) _ _ _ _ (Chg.refl _ _) (fun _ _ _=>id) (fun q hq hl=>⟨hP q hq.1 hl,hq.2⟩) (h.kid j a c)⟩
theorem GrAt.base (h:GrAt f sz e R P W b v rs l) {b':Nat} (hb:b'≤b):GrAt f sz e R P W b' v rs l:=⟨h.len,Om h.own hb,h.kid⟩
theorem GrAt.row (h:GrAt f sz e R P W b v rs l) (hR:Kp R) {B:Nat→Prop} (hb:∀ q,b≤q→q < W.heap.size→B q) (hP:∀ q,P q→q < W.heap.size→B q):RowOf f sz W B (R W B) v l:=
 RowOf.of_own h.len h.own (own_len h.own) hb (fun j a c=>hR W W (fun _=>False) _ _ _ _ (Chg.refl _ _) (fun _ _ _=>id) (fun q hq hl=>hP q hq.1 hl) (h.kid j a c))
end
theorem kpE (d:Nat):Kp (fun W A n x=>ExAt W A d n x):=fun W W' S A A' a c hc h1 h2 h=>ExAt.keep hc h1 h2 Lr h
theorem kpS (d:Nat):Kp (fun W A n x=>StAt W A d n x):=fun W W' S A A' a c hc h1 h2 h=>StAt.keep hc h1 h2 Lr h
end Go.Proofs.Ytlckklglbodgbaa
