/-
 Parts of the proofs of the laws FnPairMemory,FnSplitMemory.
-/
import Derived.Test.YtlckklglbodgbaaGreatGZ
import Derived.Test.YtlckklglbodgbaaGreatMF5
set_option linter.all false
namespace Go.Proofs.YtlckklglbodgbaaGreat
open Go.RowKit
theorem l3Fits_any (a0 a1:Option Addr) (nv na c0 c1:Nat) (vx vy:Value) (m:Mm) (w:World) (n0:nv≤9223372036854775807) (n1:na≤9223372036854775807) (hx:Reads w 1 vx m.vals.length (ints m.vals)) (hy:Reads2 ints w vy m.arrs) :
  Calls Tryz.prog 29 #[.agg #[.slice a0 nv c0,.slice a1 na c1,.slice none 0 0],.agg #[vx,vy]] w fun e w'=>e=.returned (.bool (memOk nv na m))∧Below w.heap.size w w':=l3Fits_u a0 a1 none nv na 0 c0 c1 0 vx vy m w n0 n1 hx hy
theorem law_split {xs ys:List Int} {L:List St} {m:Mm} (h:splB xs ys L m=true):pairB xs ys L (spl1 true xs.length ys.length m) (spl2 true xs.length ys.length m)=true∧pairR true (spl1 true xs.length ys.length m) (spl2 true xs.length ys.length m)=m∧pvR xs ys L=true∧memOk xs.length ys.length (spl1 true xs.length ys.length m)=true∧memOk xs.length ys.length (spl2 true xs.length ys.length m)=true:=by
 unfold splB at h
 simp only [Bool.and_eq_true] at h;obtain ⟨hd,hm⟩:=h;rw [hd] at hm;obtain ⟨m1,m2,m3,m4⟩:=memOk_parts hm;simp only [dX,List.length_append] at m1 m2;obtain ⟨v,r⟩:=m;simp only at m1 m2 m3 m4
 have k1:memOk xs.length ys.length (spl1 true xs.length ys.length ⟨v,r⟩)=true:=memOk_mk (by simp only [spl1,List.length_take];omega) (by simp only [spl1,List.length_take];omega) (fun n hn=>m3 n (List.mem_of_mem_take hn)) (fun n hn=>m4 n (List.mem_of_mem_take hn));have k2:memOk xs.length ys.length (spl2 true xs.length ys.length ⟨v,r⟩)=true:=memOk_mk (by simp only [spl2,List.length_drop];omega) (by simp only [spl2,List.length_drop];omega) (fun n hn=>m3 n (List.mem_of_mem_drop hn)) (fun n hn=>m4 n (List.mem_of_mem_drop hn));refine ⟨?_,?_,(dblR_parts hd).1,k1,k2⟩
 ·unfold pairB;rw [hd,k1,k2];rfl
 simp only [pairR,spl1,spl2,List.take_append_drop]
theorem mm_lens {nv na:Nat} {m:Mm} (h:memOk nv na m=true) (hv:nv≤1000) (ha:na≤1000):m.vals.length≤1048576∧m.arrs.length≤1048576∧pre2 m.arrs m.arrs.length≤1048576:=by
 obtain ⟨a1,a2,_,a4⟩:=memOk_parts h;have:=pre2_le m.arrs 4 (fun k r hr=>Nat.le_of_eq (a4 r (List.mem_of_getElem? hr)).1) m.arrs.length Lr
 omega
theorem split_lens {xs ys:List Int} {L:List St} {m:Mm} (ok:Bool) (h:splB xs ys L m=ok):((spl1 ok xs.length ys.length m).vals.length≤1048576∧(spl1 ok xs.length ys.length m).arrs.length≤1048576∧pre2 (spl1 ok xs.length ys.length m).arrs (spl1 ok xs.length ys.length m).arrs.length≤1048576)∧(spl2 ok xs.length ys.length m).vals.length≤1048576∧(spl2 ok xs.length ys.length m).arrs.length≤1048576∧pre2 (spl2 ok xs.length ys.length m).arrs (spl2 ok xs.length ys.length m).arrs.length≤1048576:=by
 cases ok with
 | false=>simp [spl1,spl2,pre2]
 | true =>
  obtain ⟨_,_,hp,k1,k2⟩:=law_split h;have:=pvR_labs hp
  exact ⟨mm_lens k1 (by omega) (by omega),mm_lens k2 (by omega) (by omega)⟩
def DrawPMP (w:World) (r:Ending) (w':World):Prop:=∃ (va vb vu vx vy:Value) (zs us:List Int) (D:Nat) (L:List St) (m:Mm),r=.returned (.tuple #[.agg #[va,vb,vu],.agg #[vx,vy]])∧DrP w' w.heap.size D va vb vu zs us L∧DrM w' w.heap.size vx vy m∧Below w.heap.size w w'
end Go.Proofs.YtlckklglbodgbaaGreat
