/-
 Parts of the proofs of the laws FnExactSplitMemory.
-/
import Derived.Test.YtnpidfbcbmeijaaNB
set_option linter.all false
namespace Go.Proofs.Ytnpidfbcbmeijaa
open Go.RowKit
theorem reads_cap2 {w:World} {size:Nat} {a:Option Addr} {n c:Nat} {vs:List Value} (h:Reads w size (.slice a n c) n vs):n≤c:=by
 obtain ⟨_,_,a',c',b,a0,hv,⟨hc,_⟩,_⟩:=h;simp only [Value.slice.injEq,true_and] at hv;omega
theorem reads_pre {w:World} {size:Nat} {a:Option Addr} {n c:Nat} {vs:List Value} (h:Reads w size (.slice a n c) n vs) (k:Nat) (hk:k≤n):Reads w size (.slice a k c) k (vs.take (k*size)):=by
 obtain ⟨h1,h2,a',c',b,d0,hv,⟨hc,b0⟩,ha,a0⟩:=h;simp only [Value.slice.injEq,true_and] at hv;obtain ⟨rfl,rfl⟩:=hv;have e0:k*size≤vs.length:=by rw [h1];exact Nat.mul_le_mul_right _ hk
 refine ⟨by rw [List.length_take];omega,by omega,a,c,b,d0,rfl,⟨by omega,b0⟩,fun h0=>ha (by omega),fun j hj=>?_⟩;have c0:j < vs.length:=by rw [List.length_take] at hj;omega
 rw [List.getElem_take];exact a0 j c0
theorem reads_post {w:World} {size:Nat} {a:Option Addr} {n c:Nat} {vs:List Value} (h:Reads w size (.slice a n c) n vs) (k:Nat) (hk:k≤n) :
  Reads w size (.slice (if c=k then a else a.map (fun x=>x.add (k*size))) (n-k) (c-k)) (n-k) (vs.drop (k*size)):=by
 obtain ⟨h1,h2,a',c',b,e0,hv,⟨hc,c0⟩,ha,a0⟩:=h;simp only [Value.slice.injEq,true_and] at hv;obtain ⟨rfl,rfl⟩:=hv;have f0:k*size≤vs.length:=by rw [h1];exact Nat.mul_le_mul_right _ hk
 refine ⟨by rw [List.length_drop,h1,Nat.sub_mul],by omega,_,_,b,e0+k*size,rfl,⟨by omega,?_⟩,fun h0=>?_,fun j hj=>?_⟩
 ·intro d0;by_cases b0:c=k
  ·omega
  rw [if_neg b0] at d0
  cases a with
  | none=>have:=c0 rfl;omega
  | some x=>cases d0
 ·obtain ⟨rfl,hb⟩:=ha (by omega);have b0:¬c=k:=by omega
  rw [if_neg b0];exact ⟨by simp [addr_add],hb⟩
 rw [List.getElem_drop];rw [List.length_drop] at hj;rw [← a0 (k*size+j) (by omega)];congr 2
 omega
theorem ints_pre {w:World} {a:Option Addr} {c:Nat} {xs:List Int} (h:Reads w 1 (.slice a xs.length c) xs.length (ints xs)) (k:Nat) (hk:k≤xs.length):Reads w 1 (.slice a k c) (xs.take k).length (ints (xs.take k)):=by
 have:=reads_pre h k hk
 rw [Nat.mul_one] at this;rw [List.length_take,Nat.min_eq_left hk];simpa [ints,List.map_take] using this
theorem ints_post {w:World} {a:Option Addr} {c:Nat} {xs:List Int} (h:Reads w 1 (.slice a xs.length c) xs.length (ints xs)) (k:Nat) (hk:k≤xs.length):Reads w 1 (.slice (if c=k then a else a.map (fun x=>x.add (k*1))) (xs.length-k) (c-k)) (xs.drop k).length (ints (xs.drop k)):=by
 have:=reads_post h k hk
 rw [List.length_drop];rw [Nat.mul_one] at this ⊢;simpa [ints,List.map_drop] using this
theorem rows_pre {w:World} {a:Option Addr} {c:Nat} {rs:List (List Int)} (h:Reads2 ints w (.slice a rs.length c) rs) (k:Nat) (hk:k≤rs.length):Reads2 ints w (.slice a k c) (rs.take k):=by
 obtain ⟨vs,h1,h2⟩:=h;have h3:=reads_pre h1 k hk;rw [Nat.mul_one] at h3;refine ⟨vs.take k,by rw [List.length_take,Nat.min_eq_left hk];exact h3,fun j u r hu hr=>?_⟩;rw [List.getElem?_take] at hu hr;by_cases hj:j < k
 ·rw [if_pos hj] at hu hr;exact h2 j u r hu hr
 rw [if_neg hj] at hu;cases hu
theorem rows_post {w:World} {a:Option Addr} {c:Nat} {rs:List (List Int)} (h:Reads2 ints w (.slice a rs.length c) rs) (k:Nat) (hk:k≤rs.length):Reads2 ints w (.slice (if c=k then a else a.map (fun x=>x.add (k*1))) (rs.length-k) (c-k)) (rs.drop k):=by
 obtain ⟨vs,h1,h2⟩:=h;have h3:=reads_post h1 k hk;rw [Nat.mul_one] at h3 ⊢;refine ⟨vs.drop k,by rw [List.length_drop];exact h3,fun j u r hu hr=>?_⟩;rw [List.getElem?_drop] at hu hr;exact h2 _ u r hu hr
def spl1 (ok:Bool) (nv na:Nat) (m:Mm):Mm:=match ok with | true=>⟨m.vals.take nv,m.arrs.take na⟩ | false=>⟨[],[]⟩
def spl2 (ok:Bool) (nv na:Nat) (m:Mm):Mm:=match ok with | true=>⟨m.vals.drop nv,m.arrs.drop na⟩ | false=>⟨[],[]⟩
def SplP (base:Nat) (ok:Bool) (a b:Mm) (r:Ending) (w':World):Prop:=∃ ax ay au bx by' bu,r=.returned (.tuple #[.agg #[ax,ay],.agg #[bx,by'],.bool ok])∧OwnM w' base ax ay au a∧OwnM w' base bx by' bu b∧∀ q,OwnBM ax ay au q→¬OwnBM bx by' bu q
theorem pre2_take {rs:List (List Int)} (k:Nat):pre2 (rs.take k) (rs.take k).length≤pre2 rs rs.length:=by
 have e:rs=rs.take k++rs.drop k:=(List.take_append_drop k rs).symm
 have h:∀ a b:List (List Int),pre2 (a++b) (a++b).length=pre2 a a.length+pre2 b b.length:=fun a b=>by
  unfold pre2
  rw [List.take_of_length_le Lr,List.take_of_length_le Lr,List.take_of_length_le Lr,List.map_append,List.sum_append]
 have:=h (rs.take k) (rs.drop k)
 rw [← e] at this;omega
theorem pre2_drop {rs:List (List Int)} (k:Nat):pre2 (rs.drop k) (rs.drop k).length≤pre2 rs rs.length:=by
 have e:rs=rs.take k++rs.drop k:=(List.take_append_drop k rs).symm
 have h:∀ a b:List (List Int),pre2 (a++b) (a++b).length=pre2 a a.length+pre2 b b.length:=fun a b=>by
  unfold pre2
  rw [List.take_of_length_le Lr,List.take_of_length_le Lr,List.take_of_length_le Lr,List.map_append,List.sum_append]
 have:=h (rs.take k) (rs.drop k)
 rw [← e] at this;omega
end Go.Proofs.Ytnpidfbcbmeijaa
