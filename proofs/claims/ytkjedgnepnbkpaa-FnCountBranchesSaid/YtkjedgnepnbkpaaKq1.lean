/-
 Parts of the proofs of the laws FnCodeFenced,FnCountBranches.
-/
import Derived.Test.YtkjedgnepnbkpaaTK
import Derived.Test.YtkjedgnepnbkpaaRI
set_option linter.all false
namespace Go.Proofs.Ytkjedgnepnbkpaa
open Go.RowKit
theorem ints_length (xs:List Int):(ints xs).length=xs.length:=by simp [ints]
theorem bools_length (xs:List Bool):(bools xs).length=xs.length:=by simp [bools]
theorem bools_get (xs:List Bool) (j:Nat) (h:j < (bools xs).length):(bools xs)[j]=.bool (xs[j]'(by simpa [bools] using h)):=by simp [bools]
theorem reads_one {w:World} {size:Nat} {v:Value} {n:Nat} {xs:List Value} (h:Reads w size v n xs):v.oneCell'=true:=by
 obtain ⟨_,_,a,c,b,a0,rfl,_⟩:=h;rfl
theorem one_bools (xs:List Bool):∀ u ∈ bools xs,u.oneCell'=true:=by
 intro u hu
 obtain ⟨x,_,rfl⟩:=List.mem_map.1 hu
 rfl
theorem evs_length (l:List Ev):(evs l).length=l.length*2:=by
 induction l with
 | nil=>rfl
 | cons e l ih=>simp only [evs,List.length_cons,ih];omega
theorem evs_get (l:List Ev) (k:Nat) (h:k < l.length):(evs l)[k*2]? = some (.int .i64 l[k].1)∧(evs l)[k*2+1]? = some (.int .i64 l[k].2):=by
 induction l generalizing k with
 | nil=>cases h
 | cons e l ih =>
  cases k with
  | zero=>exact ⟨rfl,rfl⟩
  | succ k =>
   have h':=ih k (by simpa using h)
   have e1:(k+1)*2=k*2+1+1:=by omega
   rw [e1]
   exact ⟨by simpa [evs] using h'.1,by simpa [evs] using h'.2⟩
theorem one_evs (l:List Ev):∀ u ∈ evs l,u.oneCell'=true:=by
 induction l with
 | nil=>intro u hu;cases hu
 | cons e l ih =>
  intro u hu
  simp only [evs,List.mem_cons] at hu
  rcases hu with rfl | rfl | hu
  ·rfl
  ·rfl
  exact ih u hu
theorem reads_ev {w:World} {b off:Nat} {l:List Ev} (hc:∀ j (h:j < (evs l).length),w.cell? ⟨b,off+j,none⟩=some (evs l)[j]) (k:Nat) (h:k < l.length) :
  w.cell? ⟨b,off+k*2,none⟩=some (.int .i64 l[k].1)∧w.cell? ⟨b,off+k*2+1,none⟩=some (.int .i64 l[k].2):=by
 have hl:=evs_length l
 obtain ⟨g1,g2⟩:=evs_get l k h
 have h1:=hc (k*2) (by omega)
 have h2:=hc (k*2+1) (by omega)
 rw [List.getElem?_eq_getElem (by omega)] at g1 g2
 rw [h1,← Nat.add_assoc] at *
 exact ⟨g1,h2.trans g2⟩
def evc (e:Ev):List Value:=[.int .i64 e.1,.int .i64 e.2]
theorem evc_len (e:Ev):(evc e).length=2:=rfl
theorem evs_rows (l:List Ev):evs l=rows evc l:=by
 induction l with
 | nil=>rfl
 | cons e l ih=>simp [evs,rows,evc,ih]
theorem reads_Event {w:World} {b off:Nat} {l:List Ev} (hc:∀ j (h:j < (rows evc l).length),w.cell? ⟨b,off+j,none⟩=some (rows evc l)[j]) (k:Nat) (h:k < l.length) :
  w.cell? ⟨b,off+k*2,none⟩=some (.int .i64 l[k].1)∧w.cell? ⟨b,off+k*2+1,none⟩=some (.int .i64 l[k].2):=by
 have g:=fun j hj=>reads_row evc_len hc k h j hj
 refine ⟨g 0 (by omega),?_⟩
 have:=g 1 (by omega);rwa [← Nat.add_assoc] at this
theorem tBools:SliceT Try.prog 66 4 (.bool false) 1 1:=⟨Try.underlying66,info_bool,rfl,by omega,by omega⟩
theorem insOk_op {nv na nl:Nat} {x:Ins} (h:insOk nv na nl x=true):1≤x.op∧x.op≤13:=by
 unfold insOk at h
 simp only [Bool.and_eq_true] at h
 exact of_decide_eq_true h.1
theorem Bk.g2 {w:World} {b:Nat} {x0 x1:Value} (h:Bk w b [x0,x1]):w.cell? ⟨b,0,none⟩=some x0∧w.cell? ⟨b,1,none⟩=some x1:=⟨h.cell 0 rfl,h.cell 1 rfl⟩
def valOk (n:Int):Bool:=wi n 0 255
def valsOk (xs:List Int):Bool:=xs.all valOk
def memOk (nv na:Nat) (m:Mm):Bool:=decide (m.vals.length=nv)&&(decide (m.arrs.length=na)&&(valsOk m.vals&&m.arrs.all (fun a=>decide (a.length=4)&&valsOk a)))
structure MsOk (c:Cd) (s:Ms):Prop where
 pc0:0≤s.pc
 pc1:s.pc < c.list.length
 regs:s.regs.length=14
 rv:∀ n ∈ s.regs,0≤n∧n < 256
 mem:memOk c.vars.length c.arrays.length s.mem=true
end Go.Proofs.Ytkjedgnepnbkpaa
namespace Go.Proofs.Ytkjedgnepnbkpaa
open Go.RowKit Go.ChangeShapes Go.WideShapes Go.Deep Go.Joins
theorem Reads2.lenle {α:Type} {f:List α→List Value} {w:World} {v:Value} {rs:List (List α)} (h:Reads2 f w v rs):rs.length≤9223372036854775807:=by
 obtain ⟨vs,h1,h2⟩:=h
 exact h1.2.1
end Go.Proofs.Ytkjedgnepnbkpaa
namespace Go.Proofs.Ytkjedgnepnbkpaa
open Go.RowKit
theorem info_ints:(Try.prog.info? 23).map (fun i=>(i.zero,i.size,i.bytes))=some (some (.slice none 0 0),1,24):=by kernel_rfl
theorem tIntSS:SliceT Try.prog 35 23 (.slice none 0 0) 1 24:=⟨Try.underlying35,info_ints,rfl,by omega,by omega⟩
theorem gi_range {xs:List Int} (h:∀ n ∈ xs,0≤n∧n < 256) (i:Int):0≤gi xs i∧gi xs i≤255:=by
 unfold gi
 cases e:xs[i.toNat]? with
 | none=>simp
 | some n =>
  have:=h n (List.mem_of_getElem? e)
  simp only [Option.getD_some];omega
theorem memOk_parts {nv na:Nat} {m:Mm} (h:memOk nv na m=true):m.vals.length=nv∧m.arrs.length=na∧(∀ n ∈ m.vals,0≤n∧n < 256)∧∀ a ∈ m.arrs,a.length=4∧∀ n ∈ a,0≤n∧n < 256:=by
 unfold memOk at h
 simp only [Bool.and_eq_true,decide_eq_true_eq] at h
 have hv:∀ xs:List Int,valsOk xs=true→∀ n ∈ xs,0≤n∧n < 256:=fun xs hx n hn=>by
  have h1:=List.all_eq_true.1 hx n hn
  have h2:0≤n∧n≤255:=of_decide_eq_true h1
  omega
 refine ⟨h.1,h.2.1,hv _ h.2.2.1,fun a ha=>?_⟩
 have h1:=List.all_eq_true.1 h.2.2.2 a ha
 simp only [Bool.and_eq_true,decide_eq_true_eq] at h1
 exact ⟨h1.1,hv _ h1.2⟩
theorem own_evt (w:World) (k v:Int):(w.alloc (.cells #[.int .i64 k,.int .i64 v] 47)).ownsRow w.heap.size 47 2 (.slice (some ⟨w.heap.size,0,none⟩) 1 1) 1 (evs [(k,v)]):=by
 have h:=World.ownsRow_lit (base:=w.heap.size) (e:=47) (size:=2) w #[.int .i64 k,.int .i64 v] 1 (Nat.le_refl _) (by unfold maxLen;omega) (by simp)
 exact h
theorem ins_parts {nv na nl:Nat} {op a b c d:Int} (h:insOk nv na nl ⟨op,a,b,c,d⟩=true) :
  (op=1→(0≤a∧a < 14)∧0≤b∧b≤255)∧(op=2→(0≤a∧a < 14)∧0≤b∧b < nv)∧(op=3→(0≤a∧a < nv)∧0≤b∧b < 14)∧(op=4→(0≤a∧a < 14)∧(0≤b∧b < na)∧0≤c∧c < 14)
  ∧ (op=5→(0≤a∧a < na)∧(0≤b∧b < 14)∧0≤c∧c < 14)∧(op=6→(0≤a∧a < 14)∧(4≤b∧b≤10)∧(0≤c∧c < 14)∧0≤d∧d < 14)∧(op=7→(0≤a∧a < 14)∧(0≤b∧b < 14)∧(0≤c∧c < 14)∧0≤d∧d < 14)
  ∧ (op=8→0≤a∧a < nl)∧(op=9→(0≤a∧a < 14)∧0≤b∧b < nl)∧(op=10→(0≤a∧a < 14)∧0≤b∧b < nl)∧(op=11→0≤a∧a < 14):=by
 refine ⟨?_,?_,?_,?_,?_,?_,?_,?_,?_,?_,?_⟩
 all_goals
  intro a0
  subst a0
  unfold insOk at h
  simp [shp,flds,fOk,wi] at h
  omega
theorem gi_set (xs:List Int) (k:Nat) (h:k < xs.length) (v:Int):gi (xs.set k v) k=v:=by
 unfold gi;rw [Int.toNat_natCast,List.getElem?_set_self h];rfl
def mov (x:Ins) (rs:List Int) (k:Int):Int:=if x.op=8 then x.a else if x.op=9 then (if gi rs x.a=0 then x.b else k+1) else if x.op=10 then (if gi rs x.a≠0 then x.b else k+1) else if x.op=13 then k else k+1
set_option maxHeartbeats 3200000 in
theorem l6Move_any (op a b c d:Int) (v:Value) (rs:List Int) (k:Nat) (w:World) (hv:Reads w 1 v rs.length (ints rs)) (hk:(k:Int)≤1048576) (h9:op=9∨op=10→0≤a∧a < rs.length) :
  Calls Try.prog 128 #[.agg #[.int .i64 op,.int .i64 a,.int .i64 b,.int .i64 c,.int .i64 d],v,.int .i64 (k:Int)] w fun e w'=>e=.returned (.int .i64 (mov ⟨op,a,b,c,d⟩ rs k))∧Below w.heap.size w w':=by
 have a0:=bal (Bs w) (.cells #[.int .i64 op,.int .i64 a,.int .i64 b,.int .i64 c,.int .i64 d] 32)
 obtain ⟨_,hn,aa,f0,b',k0,rfl,e0,ha,b0⟩:=hv
 by_cases h8:op=8
 ·have HM:Hid (mov ⟨op,a,b,c,d⟩ rs k=a):=Lib.hid (by unfold mov;rw [if_pos h8])
  subst h8
  clear h9 ha b0
  go_enter Try.func128,Try.ntmps128
  go_wp2
  go_ret
  exact ⟨ret_int HM.out.symm,a0⟩
 have e8:(op == 8)=false:=by simp [h8]
 by_cases h9':op=9∨op=10
 ·obtain ⟨p1,p2⟩:=h9 h9'
  obtain ⟨na,rfl⟩:∃ n:Nat,a=n:=⟨a.toNat,by omega⟩
  obtain ⟨rfl,i0⟩:=ha (by omega)
  have d0:na < rs.length:=by omega
  have hc:=b0 na (by rw [ints_length];exact d0)
  rw [ints_get] at hc
  have c0:gi rs na=rs[na]:=by unfold gi;rw [Int.toNat_natCast,List.getElem?_eq_getElem d0];rfl
  rw [← c0] at hc
  have kc:=Lc hc
  have j0:=Ac hc (.cells #[.int .i64 op,.int .i64 (na:Int),.int .i64 b,.int .i64 c,.int .i64 d] 32)
  have hM:mov ⟨op,(na:Int),b,c,d⟩ rs k=if op=9 then (if gi rs na=0 then b else (k:Int)+1) else (if gi rs na≠0 then b else (k:Int)+1):=by
   unfold mov;rw [if_neg h8];simp only
   rcases h9' with rfl | rfl <;> simp
  have HM:=Lib.hid hM
  generalize mov ⟨op,(na:Int),b,c,d⟩ rs k=z at *
  generalize gi rs na=y at *
  clear hM c0 b0 ha h9
  rcases h9' with rfl | rfl
  ·by_cases hy:y=0
   ·have HZ:Hid (z=b):=Lib.hid (by rw [HM.out,if_pos rfl,if_pos hy])
    subst hy
    clear HM
    go_enter Try.func128,Try.ntmps128
    go_wp2
    go_ret
    exact ⟨ret_int HZ.out.symm,a0⟩
   have HZ:Hid (z=(k:Int)+1):=Lib.hid (by rw [HM.out,if_pos rfl,if_neg hy])
   have e9:(y == 0)=false:=by simp [hy]
   clear HM hy
   go_enter Try.func128,Try.ntmps128
   go_wp2
   go_ret
   exact ⟨ret_int HZ.out.symm,a0⟩
  by_cases hy:y=0
  ·have HZ:Hid (z=(k:Int)+1):=Lib.hid (by rw [HM.out,if_neg (by decide),if_neg (fun h=>h hy)])
   subst hy
   clear HM
   go_enter Try.func128,Try.ntmps128
   go_wp2
   go_ret
   exact ⟨ret_int HZ.out.symm,a0⟩
  have HZ:Hid (z=b):=Lib.hid (by rw [HM.out,if_neg (by decide),if_pos hy])
  have e9:(y != 0)=true:=by simp [hy]
  clear HM hy
  go_enter Try.func128,Try.ntmps128
  go_wp2
  go_ret
  exact ⟨ret_int HZ.out.symm,a0⟩
 have e9:(op == 9)=false:=by simp;omega
 have g0:(op == 10)=false:=by simp;omega
 by_cases h13:op=13
 ·have HM:Hid (mov ⟨op,a,b,c,d⟩ rs k=k):=Lib.hid (by unfold mov;rw [if_neg h8,if_neg (by simp only;omega),if_neg (by simp only;omega),if_pos h13])
  subst h13
  clear h9 ha b0 h9'
  go_enter Try.func128,Try.ntmps128
  go_wp2
  go_ret
  exact ⟨ret_int HM.out.symm,a0⟩
 have HM:Hid (mov ⟨op,a,b,c,d⟩ rs k=(k:Int)+1):=Lib.hid (by unfold mov;rw [if_neg h8,if_neg (by simp only;omega),if_neg (by simp only;omega),if_neg h13])
 have h0:(op == 13)=false:=by simp [h13]
 clear h9 ha b0 h9' h13 h8
 go_enter Try.func128,Try.ntmps128
 go_wp2
 go_ret
 exact ⟨ret_int HM.out.symm,a0⟩
section
variable {S:Nat→Prop} {w W:World} {base b tb:Nat} {vr vv va u:Value} {us:List Value} {rs:List Int} {m:Mm} {E:List Ev} {pc:Int}
theorem StepW.ret4 (h:StepW S w W base b vr vv va us rs m tb u E pc) (p:Int) (R:Nat) (hR:w.heap.size≤R) (hRm:¬OwnMB vr vv va us R) (hRe:¬u.ownBlock=some R) (x0 x1 x2 x3:Value) :
  OwnMv (((((W.setCell ⟨b,0,none⟩ (.int .i64 p)).setCell ⟨R,0,none⟩ x0).setCell ⟨R,1,none⟩ x1).setCell ⟨R,2,none⟩ x2).setCell ⟨R,3,none⟩ x3) base vr vv va us rs m ∧
  (((((W.setCell ⟨b,0,none⟩ (.int .i64 p)).setCell ⟨R,0,none⟩ x0).setCell ⟨R,1,none⟩ x1).setCell ⟨R,2,none⟩ x2).setCell ⟨R,3,none⟩ x3).ownsRow tb 47 2 u E.length (evs E) ∧
  Chg S w (((((W.setCell ⟨b,0,none⟩ (.int .i64 p)).setCell ⟨R,0,none⟩ x0).setCell ⟨R,1,none⟩ x1).setCell ⟨R,2,none⟩ x2).setCell ⟨R,3,none⟩ x3):=by
 obtain ⟨f1,f2,f3⟩:=h.fin p
 refine ⟨(((f2.own.far R 0 x0 hRm).far R 1 x1 hRm).far R 2 x2 hRm).far R 3 x3 hRm,Oe (Oe (Oe (Oe f1 R 0 hRe x0) R 1 hRe x1) R 2 hRe x2) R 3 hRe x3,?_⟩
 exact (((f3.setNew R 0 x0 (Or.inr hR)).setNew R 1 x1 (Or.inr hR)).setNew R 2 x2 (Or.inr hR)).setNew R 3 x3 (Or.inr hR)
theorem cells4 {W:World} {b R:Nat} {y z0 z1 z2 z3:Value} (hn:¬R=b) (h0:W.cell? ⟨R,0,none⟩=some z0) (h1:W.cell? ⟨R,1,none⟩=some z1) (h2:W.cell? ⟨R,2,none⟩=some z2) (h3:W.cell? ⟨R,3,none⟩=some z3) (x0 x1 x2 x3:Value) :
  (((((W.setCell ⟨b,0,none⟩ y).setCell ⟨R,0,none⟩ x0).setCell ⟨R,1,none⟩ x1).setCell ⟨R,2,none⟩ x2).setCell ⟨R,3,none⟩ x3).cell? ⟨R,0,none⟩=some x0 ∧
  (((((W.setCell ⟨b,0,none⟩ y).setCell ⟨R,0,none⟩ x0).setCell ⟨R,1,none⟩ x1).setCell ⟨R,2,none⟩ x2).setCell ⟨R,3,none⟩ x3).cell? ⟨R,1,none⟩=some x1 ∧
  (((((W.setCell ⟨b,0,none⟩ y).setCell ⟨R,0,none⟩ x0).setCell ⟨R,1,none⟩ x1).setCell ⟨R,2,none⟩ x2).setCell ⟨R,3,none⟩ x3).cell? ⟨R,2,none⟩=some x2 ∧
  (((((W.setCell ⟨b,0,none⟩ y).setCell ⟨R,0,none⟩ x0).setCell ⟨R,1,none⟩ x1).setCell ⟨R,2,none⟩ x2).setCell ⟨R,3,none⟩ x3).cell? ⟨R,3,none⟩=some x3:=by
 have g0:=Nc (b:=b) (j:=0) h0 (fun e=>hn e.1) y
 have g1:=Nc (b:=b) (j:=0) h1 (fun e=>hn e.1) y
 have g2:=Nc (b:=b) (j:=0) h2 (fun e=>hn e.1) y
 have g3:=Nc (b:=b) (j:=0) h3 (fun e=>hn e.1) y
 refine ⟨?_,?_,?_,?_⟩
 ·exact Nc (Nc (Nc (Tc _ R 0 x0 g0) (by simp) x1) (by simp) x2) (by simp) x3
 ·exact Nc (Nc (Tc _ R 1 x1 (Nc g1 (by simp) x0)) (by simp) x2) (by simp) x3
 ·exact Nc (Tc _ R 2 x2 (Nc (Nc g2 (by simp) x0) (by simp) x1)) (by simp) x3
 exact Tc _ R 3 x3 (Nc (Nc (Nc g3 (by simp) x0) (by simp) x1) (by simp) x2)
end
end Go.Proofs.Ytkjedgnepnbkpaa
