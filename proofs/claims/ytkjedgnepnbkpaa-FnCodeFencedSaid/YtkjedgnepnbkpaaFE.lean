/-
 Parts of the proofs of the laws FnCodeFenced,FnCountBranches.
-/
import Derived.Test.YtkjedgnepnbkpaaTK
import Derived.Test.YtkjedgnepnbkpaaVV
set_option linter.all false
namespace Go.Proofs.Ytkjedgnepnbkpaa
open Go.RowKit
def markStep (out:List Bool) (i:Nat) (x:Ins):List Bool:=if isBr x.op=true then (out.set x.b.toNat true).set (i+1) true else out
def marksUpto (l:List Ins):Nat→List Bool
 | 0=>List.replicate l.length false
 | k+1=>match l[k]? with | some x=>markStep (marksUpto l k) k x | none=>marksUpto l k
theorem markStep_len (out:List Bool) (i:Nat) (x:Ins):(markStep out i x).length=out.length:=by
 unfold markStep;split <;> simp
theorem marksUpto_len (l:List Ins) (k:Nat):(marksUpto l k).length=l.length:=by
 induction k with
 | zero=>simp [marksUpto]
 | succ k ih =>
  unfold marksUpto
  split
  ·rw [markStep_len,ih]
  exact ih
theorem marksUpto_succ (l:List Ins) (k:Nat) (h:k < l.length):marksUpto l (k+1)=markStep (marksUpto l k) k l[k]:=by
 conv=>lhs;unfold marksUpto
 rw [List.getElem?_eq_getElem h]
def marksOf (l:List Ins):List Bool:=marksUpto l l.length
theorem set_swap (l:List Bool) (i j:Nat):(l.set i true).set j true=(l.set j true).set i true:=by
 by_cases h:i=j
 ·subst h;rfl
 exact List.set_comm _ _ h
theorem br_in {nv na nl:Nat} {x:Ins} (h:insOk nv na nl x=true) (hb:isBr x.op=true):0≤x.b∧x.b < nl:=by
 obtain ⟨op,a,b,c,d⟩:=x
 unfold isBr at hb
 simp only [Bool.or_eq_true,beq_iff_eq] at hb
 have a0:wi b 0 ((nl:Int)-1)=true:=by
  rcases hb with rfl | rfl
  all_goals
   unfold insOk at h
   simp [shp,flds,fOk] at h
   exact h.2.2.1
 have:=of_decide_eq_true a0
 constructor <;> simp only <;> omega
theorem br_next {c:Cd} (h:codeOk c=true) {k:Nat} (hk:k < c.list.length) (hb:isBr c.list[k].op=true):k+1 < c.list.length:=by
 obtain ⟨hl,a0⟩:=codeOk_last h
 by_cases e:k=c.list.length-1
 ·subst e
  unfold isBr at hb
  simp only [Bool.or_eq_true,beq_iff_eq] at hb
  omega
 omega
theorem bools_set (l:List Bool) (k:Nat) (b:Bool):(bools l).set k (.bool b)=bools (l.set k b):=by simp [bools,List.map_set]
theorem bools_at (l:List Bool) (k:Nat) (h:k < l.length):(bools l)[k]? = some (.bool l[k]):=by simp [bools,h]
set_option maxHeartbeats 1600000 in
theorem fenced_any (va vb vc:Value) (c:Cd) (w:World) (hr:ReadsC w va vb vc c) (hok:codeOk c=true) :
  Calls Try.prog 52 #[.agg #[va,vb,vc]] w fun e w'=>∃ g,e=.returned (.slice (some ⟨g,0,none⟩) c.list.length c.list.length)∧w'.ownsRow w.heap.size 4 1 (.slice (some ⟨g,0,none⟩) c.list.length c.list.length) c.list.length (bools (marksOf c.list))∧Below w.heap.size w w':=by
 obtain ⟨a0,c0,a1,c1,a2,c2,rfl,rfl,rfl⟩:=hr.shape
 have m0:=codeOk_len hok
 obtain ⟨l1,l2⟩:=m0
 have p0:=Lib.hid (fun k hk hb=>br_in (codeOk_all hok k hk) hb)
 have q0:=Lib.hid (fun k hk hb=>br_next hok (k:=k) hk hb)
 clear hok
 have m1:=hr.l
 clear hr
 obtain ⟨_,hn,aa,o1,b,i0,hv,k1,ha,u0⟩:=m1
 simp only [Value.slice.injEq,true_and] at hv
 obtain ⟨rfl,rfl⟩:=hv
 obtain ⟨rfl,j0⟩:=ha (by omega)
 have HC:=Lib.hid (reads_Instr u0)
 clear u0 ha
 have s1:=mk_boolF c.list.length (by omega)
 have s0:=bal (Bs w) (.cells #[.slice a0 c.vars.length c0,.slice a1 c.arrays.length c1,.slice (some ⟨b,i0,none⟩) c.list.length c2] 26)
 have g0:=own_made (w.alloc (.cells #[.slice a0 c.vars.length c0,.slice a1 c.arrays.length c1,.slice (some ⟨b,i0,none⟩) c.list.length c2] 26)) (.bool false) c.list.length 4 (by unfold maxLen;omega)
 rw [← bools_replicate] at g0
 simp only [Sa] at g0
 have t0:=bal s0 (.cells (madeCells #[.bool false] c.list.length) 4)
 go_enter Try.func52,Try.ntmps52
 go_wp2
 go_loopw [13] (fun i wr=>∃ k:Nat,k≤c.list.length∧i=.int .i64 k∧wr.ownsRow (w.heap.size+1) 4 1 (.slice (some ⟨w.heap.size+1,0,none⟩) c.list.length c.list.length) c.list.length (bools (marksUpto c.list k))∧Below w.heap.size w wr) (fun i _=>c.list.length-(intOf i).toNat)
 case atStart=>exact ⟨0,Nat.zero_le _,rfl,g0,t0⟩
 case round =>
  obtain ⟨k,hk,rfl,ho,b0⟩:=hrel
  clear g0 t0 s0
  by_cases hlt:k < c.list.length
  ·obtain ⟨e0,e1,e2,e3,e4⟩:=HC.out k hlt
   have e0:=(b0.cell (p:=⟨b,i0+k*5,none⟩) j0).trans e0
   have e1:=(b0.cell (p:=⟨b,i0+k*5+1,none⟩) j0).trans e1
   have e2:=(b0.cell (p:=⟨b,i0+k*5+2,none⟩) j0).trans e2
   have e3:=(b0.cell (p:=⟨b,i0+k*5+3,none⟩) j0).trans e3
   have e4:=(b0.cell (p:=⟨b,i0+k*5+4,none⟩) j0).trans e4
   have x0:=p0.out k hlt
   have b1:=q0.out k hlt
   have w0:=marksUpto_succ c.list k hlt
   have v0:=marksUpto_len c.list k
   generalize c.list[k]=x at *
   have r0:=Lib.hid w0
   have h1:=Lib.hid x0
   have i1:=Lib.hid b1
   have k0:=Lib.hid v0
   clear w0 x0 b1 v0 HC p0 q0
   go_wp2_with fail
   refine (isBranch_any _ _ _ _ _ _).mono ?_
   rintro e w1 ⟨rfl,hb⟩
   have n1:=hb.size
   simp only [Sa] at n1
   have p1:=b0.size
   have r1:=ho.lt _ rfl
   cases hbr:isBr x.op with
   | false =>
    have l0:=Lib.hid hbr
    clear hbr
    have h2:Below wr.heap.size wr w1:=btr (by repeat (first | exact Below.refl _ _ | refine Below.alloc ?_ (by simp) _ | refine Below.setCell ?_ (by simp) _)) hb
    have h0:=Ob ho h2
    have d0:=btr b0 h2
    clear ho b0 hb h2
    go_wp2
    go_roundw
    case rel=>exact ⟨k+1,by omega,by go_num,by rw [r0.out];unfold markStep;rw [l0.out];exact h0,d0⟩
    case measure=>simp [intOf];omega
   | true =>
    obtain ⟨q1,q2⟩:=h1.out hbr
    have q3:=i1.out hbr
    have l0:=Lib.hid hbr
    clear hbr
    have d2:w1.cell? ⟨wr.heap.size,2,none⟩=some (.int .i64 x.b):=Kc hb (Wc rfl rfl)
    have k2:=Lc d2
    have h2:Below wr.heap.size wr w1:=btr (bal (Bs wr) _) hb
    have h0:=Ob ho h2
    have d0:=btr b0 h2
    obtain ⟨nb,n0⟩:∃ nb:Nat,x.b=nb:=⟨x.b.toNat,by omega⟩
    have g1:=Lib.hid n0
    rw [n0] at d2 q2
    have q4:nb < c.list.length:=by omega
    have o0:=(h0.stored nb (.bool true)).1
    have d1:=(o0.stored (k+1) (.bool true)).1
    have y0:=h0.cellAt nb (by omega)
    rw [bools_at _ _ (by rw [k0.out];exact q4)] at y0
    have y1:=o0.cellAt (k+1) (by omega)
    rw [bools_set,bools_at _ _ (by rw [List.length_set,k0.out];exact q3)] at y1
    have f0:=h0.frozenAt nb
    have f1:=h0.frozenAt (k+1)
    rw [bools_set,bools_set] at d1
    have j1:=bst (bst d0 (w.heap.size+1) nb (by omega) (.bool true)) (w.heap.size+1) (k+1) (by omega) (.bool true)
    generalize ((marksUpto c.list k)[nb]'(by rw [k0.out];exact q4))=z0 at y0
    generalize (((marksUpto c.list k).set nb true)[k+1]'(by rw [List.length_set,k0.out];exact q3))=z1 at y1
    have q5:(nb:Int) < (c.list.length:Int):=by omega
    have q6:(k:Int)+1 < (c.list.length:Int):=by omega
    clear ho b0 hb h2 h0 d0 o0 q1 q2 n0
    go_wp2
    go_roundw
    case rel=>exact ⟨k+1,by omega,by go_num,by rw [r0.out];unfold markStep;rw [l0.out,g1.out];exact d1,j1⟩
    case measure=>simp [intOf];omega
  go_wp2
  go_ret
  have e:k=c.list.length:=by omega
  subst e
  exact ⟨_,rfl,Om ho (by omega),b0⟩
def noCode:Cd:=⟨[],[],[]⟩
theorem noCode_own (w:World) (base:Nat):OwnC w base (.slice none 0 0) (.slice none 0 0) (.slice none 0 0) noCode:=
 ⟨World.ownsRow_nil _ _ _ _,World.ownsRow_nil _ _ _ _,World.ownsRow_nil _ _ _ _,fun q h=>by simp [Value.ownBlock] at h⟩
theorem truth_any (b:Bool) (w:World):Calls Try.prog 53 #[.bool b] w fun e w'=>e=.returned (.int .i64 (if b=true then 1 else 0))∧Below w.heap.size w w':=by
 cases b
 all_goals
  go_enter Try.func53,Try.ntmps53
  go_wp2
  go_ret
  exact ⟨rfl,Bs w⟩
def needAt (l:List Ins) (k:Nat):Bool:=match (marksOf l)[k]?,l[k]? with | some m,some x=>m&&!(x.op == 12) | _,_=>false
theorem needAt_eq {l:List Ins} {k:Nat} (h1:k < (marksOf l).length) (h2:k < l.length):needAt l k=((marksOf l)[k]&&!(l[k].op == 12)):=by
 unfold needAt;rw [List.getElem?_eq_getElem h1,List.getElem?_eq_getElem h2]
def cnt (l:List Ins):Nat→Nat
 | 0=>0
 | k+1=>cnt l k+(if needAt l k=true then 2 else 1)
theorem cnt_le (l:List Ins) (k:Nat):cnt l k≤2*k:=by
 induction k with
 | zero=>simp [cnt]
 | succ k ih=>simp only [cnt];split <;> omega
def fence:Ins:=⟨12,0,0,0,0⟩
def fx (l:List Ins) (x:Ins):Ins:=if 0≤tgt x then aim x (cnt l (tgt x).toNat) else x
def fenceTo (l:List Ins):Nat→List Ins
 | 0=>[]
 | k+1=>fenceTo l k++((if needAt l k=true then [fence] else [])++(match l[k]? with | some x=>[fx l x] | none=>[]))
theorem fenceTo_succ (l:List Ins) (k:Nat) (h:k < l.length):fenceTo l (k+1)=fenceTo l k++((if needAt l k=true then [fence] else [])++[fx l l[k]]):=by
 conv=>lhs;unfold fenceTo
 rw [List.getElem?_eq_getElem h]
theorem fenceTo_len (l:List Ins) (k:Nat) (h:k≤l.length):(fenceTo l k).length=cnt l k:=by
 induction k with
 | zero=>rfl
 | succ k ih =>
  rw [fenceTo_succ l k (by omega),List.length_append,ih (by omega)]
  simp only [cnt,List.length_append,List.length_cons,List.length_nil]
  split <;> simp
def needs (l:List Ins) (k:Nat):List Bool:=(List.range k).map (needAt l)
theorem needs_len (l:List Ins) (k:Nat):(needs l k).length=k:=by simp [needs]
theorem needs_succ (l:List Ins) (k:Nat):needs l (k+1)=needs l k++[needAt l k]:=by simp [needs,List.range_succ]
theorem needs_get (l:List Ins) (n k:Nat) (h:k < (needs l n).length):(needs l n)[k]=needAt l k:=by simp [needs]
def places (l:List Ins) (k:Nat):List Int:=(List.range k).map (fun i=>(cnt l i:Int))
theorem places_len (l:List Ins) (k:Nat):(places l k).length=k:=by simp [places]
theorem places_succ (l:List Ins) (k:Nat):places l (k+1)=places l k++[(cnt l k:Int)]:=by simp [places,List.range_succ]
theorem places_get (l:List Ins) (n k:Nat) (h:k < (places l n).length):(places l n)[k]=(cnt l k:Int):=by simp [places]
def fenceR (c:Cd):Cd × Bool:=if codeOk c=true∧cnt c.list c.list.length≤400 then (⟨c.vars,c.arrays,fenceTo c.list c.list.length⟩,true) else (noCode,false)
theorem fenceR_no {c:Cd} (h:¬(codeOk c=true∧cnt c.list c.list.length≤400)):fenceR c=(noCode,false):=by unfold fenceR;rw [if_neg h]
theorem fenceR_yes {c:Cd} (h:codeOk c=true∧cnt c.list c.list.length≤400):fenceR c=(⟨c.vars,c.arrays,fenceTo c.list c.list.length⟩,true):=by unfold fenceR;rw [if_pos h]
theorem fenceR_lens (c:Cd):(fenceR c).1.vars.length≤1048576∧(fenceR c).1.arrays.length≤1048576∧(fenceR c).1.list.length≤1048576:=by
 by_cases h:codeOk c=true∧cnt c.list c.list.length≤400
 ·rw [fenceR_yes h]
  have h1:=declOk_len (codeOk_decl h.1)
  have h2:=fenceTo_len c.list c.list.length (Nat.le_refl _)
  refine ⟨?_,?_,?_⟩ <;> simp only <;> omega
 rw [fenceR_no h]
 simp [noCode]
theorem tgt_in {nv na nl:Nat} {x:Ins} (h:insOk nv na nl x=true) (h0:0≤tgt x):tgt x < nl∧(x.op=8∨x.op=9∨x.op=10):=by
 rcases tgt_cases x with ⟨h8,ht,_⟩ | ⟨h9,ht,_⟩ | ⟨h9,ht,_⟩ | ⟨_,ht,_⟩
 ·refine ⟨?_,Or.inl h8⟩
  rw [ht]
  obtain ⟨op,a,b,c,d⟩:=x
  simp only at h8
  subst h8
  unfold insOk at h
  simp [shp,flds,fOk] at h
  have:=of_decide_eq_true h.2.1
  simp only
  omega
 ·have:=br_in h (by unfold isBr;rw [h9];rfl)
  exact ⟨by rw [ht];exact this.2,Or.inr (Or.inl h9)⟩
 ·have:=br_in h (by unfold isBr;rw [h9];rfl)
  exact ⟨by rw [ht];exact this.2,Or.inr (Or.inr h9)⟩
 omega
theorem drop_cons {α:Type} (l:List α) (k:Nat) (h:k < l.length) (a:List α) (ha:a.length=k) (y:α):(a++l.drop k).set k y=(a++[y])++l.drop (k+1):=set_dropped a l y k ha h
theorem get_dropped {α:Type} (l:List α) (k:Nat) (h:k < l.length) (a:List α) (ha:a.length=k) (h2:k < (a++l.drop k).length):(a++l.drop k)[k]'h2=l[k]:=by
 rw [List.getElem_append_right (by omega)]
 simp [ha]
end Go.Proofs.Ytkjedgnepnbkpaa
