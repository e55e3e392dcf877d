/-
 Parts of the proofs of the laws FnCompactRegs,FnFenceCode,FnRunTimeSteps.
-/
import Derived.Test.YtkjedgnepnbkpaaGreatKq1
import Derived.Test.YtkjedgnepnbkpaaGreatQ
set_option linter.all false
namespace Go.Proofs.YtkjedgnepnbkpaaGreat
open Go.RowKit
theorem one_bools (xs:List Bool):∀ u ∈ bools xs,u.oneCell'=true:=by
 intro u hu
 obtain ⟨x,_,rfl⟩:=List.mem_map.1 hu
 rfl
theorem markStep_len (out:List Bool) (i:Nat) (x:Ins):(markStep out i x).length=out.length:=by
 unfold markStep;split <;> simp
theorem marksUpto_len (l:List Ins) (k:Nat):(marksUpto l k).length=l.length:=by
 induction k with
 | zero=>simp [marksUpto]
 | succ k ih =>
  unfold marksUpto
  split
  ·rw [markStep_len,ih]
  exact ih
theorem marksUpto_succ (l:List Ins) (k:Nat) (h:k < l.length):marksUpto l (k+1)=markStep (marksUpto l k) k l[k]:=by
 conv=>lhs;unfold marksUpto
 rw [List.getElem?_eq_getElem h]
theorem set_swap (l:List Bool) (i j:Nat):(l.set i true).set j true=(l.set j true).set i true:=by
 by_cases h:i=j
 ·subst h;rfl
 exact List.set_comm _ _ h
theorem br_in {nv na nl:Nat} {x:Ins} (h:insOk nv na nl x=true) (hb:isBr x.op=true):0≤x.b∧x.b < nl:=by
 obtain ⟨op,a,b,c,d⟩:=x
 unfold isBr at hb
 simp only [Bool.or_eq_true,beq_iff_eq] at hb
 have a0:wi b 0 ((nl:Int)-1)=true:=by
  rcases hb with rfl | rfl
  all_goals
   unfold insOk at h
   simp [shp,flds,fOk] at h
   exact h.2.2.1
 have:=of_decide_eq_true a0
 constructor <;> simp only <;> omega
theorem br_next {c:Cd} (h:codeOk c=true) {k:Nat} (hk:k < c.list.length) (hb:isBr c.list[k].op=true):k+1 < c.list.length:=by
 obtain ⟨hl,a0⟩:=codeOk_last h
 by_cases e:k=c.list.length-1
 ·subst e
  unfold isBr at hb
  simp only [Bool.or_eq_true,beq_iff_eq] at hb
  omega
 omega
theorem isBranch_any (op a b c d:Int) (w:World) :
  Calls Tryz.prog 93 #[.agg #[.int .i64 op,.int .i64 a,.int .i64 b,.int .i64 c,.int .i64 d]] w fun e w'=>e=.returned (.bool (isBr op))∧Below w.heap.size w w':=by
 have hc:(op == 9)=true∨((op == 9)=false∧((op == 10)=true∨(op == 10)=false)):=by
  cases (op == 9) <;> cases (op == 10) <;> simp
 have a0:=bal (Bs w) (.cells #[.int .i64 op,.int .i64 a,.int .i64 b,.int .i64 c,.int .i64 d] 71)
 rcases hc with h | ⟨h,h2 | h2⟩
 ·have HB:Hid (isBr op=true):=Lib.hid (by unfold isBr;rw [h];rfl)
  go_enter Tryz.func93,Tryz.ntmps93
  go_wp2
  go_ret
  exact ⟨ret_bool HB.out.symm,a0⟩
 ·have HB:Hid (isBr op=true):=Lib.hid (by unfold isBr;rw [h,h2];rfl)
  go_enter Tryz.func93,Tryz.ntmps93
  go_wp2
  go_ret
  exact ⟨ret_bool HB.out.symm,a0⟩
 have HB:Hid (isBr op=false):=Lib.hid (by unfold isBr;rw [h,h2];rfl)
 go_enter Tryz.func93,Tryz.ntmps93
 go_wp2
 go_ret
 exact ⟨ret_bool HB.out.symm,a0⟩
theorem l11Branch_any (op a b c d:Int) (w:World) :
  Calls Tryz.prog 95 #[.agg #[.int .i64 op,.int .i64 a,.int .i64 b,.int .i64 c,.int .i64 d]] w fun e w'=>e=.returned (.bool (isBr op))∧Below w.heap.size w w':=by
 have hc:(op == 9)=true∨((op == 9)=false∧((op == 10)=true∨(op == 10)=false)):=by
  cases (op == 9) <;> cases (op == 10) <;> simp
 have m0:=bal (Bs w) (.cells #[.int .i64 op,.int .i64 a,.int .i64 b,.int .i64 c,.int .i64 d] 71)
 rcases hc with h | ⟨h,h2 | h2⟩
 ·have HB:Hid (isBr op=true):=Lib.hid (by unfold isBr;rw [h];rfl)
  go_enter Tryz.func95,Tryz.ntmps95
  go_wp2
  go_ret
  exact ⟨ret_bool HB.out.symm,m0⟩
 ·have HB:Hid (isBr op=true):=Lib.hid (by unfold isBr;rw [h,h2];rfl)
  go_enter Tryz.func95,Tryz.ntmps95
  go_wp2
  go_ret
  exact ⟨ret_bool HB.out.symm,m0⟩
 have HB:Hid (isBr op=false):=Lib.hid (by unfold isBr;rw [h,h2];rfl)
 go_enter Tryz.func95,Tryz.ntmps95
 go_wp2
 go_ret
 exact ⟨ret_bool HB.out.symm,m0⟩
set_option maxHeartbeats 1600000 in
theorem fenced_any (va vb vc:Value) (c:Cd) (w:World) (hr:ReadsC w va vb vc c) (hok:codeOk c=true) :
  Calls Tryz.prog 55 #[.agg #[va,vb,vc]] w fun e w'=>∃ g,e=.returned (.slice (some ⟨g,0,none⟩) c.list.length c.list.length)∧w'.ownsRow w.heap.size 4 1 (.slice (some ⟨g,0,none⟩) c.list.length c.list.length) c.list.length (bools (marksOf c.list))∧Below w.heap.size w w':=by
 obtain ⟨a0,c0,a1,c1,a2,c2,rfl,rfl,rfl⟩:=hr.shape
 have n0:=codeOk_len hok
 obtain ⟨l1,l2⟩:=n0
 have q0:=Lib.hid (fun k hk hb=>br_in (codeOk_all hok k hk) hb)
 have r0:=Lib.hid (fun k hk hb=>br_next hok (k:=k) hk hb)
 clear hok
 have n1:=hr.l
 clear hr
 obtain ⟨_,hn,aa,p1,b,i0,hv,m1,ha,v0⟩:=n1
 simp only [Value.slice.injEq,true_and] at hv
 obtain ⟨rfl,rfl⟩:=hv
 obtain ⟨rfl,j0⟩:=ha (by omega)
 have HC:=Lib.hid (reads_Instr v0)
 clear v0 ha
 have t1:=mk_boolF c.list.length (by omega)
 have t0:=bal (Bs w) (.cells #[.slice a0 c.vars.length c0,.slice a1 c.arrays.length c1,.slice (some ⟨b,i0,none⟩) c.list.length c2] 26)
 have g0:=own_made (w.alloc (.cells #[.slice a0 c.vars.length c0,.slice a1 c.arrays.length c1,.slice (some ⟨b,i0,none⟩) c.list.length c2] 26)) (.bool false) c.list.length 4 (by unfold maxLen;omega)
 rw [← bools_replicate] at g0
 simp only [Sa] at g0
 have u0:=bal t0 (.cells (madeCells #[.bool false] c.list.length) 4)
 go_enter Tryz.func55,Tryz.ntmps55
 go_wp2
 go_loopw [13] (fun i wr=>∃ k:Nat,k≤c.list.length∧i=.int .i64 k∧wr.ownsRow (w.heap.size+1) 4 1 (.slice (some ⟨w.heap.size+1,0,none⟩) c.list.length c.list.length) c.list.length (bools (marksUpto c.list k))∧Below w.heap.size w wr) (fun i _=>c.list.length-(intOf i).toNat)
 case atStart=>exact ⟨0,Nat.zero_le _,rfl,g0,u0⟩
 case round =>
  obtain ⟨k,hk,rfl,ho,b0⟩:=hrel
  clear g0 u0 t0
  by_cases hlt:k < c.list.length
  ·obtain ⟨e0,e1,e2,e3,e4⟩:=HC.out k hlt
   have e0:=(b0.cell (p:=⟨b,i0+k*5,none⟩) j0).trans e0
   have e1:=(b0.cell (p:=⟨b,i0+k*5+1,none⟩) j0).trans e1
   have e2:=(b0.cell (p:=⟨b,i0+k*5+2,none⟩) j0).trans e2
   have e3:=(b0.cell (p:=⟨b,i0+k*5+3,none⟩) j0).trans e3
   have e4:=(b0.cell (p:=⟨b,i0+k*5+4,none⟩) j0).trans e4
   have b1:=q0.out k hlt
   have d1:=r0.out k hlt
   have x0:=marksUpto_succ c.list k hlt
   have w0:=marksUpto_len c.list k
   generalize c.list[k]=x at *
   have s0:=Lib.hid x0
   have i1:=Lib.hid b1
   have j1:=Lib.hid d1
   have k0:=Lib.hid w0
   clear x0 b1 d1 w0 HC q0 r0
   go_wp2_with fail
   refine (isBranch_any _ _ _ _ _ _).mono ?_
   rintro e w1 ⟨rfl,hb⟩
   have o1:=hb.size
   simp only [Sa] at o1
   have r1:=b0.size
   have s1:=ho.lt _ rfl
   cases hbr:isBr x.op with
   | false =>
    have l0:=Lib.hid hbr
    clear hbr
    have h2:Below wr.heap.size wr w1:=btr (by repeat (first | exact Below.refl _ _ | refine Below.alloc ?_ (by simp) _ | refine Below.setCell ?_ (by simp) _)) hb
    have h0:=Ob ho h2
    have d0:=btr b0 h2
    clear ho b0 hb h2
    go_wp2
    go_roundw
    case rel=>exact ⟨k+1,by omega,by go_num,by rw [s0.out];unfold markStep;rw [l0.out];exact h0,d0⟩
    case measure=>simp [intOf];omega
   | true =>
    obtain ⟨q1,q2⟩:=i1.out hbr
    have q3:=j1.out hbr
    have l0:=Lib.hid hbr
    clear hbr
    have d2:w1.cell? ⟨wr.heap.size,2,none⟩=some (.int .i64 x.b):=Kc hb (Wc rfl rfl)
    have k2:=Lc d2
    have h2:Below wr.heap.size wr w1:=btr (bal (Bs wr) _) hb
    have h0:=Ob ho h2
    have d0:=btr b0 h2
    obtain ⟨nb,o0⟩:∃ nb:Nat,x.b=nb:=⟨x.b.toNat,by omega⟩
    have h1:=Lib.hid o0
    rw [o0] at d2 q2
    have q4:nb < c.list.length:=by omega
    have p0:=(h0.stored nb (.bool true)).1
    have g1:=(p0.stored (k+1) (.bool true)).1
    have y0:=h0.cellAt nb (by omega)
    rw [bools_at _ _ (by rw [k0.out];exact q4)] at y0
    have y1:=p0.cellAt (k+1) (by omega)
    rw [bools_set,bools_at _ _ (by rw [List.length_set,k0.out];exact q3)] at y1
    have f0:=h0.frozenAt nb
    have f1:=h0.frozenAt (k+1)
    rw [bools_set,bools_set] at g1
    have k1:=bst (bst d0 (w.heap.size+1) nb (by omega) (.bool true)) (w.heap.size+1) (k+1) (by omega) (.bool true)
    generalize ((marksUpto c.list k)[nb]'(by rw [k0.out];exact q4))=z0 at y0
    generalize (((marksUpto c.list k).set nb true)[k+1]'(by rw [List.length_set,k0.out];exact q3))=z1 at y1
    have q5:(nb:Int) < (c.list.length:Int):=by omega
    have q6:(k:Int)+1 < (c.list.length:Int):=by omega
    clear ho b0 hb h2 h0 d0 p0 q1 q2 o0
    go_wp2
    go_roundw
    case rel=>exact ⟨k+1,by omega,by go_num,by rw [s0.out];unfold markStep;rw [l0.out,h1.out];exact g1,k1⟩
    case measure=>simp [intOf];omega
  go_wp2
  go_ret
  have e:k=c.list.length:=by omega
  subst e
  exact ⟨_,rfl,Om ho (by omega),b0⟩
def tgt (x:Ins):Int:=if x.op=8 then x.a else if x.op=9∨x.op=10 then x.b else -1
def aim (x:Ins) (t:Int):Ins:=if x.op=8 then { x with a:=t } else if x.op=9∨x.op=10 then { x with b:=t } else x
theorem tgt_cases (x:Ins):(x.op=8∧tgt x=x.a∧∀ t,aim x t={ x with a:=t })∨(x.op=9∧tgt x=x.b∧∀ t,aim x t={ x with b:=t })∨(x.op=10∧tgt x=x.b∧∀ t,aim x t={ x with b:=t })∨((¬x.op=8∧¬x.op=9∧¬x.op=10)∧tgt x=-1∧∀ t,aim x t=x):=by
 by_cases h8:x.op=8
 ·refine Or.inl ⟨h8,?_,fun t=>?_⟩
  ·unfold tgt;rw [if_pos h8]
  unfold aim;rw [if_pos h8]
 by_cases h9:x.op=9
 ·refine Or.inr (Or.inl ⟨h9,?_,fun t=>?_⟩)
  ·unfold tgt;rw [if_neg h8,if_pos (Or.inl h9)]
  unfold aim;rw [if_neg h8,if_pos (Or.inl h9)]
 by_cases h10:x.op=10
 ·refine Or.inr (Or.inr (Or.inl ⟨h10,?_,fun t=>?_⟩))
  ·unfold tgt;rw [if_neg h8,if_pos (Or.inr h10)]
  unfold aim;rw [if_neg h8,if_pos (Or.inr h10)]
 refine Or.inr (Or.inr (Or.inr ⟨⟨h8,h9,h10⟩,?_,fun t=>?_⟩))
 ·unfold tgt;rw [if_neg h8,if_neg (by omega)]
 unfold aim;rw [if_neg h8,if_neg (by omega)]
theorem truth_any (b:Bool) (w:World):Calls Tryz.prog 56 #[.bool b] w fun e w'=>e=.returned (.int .i64 (if b=true then 1 else 0))∧Below w.heap.size w w':=by
 cases b
 all_goals
  go_enter Tryz.func56,Tryz.ntmps56
  go_wp2
  go_ret
  exact ⟨rfl,Bs w⟩
set_option maxHeartbeats 1600000 in
theorem target_any (x:Ins) (w:World) :
  Calls Tryz.prog 57 #[.agg #[.int .i64 x.op,.int .i64 x.a,.int .i64 x.b,.int .i64 x.c,.int .i64 x.d]] w fun e w'=>e=.returned (.int .i64 (tgt x))∧Below w.heap.size w w':=by
 have a0:=bal (Bs w) (.cells #[.int .i64 x.op,.int .i64 x.a,.int .i64 x.b,.int .i64 x.c,.int .i64 x.d] 71)
 obtain ⟨op,a,b,c,d⟩:=x
 rcases tgt_cases ⟨op,a,b,c,d⟩ with ⟨h,ht,_⟩ | ⟨h,ht,_⟩ | ⟨h,ht,_⟩ | ⟨⟨h1,h2,h3⟩,ht,_⟩
 ·rw [ht]
  simp only at h ⊢ a0
  subst h
  clear ht
  go_enter Tryz.func57,Tryz.ntmps57
  go_wp2
  go_ret
  exact ⟨rfl,a0⟩
 ·rw [ht]
  simp only at h ⊢ a0
  subst h
  clear ht
  go_enter Tryz.func57,Tryz.ntmps57
  go_wp2
  go_ret
  exact ⟨rfl,a0⟩
 ·rw [ht]
  simp only at h ⊢ a0
  subst h
  clear ht
  go_enter Tryz.func57,Tryz.ntmps57
  go_wp2
  go_ret
  exact ⟨rfl,a0⟩
 rw [ht]
 simp only at h1 h2 h3 ⊢ a0
 have e1:(op == 8)=false:=by simp [h1]
 have e2:(op == 9)=false:=by simp [h2]
 have e3:(op == 10)=false:=by simp [h3]
 clear ht h1 h2 h3
 go_enter Tryz.func57,Tryz.ntmps57
 go_wp2
 go_ret
 exact ⟨rfl,a0⟩
theorem needAt_eq {l:List Ins} {k:Nat} (h1:k < (marksOf l).length) (h2:k < l.length):needAt l k=((marksOf l)[k]&&!(l[k].op == 12)):=by
 unfold needAt;rw [List.getElem?_eq_getElem h1,List.getElem?_eq_getElem h2]
theorem cnt_le (l:List Ins) (k:Nat):cnt l k≤2*k:=by
 induction k with
 | zero=>simp [cnt]
 | succ k ih=>simp only [cnt];split <;> omega
def fence:Ins:=⟨12,0,0,0,0⟩
def fx (l:List Ins) (x:Ins):Ins:=if 0≤tgt x then aim x (cnt l (tgt x).toNat) else x
def fenceTo (l:List Ins):Nat→List Ins
 | 0=>[]
 | k+1=>fenceTo l k++((if needAt l k=true then [fence] else [])++(match l[k]? with | some x=>[fx l x] | none=>[]))
theorem fenceTo_succ (l:List Ins) (k:Nat) (h:k < l.length):fenceTo l (k+1)=fenceTo l k++((if needAt l k=true then [fence] else [])++[fx l l[k]]):=by
 conv=>lhs;unfold fenceTo
 rw [List.getElem?_eq_getElem h]
theorem fenceTo_len (l:List Ins) (k:Nat) (h:k≤l.length):(fenceTo l k).length=cnt l k:=by
 induction k with
 | zero=>rfl
 | succ k ih =>
  rw [fenceTo_succ l k (by omega),List.length_append,ih (by omega)]
  simp only [cnt,List.length_append,List.length_cons,List.length_nil]
  split <;> simp
def needs (l:List Ins) (k:Nat):List Bool:=(List.range k).map (needAt l)
theorem needs_len (l:List Ins) (k:Nat):(needs l k).length=k:=by simp [needs]
theorem needs_succ (l:List Ins) (k:Nat):needs l (k+1)=needs l k++[needAt l k]:=by simp [needs,List.range_succ]
theorem needs_get (l:List Ins) (n k:Nat) (h:k < (needs l n).length):(needs l n)[k]=needAt l k:=by simp [needs]
def places (l:List Ins) (k:Nat):List Int:=(List.range k).map (fun i=>(cnt l i:Int))
theorem places_len (l:List Ins) (k:Nat):(places l k).length=k:=by simp [places]
theorem places_succ (l:List Ins) (k:Nat):places l (k+1)=places l k++[(cnt l k:Int)]:=by simp [places,List.range_succ]
theorem places_get (l:List Ins) (n k:Nat) (h:k < (places l n).length):(places l n)[k]=(cnt l k:Int):=by simp [places]
def fenceR (c:Cd):Cd × Bool:=if codeOk c=true∧cnt c.list c.list.length≤400 then (⟨c.vars,c.arrays,fenceTo c.list c.list.length⟩,true) else (noCode,false)
theorem fenceR_no {c:Cd} (h:¬(codeOk c=true∧cnt c.list c.list.length≤400)):fenceR c=(noCode,false):=by unfold fenceR;rw [if_neg h]
theorem fenceR_yes {c:Cd} (h:codeOk c=true∧cnt c.list c.list.length≤400):fenceR c=(⟨c.vars,c.arrays,fenceTo c.list c.list.length⟩,true):=by unfold fenceR;rw [if_pos h]
theorem fenceR_lens (c:Cd):(fenceR c).1.vars.length≤1048576∧(fenceR c).1.arrays.length≤1048576∧(fenceR c).1.list.length≤1048576:=by
 by_cases h:codeOk c=true∧cnt c.list c.list.length≤400
 ·rw [fenceR_yes h]
  have h1:=declOk_len (codeOk_decl h.1)
  have h2:=fenceTo_len c.list c.list.length (Nat.le_refl _)
  refine ⟨?_,?_,?_⟩ <;> simp only <;> omega
 rw [fenceR_no h]
 simp [noCode]
theorem tgt_in {nv na nl:Nat} {x:Ins} (h:insOk nv na nl x=true) (h0:0≤tgt x):tgt x < nl∧(x.op=8∨x.op=9∨x.op=10):=by
 rcases tgt_cases x with ⟨h8,ht,_⟩ | ⟨h9,ht,_⟩ | ⟨h9,ht,_⟩ | ⟨_,ht,_⟩
 ·refine ⟨?_,Or.inl h8⟩
  rw [ht]
  obtain ⟨op,a,b,c,d⟩:=x
  simp only at h8
  subst h8
  unfold insOk at h
  simp [shp,flds,fOk] at h
  have:=of_decide_eq_true h.2.1
  simp only
  omega
 ·have:=br_in h (by unfold isBr;rw [h9];rfl)
  exact ⟨by rw [ht];exact this.2,Or.inr (Or.inl h9)⟩
 ·have:=br_in h (by unfold isBr;rw [h9];rfl)
  exact ⟨by rw [ht];exact this.2,Or.inr (Or.inr h9)⟩
 omega
theorem drop_cons {α:Type} (l:List α) (k:Nat) (h:k < l.length) (a:List α) (ha:a.length=k) (y:α):(a++l.drop k).set k y=(a++[y])++l.drop (k+1):=set_dropped a l y k ha h
theorem get_dropped {α:Type} (l:List α) (k:Nat) (h:k < l.length) (a:List α) (ha:a.length=k) (h2:k < (a++l.drop k).length):(a++l.drop k)[k]'h2=l[k]:=by
 rw [List.getElem_append_right (by omega)]
 simp [ha]
theorem stN_add (c:Cd) (s:Ms) (a b:Nat):stN c (a+b) s=stN c b (stN c a s):=by
 induction b with
 | zero=>rfl
 | succ b ih=>rw [show a+(b+1)=(a+b)+1 by omega];simp only [stN];rw [ih]
theorem opAt_add (c:Cd) (s:Ms) (a b:Nat):opAt c s (a+b)=opAt c (stN c a s) b:=by unfold opAt;rw [stN_add]
theorem evN_add (c:Cd) (s:Ms) (a b:Nat):evN c (a+b) s=evN c a s++evN c b (stN c a s):=by
 induction b with
 | zero=>simp [evN]
 | succ b ih=>rw [show a+(b+1)=(a+b)+1 by omega];simp only [evN];rw [ih,stN_add,List.append_assoc]
theorem stN_one (c:Cd) (s:Ms):stN c 1 s=stp (insAt c s.pc) s:=rfl
theorem evN_one (c:Cd) (s:Ms):evN c 1 s=stEvs (insAt c s.pc) s:=by simp [evN,stN]
theorem prj_acc (x:Ins) (s:Ms):prj (accE x s)=accE x s:=by
 unfold accE
 split
 ·rfl
 split
 ·rfl
 split <;> rfl
theorem prj_stEvs (x:Ins) (s:Ms):prj (stEvs x s)=accE x s:=by
 rw [stEvs_acc]
 conv=>rhs;rw [← prj_acc]
 rfl
theorem sim_run (c D:Cd) (R:Ms→Ms→Prop) (J:Nat) (hok:codeOk c=true)
  (hs:∀ s t,R s t→MsOk c s→¬(insAt c s.pc).op=13→∃ j,j≤J∧(∀ i,i < j→¬opAt D t i=13)∧R (stp (insAt c s.pc) s) (stN D j t)∧prj (evN D j t)=prj (stEvs (insAt c s.pc) s))
  (s t:Ms) (hR:R s t) (ho:MsOk c s):∀ n,(∀ i,i < n→¬opAt c s i=13)→∃ N,N≤J*n∧(∀ i,i < N→¬opAt D t i=13)∧R (stN c n s) (stN D N t)∧prj (evN D N t)=prj (evN c n s):=by
 intro n
 induction n with
 | zero=>intro _;exact ⟨0,by omega,fun i h=>by omega,hR,rfl⟩
 | succ n ih =>
  intro hn
  obtain ⟨N,h1,h2,h3,h4⟩:=ih (fun i h=>hn i (by omega))
  obtain ⟨j,g1,g2,g3,g4⟩:=hs _ _ h3 (stN_ok hok ho n) (hn n (by omega))
  refine ⟨N+j,by rw [Nat.mul_succ];omega,fun i hi=>?_,?_,?_⟩
  ·by_cases e:i < N
   ·exact h2 i e
   rw [show i=N+(i-N) by omega,opAt_add];exact g2 _ (by omega)
  ·rw [stN_add D t N j];exact g3
  rw [evN_add,prj_app,h4,g4]
  simp only [evN]
  rw [prj_app]
theorem first_same {c:Cd} {s:Ms} {a b:Nat} (ha:∀ j,j < a→¬opAt c s j=13) (ha2:opAt c s a=13) (hb:∀ j,j < b→¬opAt c s j=13) (hb2:opAt c s b=13):a=b:=by
 rcases Nat.lt_trichotomy a b with h | h | h
 ·exact absurd ha2 (hb a h)
 ·exact h
 exact absurd hb2 (ha b h)
theorem stp_halt {x:Ins} {s:Ms} (h:x.op=13):stp x s=s:=by
 obtain ⟨pc,r,m⟩:=s
 simp [stp,stPc,stRegs,stMem,h]
theorem accE_halt {x:Ins} {s:Ms} (h:x.op=13):accE x s=[]:=by simp [accE,h]
end Go.Proofs.YtkjedgnepnbkpaaGreat
