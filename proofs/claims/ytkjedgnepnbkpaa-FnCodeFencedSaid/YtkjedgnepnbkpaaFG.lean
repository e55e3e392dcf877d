/-
 Parts of the proofs of the laws FnCodeFenced,FnCountBranches.
-/
import Derived.Test.YtkjedgnepnbkpaaFE
set_option linter.all false
namespace Go.Proofs.Ytkjedgnepnbkpaa
open Go.RowKit
set_option maxHeartbeats 1600000 in
theorem l11Marks_any (va vb vc:Value) (c:Cd) (w:World) (hr:ReadsC w va vb vc c) (hok:codeOk c=true) :
  Calls Try.prog 58 #[.agg #[va,vb,vc]] w fun e w'=>∃ g,e=.returned (.slice (some ⟨g,0,none⟩) c.list.length c.list.length)∧w'.ownsRow w.heap.size 4 1 (.slice (some ⟨g,0,none⟩) c.list.length c.list.length) c.list.length (bools (marksOf c.list))∧Below w.heap.size w w':=by
 obtain ⟨a0,c0,a1,c1,a2,c2,rfl,rfl,rfl⟩:=hr.shape
 have m0:=codeOk_len hok
 obtain ⟨l1,l2⟩:=m0
 have p0:=Lib.hid (fun k hk hb=>br_in (codeOk_all hok k hk) hb)
 have q0:=Lib.hid (fun k hk hb=>br_next hok (k:=k) hk hb)
 clear hok
 have n1:=hr.l
 clear hr
 obtain ⟨_,hn,aa,o1,b,h0,hv,m1,ha,u0⟩:=n1
 simp only [Value.slice.injEq,true_and] at hv
 obtain ⟨rfl,rfl⟩:=hv
 obtain ⟨rfl,j0⟩:=ha (by omega)
 have HC:=Lib.hid (reads_Instr u0)
 clear u0 ha
 have s1:=mk_boolF c.list.length (by omega)
 have s0:=bal (Bs w) (.cells #[.slice a0 c.vars.length c0,.slice a1 c.arrays.length c1,.slice (some ⟨b,h0,none⟩) c.list.length c2] 26)
 have g0:=own_made (w.alloc (.cells #[.slice a0 c.vars.length c0,.slice a1 c.arrays.length c1,.slice (some ⟨b,h0,none⟩) c.list.length c2] 26)) (.bool false) c.list.length 4 (by unfold maxLen;omega)
 rw [← bools_replicate] at g0
 simp only [Sa] at g0
 have t0:=bal s0 (.cells (madeCells #[.bool false] c.list.length) 4)
 go_enter Try.func58,Try.ntmps58
 go_wp2
 go_loopw [4] (fun i wr=>∃ k:Nat,k≤c.list.length∧i=.int .i64 k∧wr.ownsRow (w.heap.size+1) 4 1 (.slice (some ⟨w.heap.size+1,0,none⟩) c.list.length c.list.length) c.list.length (bools (marksUpto c.list k))∧Below w.heap.size w wr∧wr.cell? ⟨w.heap.size,2,none⟩=some (.slice (some ⟨b,h0,none⟩) c.list.length c2)) (fun i _=>c.list.length-(intOf i).toNat)
 case atStart=>exact ⟨0,Nat.zero_le _,rfl,g0,t0,Ac (Wc rfl rfl) _⟩
 case round =>
  obtain ⟨k,hk,rfl,ho,b0,d⟩:=hrel
  clear g0 t0 s0
  have kd:=Lc d
  by_cases hlt:k < c.list.length
  ·obtain ⟨e0,e1,e2,e3,e4⟩:=HC.out k hlt
   have e0:=(b0.cell (p:=⟨b,h0+k*5,none⟩) j0).trans e0
   have e1:=(b0.cell (p:=⟨b,h0+k*5+1,none⟩) j0).trans e1
   have e2:=(b0.cell (p:=⟨b,h0+k*5+2,none⟩) j0).trans e2
   have e3:=(b0.cell (p:=⟨b,h0+k*5+3,none⟩) j0).trans e3
   have e4:=(b0.cell (p:=⟨b,h0+k*5+4,none⟩) j0).trans e4
   have x0:=p0.out k hlt
   have b1:=q0.out k hlt
   have w0:=marksUpto_succ c.list k hlt
   have v0:=marksUpto_len c.list k
   generalize c.list[k]=x at *
   have r0:=Lib.hid w0
   have i1:=Lib.hid x0
   have j1:=Lib.hid b1
   have k0:=Lib.hid v0
   clear w0 x0 b1 v0 HC p0 q0
   go_wp2_with fail
   refine (l11Branch_any _ _ _ _ _ _).mono ?_
   rintro e w1 ⟨rfl,hb⟩
   have t1:=hb.size
   have p1:=b0.size
   have r1:=ho.lt _ rfl
   have d1:=Kc hb d
   have u1:=Lc d1
   have i0:=Ob ho hb
   have d0:=btr b0 hb
   cases hbr:isBr x.op with
   | false =>
    have l0:=Lib.hid hbr
    clear hbr ho b0 hb
    go_wp2
    go_roundw
    case rel=>exact ⟨k+1,by omega,by go_num,by rw [r0.out];unfold markStep;rw [l0.out];exact i0,d0,d1⟩
    case measure=>simp [intOf];omega
   | true =>
    obtain ⟨q1,q2⟩:=i1.out hbr
    have q3:=j1.out hbr
    have l0:=Lib.hid hbr
    clear hbr
    obtain ⟨nb,n0⟩:∃ nb:Nat,x.b=nb:=⟨x.b.toNat,by omega⟩
    have h1:=Lib.hid n0
    have d2:=Kc hb e2
    rw [n0] at d2 q2
    have q4:nb < c.list.length:=by omega
    have o0:=(i0.stored (k+1) (.bool true)).1
    have g1:=(o0.stored nb (.bool true)).1
    have y0:=i0.cellAt (k+1) (by omega)
    rw [bools_at _ _ (by rw [k0.out];exact q3)] at y0
    have y1:=o0.cellAt nb (by omega)
    rw [bools_set,bools_at _ _ (by rw [List.length_set,k0.out];exact q4)] at y1
    have f0:=i0.frozenAt nb
    have f1:=i0.frozenAt (k+1)
    rw [bools_set,bools_set,← set_swap] at g1
    have k1:=bst (bst d0 (w.heap.size+1) (k+1) (by omega) (.bool true)) (w.heap.size+1) nb (by omega) (.bool true)
    have d3:=Nn d1 (b:=w.heap.size+1) (j:=k+1) (.bool true)
    have d4:=Nn d3 (b:=w.heap.size+1) (j:=nb) (.bool true)
    have d5:=Nn d2 (b:=w.heap.size+1) (j:=k+1) (.bool true)
    generalize ((marksUpto c.list k)[k+1]'(by rw [k0.out];exact q3))=z0 at y0
    generalize (((marksUpto c.list k).set (k+1) true)[nb]'(by rw [List.length_set,k0.out];exact q4))=z1 at y1
    have q5:(nb:Int) < (c.list.length:Int):=by omega
    have q6:(k:Int)+1 < (c.list.length:Int):=by omega
    clear ho b0 hb i0 d0 o0 q1 q2 n0 e0 e1 e2 e3 e4
    go_wp2
    go_roundw
    case rel=>exact ⟨k+1,by omega,by go_num,by rw [r0.out];unfold markStep;rw [l0.out,h1.out];exact g1,k1,d4⟩
    case measure=>simp [intOf];omega
  go_wp2
  go_ret
  have e:k=c.list.length:=by omega
  subst e
  exact ⟨_,rfl,Om ho (by omega),b0⟩
def fencedAll (l:List Ins):Bool:=(List.range l.length).all (fun k=>match (marksOf l)[k]?,l[k]? with | some m,some x=>!m||x.op == 12 | _,_=>true)
theorem fencedAll_yes {l:List Ins} (h:∀ k (h1:k < (marksOf l).length) (h2:k < l.length),((marksOf l)[k]&&!(l[k].op == 12))=false):fencedAll l=true:=by
 unfold fencedAll
 rw [List.all_eq_true]
 intro k hk
 have hk':k < l.length:=List.mem_range.1 hk
 have hm:k < (marksOf l).length:=by rw [marksOf,marksUpto_len];exact hk'
 rw [List.getElem?_eq_getElem hm,List.getElem?_eq_getElem hk']
 have:=h k hm hk'
 revert this
 simp only
 cases (marksOf l)[k] <;> cases (l[k].op == 12) <;> simp
theorem fencedAll_no {l:List Ins} {k:Nat} (h1:k < (marksOf l).length) (h2:k < l.length) (h:((marksOf l)[k]&&!(l[k].op == 12))=true):fencedAll l=false:=by
 unfold fencedAll
 rw [List.all_eq_false]
 refine ⟨k,List.mem_range.2 h2,?_⟩
 rw [List.getElem?_eq_getElem h1,List.getElem?_eq_getElem h2]
 revert h
 simp only
 cases (marksOf l)[k] <;> cases (l[k].op == 12) <;> simp
def codeFenced (c:Cd):Bool:=codeOk c&&fencedAll c.list
end Go.Proofs.Ytkjedgnepnbkpaa
