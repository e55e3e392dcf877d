/-
 Parts of the proofs of the laws FnCodeFenced,FnCountBranches.
-/
import Derived.Deep.Slices
import Derived.Test.YtkjedgnepnbkpaaVC
import Derived.Test.YtkjedgnepnbkpaaVU
set_option linter.all false
namespace Go.Proofs.Ytkjedgnepnbkpaa
open Go.RowKit
set_option maxHeartbeats 3200000 in
theorem sCodeValid_any (va vb vc:Value) (c:Cd) (w:World) (hr:ReadsC w va vb vc c) :
  Calls Try.prog 57 #[.agg #[va,vb,vc]] w fun e w'=>e=.returned (.bool (codeOk c))∧Below w.heap.size w w':=by
 obtain ⟨a0,c0,a1,c1,a2,c2,rfl,rfl,rfl⟩:=hr.shape
 have HD:Hid (codeOk c=(declOk c.vars c.arrays&&(wi c.list.length 1 400&&(c.list.all (insOk c.vars.length c.arrays.length c.list.length)&&lastOk c.list)))):=Lib.hid (by unfold codeOk wi;rw [show decide (1≤c.list.length∧c.list.length≤400)=decide ((1:Int)≤c.list.length∧(c.list.length:Int)≤400) from by rw [decide_eq_decide];omega])
 generalize codeOk c=D at *
 have f0:=bal (Bs w) (.cells #[.slice a0 c.vars.length c0,.slice a1 c.arrays.length c1,.slice a2 c.list.length c2] 26)
 go_enter Try.func57,Try.ntmps57
 go_wp2_with fail
 refine (l6Heads_any a0 a1 a2 _ _ _ c0 c1 c2 _).mono ?_
 rintro e w1 ⟨rfl,hb⟩
 have b0:w1.cell? ⟨w.heap.size,0,none⟩=some (.slice a0 c.vars.length c0):=Kc hb (Wc (by simp) (by rfl))
 have b1:w1.cell? ⟨w.heap.size,1,none⟩=some (.slice a1 c.arrays.length c1):=Kc hb (Wc (by simp) (by rfl))
 have b2:w1.cell? ⟨w.heap.size,2,none⟩=some (.slice a2 c.list.length c2):=Kc hb (Wc (by simp) (by rfl))
 replace f0:=btr f0 hb
 clear hb
 go_wp2_with fail
 refine (l2Heads_any _ _ c.vars c.arrays none 0 0 _ (hr.below f0).a (hr.below f0).b).mono ?_
 rintro e w2 ⟨rfl,hb⟩
 replace b0:=Kc hb b0
 replace b1:=Kc hb b1
 replace b2:=Kc hb b2
 replace f0:=btr f0 hb
 clear hb
 generalize declOk c.vars c.arrays=q1 at *
 cases q1 with
 | false =>
  clear hr
  go_wp2
  go_ret
  exact ⟨ret_bool (by rw [HD.out];rfl),f0⟩
 | true =>
  rcases wi_cases c.list.length 1 400 with ⟨l1,hq⟩ | ⟨l1,l2,hq⟩ | ⟨l1,l2,hq⟩
  ·rw [hq] at HD
   clear hr hq
   go_wp2
   go_ret
   exact ⟨ret_bool (by rw [HD.out];rfl),f0⟩
  rotate_left
  ·rw [hq] at HD
   clear hr hq
   have l3:¬(c.list.length:Int) < 1:=by omega
   clear l1
   go_wp2
   go_ret
   exact ⟨ret_bool (by rw [HD.out];rfl),f0⟩
  rw [hq] at HD
  have l3:¬(c.list.length:Int) < 1:=by omega
  have l4:¬(400:Int) < (c.list.length:Int):=by omega
  have r0:=(hr.below f0).l
  clear hq hr
  obtain ⟨_,hn,aa,s0,b,i0,hv,q0,ha,n0⟩:=r0
  simp only [Value.slice.injEq,true_and] at hv
  obtain ⟨rfl,rfl⟩:=hv
  obtain ⟨rfl,h0⟩:=ha (by omega)
  have HC:=Lib.hid (reads_Instr n0)
  clear n0 ha
  go_wp2
  go_loopw [4] (fun i wr=>∃ k:Nat,k≤c.list.length∧i=.int .i64 k∧(∀ j (h:j < c.list.length),j < k→insOk c.vars.length c.arrays.length c.list.length c.list[j]=true)∧Below w2.heap.size w2 wr) (fun i _=>c.list.length-(intOf i).toNat)
  case atStart=>exact ⟨0,Nat.zero_le _,rfl,fun j _ h=>absurd h (by omega),Bs w2⟩
  case round =>
   obtain ⟨k,hk,rfl,j0,d0⟩:=hrel
   have HA:=Lib.hid j0;clear j0
   have g0:=Kc d0 b0
   have g1:=Kc d0 b1
   have g2:=Kc d0 b2
   have k0:=Lc g0
   have l0:=btr f0 d0
   by_cases hlt:k < c.list.length
   ·obtain ⟨e0,e1,e2,e3,e4⟩:=HC.out k hlt
    have e0:=(d0.cell (p:=⟨b,i0+k*5,none⟩) h0).trans e0
    have e1:=(d0.cell (p:=⟨b,i0+k*5+1,none⟩) h0).trans e1
    have e2:=(d0.cell (p:=⟨b,i0+k*5+2,none⟩) h0).trans e2
    have e3:=(d0.cell (p:=⟨b,i0+k*5+3,none⟩) h0).trans e3
    have e4:=(d0.cell (p:=⟨b,i0+k*5+4,none⟩) h0).trans e4
    have HN:=Lib.hid (fun (h:insOk c.vars.length c.arrays.length c.list.length c.list[k]=false)=>show c.list.all (insOk c.vars.length c.arrays.length c.list.length)=false by rw [List.all_eq_false];exact ⟨c.list[k],List.getElem_mem hlt,by simp [h]⟩)
    have HY:=Lib.hid (fun (h:insOk c.vars.length c.arrays.length c.list.length c.list[k]=true)=>all_succ_ins (P:=insOk c.vars.length c.arrays.length c.list.length) hlt HA.out h)
    generalize c.list[k]=x at *
    clear HC b0 b1 b2 f0
    go_upto_region 7 with (fail)
    have D:=Below.drew (Bs wr)
    go_cut [32] (fun s wx=>s=.bool (!(insOk c.vars.length c.arrays.length c.list.length x))∧Below wr.heap.size wr wx)
    case first =>
     go_region_with (go_at_call 112;refine (l6Instr_any a0 a1 _ _ _ _ c0 c1 c2 x _).mono ?_;rintro e wb ⟨rfl,bb⟩)
     all_goals (go_wp2_with fail;go_meet;exact ⟨rfl,btr D bb⟩)
    obtain ⟨W5,rfl⟩:∃ W,W=wc:=⟨_,rfl⟩
    obtain ⟨rfl,m0⟩:=hcut
    have o0:=btr d0 m0
    have p0:=btr l0 m0
    cases hok:insOk c.vars.length c.arrays.length c.list.length x with
    | true =>
     have HO:=Lib.hid hok;clear hok D m0 d0 l0
     go_wp2
     go_roundw
     case rel=>exact ⟨k+1,by omega,by go_num,HY.out HO.out,o0⟩
     case measure=>simp [intOf];omega
    | false =>
     have HO:=Lib.hid hok;clear hok D m0 d0 l0
     go_wp2
     go_ret
     exact ⟨ret_bool (by rw [HD.out,HN.out HO.out];simp),p0⟩
   have HZ:Hid (c.list.all (insOk c.vars.length c.arrays.length c.list.length)=true):=Lib.hid (by rw [List.all_eq_true];intro x hx;obtain ⟨j,hj,rfl⟩:=List.getElem_of_mem hx;exact HA.out j hj (by omega))
   obtain ⟨e0,_⟩:=HC.out (c.list.length-1) (by omega)
   have e0:=(d0.cell (p:=⟨b,i0+(c.list.length-1)*5,none⟩) h0).trans e0
   have HL:Hid (lastOk c.list=((c.list[c.list.length-1]'(by omega)).op == 13||(c.list[c.list.length-1]'(by omega)).op == 8)):=Lib.hid (by unfold lastOk;rw [List.getLast?_eq_getElem?,List.getElem?_eq_getElem (by omega)])
   generalize (c.list[c.list.length-1]'(by omega))=x at *
   generalize hm:c.list.length-1=m at *
   have t0:((c.list.length:Int)-1)=(m:Int):=by omega
   have u0:m < c.list.length:=by omega
   clear hm HC HA b0 b1 b2
   by_cases h13:(x.op == 13)=true
   ·have HO:=Lib.hid h13
    go_wp2
    go_ret
    exact ⟨ret_bool (by rw [HD.out,HZ.out,HL.out,HO.out];rfl),l0⟩
   have h13':(x.op == 13)=false:=by simpa using h13
   have HO:=Lib.hid h13'
   clear h13
   go_wp2
   go_ret
   exact ⟨ret_bool (by rw [HD.out,HZ.out,HL.out,HO.out];rfl),l0⟩
def tgt (x:Ins):Int:=if x.op=8 then x.a else if x.op=9∨x.op=10 then x.b else -1
def aim (x:Ins) (t:Int):Ins:=if x.op=8 then { x with a:=t } else if x.op=9∨x.op=10 then { x with b:=t } else x
theorem tgt_cases (x:Ins):(x.op=8∧tgt x=x.a∧∀ t,aim x t={ x with a:=t })∨(x.op=9∧tgt x=x.b∧∀ t,aim x t={ x with b:=t })∨(x.op=10∧tgt x=x.b∧∀ t,aim x t={ x with b:=t })∨((¬x.op=8∧¬x.op=9∧¬x.op=10)∧tgt x=-1∧∀ t,aim x t=x):=by
 by_cases h8:x.op=8
 ·refine Or.inl ⟨h8,?_,fun t=>?_⟩
  ·unfold tgt;rw [if_pos h8]
  unfold aim;rw [if_pos h8]
 by_cases h9:x.op=9
 ·refine Or.inr (Or.inl ⟨h9,?_,fun t=>?_⟩)
  ·unfold tgt;rw [if_neg h8,if_pos (Or.inl h9)]
  unfold aim;rw [if_neg h8,if_pos (Or.inl h9)]
 by_cases h10:x.op=10
 ·refine Or.inr (Or.inr (Or.inl ⟨h10,?_,fun t=>?_⟩))
  ·unfold tgt;rw [if_neg h8,if_pos (Or.inr h10)]
  unfold aim;rw [if_neg h8,if_pos (Or.inr h10)]
 refine Or.inr (Or.inr (Or.inr ⟨⟨h8,h9,h10⟩,?_,fun t=>?_⟩))
 ·unfold tgt;rw [if_neg h8,if_neg (by omega)]
 unfold aim;rw [if_neg h8,if_neg (by omega)]
set_option maxHeartbeats 1600000 in
theorem target_any (x:Ins) (w:World) :
  Calls Try.prog 54 #[.agg #[.int .i64 x.op,.int .i64 x.a,.int .i64 x.b,.int .i64 x.c,.int .i64 x.d]] w fun e w'=>e=.returned (.int .i64 (tgt x))∧Below w.heap.size w w':=by
 have a0:=bal (Bs w) (.cells #[.int .i64 x.op,.int .i64 x.a,.int .i64 x.b,.int .i64 x.c,.int .i64 x.d] 32)
 obtain ⟨op,a,b,c,d⟩:=x
 rcases tgt_cases ⟨op,a,b,c,d⟩ with ⟨h,ht,_⟩ | ⟨h,ht,_⟩ | ⟨h,ht,_⟩ | ⟨⟨h1,h2,h3⟩,ht,_⟩
 ·rw [ht]
  simp only at h ⊢ a0
  subst h
  clear ht
  go_enter Try.func54,Try.ntmps54
  go_wp2
  go_ret
  exact ⟨rfl,a0⟩
 ·rw [ht]
  simp only at h ⊢ a0
  subst h
  clear ht
  go_enter Try.func54,Try.ntmps54
  go_wp2
  go_ret
  exact ⟨rfl,a0⟩
 ·rw [ht]
  simp only at h ⊢ a0
  subst h
  clear ht
  go_enter Try.func54,Try.ntmps54
  go_wp2
  go_ret
  exact ⟨rfl,a0⟩
 rw [ht]
 simp only at h1 h2 h3 ⊢ a0
 have e1:(op == 8)=false:=by simp [h1]
 have e2:(op == 9)=false:=by simp [h2]
 have e3:(op == 10)=false:=by simp [h3]
 clear ht h1 h2 h3
 go_enter Try.func54,Try.ntmps54
 go_wp2
 go_ret
 exact ⟨rfl,a0⟩
theorem ints_set (l:List Int) (k:Nat) (b:Int):(ints l).set k (.int .i64 b)=ints (l.set k b):=by simp [ints,List.map_set]
theorem ints_at (l:List Int) (k:Nat) (h:k < l.length):(ints l)[k]? = some (.int .i64 l[k]):=by simp [ints,h]
theorem ints_replicate (n:Nat) (b:Int):ints (List.replicate n b)=List.replicate n (.int .i64 b):=by simp [ints]
structure Mm where
 vals:List Int
 arrs:List (List Int)
deriving DecidableEq
structure Ms where
 pc:Int
 regs:List Int
 mem:Mm
deriving DecidableEq
def gi (xs:List Int) (i:Int):Int:=(xs[i.toNat]?).getD 0
def gr (rs:List (List Int)) (i:Int):List Int:=(rs[i.toNat]?).getD []
def tru (b:Bool):Int:=if b then 1 else 0
def opr (k a b:Int):Int:=
 if k=4 then (a+b) % 256 else if k=5 then (a-b+256) % 256 else if k=6 then (a*b) % 256 else if k=7 then bits .and .i64 a b else if k=8 then bits .xor .i64 a b
 else if k=9 then tru (a == b) else tru (decide (a < b))
def adr (a i:Int):Int:=a*4+i % 4
def stRegs (x:Ins) (s:Ms):List Int:=
 if x.op=1 then s.regs.set x.a.toNat x.b
 else if x.op=2 then s.regs.set x.a.toNat (gi s.mem.vals x.b)
 else if x.op=4 then s.regs.set x.a.toNat (gi (gr s.mem.arrs x.b) (gi s.regs x.c % 4))
 else if x.op=6 then s.regs.set x.a.toNat (opr x.b (gi s.regs x.c) (gi s.regs x.d))
 else if x.op=7 then s.regs.set x.a.toNat (if gi s.regs x.b≠0 then gi s.regs x.c else gi s.regs x.d)
 else if x.op=10 then s.regs.set x.a.toNat ((gi s.regs x.a+255) % 256)
 else s.regs
def stMem (x:Ins) (s:Ms):Mm:=
 if x.op=3 then ⟨s.mem.vals.set x.a.toNat (gi s.regs x.b),s.mem.arrs⟩
 else if x.op=5 then ⟨s.mem.vals,s.mem.arrs.set x.a.toNat ((gr s.mem.arrs x.a).set (gi s.regs x.b % 4).toNat (gi s.regs x.c))⟩
 else s.mem
def stPc (x:Ins) (s:Ms):Int:=
 if x.op=8 then x.a
 else if x.op=9 then (if gi s.regs x.a=0 then x.b else s.pc+1)
 else if x.op=10 then (if (gi s.regs x.a+255) % 256≠0 then x.b else s.pc+1)
 else if x.op=13 then s.pc
 else s.pc+1
def stEvs (x:Ins) (s:Ms):List Ev:=
 (5,s.pc)::(if x.op=4 then [(2,adr x.b (gi s.regs x.c))] else if x.op=5 then [(3,adr x.a (gi s.regs x.b))] else if x.op=11 then [(4,gi s.regs x.a)] else [])
def stp (x:Ins) (s:Ms):Ms:=⟨stPc x s,stRegs x s,stMem x s⟩
def insAt (c:Cd) (pc:Int):Ins:=(c.list[pc.toNat]?).getD ⟨13,0,0,0,0⟩
end Go.Proofs.Ytkjedgnepnbkpaa
namespace Go.Proofs.Ytkjedgnepnbkpaa
open Go.RowKit Go.ChangeShapes Go.WideShapes Go.Deep Go.Joins
def Reads2 {α:Type} (f:List α→List Value) (w:World) (v:Value) (rs:List (List α)):Prop:=
 ∃ vs:List Value,Reads w 1 v rs.length vs∧∀ (k:Nat) (u:Value) (r:List α),vs[k]? = some u→rs[k]? = some r→Reads w 1 u r.length (f r)
theorem Reads2.below {α:Type} {f:List α→List Value} {w w':World} {v:Value} {rs:List (List α)} (h:Reads2 f w v rs) (hb:Below w.heap.size w w'):Reads2 f w' v rs:=by
 obtain ⟨vs,h1,h2⟩:=h
 exact ⟨vs,h1.below hb,fun k u r hu hr=>(h2 k u r hu hr).below hb⟩
theorem Reads2.shape {α:Type} {f:List α→List Value} {w:World} {v:Value} {rs:List (List α)} (h:Reads2 f w v rs):∃ a c,v=.slice a rs.length c:=by
 obtain ⟨vs,h1,h2⟩:=h
 exact reads_shape h1
theorem Reads2.at {α:Type} {f:List α→List Value} {w:World} {a:Option Addr} {n c:Nat} {rs:List (List α)} (h:Reads2 f w (.slice a n c) rs) (k:Nat) (hk:k < rs.length) :
  ∃ b off u,a=some ⟨b,off,none⟩∧b < w.heap.size∧w.cell? ⟨b,off+k,none⟩=some u∧Reads w 1 u rs[k].length (f rs[k]):=by
 obtain ⟨vs,⟨h0,hn,a',c',b,off,hv,hc,ha,a0⟩,h2⟩:=h
 simp only [Value.slice.injEq] at hv
 obtain ⟨rfl,rfl,rfl⟩:=hv
 obtain ⟨rfl,hb⟩:=ha (by omega)
 have b0:k < vs.length:=by omega
 exact ⟨b,off,vs[k],rfl,hb,a0 k b0,h2 k _ _ (List.getElem?_eq_getElem b0) (List.getElem?_eq_getElem hk)⟩
structure Own2 {α:Type} (f:List α→List Value) (tr tq:TypeId) (w:World) (base:Nat) (v:Value) (vs:List Value) (rs:List (List α)):Prop where
 len:vs.length=rs.length
 out:w.ownsRow base tq 1 v rs.length vs
 row:∀ (k:Nat) (u:Value) (r:List α),vs[k]? = some u→rs[k]? = some r→w.ownsRow base tr 1 u r.length (f r)
 apart:∀ (j k:Nat) (u u':Value),vs[j]? = some u→vs[k]? = some u'→j≠k→∀ q,u.ownBlock=some q→u'.ownBlock=some q→False
def OwnB2 (v:Value) (vs:List Value) (q:Nat):Prop:=v.ownBlock=some q∨∃ (k:Nat) (u:Value),vs[k]? = some u∧u.ownBlock=some q
section
variable {α:Type} {f:List α→List Value} {tr tq:TypeId} {w w':World} {base base':Nat} {v:Value} {vs:List Value} {rs:List (List α)}
theorem Own2.rowAt (h:Own2 f tr tq w base v vs rs) (k:Nat) (hk:k < rs.length):∃ u,vs[k]? = some u∧w.ownsRow base tr 1 u rs[k].length (f rs[k]):=by
 have a0:k < vs.length:=by rw [h.len];exact hk
 exact ⟨vs[k],List.getElem?_eq_getElem a0,h.row k _ _ (List.getElem?_eq_getElem a0) (List.getElem?_eq_getElem hk)⟩
theorem Own2.outAt {a:Option Addr} {n c:Nat} (h:Own2 f tr tq w base (.slice a n c) vs rs):w.ownsRow base tq 1 (.slice a n c) n vs:=by
 have ho:=h.out
 obtain ⟨a',c',hs⟩:=Oh ho
 simp only [Value.slice.injEq] at hs
 rw [← hs.2.1] at ho;exact ho
theorem Own2.lt (h:Own2 f tr tq w base v vs rs):∀ q,OwnB2 v vs q→base≤q∧q < w.heap.size:=by
 rintro q (hq | ⟨k,u,hu,hq⟩)
 ·exact h.out.lt q hq
 have hk:k < rs.length:=by rw [← h.len];exact (List.getElem?_eq_some_iff.1 hu).1
 exact (h.row k u _ hu (List.getElem?_eq_getElem hk)).lt q hq
theorem Own2.keep (h:Own2 f tr tq w base v vs rs) {S:Nat→Prop} (hc:Chg S w w') (hs:∀ q,OwnB2 v vs q→¬S q):Own2 f tr tq w' base v vs rs:=
 ⟨h.len,Ow h.out hc (fun q hq=>hs q (Or.inl hq)),fun k u r hu hr=>Ow (h.row k u r hu hr) hc (fun q hq=>hs q (Or.inr ⟨k,u,hu,hq⟩)),h.apart⟩
theorem Own2.below (h:Own2 f tr tq w base v vs rs) (hb:Below w.heap.size w w'):Own2 f tr tq w' base v vs rs:=h.keep (S:=fun _=>False) (Chg.of_below hb) (fun _ _=>id)
theorem Own2.mono (h:Own2 f tr tq w base v vs rs) (hb:base'≤base):Own2 f tr tq w base' v vs rs:=⟨h.len,Om h.out hb,fun k u r hu hr=>Om (h.row k u r hu hr) hb,h.apart⟩
theorem Own2.reads (h:Own2 f tr tq w base v vs rs) (h0:rs.length≤9223372036854775807) (h1:∀ (k:Nat) (r:List α),rs[k]? = some r→r.length≤9223372036854775807):Reads2 f w v rs:=
 ⟨vs,Ro h.out h0,fun k u r hu hr=>Ro (h.row k u r hu hr) (h1 k r hr)⟩
theorem Own2.shape (h:Own2 f tr tq w base v vs rs):∃ a c,v=.slice a rs.length c:=Oh h.out
theorem Own2.outer (h:Own2 f tr tq w base v vs rs) (he:tq≠tr):∀ (k:Nat) (u:Value),vs[k]? = some u→∀ q,v.ownBlock=some q→u.ownBlock=some q→False:=by
 intro k u hu q h1 h2
 have hk:k < rs.length:=by rw [← h.len];exact (List.getElem?_eq_some_iff.1 hu).1
 exact own_diff h.out (h.row k u _ hu (List.getElem?_eq_getElem hk)) he q h1 h2
theorem Own2.put (h:Own2 f tr tq w base v vs rs) {g n c k:Nat} (hv:v=.slice (some ⟨g,0,none⟩) n c) (hk:k < rs.length) {u:Value} {r:List α} (hu:w.ownsRow base tr 1 u r.length (f r))
  (hg:∀ q,u.ownBlock=some q→¬OwnB2 v vs q) (he:tq≠tr):Own2 f tr tq (w.setCell ⟨g,k,none⟩ u) base v (vs.set k u) (rs.set k r):=by
 have hn:n=rs.length:=by
  obtain ⟨a,c',hs⟩:=Oh h.out
  rw [hv] at hs;simp at hs;omega
 subst hn
 have ho:=h.out
 have a0:k < vs.length:=by rw [h.len];exact hk
 subst hv
 have hC:Chg (fun q=>q=g) w (w.setCell ⟨g,k,none⟩ u):=(Chg.refl _ _).setCell g k u (fun _=>rfl)
 refine ⟨by simp [h.len],?_,?_,?_⟩
 ·rw [List.length_set]
  exact (ho.stored k u).1
 ·intro j u' r' hu' hr'
  by_cases e:k=j
  ·subst e
   rw [List.getElem?_set_self a0] at hu'
   rw [List.getElem?_set_self hk] at hr'
   obtain rfl:=Option.some.inj hu'
   obtain rfl:=Option.some.inj hr'
   exact Ow hu hC (fun q hq e=>hg q hq (Or.inl (by subst e;rfl)))
  rw [List.getElem?_set_ne e] at hu' hr'
  exact Ow (h.row j u' r' hu' hr') hC (fun q hq e=>by subst e;exact h.outer he j u' hu' q rfl hq)
 intro i j u1 u2 h1 h2 d0 q b0 c0
 by_cases e1:k=i
 ·subst e1
  rw [List.getElem?_set_self a0] at h1
  obtain rfl:=Option.some.inj h1
  rw [List.getElem?_set_ne d0] at h2
  exact hg q b0 (Or.inr ⟨j,u2,h2,c0⟩)
 rw [List.getElem?_set_ne e1] at h1
 by_cases e2:k=j
 ·subst e2
  rw [List.getElem?_set_self a0] at h2
  obtain rfl:=Option.some.inj h2
  exact hg q c0 (Or.inr ⟨i,u1,h1,b0⟩)
 rw [List.getElem?_set_ne e2] at h2
 exact h.apart i j u1 u2 h1 h2 d0 q b0 c0
theorem Own2.turn (h:Own2 f tr tq w base v vs rs) {k:Nat} {u:Value} (hu:vs[k]? = some u) {r:List α} (hr:w'.ownsRow base tr 1 u r.length (f r)) (hC:Chg (fun q=>u.ownBlock=some q) w w') (he:tq≠tr) :
  Own2 f tr tq w' base v vs (rs.set k r):=by
 refine ⟨by simp [h.len],?_,?_,h.apart⟩
 ·rw [List.length_set]
  exact Ow h.out hC (fun q hq e=>h.outer he k u hu q hq e)
 intro j u' r' hu' hr'
 by_cases e:k=j
 ·subst e
  have hk:k < rs.length:=by rw [← h.len];exact (List.getElem?_eq_some_iff.1 hu).1
  rw [List.getElem?_set_self hk] at hr'
  rw [hu] at hu'
  obtain rfl:=Option.some.inj hu'
  obtain rfl:=Option.some.inj hr'
  exact hr
 rw [List.getElem?_set_ne e] at hr'
 exact Ow (h.row j u' r' hu' hr') hC (fun q hq e2=>h.apart j k u' u hu' hu (fun x=>e x.symm) q hq e2)
theorem Own2.push (h:Own2 f tr tq w base v vs rs) {v' u:Value} {r:List α} (ho:w'.ownsRow base tq 1 v' (rs.length+1) (vs++[u])) (hC:Chg (fun q=>v.ownBlock=some q) w w') (hu:w.ownsRow base tr 1 u r.length (f r))
  (hg:∀ q,u.ownBlock=some q→¬OwnB2 v vs q) (he:tq≠tr):Own2 f tr tq w' base v' (vs++[u]) (rs++[r]):=by
 have hl:=h.len
 have a0:∀ (k:Nat) (x:Value),(vs++[u])[k]? = some x→(k < rs.length∧vs[k]? = some x)∨(k=rs.length∧x=u):=by
  intro k x hx
  by_cases hk:k < vs.length
  ·rw [List.getElem?_append_left hk] at hx;exact Or.inl ⟨by omega,hx⟩
  rw [List.getElem?_append_right (by omega)] at hx
  by_cases e:k=vs.length
  ·subst e;simp at hx;exact Or.inr ⟨hl,hx.symm⟩
  rw [List.getElem?_eq_none (by simp;omega)] at hx;cases hx
 refine ⟨by simp [hl],by rw [List.length_append];exact ho,?_,?_⟩
 ·intro k x r' hx hr'
  rcases a0 k x hx with ⟨hk,hx⟩ | ⟨rfl,rfl⟩
  ·rw [List.getElem?_append_left hk] at hr'
   exact Ow (h.row k x r' hx hr') hC (fun q hq e=>h.outer he k x hx q e hq)
  rw [List.getElem?_append_right (Nat.le_refl _),Nat.sub_self] at hr'
  obtain rfl:=Option.some.inj hr'
  exact Ow hu hC (fun q hq e=>hg q hq (Or.inl e))
 intro i j u1 u2 h1 h2 d0 q b0 c0
 rcases a0 i u1 h1 with ⟨_,k1⟩ | ⟨rfl,rfl⟩
 ·rcases a0 j u2 h2 with ⟨_,k2⟩ | ⟨rfl,rfl⟩
  ·exact h.apart i j u1 u2 k1 k2 d0 q b0 c0
  exact hg q c0 (Or.inr ⟨i,u1,k1,b0⟩)
 rcases a0 j u2 h2 with ⟨_,k2⟩ | ⟨rfl,rfl⟩
 ·exact hg q b0 (Or.inr ⟨j,u2,k2,c0⟩)
 exact d0 rfl
theorem own2_nils (hf:f []=[]) (ho:w.ownsRow base tq 1 v rs.length (List.replicate rs.length (.slice none 0 0))) (hr:∀ (k:Nat) (r:List α),rs[k]? = some r→r=[]):Own2 f tr tq w base v (List.replicate rs.length (.slice none 0 0)) rs:=by
 refine ⟨by simp,ho,fun k u r hu hr'=>?_,fun j k u u' hu _ _ q hq _=>?_⟩
 ·obtain ⟨_,hu⟩:=List.getElem?_eq_some_iff.1 hu
  rw [List.getElem_replicate] at hu
  subst hu
  obtain rfl:=hr k r hr'
  rw [hf]
  exact World.ownsRow_nil _ _ _ _
 obtain ⟨_,hu⟩:=List.getElem?_eq_some_iff.1 hu
 rw [List.getElem_replicate] at hu
 subst hu
 simp [Value.ownBlock] at hq
end
def pre2 {α:Type} (rs:List (List α)) (k:Nat):Nat:=((rs.take k).map List.length).sum
theorem pre2_succ {α:Type} (rs:List (List α)) (k:Nat) (h:k < rs.length):pre2 rs (k+1)=pre2 rs k+rs[k].length:=by
 unfold pre2;rw [List.take_succ_eq_append_getElem h,List.map_append,List.sum_append];simp only [List.map_cons,List.map_nil,List.sum_cons,List.sum_nil,Nat.add_zero]
theorem pre2_all {α:Type} (rs:List (List α)) (k:Nat) (h:k < rs.length) (m:Nat) (hm:k < m):rs[k].length≤pre2 rs m:=by
 induction m with
 | zero=>omega
 | succ m ih =>
  by_cases hml:m < rs.length
  ·rw [pre2_succ rs m hml]
   by_cases e:k=m
   ·subst e;omega
   have:=ih (by omega);omega
  have h1:pre2 rs (m+1)=pre2 rs m:=by unfold pre2;rw [List.take_of_length_le (by omega),List.take_of_length_le (by omega)]
  rw [h1];exact ih (by omega)
theorem pre2_le {α:Type} (rs:List (List α)) (B:Nat) (h:∀ (k:Nat) (r:List α),rs[k]? = some r→r.length≤B) (k:Nat) (hk:k≤rs.length):pre2 rs k≤B*k:=by
 induction k with
 | zero=>simp [pre2]
 | succ k ih =>
  rw [pre2_succ rs k (by omega)]
  have h1:=h k _ (List.getElem?_eq_getElem (by omega))
  have h2:=ih (by omega)
  rw [Nat.mul_add];omega
end Go.Proofs.Ytkjedgnepnbkpaa
