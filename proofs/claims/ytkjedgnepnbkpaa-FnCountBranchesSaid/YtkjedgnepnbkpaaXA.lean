/-
 Parts of the proofs of the laws FnCodeFenced,FnCountBranches.
-/
import Derived.Test.YtkjedgnepnbkpaaSC
set_option linter.all false
namespace Go.Proofs.Ytkjedgnepnbkpaa
open Go.RowKit
theorem spX_len (c:Cd) (ws:List Bool) (s:Ms) (n:Nat):(spX c ws s n).length≤8:=by
 unfold spX
 split
 ·split
  ·exact pathE_len _ _
  simp
 simp
theorem spN_len (c:Cd) (ws:List Bool) (s:Ms) (n:Nat):(spN c ws n s).length≤10*n:=by
 induction n with
 | zero=>simp [spN]
 | succ n ih =>
  have h1:=(stEvs_len (insAt c (stN c n s).pc) (stN c n s)).1
  have h2:=spX_len c ws s n
  simp only [spN,List.length_append]
  omega
theorem mem_small {c:Cd} {s:Ms} (hok:codeOk c=true) (h:MsOk c s):s.regs.length≤1048576∧s.mem.vals.length≤1048576∧s.mem.arrs.length≤1048576∧pre2 s.mem.arrs s.mem.arrs.length≤1048576:=by
 obtain ⟨m1,m2,_,m4⟩:=memOk_parts h.mem
 obtain ⟨d1,d2⟩:=declOk_len (codeOk_decl hok)
 refine ⟨by rw [h.regs];omega,by omega,by omega,?_⟩
 have hp:∀ (rs:List (List Int)),(∀ a ∈ rs,a.length=4)→∀ k,k≤rs.length→pre2 rs k≤4*k:=by
  intro rs hr k
  induction k with
  | zero=>intro _;simp [pre2]
  | succ k ih =>
   intro hk
   rw [pre2_succ rs k (by omega)]
   have h1:=ih (by omega)
   have h2:=hr (rs[k]'(by omega)) (List.getElem_mem _)
   omega
 have:=hp s.mem.arrs (fun a ha=>(m4 a ha).1) s.mem.arrs.length (Nat.le_refl _)
 omega
theorem oth_ok {c:Cd} {s:Ms} (hok:codeOk c=true) (h:MsOk c s) (hb:isBr (insAt c s.pc).op=true):MsOk c (othS c s):=by
 have h1:=stp_ok hok h
 have f0:=h.pc0;have g0:=h.pc1
 obtain ⟨k,hk⟩:∃ k:Nat,s.pc=k:=⟨s.pc.toNat,by omega⟩
 have d0:k < c.list.length:=by omega
 have c0:insAt c s.pc=c.list[k]:=by unfold insAt;rw [hk,Int.toNat_natCast,List.getElem?_eq_getElem d0];rfl
 have hi:=codeOk_all hok k d0
 obtain ⟨hl,a0⟩:=codeOk_last hok
 have b0:(insAt c s.pc).op=9∨(insAt c s.pc).op=10:=by
  unfold isBr at hb;simpa using hb
 have hn:s.pc+1 < (c.list.length:Int):=by
  by_cases e:k=c.list.length-1
  ·subst e
   rw [c0] at b0
   rcases a0 with h3 | h3 <;> rcases b0 with h4 | h4 <;> rw [h3] at h4 <;> omega
  omega
 have hB:0≤(insAt c s.pc).b∧(insAt c s.pc).b < (c.list.length:Int):=by
  rw [c0] at b0 ⊢
  generalize c.list[k]=x at *
  obtain ⟨op,a,b,d,f⟩:=x
  obtain ⟨_,_,_,_,_,_,_,_,P9,e0,_⟩:=ins_parts hi
  rcases b0 with h3 | h3
  ·exact (P9 h3).2
  exact (e0 h3).2
 refine ⟨?_,?_,h1.regs,h1.rv,h1.mem⟩
 ·show 0≤othPc _ _ _
  unfold othPc;split <;> omega
 show othPc _ _ _ < _
 unfold othPc;split <;> omega
theorem tgt_br {x:Ins} (h:isBr x.op=true):tgt x=x.b:=by
 have a0:x.op=9∨x.op=10:=by unfold isBr at h;simpa using h
 unfold tgt
 rcases a0 with h | h <;> simp [h]
theorem chg_then {S T:Nat→Prop} {w W W':World} (h:Chg S w W) (k:Chg T W W') (hs:∀ q,q < w.heap.size→T q→S q):Chg S w W':=
 ⟨k.os.trans h.os,k.tape.trans h.tape,k.output.trans h.output,Nat.le_trans h.size k.size,fun q hq hn=>(k.block q (Nat.lt_of_lt_of_le hq h.size) (fun h2=>hn (hs q hq h2))).trans (h.block q hq hn)⟩
def srX (c:Cd) (ws:List Bool) (s:Ms) (n:Nat):List Ev:=if isBr (insAt c s.pc).op=true then (if wrAt ws n=true then pathE c (othS c s) else []) else []
theorem srX_no {c:Cd} {ws:List Bool} {s:Ms} {n:Nat} (h:isBr (insAt c s.pc).op=false):srX c ws s n=[]:=by unfold srX;rw [h];rfl
theorem srX_right {c:Cd} {ws:List Bool} {s:Ms} {n:Nat} (h:isBr (insAt c s.pc).op=true) (h2:wrAt ws n=false):srX c ws s n=[]:=by unfold srX;rw [h,h2];rfl
theorem srX_wrong {c:Cd} {ws:List Bool} {s:Ms} {n:Nat} (h:isBr (insAt c s.pc).op=true) (h2:wrAt ws n=true):srX c ws s n=pathE c (othS c s):=by unfold srX;rw [h,h2];rfl
theorem wr_out {ws:List Bool} {n:Nat} (h:¬n < ws.length):wrAt ws n=false:=by unfold wrAt;rw [List.getElem?_eq_none (by omega)];rfl
theorem reads_wr {w:World} {aw:Option Addr} {cw n:Nat} {ws:List Bool} (h:Reads w 1 (.slice aw ws.length cw) ws.length (bools ws)) (hn:n < ws.length):∃ bw ow,aw=some ⟨bw,ow,none⟩∧w.cell? ⟨bw,ow+n,none⟩=some (.bool (wrAt ws n)):=by
 obtain ⟨_,_,a,b0,b,a0,hv,_,ha,hc⟩:=h
 obtain ⟨rfl,_⟩:=ha (by omega)
 simp only [Value.slice.injEq,true_and] at hv
 refine ⟨b,a0,hv.1,?_⟩
 have h1:=hc n (by rw [bools_length];exact hn)
 rw [h1,bools_get]
 unfold wrAt
 rw [List.getElem?_eq_getElem hn];rfl
theorem own_readsS {w:World} {base:Nat} {vr vv va:Value} {us:List Value} {s:Ms} (h:OwnMv w base vr vv va us s.regs s.mem) (h0:s.regs.length≤1048576) (hl:s.mem.vals.length≤1048576) (hn:s.mem.arrs.length≤1048576) (hp:pre2 s.mem.arrs s.mem.arrs.length≤1048576):ReadsS w vr vv va s:=
 ⟨Ro h.r (by omega),h.toM.reads hl hn hp⟩
def srE (c:Cd) (m:Mm) (ws:List Bool):List Ev:=match finN c m with | some n=>spN c ws (n+1) (ini m) | none=>[]
theorem sr_no {c:Cd} {m:Mm} {ws:List Bool} (h:finN c m=none):srE c m ws=[]∧runM c m=⟨[],[]⟩∧runB c m=false:=⟨by unfold srE;rw [h],(run_no h).2⟩
theorem sr_yes {c:Cd} {m:Mm} {ws:List Bool} {n:Nat} (h:finN c m=some n):srE c m ws=spN c ws (n+1) (ini m)∧runM c m=(stN c (n+1) (ini m)).mem∧runB c m=true:=⟨by unfold srE;rw [h],(run_yes h).2⟩
theorem spN_quiet (c:Cd) (ws:List Bool) (s:Ms):∀ n,(∀ i,i < n→isBr (opAt c s i)=true→wrAt ws (brN c i s)=false)→spN c ws n s=evN c n s:=by
 intro n
 induction n with
 | zero=>intro _;rfl
 | succ n ih =>
  intro h
  have hx:spX c ws s n=[]:=by
   unfold spX
   split
   ·rename_i hb
    rw [h n (by omega) hb];rfl
   rfl
  simp only [spN,evN]
  rw [ih (fun i hi=>h i (by omega)),hx,List.append_nil]
theorem brN_lt (c:Cd) (s:Ms) {i n:Nat} (h:i < n) (hb:isBr (opAt c s i)=true):brN c i s < brN c n s:=by
 induction n with
 | zero=>omega
 | succ n ih =>
  simp only [brN]
  by_cases e:i=n
  ·subst e;rw [if_pos hb];omega
  have:=ih (by omega);split <;> omega
theorem law_count {c:Cd} {m:Mm} {n:Nat} (h:finN c m=some n):srE c m (List.replicate (brN c (n+1) (ini m)) false++[true,true])=runE c m:=by
 rw [(sr_yes h).1,(run_yes h).1]
 refine spN_quiet _ _ _ _ (fun i hi hb=>?_)
 have:=brN_lt c (ini m) hi hb
 unfold wrAt
 rw [List.getElem?_append_left (by simpa using this),List.getElem?_replicate,if_pos this];rfl
set_option maxHeartbeats 6400000 in
set_option maxRecDepth 100000 in
theorem execute2_any (F:FuncId) (caps:Array Value) (I:Nat→World→Prop) (B:Nat→Prop) (b base:Nat) (va vb vc vr vv vA:Value) (us:List Value) (c:Cd) (s:Ms) (w:World)
  (hF:∀ (args:Array Value) (W:World),(callFunc F args).run Try.prog W=.ok (.enter F args) W) (hr:ReadsC w va vb vc c) (hS:OwnS w base b vr vv vA us s) (hM:MsOk c s) (hok:codeOk c=true) (hBb:¬B b) (hBM:∀ q,OwnMB vr vv vA us q→¬B q) (hBl:∀ q,B q→q < w.heap.size)
  (hsep:∀ q,ReadB va vb vc c q→¬q=b∧¬OwnMB vr vv vA us q∧¬B q) (h0:I 0 w)
  (hkeep:∀ (n:Nat) (W W':World),I n W→Chg (fun q=>q=b∨OwnMB vr vv vA us q) W W'→I n W')
  (hcall:∀ (n:Nat) (W:World) (u:Value),n < 20000→I n W→w.heap.size+1≤W.heap.size→W.ownsRow (w.heap.size+1) 47 2 u (stEvs (insAt c (stN c n s).pc) (stN c n s)).length (evs (stEvs (insAt c (stN c n s).pc) (stN c n s)))→OwnS W base b vr vv vA us (stN c (n+1) s)→ReadsC W va vb vc c→(∀ q,u.ownBlock=some q→¬OwnMB vr vv vA us q∧¬q=b) →
   Calls Try.prog F (#[.int .i64 (stN c n s).pc,u]++caps) W fun e W'=>e=.returned (.tuple #[])∧I (n+1) W'∧Chg (fun q=>B q∨w.heap.size+1≤q) W W') :
  Calls Try.prog 98 #[.agg #[va,vb,vc],.pointer (some ⟨b,0,none⟩),.func (.func F) #[] caps] w fun e w'=>e=.returned (.bool (runR c s).isSome)∧(∀ n,runR c s=some n→n < 20000∧OwnS w' base b vr vv vA us (stN c (n+1) s)∧I (n+1) w')∧Chg (fun q=>q=b∨OwnMB vr vv vA us q∨B q) w w':=by
 obtain ⟨a0,c0,a1,c1,a2,c2,rfl,rfl,rfl⟩:=hr.shape
 have v1:=Lib.hid (fun n h1 h2 h3=>runR_some (c:=c) (s:=s) (n:=n) h1 h2 h3)
 have u1:=Lib.hid (fun h=>runR_none (c:=c) (s:=s) h)
 generalize runR c s=R at *
 obtain ⟨l1,l2⟩:=codeOk_len hok
 have z1:=hr.l
 obtain ⟨_,hn,aa,g2,b',l0,hv,y1,ha,e1⟩:=z1
 simp only [Value.slice.injEq,true_and] at hv
 obtain ⟨rfl,rfl⟩:=hv
 obtain ⟨rfl,i2⟩:=ha (by omega)
 have HC:=Lib.hid (reads_Instr e1)
 have x1:=Lib.hid hsep
 have hb'n:=hsep b' (Or.inr (Or.inr ⟨l0,c2,by omega,rfl⟩))
 obtain ⟨w1,f0⟩:∃ X,X=w.alloc (.cells #[.slice a0 c.vars.length c0,.slice a1 c.arrays.length c1,.slice (some ⟨b',l0,none⟩) c.list.length c2] 26):=⟨_,rfl⟩
 have b0:Below w.heap.size w w1:=by rw [f0];exact bal (Bs w) _
 have b2:w1.heap.size=w.heap.size+1:=by rw [f0];simp
 have n0:w1.cell? ⟨w.heap.size,0,none⟩=some (.slice a0 c.vars.length c0):=by rw [f0];exact Wc rfl rfl
 have n1:w1.cell? ⟨w.heap.size,1,none⟩=some (.slice a1 c.arrays.length c1):=by rw [f0];exact Wc rfl rfl
 have n2:w1.cell? ⟨w.heap.size,2,none⟩=some (.slice (some ⟨b',l0,none⟩) c.list.length c2):=by rw [f0];exact Wc rfl rfl
 have hz1l:w.heap.size+1≤w1.heap.size:=by omega
 have hz1r:w1.heap.size≤w.heap.size+1:=by omega
 have HW:=Lib.hid f0
 have lS:=hS.lt
 have d2:=hr.lt
 have iS:=hS.own.lt
 have t0:¬(w.heap.size=b∨OwnMB vr vv vA us w.heap.size∨B w.heap.size∨w1.heap.size≤w.heap.size):=by
  rintro (h | h | h | h)
  ·omega
  ·have:=iS _ h;omega
  ·have:=hBl _ h;omega
  omega
 have f1:∀ q,ReadB (.slice a0 c.vars.length c0) (.slice a1 c.arrays.length c1) (.slice (some ⟨b',l0,none⟩) c.list.length c2) c q→¬(q=b∨OwnMB vr vv vA us q∨B q∨w1.heap.size≤q):=by
  intro q hq
  obtain ⟨h1,h2,h3⟩:=hsep q hq
  have h4:=d2 q hq
  rintro (h | h | h | h)
  ·exact h1 h
  ·exact h2 h
  ·exact h3 h
  omega
 have x0:=Lib.hid f1
 have hb'c:=f1 b' (Or.inr (Or.inr ⟨l0,c2,by omega,rfl⟩))
 have k1:=Lib.hid hBM
 have q1:=Lib.hid iS
 have S1:=hS.below b0
 have I1:=hkeep 0 w w1 h0 (Chg.of_below b0)
 have r1:=hr.below b0
 have HK:=Lib.hid hkeep;have p1:=Lib.hid hcall
 have t1:=Lib.hid (fun n=>stN_ok hok hM n)
 have s1:=Lib.hid hok
 clear f0 b2 e1 ha hr hS h0 hkeep hcall hM hsep
 go_enter Try.func98,Try.ntmps98
 go_upto_region 1 with (fail)
 rw [← HW.out]
 clear HW
 go_wp2_with fail
 go_loopw [8] (fun t wr=>∃ n:Nat,n≤20000∧t=.int .i64 n∧OwnS wr base b vr vv vA us (stN c n s)∧I n wr∧Hid (∀ j,j < n→¬opAt c s j=13)∧Chg (fun q=>q=b∨OwnMB vr vv vA us q∨B q∨w1.heap.size≤q) w1 wr) (fun t _=>20000-(intOf t).toNat)
 case atStart=>exact ⟨0,by omega,rfl,S1,I1,Lib.hid (fun j h=>by omega),Chg.refl _ _⟩
 case round =>
  obtain ⟨n,j2,rfl,hS,hI,o0,hC⟩:=hrel
  clear S1 I1
  have r2:=hC.size
  have d1:Chg (fun q=>q=b∨OwnMB vr vv vA us q∨B q) w wr:=⟨hC.os.trans b0.os,hC.tape.trans b0.tape,hC.output.trans b0.output,by omega,fun q hq hn=>(hC.block q (by omega) (fun h=>by
   rcases h with h | h | h | h
   ·exact hn (Or.inl h)
   ·exact hn (Or.inr (Or.inl h))
   ·exact hn (Or.inr (Or.inr h))
   omega)).trans (b0.block q hq)⟩
  by_cases hlt:n < 20000
  ·have q0:=t1.out n
   obtain ⟨k,hk⟩:∃ k:Nat,(stN c n s).pc=k:=⟨(stN c n s).pc.toNat,by have:=q0.pc0;omega⟩
   have g1:k < c.list.length:=by have:=q0.pc1;omega
   have c0':=hS.c0
   rw [hk] at c0'
   have kb:=Lc c0'
   have m0:=Gc hC n0 t0
   have m1:=Gc hC n1 t0
   have m2:=Gc hC n2 t0
   have km:=Lc m0
   have rc:=r1.keep hC x0.out
   have z0:=Lib.hid (step_any b base _ _ _ vr vv vA us c (stN c n s) wr rc hS q0 s1.out)
   clear q0 rc
   go_wp2_with fail
   refine z0.out.mono ?_
   rintro e w4 ⟨u,rfl,oE,r0,g0⟩
   have I4:=HK.out n wr w4 hI g0
   have o2:=g0.size
   have j1:=Om oE (base':=w.heap.size+1) (by omega)
   have i0:=hC.trans (g0.mono (T:=fun q=>q=b∨OwnMB vr vv vA us q∨B q∨w1.heap.size≤q) (fun q _ h=>by rcases h with h | h;exact Or.inl h;exact Or.inr (Or.inl h)))
   have w0:=oE.lt
   have e2:=hS.lt;have i1:=hS.own.lt
   have u0:=Lib.hid (p1.out n w4 u hlt I4 (by omega) j1 r0 (r1.keep i0 x0.out) (fun q hq=>⟨fun h=>by have:=w0 q hq;have:=i1 q h;omega,fun h=>by have:=w0 q hq;omega⟩))
   clear i0 w0 e2 i1
   rw [hk] at u0
   have j0:opAt c s n=c.list[k].op:=by unfold opAt insAt;rw [hk,Int.toNat_natCast,List.getElem?_eq_getElem g1];rfl
   have k0:stp (insAt c (stN c n s).pc) (stN c n s)=stN c (n+1) s:=rfl
   rw [k0] at r0
   have y0:=Lib.hid j0
   have f2:=Lib.hid hk
   have b1:=hC.trans (g0.mono (T:=fun q=>q=b∨OwnMB vr vv vA us q∨B q∨w1.heap.size≤q) (fun q _ h=>by rcases h with h | h;exact Or.inl h;exact Or.inr (Or.inl h)))
   clear j0 k0 oE j1 I4 z0 hS hI hC g0 c0' hk
   go_wp2_with fail
   refine u0.out.mono ?_
   rintro e w5 ⟨rfl,I5,p0⟩
   have q2:=p0.size
   have s0:=r0.keep p0 (fun h=>by rcases h with h | h;exact hBb h;omega) (fun q hq h=>by rcases h with h | h;exact k1.out q hq h;have:=q1.out q hq;omega)
   have d0:=b1.trans (p0.mono (T:=fun q=>q=b∨OwnMB vr vv vA us q∨B q∨w1.heap.size≤q) (fun q _ h=>by rcases h with h | h;exact Or.inr (Or.inr (Or.inl h));exact Or.inr (Or.inr (Or.inr (by omega)))))
   have p2:=Gc d0 n2 t0
   have kp:=Lc p2
   obtain ⟨e0,_⟩:=HC.out k g1
   replace e0:=Gc d0 (Kc b0 e0) hb'c
   have ke:=Lc e0
   have k2:(k:Int) < (c.list.length:Int):=by omega
   generalize c.list[k]=x at *
   have o1:Hid (Chg (fun q=>q=b∨OwnMB vr vv vA us q∨B q) w w5):=Lib.hid ⟨d0.os.trans b0.os,d0.tape.trans b0.tape,d0.output.trans b0.output,by have:=d0.size;omega,fun q hq hn=>(d0.block q (by omega) (fun h=>by
    rcases h with h | h | h | h
    ·exact hn (Or.inl h)
    ·exact hn (Or.inr (Or.inl h))
    ·exact hn (Or.inr (Or.inr h))
    omega)).trans (b0.block q hq)⟩
   clear r0 b1 p0 u0 m0 m1 m2 d1
   by_cases h13:x.op=13
   ·have HR:Hid (R=some n):=Lib.hid (v1.out n hlt o0.out (by rw [y0.out];exact h13))
    rw [h13] at e0
    have HH:=Lib.hid (And.intro s0 I5)
    clear h13 s0 I5 d0
    go_wp2
    go_ret
    exact ⟨ret_bool (by rw [HR.out];rfl),fun n' hn'=>by rw [HR.out] at hn';obtain rfl:=Option.some.inj hn';exact ⟨hlt,HH.out.1,HH.out.2⟩,o1.out⟩
   have v0:Hid (∀ j,j < n+1→¬opAt c s j=13):=Lib.hid (fun j hj=>by
    by_cases e:j=n
    ·subst e;rw [y0.out];exact h13
    exact o0.out j (by omega))
   have hx:(x.op == 13)=false:=by simp [h13]
   have HH:=Lib.hid (And.intro s0 I5)
   clear h13 s0 I5
   go_wp2
   go_roundw
   case rel=>exact ⟨n+1,by omega,by go_num,HH.out.1,HH.out.2,v0,d0⟩
   case measure=>simp [intOf];omega
  have en:n=20000:=by omega
  subst en
  have HR:Hid (R=none):=Lib.hid (u1.out o0.out)
  clear hS hI o0
  go_wp2
  go_ret
  exact ⟨ret_bool (by rw [HR.out];rfl),(fun n' hn'=>(by rw [HR.out] at hn';cases hn')),d1⟩
end Go.Proofs.Ytkjedgnepnbkpaa
