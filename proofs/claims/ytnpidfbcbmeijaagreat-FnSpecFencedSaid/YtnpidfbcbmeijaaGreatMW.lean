/-
 Parts of the proofs of the laws FnRemoveDead,FnRemoveDeadLeak,FnSpecFenced,FnSpecMemory.
-/
import Derived.Laws.BitsLemmas
import Derived.Test.YtnpidfbcbmeijaaGreatMS1
import Derived.Test.YtnpidfbcbmeijaaGreatMS2
set_option maxHeartbeats 12800000
set_option maxRecDepth 100000
set_option linter.all false
namespace Go.Proofs.YtnpidfbcbmeijaaGreat
open Go.RowKit
theorem opr_range {k a b:Int} (ha:0≤a∧a≤255) (hb:0≤b∧b≤255):0≤opr k a b∧opr k a b < 256:=by
 obtain ⟨m,rfl⟩:∃ m:Nat,a=m:=⟨a.toNat,by omega⟩;obtain ⟨n,rfl⟩:∃ n:Nat,b=n:=⟨b.toNat,by omega⟩;have hm:m < 2 ^ 8:=by omega
 have hn:n < 2 ^ 8:=by omega
 have hw:∀ x:Int,0≤x→x < 2 ^ 8→IntKind.i64.wrap x=x:=fun x h0 h1=>by rw [IntKind.wrap_i64];omega
 have hA:=(bits_nat .i64 8 (by decide) hw m n hm hn).1;have h1:m &&& n < 2 ^ 8:=Nat.and_lt_two_pow m hn;have h2:m ^^^ n < 2 ^ 8:=Nat.xor_lt_two_pow hm hn
 have hX:bits .xor .i64 (m:Int) (n:Int)=((m ^^^ n:Nat):Int):=by
  have hm':m % 2 ^ IntKind.i64.bits=m:=Nat.mod_eq_of_lt (Nat.lt_of_lt_of_le hm (Nat.pow_le_pow_right (by decide) (by decide)));have hn':n % 2 ^ IntKind.i64.bits=n:=Nat.mod_eq_of_lt (Nat.lt_of_lt_of_le hn (Nat.pow_le_pow_right (by decide) (by decide)));simp only [bits,BitVec.ofInt_natCast,BitVec.toNat_xor,BitVec.toNat_ofNat,hm',hn'];exact hw _ (Int.natCast_nonneg _) (by omega)
 have e6:((m:Int)*(n:Int)) % 256 < 256∧0≤((m:Int)*(n:Int)) % 256:=⟨Int.emod_lt_of_pos _ (by decide),Int.emod_nonneg _ (by decide)⟩;unfold opr tru
 rw [hA,hX];repeat (first | omega | split)
theorem mem_set_range {xs:List Int} (h:∀ n ∈ xs,0≤n∧n < 256) (k:Nat) {v:Int} (hv:0≤v∧v < 256):∀ n ∈ xs.set k v,0≤n∧n < 256:=by
 intro n hn;rcases List.mem_or_eq_of_mem_set hn with h1 | rfl
 ·exact h n h1
 exact hv
theorem gr_range {rs:List (List Int)} (h:∀ a ∈ rs,a.length=4∧∀ n ∈ a,0≤n∧n < 256) (i:Int):∀ n ∈ gr rs i,0≤n∧n < 256:=by
 intro n hn;unfold gr at hn
 cases e:rs[i.toNat]? with
 | none=>rw [e] at hn;simp at hn
 | some a=>rw [e] at hn;exact (h a (List.mem_of_getElem? e)).2 n hn
theorem memOk_mk {nv na:Nat} {m:Mm} (h1:m.vals.length=nv) (h2:m.arrs.length=na) (h3:∀ n ∈ m.vals,0≤n∧n < 256) (h4:∀ a ∈ m.arrs,a.length=4∧∀ n ∈ a,0≤n∧n < 256):memOk nv na m=true:=by
 have hv:∀ xs:List Int,(∀ n ∈ xs,0≤n∧n < 256)→valsOk xs=true:=fun xs hx=>List.all_eq_true.2 (fun n hn=>by
  have:=hx n hn
  exact decide_eq_true (p:=0≤n∧n≤255) (by omega))
 unfold memOk
 rw [decide_eq_true h1,decide_eq_true h2,hv _ h3];simp only [Bool.true_and];refine List.all_eq_true.2 (fun a ha=>?_);rw [decide_eq_true (h4 a ha).1,hv _ (h4 a ha).2];rfl
theorem stp_ok {c:Cd} {s:Ms} (hok:codeOk c=true) (h:MsOk c s):MsOk c (stp (insAt c s.pc) s):=by
 obtain ⟨p0,p1,hr,hv,hm⟩:=h;obtain ⟨pc,rs,m⟩:=s;simp only at p0 p1 hr hv hm
 obtain ⟨k,rfl⟩:∃ k:Nat,pc=k:=⟨pc.toNat,by omega⟩;have hk:k < c.list.length:=by omega
 obtain ⟨hl,d0⟩:=codeOk_last hok;have c0:=codeOk_all hok k hk;have g0:insAt c (k:Int)=c.list[k]:=by unfold insAt;rw [Int.toNat_natCast,List.getElem?_eq_getElem hk];rfl
 simp only [g0]
 have a0:¬c.list[k].op=13→¬c.list[k].op=8→(k:Int)+1 < (c.list.length:Int):=by
  intro h1 h2;by_cases e:k=c.list.length-1
  ·subst e;rcases d0 with h3 | h3
   ·exact absurd h3 h1
   exact absurd h3 h2
  omega
 generalize c.list[k]=x at *
 obtain ⟨op,a,b,d,f⟩:=x;simp only at a0
 obtain ⟨P1,P2,P3,P4,P5,P6,P7,P8,P9,f0,k0⟩:=ins_parts c0;have j0:=insOk_op c0;simp only at j0
 obtain ⟨m1,m2,m3,m4⟩:=memOk_parts hm;have hg:=fun i=>gi_range hv i
 have i0:=fun i=>gi_range m3 i
 have h0:=fun i j=>gi_range (gr_range m4 i) j
 have e0:op=1∨op=2∨op=3∨op=4∨op=5∨op=6∨op=7∨op=8∨op=9∨op=10∨op=11∨op=12∨op=13:=by omega
 have b0:∀ v:Int,0≤v∧v≤255→0≤v∧v < 256:=fun v h=>by omega
 rcases e0 with rfl | rfl | rfl | rfl | rfl | rfl | rfl | rfl | rfl | rfl | rfl | rfl | rfl
 ·have hn:=a0 (by decide) (by decide);have hp:=P1 rfl;exact ⟨by simp [stp,stPc];omega,by simp [stp,stPc];omega,by simp [stp,stRegs,hr],by simp only [stp,stRegs];exact mem_set_range hv _ (b0 _ hp.2),by simpa [stp,stMem] using hm⟩
 ·have hn:=a0 (by decide) (by decide);exact ⟨by simp [stp,stPc];omega,by simp [stp,stPc];omega,by simp [stp,stRegs,hr],by simpa [stp,stRegs] using mem_set_range hv _ (b0 _ (i0 b)),by simpa [stp,stMem] using hm⟩
 ·have hn:=a0 (by decide) (by decide);refine ⟨by simp [stp,stPc];omega,by simp [stp,stPc];omega,by simp [stp,stRegs,hr],by simpa [stp,stRegs] using hv,?_⟩;have h9:memOk c.vars.length c.arrays.length ⟨m.vals.set a.toNat (gi rs b),m.arrs⟩=true:=memOk_mk (by simp [m1]) m2 (mem_set_range m3 _ (b0 _ (hg b))) m4;simpa [stp,stMem] using h9
 ·have hn:=a0 (by decide) (by decide);exact ⟨by simp [stp,stPc];omega,by simp [stp,stPc];omega,by simp [stp,stRegs,hr],by simpa [stp,stRegs] using mem_set_range hv _ (b0 _ (h0 b (gi rs d % 4))),by simpa [stp,stMem] using hm⟩
 ·have hn:=a0 (by decide) (by decide);refine ⟨by simp [stp,stPc];omega,by simp [stp,stPc];omega,by simp [stp,stRegs,hr],by simpa [stp,stRegs] using hv,?_⟩;have hp:=P5 rfl
  have h8:(gr m.arrs a).length=4:=by
   unfold gr;rw [List.getElem?_eq_getElem (by omega)]
   exact (m4 _ (List.getElem_mem _)).1
  have h9:memOk c.vars.length c.arrays.length ⟨m.vals,m.arrs.set a.toNat ((gr m.arrs a).set (gi rs b % 4).toNat (gi rs d))⟩=true:=memOk_mk m1 (by simp [m2]) m3 (fun r hr'=>by
   rcases List.mem_or_eq_of_mem_set hr' with h1 | rfl
   ·exact m4 r h1
   exact ⟨by simp [h8],mem_set_range (gr_range m4 a) _ (b0 _ (hg d))⟩)
  simpa [stp,stMem] using h9
 ·have hn:=a0 (by decide) (by decide);exact ⟨by simp [stp,stPc];omega,by simp [stp,stPc];omega,by simp [stp,stRegs,hr],by simpa [stp,stRegs] using mem_set_range hv _ (opr_range (k:=b) (hg d) (hg f)),by simpa [stp,stMem] using hm⟩
 ·have hn:=a0 (by decide) (by decide);refine ⟨by simp [stp,stPc];omega,by simp [stp,stPc];omega,by simp [stp,stRegs,hr],?_,by simpa [stp,stMem] using hm⟩;have h9:∀ n ∈ rs.set a.toNat (if gi rs b≠0 then gi rs d else gi rs f),0≤n∧n < 256:=mem_set_range hv _ (by split;exact b0 _ (hg d);exact b0 _ (hg f));simpa [stp,stRegs] using h9
 ·have hp:=P8 rfl;exact ⟨by simp [stp,stPc];omega,by simp [stp,stPc];omega,by simp [stp,stRegs,hr],by simpa [stp,stRegs] using hv,by simpa [stp,stMem] using hm⟩
 ·have hn:=a0 (by decide) (by decide);have hp:=P9 rfl;exact ⟨by simp [stp,stPc];split <;> omega,by simp [stp,stPc];split <;> omega,by simp [stp,stRegs,hr],by simpa [stp,stRegs] using hv,by simpa [stp,stMem] using hm⟩
 ·have hn:=a0 (by decide) (by decide);have hp:=f0 rfl;exact ⟨by simp [stp,stPc];split <;> omega,by simp [stp,stPc];split <;> omega,by simp [stp,stRegs,hr],by simpa [stp,stRegs] using mem_set_range hv _ (by omega),by simpa [stp,stMem] using hm⟩
 ·have hn:=a0 (by decide) (by decide);exact ⟨by simp [stp,stPc];omega,by simp [stp,stPc];omega,by simp [stp,stRegs,hr],by simpa [stp,stRegs] using hv,by simpa [stp,stMem] using hm⟩
 ·have hn:=a0 (by decide) (by decide);exact ⟨by simp [stp,stPc];omega,by simp [stp,stPc];omega,by simp [stp,stRegs,hr],by simpa [stp,stRegs] using hv,by simpa [stp,stMem] using hm⟩
 exact ⟨by simp [stp,stPc],by simp [stp,stPc];omega,by simp [stp,stRegs,hr],by simpa [stp,stRegs] using hv,by simpa [stp,stMem] using hm⟩
def stN (c:Cd):Nat→Ms→Ms
 | 0,s=>s
 | n+1,s=>stp (insAt c (stN c n s).pc) (stN c n s)
def evN (c:Cd):Nat→Ms→List Ev
 | 0,_=>[]
 | n+1,s=>evN c n s++stEvs (insAt c (stN c n s).pc) (stN c n s)
def opAt (c:Cd) (s:Ms) (n:Nat):Int:=(insAt c (stN c n s).pc).op
def brN (c:Cd):Nat→Ms→Nat
 | 0,_=>0
 | n+1,s=>brN c n s+(if isBr (opAt c s n)=true then 1 else 0)
theorem stN_ok {c:Cd} {s:Ms} (hok:codeOk c=true) (h:MsOk c s) (n:Nat):MsOk c (stN c n s):=by
 induction n with
 | zero=>exact h
 | succ n ih=>exact stp_ok hok ih
theorem stEvs_len (x:Ins) (s:Ms):(stEvs x s).length≤2∧1≤(stEvs x s).length:=by
 unfold stEvs
 by_cases h4:x.op=4
 ·simp [h4]
 by_cases h5:x.op=5
 ·simp [h5]
 by_cases h11:x.op=11
 ·simp [h11]
 simp [h4,h5,h11]
theorem evN_len (c:Cd) (s:Ms) (n:Nat):(evN c n s).length≤2*n:=by
 induction n with
 | zero=>simp [evN]
 | succ n ih =>
  have:=(stEvs_len (insAt c (stN c n s).pc) (stN c n s)).1
  simp only [evN,List.length_append];omega
def fstH (p:Nat→Bool):Nat→Nat→Option Nat
 | 0,_=>none
 | f+1,k=>if p k=true then some k else fstH p f (k+1)
theorem fstH_some {p:Nat→Bool}:∀ (f k n:Nat),n < f→(∀ j,j < n→p (k+j)=false)→p (k+n)=true→fstH p f k=some (k+n):=by
 intro f
 induction f with
 | zero=>intro k n h;omega
 | succ f ih =>
  intro k n hn a0 hp;rw [fstH]
  cases n with
  | zero=>rw [if_pos (by simpa using hp)];rfl
  | succ n =>
   have h0:=a0 0 (by omega);rw [if_neg (by rw [Nat.add_zero] at h0;rw [h0];exact Bool.false_ne_true),ih (k+1) n (by omega) (fun j hj=>by have:=a0 (j+1) (by omega);rw [← this];congr 1;omega) (by rw [← hp];congr 1;omega)];congr 1;omega
theorem fstH_none {p:Nat→Bool}:∀ (f k:Nat),(∀ j,j < f→p (k+j)=false)→fstH p f k=none:=by
 intro f
 induction f with
 | zero=>intro k _;rfl
 | succ f ih =>
  intro k h;have h0:=h 0 (by omega);rw [fstH,if_neg (by rw [Nat.add_zero] at h0;rw [h0];exact Bool.false_ne_true)];exact ih (k+1) (fun j hj=>by have:=h (j+1) (by omega);rw [← this];congr 1;omega)
def runR (c:Cd) (s:Ms):Option Nat:=fstH (fun n=>opAt c s n == 13) 20000 0
theorem runR_some {c:Cd} {s:Ms} {n:Nat} (h1:n < 20000) (h2:∀ j,j < n→¬opAt c s j=13) (h3:opAt c s n=13):runR c s=some n:=by
 have:=fstH_some (p:=fun n=>opAt c s n == 13) 20000 0 n h1 (fun j hj=>by simpa using h2 j hj) (by simpa using h3)
 rwa [Nat.zero_add] at this
theorem runR_none {c:Cd} {s:Ms} (h:∀ j,j < 20000→¬opAt c s j=13):runR c s=none:=
 fstH_none (p:=fun n=>opAt c s n == 13) 20000 0 (fun j hj=>by simpa using h j hj)
theorem step_any (b base:Nat) (va vb vc vr vv vA:Value) (us:List Value) (c:Cd) (s:Ms) (w:World) (hr:ReadsC w va vb vc c) (hS:OwnS w base b vr vv vA us s) (hM:MsOk c s) (hok:codeOk c=true) :
  Calls Tryz.prog 81 #[.pointer (some ⟨b,0,none⟩),.agg #[va,vb,vc]] w fun e w'=>∃ u,e=.returned u∧w'.ownsRow w.heap.size 84 2 u (stEvs (insAt c s.pc) s).length (evs (stEvs (insAt c s.pc) s))∧OwnS w' base b vr vv vA us (stp (insAt c s.pc) s)∧Chg (fun q=>q=b∨OwnMB vr vv vA us q) w w':=by
 have a0:1≤(insAt c s.pc).op∧(insAt c s.pc).op≤13:=by
  have h0:=hM.pc0;have h1:=hM.pc1;unfold insAt
  rw [List.getElem?_eq_getElem (by omega)];exact insOk_op (codeOk_all hok _ (by omega))
 by_cases h:(insAt c s.pc).op≤5
 ·exact step_1_5 b base va vb vc vr vv vA us c s w hr hS hM hok ⟨a0.1,h⟩
 exact step_6_13 b base va vb vc vr vv vA us c s w hr hS hM hok ⟨by omega,a0.2⟩
theorem execute_any (F:FuncId) (caps:Array Value) (I:Nat→World→Prop) (B b base:Nat) (va vb vc vr vv vA:Value) (us:List Value) (c:Cd) (s:Ms) (w:World)
  (hF:∀ (args:Array Value) (W:World),(callFunc F args).run Tryz.prog W=.ok (.enter F args) W) (hr:ReadsC w va vb vc c) (hS:OwnS w base b vr vv vA us s) (hM:MsOk c s) (hok:codeOk c=true) (hBb:¬B=b) (hBM:¬OwnMB vr vv vA us B) (hBl:B < w.heap.size)
  (hsep:∀ q,ReadB va vb vc c q→¬q=b∧¬OwnMB vr vv vA us q∧¬q=B) (h0:I 0 w)
  (hkeep:∀ (n:Nat) (W W':World),I n W→Chg (fun q=>q=b∨OwnMB vr vv vA us q) W W'→I n W')
  (hcall:∀ (n:Nat) (W:World) (u:Value),n < 20000→I n W→w.heap.size+1≤W.heap.size→W.ownsRow (w.heap.size+1) 84 2 u (stEvs (insAt c (stN c n s).pc) (stN c n s)).length (evs (stEvs (insAt c (stN c n s).pc) (stN c n s))) →
   Calls Tryz.prog F (#[.int .i64 (stN c n s).pc,u]++caps) W fun e W'=>e=.returned (.tuple #[])∧I (n+1) W'∧Chg (fun q=>q=B∨w.heap.size+1≤q) W W') :
  Calls Tryz.prog 42 #[.agg #[va,vb,vc],.pointer (some ⟨b,0,none⟩),.func (.func F) #[] caps] w fun e w'=>e=.returned (.bool (runR c s).isSome)∧(∀ n,runR c s=some n→n < 20000∧OwnS w' base b vr vv vA us (stN c (n+1) s)∧I (n+1) w')∧Chg (fun q=>q=b∨OwnMB vr vv vA us q∨q=B) w w':=by
 obtain ⟨a0,c0,a1,c1,a2,c2,rfl,rfl,rfl⟩:=hr.shape;have s1:=Hi (fun n h1 h2 h3=>runR_some (c:=c) (s:=s) (n:=n) h1 h2 h3);have q1:=Hi (fun h=>runR_none (c:=c) (s:=s) h);generalize runR c s=R at *
 obtain ⟨l1,l2⟩:=codeOk_len hok;have v1:=hr.l;obtain ⟨_,hn,aa,b2,b',j0,hv,u1,ha,z0⟩:=v1;simp only [Value.slice.injEq,true_and] at hv;obtain ⟨rfl,rfl⟩:=hv;obtain ⟨rfl,d2⟩:=ha (by omega);have HC:=Hi (reads_Instr z0);have t1:=Hi hsep;have hb'n:=hsep b' (Or.inr (Or.inr ⟨j0,c2,by omega,rfl⟩));obtain ⟨w1,f0⟩:∃ X,X=w.alloc (.cells #[.slice a0 c.vars.length c0,.slice a1 c.arrays.length c1,.slice (some ⟨b',j0,none⟩) c.list.length c2] 26):=⟨_,rfl⟩;have b0:Below w.heap.size w w1:=by rw [f0];exact bal (Bs w) _
 have x1:w1.heap.size=w.heap.size+1:=by rw [f0];simp
 have n0:w1.cell? ⟨w.heap.size,0,none⟩=some (.slice a0 c.vars.length c0):=by rw [f0];exact Wc rfl rfl
 have n1:w1.cell? ⟨w.heap.size,1,none⟩=some (.slice a1 c.arrays.length c1):=by rw [f0];exact Wc rfl rfl
 have n2:w1.cell? ⟨w.heap.size,2,none⟩=some (.slice (some ⟨b',j0,none⟩) c.list.length c2):=by rw [f0];exact Wc rfl rfl
 have hz1l:w.heap.size+1≤w1.heap.size:=by omega
 have hz1r:w1.heap.size≤w.heap.size+1:=by omega
 have HW:=Hi f0;have lS:=hS.lt;have y1:=hr.lt;have iS:=hS.own.lt
 have r0:¬(w.heap.size=b∨OwnMB vr vv vA us w.heap.size∨w.heap.size=B∨w1.heap.size≤w.heap.size):=by
  rintro (h | h | h | h)
  ·omega
  ·have:=iS _ h;omega
  ·omega
  omega
 have b1:∀ q,ReadB (.slice a0 c.vars.length c0) (.slice a1 c.arrays.length c1) (.slice (some ⟨b',j0,none⟩) c.list.length c2) c q→¬(q=b∨OwnMB vr vv vA us q∨q=B∨w1.heap.size≤q):=by
  intro q hq;obtain ⟨h1,h2,h3⟩:=hsep q hq;have h4:=y1 q hq;rintro (h | h | h | h)
  ·exact h1 h
  ·exact h2 h
  ·exact h3 h
  omega
 have g1:=Hi b1;have hb'c:=b1 b' (Or.inr (Or.inr ⟨j0,c2,by omega,rfl⟩));have f1:=Hi hBM;have k1:=Hi iS;have S1:=hS.below b0;have I1:=hkeep 0 w w1 h0 (Cb b0);have r1:=hr.below b0;have HK:=Hi hkeep;have j1:=Hi hcall;have p1:=Hi (fun n=>stN_ok hok hM n);have o1:=Hi hok;clear f0 x1 z0 ha hr hS h0 hkeep hcall hM hsep;go_enter Tryz.func42,Tryz.ntmps42
 go_upto_region 1 with (fail)
 rw [← HW.out];clear HW;go_wp2_with fail
 go_loopw [8] (fun t wr=>∃ n:Nat,n≤20000∧t=.int .i64 n∧OwnS wr base b vr vv vA us (stN c n s)∧I n wr∧Hid (∀ j,j < n→¬opAt c s j=13)∧Chg (fun q=>q=b∨OwnMB vr vv vA us q∨q=B∨w1.heap.size≤q) w1 wr) (fun t _=>20000-(intOf t).toNat)
 case atStart=>exact ⟨0,by omega,rfl,S1,I1,Hi (fun j h=>by omega),Chg.refl _ _⟩
 case round =>
  obtain ⟨n,e2,rfl,hS,hI,k0,hC⟩:=hrel;clear S1 I1;have j2:=hC.size
  have y0:Chg (fun q=>q=b∨OwnMB vr vv vA us q∨q=B) w wr:=⟨hC.os.trans b0.os,hC.tape.trans b0.tape,hC.output.trans b0.output,by omega,fun q hq hn=>(hC.block q (by omega) (fun h=>by
   rcases h with h | h | h | h
   ·exact hn (Or.inl h)
   ·exact hn (Or.inr (Or.inl h))
   ·exact hn (Or.inr (Or.inr h))
   omega)).trans (b0.block q hq)⟩
  by_cases hlt:n < 20000
  ·have p0:=p1.out n;obtain ⟨k,hk⟩:∃ k:Nat,(stN c n s).pc=k:=⟨(stN c n s).pc.toNat,by have:=p0.pc0;omega⟩;have d1:k < c.list.length:=by have:=p0.pc1;omega
   have c0':=hS.c0;rw [hk] at c0';have kb:=Lc c0';have m0:=Gc hC n0 r0;have m1:=Gc hC n1 r0;have m2:=Gc hC n2 r0;have km:=Lc m0;have rc:=r1.keep hC g1.out;have w0:=Hi (step_any b base _ _ _ vr vv vA us c (stN c n s) wr rc hS p0 o1.out);clear p0 rc;go_wp2_with fail
   refine w0.out.mono ?_;rintro e w4 ⟨u,rfl,oE,u0,l0⟩;have I4:=HK.out n wr w4 hI l0;have g2:=l0.size;have e1:=Om oE (base':=w.heap.size+1) (by omega);have s0:=Hi (j1.out n w4 u hlt I4 (by omega) e1);rw [hk] at s0;have g0:opAt c s n=c.list[k].op:=by unfold opAt insAt;rw [hk,Int.toNat_natCast,List.getElem?_eq_getElem d1];rfl
   have i0:stp (insAt c (stN c n s).pc) (stN c n s)=stN c (n+1) s:=rfl;rw [i0] at u0;have v0:=Hi g0;have z1:=Hi hk;have x0:=hC.trans (l0.mono (T:=fun q=>q=b∨OwnMB vr vv vA us q∨q=B∨w1.heap.size≤q) (fun q _ h=>by rcases h with h | h;exact Or.inl h;exact Or.inr (Or.inl h)));clear g0 i0 oE e1 I4 w0 hS hI hC l0 c0' hk;go_wp2_with fail
   refine s0.out.mono ?_;rintro e w5 ⟨rfl,I5,o0⟩;have i2:=o0.size;have q0:=u0.keep o0 (fun h=>by rcases h with h | h;exact hBb h.symm;omega) (fun q hq h=>by rcases h with h | h;exact f1.out (h ▸ hq);have:=k1.out q hq;omega);have d0:=x0.trans (o0.mono (T:=fun q=>q=b∨OwnMB vr vv vA us q∨q=B∨w1.heap.size≤q) (fun q _ h=>by rcases h with h | h;exact Or.inr (Or.inr (Or.inl h));exact Or.inr (Or.inr (Or.inr (by omega)))));have p2:=Gc d0 n2 r0;have kp:=Lc p2;obtain ⟨e0,_⟩:=HC.out k d1;replace e0:=Gc d0 (Kc b0 e0) hb'c;have ke:=Lc e0;have f2:(k:Int) < (c.list.length:Int):=by omega
   generalize c.list[k]=x at *
   have i1:Hid (Chg (fun q=>q=b∨OwnMB vr vv vA us q∨q=B) w w5):=Hi ⟨d0.os.trans b0.os,d0.tape.trans b0.tape,d0.output.trans b0.output,by have:=d0.size;omega,fun q hq hn=>(d0.block q (by omega) (fun h=>by
    rcases h with h | h | h | h
    ·exact hn (Or.inl h)
    ·exact hn (Or.inr (Or.inl h))
    ·exact hn (Or.inr (Or.inr h))
    omega)).trans (b0.block q hq)⟩
   clear u0 x0 o0 s0 m0 m1 m2 y0;by_cases h13:x.op=13
   ·have HR:Hid (R=some n):=Hi (s1.out n hlt k0.out (by rw [v0.out];exact h13));rw [h13] at e0;have HH:=Hi (Ai q0 I5);clear h13 q0 I5 d0;go_wp2
    go_ret
    exact ⟨ret_bool (by rw [HR.out];rfl),fun n' hn'=>by rw [HR.out] at hn';obtain rfl:=Si hn';exact ⟨hlt,HH.out.1,HH.out.2⟩,i1.out⟩
   have t0:Hid (∀ j,j < n+1→¬opAt c s j=13):=Hi (fun j hj=>by
    by_cases e:j=n
    ·subst e;rw [v0.out];exact h13
    exact k0.out j (by omega))
   have hx:(x.op == 13)=false:=by simp [h13]
   have HH:=Hi (Ai q0 I5);clear h13 q0 I5;go_wp2
   go_roundw
   case rel=>exact ⟨n+1,by omega,by go_num,HH.out.1,HH.out.2,t0,d0⟩
   case measure=>simp [intOf];omega
  have en:n=20000:=by omega
  subst en;have HR:Hid (R=none):=Hi (q1.out k0.out);clear hS hI k0;go_wp2
  go_ret
  exact ⟨ret_bool (by rw [HR.out];rfl),(fun n' hn'=>(by rw [HR.out] at hn';cases hn')),y0⟩
theorem ran1_any (B base:Nat) (v u:Value) (L E:List Ev) (pc:Int) (w:World) (hc:w.cell? ⟨B,0,none⟩=some v) (hf:w.frozen? ⟨B,0,none⟩=false) (ho:w.ownsRow base 84 2 v L.length (evs L))
  (hB:¬v.ownBlock=some B) (hu:Reads w 2 u E.length (evs E)) (hL:L.length+E.length≤4294967296) (hbase:base≤w.heap.size) :
  Calls Tryz.prog 78 #[.int .i64 pc,u,.pointer (some ⟨B,0,none⟩)] w fun e w'=>e=.returned (.tuple #[])∧∃ v',w'.cell? ⟨B,0,none⟩=some v'∧w'.frozen? ⟨B,0,none⟩=false∧w'.ownsRow base 84 2 v' (L++E).length (evs (L++E))∧(∀ q,v'.ownBlock=some q→v.ownBlock=some q∨w.heap.size≤q)∧¬v'.ownBlock=some B∧Chg (fun q=>q=B∨v.ownBlock=some q) w w':=by
 obtain ⟨a,c,rfl⟩:=Oh ho;obtain ⟨a2,c2,rfl⟩:=reads_shape hu;have kB:=Lc hc;go_enter Tryz.func78,Tryz.ntmps78
 go_wp2_with (at_builtin;refine wpList_aps tEvs rfl _ _ rfl base _ L.length _ rfl ho _ E.length _ rfl hu (one_evs E) (by omega) (by omega) ?_)
 intro v' w1 ho' hC hN _;obtain ⟨a',c',rfl⟩:=Oh ho';have g0:=Gc hC hc hB;have h0:=Gf hC kB hf hB
 have a0:∀ q,(Value.slice a' (L.length+E.length) c').ownBlock=some q→(Value.slice a L.length c).ownBlock=some q∨w.heap.size≤q:=fun q hq=>by
  rcases hN with h | ⟨g,h,h2⟩
  ·exact Or.inl (h ▸ hq)
  have e:=Si (h.symm.trans hq);exact Or.inr (by omega)
 have hB':¬(Value.slice a' (L.length+E.length) c').ownBlock=some B:=fun h=>by
  rcases a0 B h with h | h
  ·exact hB h
  omega
 have d0:=Tc w1 B 0 (.slice a' (L.length+E.length) c') g0;have e0:=Fs (b:=⟨B,0,none⟩) h0 (.slice a' (L.length+E.length) c');have f0:=Oe ho' B 0 hB' (.slice a' (L.length+E.length) c');have b0:Chg (fun q=>q=B∨(Value.slice a L.length c).ownBlock=some q) w w1:=hC.mono (fun _ _ h=>Or.inr h);have c0:=b0.setCell B 0 (.slice a' (L.length+E.length) c') (fun _=>Or.inl rfl);have HE:=Hi (Ai d0 (Ai e0 (Ai f0 (Ai a0 (Ai hB' c0)))));clear ho ho' hC b0 hN hc hf hu a0 c0 f0 d0 e0;go_wp2
 go_end0
 exact ⟨rfl,_,HE.out.1,HE.out.2.1,by have h:=HE.out.2.2.1;rw [List.length_append,evs_append];exact h,HE.out.2.2.2.1,HE.out.2.2.2.2.1,HE.out.2.2.2.2.2⟩
def finN (c:Cd) (m:Mm):Option Nat:=if goOk c m=true then runR c (ini m) else none
theorem finN_no {c:Cd} {m:Mm} (h:goOk c m=false):finN c m=none:=by unfold finN;rw [h];rfl
theorem finN_yes {c:Cd} {m:Mm} (h:goOk c m=true):finN c m=runR c (ini m):=by unfold finN;rw [if_pos h]
theorem ran1_call (args:Array Value) (W:World):(callFunc 78 args).run Tryz.prog W=.ok (.enter 78 args) W:=by kernel_rfl
theorem ran_any (va vb vc vx vy:Value) (c:Cd) (m:Mm) (w:World) (hr:ReadsC w va vb vc c) (hx:Reads w 1 vx m.vals.length (ints m.vals)) (hy:Reads2 ints w vy m.arrs) (hl:m.vals.length≤1048576) (hn:m.arrs.length≤1048576) (hp:pre2 m.arrs m.arrs.length≤1048576) :
  Calls Tryz.prog 40 #[.agg #[va,vb,vc],.agg #[vx,vy]] w fun e w'=>(finN c m=none→e=.returned (.tuple #[.pointer none,.slice none 0 0,.bool false])) ∧
   (∀ n,finN c m=some n→∃ b vr vv vA us pu tu,e=.returned (.tuple #[.pointer (some ⟨b,0,none⟩),.slice pu (evN c (n+1) (ini m)).length tu,.bool true])∧n < 20000∧OwnS w' w.heap.size b vr vv vA us (stN c (n+1) (ini m))∧w.heap.size≤b∧w'.ownsRow w.heap.size 84 2 (.slice pu (evN c (n+1) (ini m)).length tu) (evN c (n+1) (ini m)).length (evs (evN c (n+1) (ini m))))∧Below w.heap.size w w':=by
 obtain ⟨a0,c0,a1,c1,a2,c2,rfl,rfl,rfl⟩:=hr.shape;obtain ⟨a3,c3,rfl⟩:=reads_shape hx;obtain ⟨a4,c4,rfl⟩:=hy.shape;have e1:=hr.lt;obtain ⟨w1,h0⟩:∃ X,X=((w.alloc (.cells #[.slice a0 c.vars.length c0,.slice a1 c.arrays.length c1,.slice a2 c.list.length c2] 26)).alloc (.cells #[.slice a3 m.vals.length c3,.slice a4 m.arrs.length c4] 29)):=⟨_,rfl⟩;have j0:Below w.heap.size w w1:=by rw [h0];exact bal (bal (Bs w) _) _
 have q1:w.heap.size+2≤w1.heap.size:=by rw [h0];simp
 have n0:w1.cell? ⟨w.heap.size,0,none⟩=some (.slice a0 c.vars.length c0):=by rw [h0];exact Ac (Wc rfl rfl) _
 have n1:w1.cell? ⟨w.heap.size,1,none⟩=some (.slice a1 c.arrays.length c1):=by rw [h0];exact Ac (Wc rfl rfl) _
 have n2:w1.cell? ⟨w.heap.size,2,none⟩=some (.slice a2 c.list.length c2):=by rw [h0];exact Ac (Wc rfl rfl) _
 have mx:w1.cell? ⟨w.heap.size+1,0,none⟩=some (.slice a3 m.vals.length c3):=by rw [h0];exact Wc (by simp) rfl
 have my:w1.cell? ⟨w.heap.size+1,1,none⟩=some (.slice a4 m.arrs.length c4):=by rw [h0];exact Wc (by simp) rfl
 have HW:=Hi h0;have kn:=Lc n0;have km:=Lc mx;have i0:=iStart_any _ _ _ _ _ c m w1 (hr.below j0) (hx.below j0) (hy.below j0) hl hn hp;have w0:=Hi (fun W (hW:Below w1.heap.size w1 W)=>hr.below (btr j0 hW));clear h0 hx hy hl hn hp hr
 cases hg:goOk c m with
 | false =>
  rw [hg] at i0;have HF:Hid (finN c m=none):=Hi (finN_no hg);have k0:=Hi i0;clear hg i0 e1 w0;generalize finN c m=R at *
  go_enter Tryz.func40,Tryz.ntmps40
  go_upto_region 1 with (fail)
  rw [← HW.out];clear HW;go_wp2_with fail
  refine k0.out.mono ?_;rintro e w2 ⟨p0,n0',t0,p1,n1',t1,p2,n2',t2,rfl,_,l0⟩;have hB:=bal (btr j0 l0) (.cells #[.int .i64 0,.slice p0 n0' t0,.slice p1 n1' t1,.slice p2 n2' t2] 76);clear k0 n0 n1 n2 mx my;go_wp2
  exact bodyPost_ret (v:=.tuple #[.pointer none,.slice none 0 0,.bool false]) (by simp [results,Tryz.results40,go_sem]) rfl (by rw [HF.out];exact ⟨fun _=>rfl,fun n h=>(by cases h),hB⟩)
 | true =>
  rw [hg] at i0;have HF:Hid (finN c m=runR c (ini m)):=Hi (finN_yes hg);have f1:=Hi (ini_ok hg);have i1:=Hi (goOk_code hg);have k0:=Hi i0;clear hg i0;generalize finN c m=R at *
  have q0:Hid ((ini m).regs=reg0∧(ini m).mem=m∧(ini m).pc=0):=Hi ⟨rfl,rfl,rfl⟩;generalize ini m=s at *
  go_enter Tryz.func40,Tryz.ntmps40
  go_upto_region 1 with (fail)
  rw [← HW.out];clear HW;go_wp2_with fail
  refine k0.out.mono ?_;rintro e w2 ⟨p0,n0',t0,p1,n1',t1,p2,n2',t2,rfl,hO,l0⟩;obtain ⟨us,OM⟩:=hO (by trivial);have iM:=OM.lt;have r1:=l0.size;obtain ⟨w4,e0⟩:∃ X,X=((w2.alloc (.cells #[.int .i64 0,.slice p0 n0' t0,.slice p1 n1' t1,.slice p2 n2' t2] 76)).alloc (.cells #[.slice none 0 0] 36)):=⟨_,rfl⟩;have u0:Below w2.heap.size w2 w4:=by rw [e0];exact bal (bal (Bs w2) _) _
  have k1:w4.heap.size=w2.heap.size+1+1:=by rw [e0];simp
  have hz4l:w2.heap.size+2≤w4.heap.size:=by omega
  have hz4r:w4.heap.size≤w2.heap.size+2:=by omega
  have d0:w4.cell? ⟨w2.heap.size,0,none⟩=some (.int .i64 0):=by rw [e0];exact Ac (Wc rfl rfl) _
  have d1:w4.cell? ⟨w2.heap.size,1,none⟩=some (.slice p0 n0' t0):=by rw [e0];exact Ac (Wc rfl rfl) _
  have d2:w4.cell? ⟨w2.heap.size,2,none⟩=some (.slice p1 n1' t1):=by rw [e0];exact Ac (Wc rfl rfl) _
  have d3:w4.cell? ⟨w2.heap.size,3,none⟩=some (.slice p2 n2' t2):=by rw [e0];exact Ac (Wc rfl rfl) _
  have df:w4.frozen? ⟨w2.heap.size,0,none⟩=false:=by rw [e0];exact Fa (by simp) (Fn rfl) _
  have g0:w4.cell? ⟨w2.heap.size+1,0,none⟩=some (.slice none 0 0):=by rw [e0];exact Wc (by simp) rfl
  have gf:w4.frozen? ⟨w2.heap.size+1,0,none⟩=false:=by rw [e0];exact Fn (by simp)
  have x0:=Hi e0
  have hS:OwnS w4 w1.heap.size w2.heap.size (.slice p0 n0' t0) (.slice p1 n1' t1) (.slice p2 n2' t2) us s:=by
   refine ⟨?_,d1,d2,d3,df,?_,fun h=>by have:=iM _ h;omega⟩
   ·rw [q0.out.2.2];exact d0
   rw [q0.out.1,q0.out.2.1];exact OM.below u0
  have b0:=btr l0 u0;have rc:=w0.out w4 b0
  have z0:=execute_any 78 #[.pointer (some ⟨w2.heap.size+1,0,none⟩)]
   (fun n W=>∃ v,W.cell? ⟨w2.heap.size+1,0,none⟩=some v∧W.frozen? ⟨w2.heap.size+1,0,none⟩=false∧W.ownsRow (w4.heap.size+1) 84 2 v (evN c n s).length (evs (evN c n s))∧¬v.ownBlock=some (w2.heap.size+1))
   (w2.heap.size+1) w2.heap.size w1.heap.size _ _ _ _ _ _ us c s w4 ran1_call rc hS f1.out i1.out (by omega) (fun h=>by have:=iM _ h;omega) (by omega)
   (fun q hq=>by have:=e1 q hq;exact ⟨by omega,fun h=>by have:=iM q h;omega,by omega⟩)
   ⟨_,g0,gf,World.ownsRow_nil _ _ _ _,by simp [Value.ownBlock]⟩
   (fun n W W' hI hC=>by
    obtain ⟨v,h1,h2,h3,h4⟩:=hI
    have y0:¬(w2.heap.size+1=w2.heap.size∨OwnMB (.slice p0 n0' t0) (.slice p1 n1' t1) (.slice p2 n2' t2) us (w2.heap.size+1)):=by
     rintro (h | h)
     ·omega
     have:=iM _ h;omega
    exact ⟨v,Gc hC h1 y0,Gf hC (Lc h1) h2 y0,Ow h3 hC (fun q hq h=>by
     have h5:=h3.lt q hq;rcases h with h | h
     ·omega
     have:=iM _ h;omega),h4⟩)
   (fun n W u hn hI hN hE=>by
    obtain ⟨v,h1,h2,h3,h4⟩:=hI;have m1:=evN_len c s n;have o1:=(stEvs_len (insAt c (stN c n s).pc) (stN c n s)).1;refine (ran1_any (w2.heap.size+1) (w4.heap.size+1) v u (evN c n s) _ _ W h1 h2 h3 h4 (Ro hE (by omega)) (by omega) hN).mono ?_;rintro e W' ⟨he,v',g1,g2,g3,g4,g5,g6⟩;refine ⟨he,⟨v',g1,g2,g3,g5⟩,g6.mono (fun q _ h=>?_)⟩;rcases h with h | h
    ·exact Or.inl h
    exact Or.inr (h3.lt q h).1)
  have v0:=Hi z0;have l1:=Hi (fun n=>evN_len c s n);clear z0 e0 k1 k0 hS rc OM;replace n0:=Kc b0 n0;replace n1:=Kc b0 n1;replace n2:=Kc b0 n2;have u1:=Lc n0;have kg:=Lc g0;have m0:=btr j0 b0;go_upto_region 5 with (fail)
  rw [← x0.out];clear x0 mx my d0 d1 d2 d3 df u0 l0;go_wp2_with fail
  refine v0.out.mono ?_;rintro e w5 ⟨rfl,s0,hC⟩;have s1:=hC.size
  have o0:=m0.trans (hC.below w.heap.size m0.size (fun q hq h=>by
   rcases h with h | h | h
   ·omega
   ·have:=iM _ h;omega
   omega))
  clear v0 hC g0 gf n0 n1 n2
  cases hR:runR c s with
  | none =>
   have r0:Hid (R=none):=Hi (by rw [HF.out,hR]);clear s0 hR;go_wp2
   exact bodyPost_ret (v:=.tuple #[.pointer none,.slice none 0 0,.bool false]) (by simp [results,Tryz.results40,go_sem]) rfl (by rw [r0.out];exact ⟨fun _=>rfl,fun n h=>(by cases h),o0⟩)
  | some n =>
   have r0:Hid (R=some n):=Hi (by rw [HF.out,hR]);obtain ⟨j1,b1,v,h1,h2,h3,h4⟩:=s0 n hR;obtain ⟨pu,tu,rfl⟩:=Oh h3;have kh:=Lc h1;have HH:=Hi (Ai j1 (Ai b1 h3));clear hR s0 b1 h3 h4 h2;go_upto_region 8 with (fail)
   go_quiet (fail)
   go_wp2
   exact bodyPost_ret (v:=.tuple #[.pointer (some ⟨w2.heap.size,0,none⟩),.slice pu (evN c (n+1) s).length tu,.bool true]) (by simp [results,Tryz.results40,go_sem]) rfl (by
    rw [r0.out];refine ⟨fun h=>(by cases h),fun n' h=>?_,btr o0 (below_drewN' _ _)⟩;obtain rfl:=Si h;refine ⟨w2.heap.size,.slice p0 n0' t0,.slice p1 n1' t1,.slice p2 n2' t2,us,pu,tu,rfl,HH.out.1,?_,by omega,?_⟩
    ·have h5:=HH.out.2.1.below (below_drewN' w5 nq);exact ⟨h5.c0,h5.c1,h5.c2,h5.c3,h5.f0,h5.own.mono (by omega),h5.ob⟩
    exact Om (Ob HH.out.2.2 (below_drewN' w5 nq)) (by omega))
end Go.Proofs.YtnpidfbcbmeijaaGreat
