/-
 Parts of the proofs of the laws FnRemoveDead,FnRemoveDeadLeak,FnSpecFenced,FnSpecMemory.
-/
import Derived.Test.YtnpidfbcbmeijaaGreatRows
import Derived.Test.YtnpidfbcbmeijaaGreatMW
set_option linter.all false
namespace Go.Proofs.YtnpidfbcbmeijaaGreat
open Go.RowKit
structure ReadsM (w:World) (vx vy:Value) (m:Mm):Prop where
 x:Reads w 1 vx m.vals.length (ints m.vals)
 y:Reads2 ints w vy m.arrs
theorem ReadsM.below {w w':World} {vx vy:Value} {m:Mm} (h:ReadsM w vx vy m) (hb:Below w.heap.size w w'):ReadsM w' vx vy m:=⟨h.x.below hb,h.y.below hb⟩
theorem ReadsM.shape {w:World} {vx vy:Value} {m:Mm} (h:ReadsM w vx vy m):∃ a0 c0 a1 c1,vx=.slice a0 m.vals.length c0∧vy=.slice a1 m.arrs.length c1:=by
 obtain ⟨a0,c0,h0⟩:=reads_shape h.x;obtain ⟨a1,c1,h1⟩:=h.y.shape;exact ⟨a0,c0,a1,c1,h0,h1⟩
structure OwnM (w:World) (base:Nat) (vx vy:Value) (us:List Value) (m:Mm):Prop where
 x:w.ownsRow base 3 1 vx m.vals.length (ints m.vals)
 y:Own2I w base vy us m.arrs
 ap:∀ q,vx.ownBlock=some q→¬OwnB2 vy us q
def OwnBM (vx vy:Value) (us:List Value) (q:Nat):Prop:=vx.ownBlock=some q∨OwnB2 vy us q
section
variable {w w':World} {base base':Nat} {vx vy:Value} {us:List Value} {m:Mm}
theorem OwnM.lt (h:OwnM w base vx vy us m):∀ q,OwnBM vx vy us q→base≤q∧q < w.heap.size:=by
 rintro q (hq | hq)
 ·exact h.x.lt q hq
 exact h.y.lt q hq
theorem OwnM.keep (h:OwnM w base vx vy us m) {S:Nat→Prop} (hc:Chg S w w') (hs:∀ q,OwnBM vx vy us q→¬S q):OwnM w' base vx vy us m:=
 ⟨Ow h.x hc (fun q hq=>hs q (Or.inl hq)),h.y.keep hc (fun q hq=>hs q (Or.inr hq)),h.ap⟩
theorem OwnM.below (h:OwnM w base vx vy us m) (hb:Below w.heap.size w w'):OwnM w' base vx vy us m:=h.keep (S:=fun _=>False) (Cb hb) (fun _ _=>id)
theorem OwnM.mono (h:OwnM w base vx vy us m) (hb:base'≤base):OwnM w base' vx vy us m:=⟨Om h.x hb,h.y.mono hb,h.ap⟩
theorem OwnM.reads (h:OwnM w base vx vy us m) (h0:m.vals.length≤1048576) (h1:m.arrs.length≤1048576) (h2:pre2 m.arrs m.arrs.length≤1048576):ReadsM w vx vy m:=
 ⟨Ro h.x (by omega),h.y.reads (by omega) (fun k r hr=>by
  obtain ⟨hk,rfl⟩:=List.getElem?_eq_some_iff.1 hr;have:=pre2_all m.arrs k hk m.arrs.length hk
  omega)⟩
theorem OwnM.shape (h:OwnM w base vx vy us m):∃ a0 c0 a1 c1,vx=.slice a0 m.vals.length c0∧vy=.slice a1 m.arrs.length c1:=by
 obtain ⟨a0,c0,h0⟩:=Oh h.x;obtain ⟨a1,c1,h1⟩:=h.y.shape;exact ⟨a0,c0,a1,c1,h0,h1⟩
end
end Go.Proofs.YtnpidfbcbmeijaaGreat
namespace Go.Proofs.YtnpidfbcbmeijaaGreat
open Go.RowKit
def runE (c:Cd) (m:Mm):List Ev:=match finN c m with | some n=>evN c (n+1) (ini m) | none=>[]
def runM (c:Cd) (m:Mm):Mm:=match finN c m with | some n=>(stN c (n+1) (ini m)).mem | none=>⟨[],[]⟩
def runB (c:Cd) (m:Mm):Bool:=(finN c m).isSome
theorem run_no {c:Cd} {m:Mm} (h:finN c m=none):runE c m=[]∧runM c m=⟨[],[]⟩∧runB c m=false:=by unfold runE runM runB;rw [h];exact ⟨rfl,rfl,rfl⟩
theorem run_yes {c:Cd} {m:Mm} {n:Nat} (h:finN c m=some n):runE c m=evN c (n+1) (ini m)∧runM c m=(stN c (n+1) (ini m)).mem∧runB c m=true:=by unfold runE runM runB;rw [h];exact ⟨rfl,rfl,rfl⟩
theorem finN_lt {c:Cd} {m:Mm} {n:Nat} (h:finN c m=some n):n < 20000:=by
 unfold finN at h
 split at h
 ·have hf:∀ (p:Nat→Bool) (f k n:Nat),fstH p f k=some n→n < k+f:=by
   intro p f
   induction f with
   | zero=>intro k n h;cases h
   | succ f ih =>
    intro k n h;rw [fstH] at h;split at h
    ·have:=Si h;omega
    have:=ih _ _ h;omega
  have:=hf _ _ _ _ h;omega
 cases h
theorem runE_len (c:Cd) (m:Mm):(runE c m).length≤40000:=by
 cases h:finN c m with
 | none=>rw [(run_no h).1];simp
 | some n=>rw [(run_yes h).1];have:=evN_len c (ini m) (n+1);have:=finN_lt h;omega
theorem noMem_own (w:World) (base:Nat):OwnM w base (.slice none 0 0) (.slice none 0 0) [] ⟨[],[]⟩:=
 ⟨World.ownsRow_nil _ _ _ _,⟨rfl,World.ownsRow_nil _ _ _ _,fun k u r h=>by simp at h,fun j k u u' h=>by simp at h⟩,fun q h=>by simp [Value.ownBlock] at h⟩
theorem OwnMv.toM {w:World} {base:Nat} {vr vv va:Value} {us:List Value} {rs:List Int} {m:Mm} (h:OwnMv w base vr vv va us rs m):OwnM w base vv va us m:=⟨h.v,h.a,h.va⟩
set_option maxHeartbeats 6400000 in
set_option maxRecDepth 100000 in
theorem iRunCode_any (va vb vc vx vy:Value) (c:Cd) (m:Mm) (w:World) (hr:ReadsC w va vb vc c) (hm:ReadsM w vx vy m) (hl:m.vals.length≤1048576) (hn:m.arrs.length≤1048576) (hp:pre2 m.arrs m.arrs.length≤1048576) :
  Calls Tryz.prog 11 #[.agg #[va,vb,vc],.agg #[vx,vy]] w fun e w'=>∃ ux uy us u,e=.returned (.tuple #[.agg #[ux,uy],u,.bool (runB c m)])∧OwnM w' w.heap.size ux uy us (runM c m)∧w'.ownsRow w.heap.size 84 2 u (runE c m).length (evs (runE c m))∧Below w.heap.size w w':=by
 obtain ⟨a0,c0,a1,c1,a2,c2,rfl,rfl,rfl⟩:=hr.shape;obtain ⟨a3,c3,a4,c4,rfl,rfl⟩:=hm.shape;have q0:=hm.below (bal (bal (bal (Bs w) (.cells #[.slice a0 c.vars.length c0,.slice a1 c.arrays.length c1,.slice a2 c.list.length c2] 26)) (.cells #[.slice a3 m.vals.length c3,.slice a4 m.arrs.length c4] 29)) (.cells #[.slice none 0 0,.slice none 0 0] 29));have d0:=Hi (ran_any _ _ _ _ _ c m _ (hr.below (bal (bal (bal (Bs w) (.cells #[.slice a0 c.vars.length c0,.slice a1 c.arrays.length c1,.slice a2 c.list.length c2] 26)) (.cells #[.slice a3 m.vals.length c3,.slice a4 m.arrs.length c4] 29)) (.cells #[.slice none 0 0,.slice none 0 0] 29))) q0.x q0.y hl hn hp);clear hr hm q0;have o0:=fun h=>run_no (c:=c) (m:=m) h
 have p0:=fun n h=>run_yes (c:=c) (m:=m) (n:=n) h
 cases hf:finN c m with
 | none =>
  have hR:=o0 hf;have HR:=Hi hR;clear hR p0 o0;have b0:=Hi (by have h:=d0.out;rw [hf] at h;exact h);clear d0 hf;generalize runE c m=RE at *;generalize runM c m=RM at *;generalize runB c m=RB at *
  go_enter Tryz.func11,Tryz.ntmps11
  go_wp2_with fail
  refine (b0.out).mono ?_;rintro e w1 ⟨h1,_,hb⟩;obtain rfl:=h1 (by trivial);clear h1;have r0:=hb.size;simp only [Sa] at r0;have y0:w1.cell? ⟨w.heap.size,0,none⟩=some (.slice a0 c.vars.length c0):=Kc hb (Ac (Ac (Wc (by simp) (by rfl)) _) _);have z0:w1.cell? ⟨w.heap.size,1,none⟩=some (.slice a1 c.arrays.length c1):=Kc hb (Ac (Ac (Wc (by simp) (by rfl)) _) _);have b1:w1.cell? ⟨w.heap.size,2,none⟩=some (.slice a2 c.list.length c2):=Kc hb (Ac (Ac (Wc (by simp) (by rfl)) _) _);have d1:w1.cell? ⟨w.heap.size+1,0,none⟩=some (.slice a3 m.vals.length c3):=Kc hb (Ac (Wc (by simp) (by rfl)) _);have e1:w1.cell? ⟨w.heap.size+1,1,none⟩=some (.slice a4 m.arrs.length c4):=Kc hb (Ac (Wc (by simp) (by rfl)) _);have t0:w1.cell? ⟨w.heap.size+1+1,0,none⟩=some (.slice none 0 0):=Kc hb (Wc (by simp) (by rfl));have n1:w1.frozen? ⟨w.heap.size+1+1,0,none⟩=false:=Kf hb (by simp) (Fn (by simp));have f1:w1.cell? ⟨w.heap.size+1+1,1,none⟩=some (.slice none 0 0):=Kc hb (Wc (by simp) (by rfl));have v0:w1.frozen? ⟨w.heap.size+1+1,1,none⟩=false:=Kf hb (by simp) (Fn (by simp));have s0:=btr (bal (bal (bal (Bs w) (.cells #[.slice a0 c.vars.length c0,.slice a1 c.arrays.length c1,.slice a2 c.list.length c2] 26)) (.cells #[.slice a3 m.vals.length c3,.slice a4 m.arrs.length c4] 29)) (.cells #[.slice none 0 0,.slice none 0 0] 29)) hb;clear hb;clear y0 z0 b1 d1 e1;have g1:=Lc t0;have j1:=(Nn (b:=(w.heap.size+1+1)) (j:=1) (Tc _ (w.heap.size+1+1) 0 (.slice none 0 0) t0) (.slice none 0 0));have k1:=(Tc _ (w.heap.size+1+1) 1 (.slice none 0 0) (Nn (b:=(w.heap.size+1+1)) (j:=0) f1 (.slice none 0 0)));have tt:=(bst (bst s0 (w.heap.size+1+1) 0 (by omega) (.slice none 0 0)) (w.heap.size+1+1) 1 (by omega) (.slice none 0 0));go_wp2
  exact bodyPost_ret (v:=.tuple #[.agg #[.slice none 0 0,.slice none 0 0],.slice none 0 0,.bool false]) (by simp [results,Tryz.results11,go_sem,j1,k1]) rfl (by exact by rw [HR.out.1,HR.out.2.1,HR.out.2.2];exact ⟨_,_,[],_,rfl,noMem_own _ _,World.ownsRow_nil _ _ _ _,tt⟩)
 | some n =>
  have hR:=p0 n hf;have HR:=Hi hR;clear hR p0 o0;have b0:=Hi (by have h:=d0.out;rw [hf] at h;exact h);clear d0 hf;generalize runE c m=RE at *;generalize runM c m=RM at *;generalize runB c m=RB at *
  go_enter Tryz.func11,Tryz.ntmps11
  go_wp2_with fail
  refine (b0.out).mono ?_;rintro e w1 ⟨_,h2,hb⟩;obtain ⟨b,vr,vv,vA,us,pu,tu,rfl,_,hS,o1,hE⟩:=h2 n rfl;have d2:=hS.c2;have d3:=hS.c3;obtain ⟨pv,tv,rfl⟩:=Oh hS.own.v;obtain ⟨pa,ta,rfl⟩:=Oh hS.own.a.out;have iM:=hS.own.lt;have u0:=hS.own.toM;have kd:=Lc d2;clear h2 hS;have h0:=hb.size;simp only [Sa] at h0;have i0:w1.cell? ⟨w.heap.size,0,none⟩=some (.slice a0 c.vars.length c0):=Kc hb (Ac (Ac (Wc (by simp) (by rfl)) _) _);have j0:w1.cell? ⟨w.heap.size,1,none⟩=some (.slice a1 c.arrays.length c1):=Kc hb (Ac (Ac (Wc (by simp) (by rfl)) _) _);have k0:w1.cell? ⟨w.heap.size,2,none⟩=some (.slice a2 c.list.length c2):=Kc hb (Ac (Ac (Wc (by simp) (by rfl)) _) _);have l0:w1.cell? ⟨w.heap.size+1,0,none⟩=some (.slice a3 m.vals.length c3):=Kc hb (Ac (Wc (by simp) (by rfl)) _);have m0:w1.cell? ⟨w.heap.size+1,1,none⟩=some (.slice a4 m.arrs.length c4):=Kc hb (Ac (Wc (by simp) (by rfl)) _);have g0:w1.cell? ⟨w.heap.size+1+1,0,none⟩=some (.slice none 0 0):=Kc hb (Wc (by simp) (by rfl));have w0:w1.frozen? ⟨w.heap.size+1+1,0,none⟩=false:=Kf hb (by simp) (Fn (by simp));have n0:w1.cell? ⟨w.heap.size+1+1,1,none⟩=some (.slice none 0 0):=Kc hb (Wc (by simp) (by rfl));have x0:w1.frozen? ⟨w.heap.size+1+1,1,none⟩=false:=Kf hb (by simp) (Fn (by simp));have s0:=btr (bal (bal (bal (Bs w) (.cells #[.slice a0 c.vars.length c0,.slice a1 c.arrays.length c1,.slice a2 c.list.length c2] 26)) (.cells #[.slice a3 m.vals.length c3,.slice a4 m.arrs.length c4] 29)) (.cells #[.slice none 0 0,.slice none 0 0] 29)) hb;clear hb;clear i0 j0 k0 l0 m0;have i1:=Lc g0;have e0:=u0.lt;try simp only [Sa] at e0
  have f0:=hE.lt;try simp only [Sa] at f0
  have oM:=Hi ((u0.keep (C1 (w.heap.size+1+1) 0 (.slice pv ((stN c (n+1) (ini m)).mem.vals.length) tv)) (fun gq h h2=>by have:=e0 gq h;omega)).keep (C1 (w.heap.size+1+1) 1 (.slice pa ((stN c (n+1) (ini m)).mem.arrs.length) ta)) (fun gq h h2=>by have:=e0 gq h;omega));have oE:=Hi (Oe (Oe hE (w.heap.size+1+1) 0 (fun h=>by have:=f0 _ h;omega) (.slice pv ((stN c (n+1) (ini m)).mem.vals.length) tv)) (w.heap.size+1+1) 1 (fun h=>by have:=f0 _ h;omega) (.slice pa ((stN c (n+1) (ini m)).mem.arrs.length) ta));have l1:=(Nn (b:=(w.heap.size+1+1)) (j:=1) (Tc _ (w.heap.size+1+1) 0 (.slice pv ((stN c (n+1) (ini m)).mem.vals.length) tv) g0) (.slice pa ((stN c (n+1) (ini m)).mem.arrs.length) ta));have m1:=(Tc _ (w.heap.size+1+1) 1 (.slice pa ((stN c (n+1) (ini m)).mem.arrs.length) ta) (Nn (b:=(w.heap.size+1+1)) (j:=0) n0 (.slice pv ((stN c (n+1) (ini m)).mem.vals.length) tv)));have tt:=(bst (bst s0 (w.heap.size+1+1) 0 (by omega) (.slice pv ((stN c (n+1) (ini m)).mem.vals.length) tv)) (w.heap.size+1+1) 1 (by omega) (.slice pa ((stN c (n+1) (ini m)).mem.arrs.length) ta));go_wp2
  exact bodyPost_ret (v:=.tuple #[.agg #[.slice pv ((stN c (n+1) (ini m)).mem.vals.length) tv,.slice pa ((stN c (n+1) (ini m)).mem.arrs.length) ta],.slice pu ((evN c (n+1) (ini m)).length) tu,.bool true]) (by simp [results,Tryz.results11,go_sem,l1,m1]) rfl (by exact by rw [HR.out.1,HR.out.2.1,HR.out.2.2];exact ⟨_,_,us,_,rfl,oM.out.mono (by simp;omega),Om oE.out (by simp;omega),tt⟩)
theorem runR_iff {c:Cd} {s:Ms} {n:Nat} (h:runR c s=some n):n < 20000∧(∀ j,j < n→¬opAt c s j=13)∧opAt c s n=13:=by
 have a0:∀ (f k:Nat),(∀ j,j < k→¬opAt c s j=13)→fstH (fun n=>opAt c s n == 13) f k=some n→n < k+f∧(∀ j,j < n→¬opAt c s j=13)∧opAt c s n=13:=by
  intro f
  induction f with
  | zero=>intro k _ h;simp [fstH] at h
  | succ f ih =>
   intro k hk h;rw [fstH] at h;by_cases hp:(opAt c s k == 13)=true
   ·rw [if_pos hp] at h;have:=Si h
    subst this;exact ⟨by omega,hk,by simpa using hp⟩
   rw [if_neg hp] at h
   have:=ih (k+1) (fun j hj=>by
    by_cases e:j=k
    ·subst e;simpa using hp
    exact hk j (by omega)) h
   exact ⟨by omega,this.2⟩
 have:=a0 20000 0 (fun j hj=>by omega) h
 exact ⟨by omega,this.2⟩
theorem finN_iff {c:Cd} {m:Mm} {n:Nat}:finN c m=some n ↔ goOk c m=true∧n < 20000∧(∀ j,j < n→¬opAt c (ini m) j=13)∧opAt c (ini m) n=13:=by
 cases hg:goOk c m with
 | false=>rw [finN_no hg];simp
 | true =>
  rw [finN_yes hg];constructor
  ·intro h;exact ⟨rfl,runR_iff h⟩
  rintro ⟨_,h1,h2,h3⟩;exact runR_some h1 h2 h3
def pos (l:List Ins) (k:Nat):Nat:=cnt l k+(if needAt l k=true then 1 else 0)
structure ReadsS (w:World) (vr vx vy:Value) (s:Ms):Prop where
 r:Reads w 1 vr s.regs.length (ints s.regs)
 m:ReadsM w vx vy s.mem
theorem ReadsS.below {w w':World} {vr vx vy:Value} {s:Ms} (h:ReadsS w vr vx vy s) (hb:Below w.heap.size w w'):ReadsS w' vr vx vy s:=⟨h.r.below hb,h.m.below hb⟩
def stopAt (c:Cd) (s:Ms) (n:Nat):Bool:=opAt c s n == 12||opAt c s n == 13
def pathN (c:Cd) (s:Ms):Nat:=match fstH (stopAt c s) 4 0 with | some n=>n+1 | none=>4
def pathE (c:Cd) (s:Ms):List Ev:=evN c (pathN c s) s
def othPc (x:Ins) (pc p:Int):Int:=if p=pc+1 then x.b else pc+1
def othS (c:Cd) (s:Ms):Ms:=⟨othPc (insAt c s.pc) s.pc (stPc (insAt c s.pc) s),(stp (insAt c s.pc) s).regs,(stp (insAt c s.pc) s).mem⟩
def wrAt (ws:List Bool) (n:Nat):Bool:=(ws[n]?).getD false
def spX (c:Cd) (ws:List Bool) (s:Ms) (n:Nat):List Ev:=if isBr (insAt c (stN c n s).pc).op=true then (if wrAt ws (brN c n s)=true then pathE c (othS c (stN c n s)) else []) else []
def spN (c:Cd) (ws:List Bool):Nat→Ms→List Ev
 | 0,_=>[]
 | n+1,s=>(spN c ws n s++stEvs (insAt c (stN c n s).pc) (stN c n s))++spX c ws s n
theorem mem_small {c:Cd} {s:Ms} (hok:codeOk c=true) (h:MsOk c s):s.regs.length≤1048576∧s.mem.vals.length≤1048576∧s.mem.arrs.length≤1048576∧pre2 s.mem.arrs s.mem.arrs.length≤1048576:=by
 obtain ⟨m1,m2,_,m4⟩:=memOk_parts h.mem;obtain ⟨d1,d2⟩:=declOk_len (codeOk_decl hok);refine ⟨by rw [h.regs];omega,by omega,by omega,?_⟩
 have hp:∀ (rs:List (List Int)),(∀ a ∈ rs,a.length=4)→∀ k,k≤rs.length→pre2 rs k≤4*k:=by
  intro rs hr k
  induction k with
  | zero=>intro _;simp [pre2]
  | succ k ih =>
   intro hk;rw [pre2_succ rs k (by omega)];have h1:=ih (by omega);have h2:=hr (rs[k]'(by omega)) (List.getElem_mem _);omega
 have:=hp s.mem.arrs (fun a ha=>(m4 a ha).1) s.mem.arrs.length Lr
 omega
def arity (k:Int):Int:=if k=1∨k=2 then 0 else if k=3 then 1 else if 4≤k∧k≤10 then 2 else if k=11 then 3 else -1
def limitOf (nv na:Nat) (k:Int):Int:=if k=1 then 256 else if k=2 then nv else if k=3 then na else 1
def atomK (k:Int):Bool:=k == 1||k == 2
def exOk (nv na:Nat):Nat→Ex→Bool
 | 0,_=>false
 | d+1,e=>((e.kids.length:Int) == arity e.k)&&(decide (0≤e.v)&&(decide (e.v < limitOf nv na e.k)&&(e.kids.all (exOk nv na d)&&(!(e.k == 3)||(match e.kids with | []=>false | x::_=>atomK x.k)))))
def exCnt:Nat→Ex→Int
 | 0,_=>1
 | d+1,e=>1+(e.kids.map (exCnt d)).sum
def bnd3:Nat→Nat
 | 0=>0
 | d+1=>1+3*bnd3 d
def Thin:Nat→Ex→Prop
 | 0,_=>False
 | d+1,e=>e.kids.length≤3∧∀ x ∈ e.kids,Thin d x
theorem Thin.mono:∀ {d d':Nat} {e:Ex},d≤d'→Thin d e→Thin d' e:=by
 intro d
 induction d with
 | zero=>intro d' e _ h;cases h
 | succ d ih =>
  intro d' e hd h
  cases d' with
  | zero=>omega
  | succ d'=>exact ⟨h.1,fun x hx=>ih (by omega) (h.2 x hx)⟩
def noneE (e:Ex):Bool:=e.k == 0&&(e.v == 0&&decide (e.kids.length=0))
theorem l2Arity_any (k:Int) (w:World):Calls Tryz.prog 144 #[.int .i64 k] w fun e w'=>e=.returned (.int .i64 (arity k))∧w'=w:=by
 have hc:k=1∨k=2∨k=3∨(4≤k∧k≤10)∨k=11∨k < 1∨11 < k:=by omega
 rcases hc with rfl | rfl | rfl | h | rfl | h | h
 ·go_enter Tryz.func144,Tryz.ntmps144
  go_wp2
  go_ret
  exact ⟨rfl,rfl⟩
 ·go_enter Tryz.func144,Tryz.ntmps144
  go_wp2
  go_ret
  exact ⟨rfl,rfl⟩
 ·go_enter Tryz.func144,Tryz.ntmps144
  go_wp2
  go_ret
  exact ⟨rfl,rfl⟩
 ·have HA:Hid (arity k=2):=Hi (by unfold arity;rw [if_neg (by omega),if_neg (by omega),if_pos h]);obtain ⟨h1,h2⟩:=h;have n1:(k == 1)=false:=by simp;omega
  have n2:(k == 2)=false:=by simp;omega
  have n3:(k == 3)=false:=by simp;omega
  go_enter Tryz.func144,Tryz.ntmps144
  go_wp2
  go_ret
  exact ⟨ret_int HA.out.symm,rfl⟩
 ·go_enter Tryz.func144,Tryz.ntmps144
  go_wp2
  go_ret
  exact ⟨rfl,rfl⟩
 ·have HA:Hid (arity k=-1):=Hi (by unfold arity;rw [if_neg (by omega),if_neg (by omega),if_neg (by omega),if_neg (by omega)]);have n1:(k == 1)=false:=by simp;omega
  have n2:(k == 2)=false:=by simp;omega
  have n3:(k == 3)=false:=by simp;omega
  have n4:(k == 11)=false:=by simp;omega
  have n5:decide (4≤k)=false:=by simp;omega
  go_enter Tryz.func144,Tryz.ntmps144
  go_wp2
  go_ret
  exact ⟨ret_int HA.out.symm,rfl⟩
 have HA:Hid (arity k=-1):=Hi (by unfold arity;rw [if_neg (by omega),if_neg (by omega),if_neg (by omega),if_neg (by omega)]);have n1:(k == 1)=false:=by simp;omega
 have n2:(k == 2)=false:=by simp;omega
 have n3:(k == 3)=false:=by simp;omega
 have n4:(k == 11)=false:=by simp;omega
 have n5:decide (k≤10)=false:=by simp;omega
 go_enter Tryz.func144,Tryz.ntmps144
 go_wp2
 go_ret
 exact ⟨ret_int HA.out.symm,rfl⟩
theorem l2Limit_any (a0 a1:Option Addr) (nv c0 na c1:Nat) (vb:Value) (k:Int) (w:World):Calls Tryz.prog 148 #[.agg #[.slice a0 nv c0,.slice a1 na c1,vb],.int .i64 k] w fun e w'=>e=.returned (.int .i64 (limitOf nv na k))∧Below w.heap.size w w':=by
 have b0:=bal (Bs w) (.cells #[.slice a0 nv c0,.slice a1 na c1,vb] 57);have hc:k=1∨k=2∨k=3∨(k≠1∧k≠2∧k≠3):=by omega
 rcases hc with rfl | rfl | rfl | h
 ·go_enter Tryz.func148,Tryz.ntmps148
  go_wp2
  go_ret
  exact ⟨rfl,b0⟩
 ·go_enter Tryz.func148,Tryz.ntmps148
  go_wp2
  go_ret
  exact ⟨rfl,b0⟩
 ·go_enter Tryz.func148,Tryz.ntmps148
  go_wp2
  go_ret
  exact ⟨rfl,b0⟩
 have HA:Hid (limitOf nv na k=1):=Hi (by unfold limitOf;rw [if_neg h.1,if_neg h.2.1,if_neg h.2.2]);have n1:(k == 1)=false:=by simpa using h.1
 have n2:(k == 2)=false:=by simpa using h.2.1
 have n3:(k == 3)=false:=by simpa using h.2.2
 clear h;go_enter Tryz.func148,Tryz.ntmps148
 go_wp2
 go_ret
 exact ⟨ret_int HA.out.symm,b0⟩
theorem l2Atom_any (k v:Int) (u:Value) (w:World):Calls Tryz.prog 143 #[.agg #[.int .i64 k,.int .i64 v,u]] w fun e w'=>e=.returned (.bool (atomK k))∧Below w.heap.size w w':=by
 have a0:=bal (Bs w) (.cells #[.int .i64 k,.int .i64 v,u] 141)
 have hc:(k == 1)=true∨((k == 1)=false∧((k == 2)=true∨(k == 2)=false)):=by
  cases (k == 1) <;> cases (k == 2) <;> simp
 rcases hc with h | ⟨h,h2 | h2⟩
 ·have HB:Hid (atomK k=true):=Hi (by unfold atomK;rw [h];rfl);go_enter Tryz.func143,Tryz.ntmps143
  go_wp2
  go_ret
  exact ⟨ret_bool HB.out.symm,a0⟩
 ·have HB:Hid (atomK k=true):=Hi (by unfold atomK;rw [h,h2];rfl);go_enter Tryz.func143,Tryz.ntmps143
  go_wp2
  go_ret
  exact ⟨ret_bool HB.out.symm,a0⟩
 have HB:Hid (atomK k=false):=Hi (by unfold atomK;rw [h,h2];rfl);go_enter Tryz.func143,Tryz.ntmps143
 go_wp2
 go_ret
 exact ⟨ret_bool HB.out.symm,a0⟩
theorem l2None_any (n:En) (e:Ex) (hk:n.k=e.k) (hv:n.v=e.v) (hn:n.n=e.kids.length) (w:World):Calls Tryz.prog 147 #[.agg #[.int .i64 n.k,.int .i64 n.v,.slice n.p n.n n.c]] w fun r w'=>r=.returned (.bool (noneE e))∧Below w.heap.size w w':=by
 have a0:=bal (Bs w) (.cells #[.int .i64 n.k,.int .i64 n.v,.slice n.p n.n n.c] 141);have HQ:Hid (noneE e=(n.k == 0&&(n.v == 0&&decide (n.n=0)))):=Hi (by unfold noneE;rw [hk,hv,hn]);clear hk hv hn;generalize noneE e=E at *
 obtain ⟨k,v,p,m,c⟩:=n;simp only at *
 have hc:(k == 0)=false∨((k == 0)=true∧((v == 0)=false∨((v == 0)=true∧(¬m=0∨m=0)))):=by
  cases (k == 0) <;> cases (v == 0) <;> simp <;> omega
 rcases hc with h | ⟨h,h2 | ⟨h2,h3 | h3⟩⟩
 ·have HB:Hid (E=false):=Hi (by rw [HQ.out,h];rfl);clear HQ;go_enter Tryz.func147,Tryz.ntmps147
  go_wp2
  go_ret
  exact ⟨ret_bool HB.out.symm,a0⟩
 ·have HB:Hid (E=false):=Hi (by rw [HQ.out,h,h2];rfl);clear HQ;go_enter Tryz.func147,Tryz.ntmps147
  go_wp2
  go_ret
  exact ⟨ret_bool HB.out.symm,a0⟩
 ·have HB:Hid (E=false):=Hi (by rw [HQ.out,h,h2,decide_eq_false h3];rfl);have h4:((m:Int) == 0)=false:=by simp;omega
  clear HQ;go_enter Tryz.func147,Tryz.ntmps147
  go_wp2
  go_ret
  exact ⟨ret_bool HB.out.symm,a0⟩
 subst h3;have HB:Hid (E=true):=Hi (by rw [HQ.out,h,h2];rfl);clear HQ;go_enter Tryz.func147,Tryz.ntmps147
 go_wp2
 go_ret
 exact ⟨ret_bool HB.out.symm,a0⟩
end Go.Proofs.YtnpidfbcbmeijaaGreat
