/-
 Parts of the proofs of the laws FnCodeFenced,FnCountBranches.
-/
import Derived.Test.YtkjedgnepnbkpaaVV
set_option linter.all false
namespace Go.Proofs.Ytkjedgnepnbkpaa
open Go.RowKit
abbrev Own2I:=Own2 ints 3 23
structure OwnMv (w:World) (base:Nat) (vr vv va:Value) (us:List Value) (rs:List Int) (m:Mm):Prop where
 r:w.ownsRow base 3 1 vr rs.length (ints rs)
 v:w.ownsRow base 3 1 vv m.vals.length (ints m.vals)
 a:Own2I w base va us m.arrs
 rv:∀ q,vr.ownBlock=some q→vv.ownBlock=some q→False
 ra:∀ q,vr.ownBlock=some q→¬OwnB2 va us q
 va:∀ q,vv.ownBlock=some q→¬OwnB2 va us q
def OwnMB (vr vv va:Value) (us:List Value) (q:Nat):Prop:=vr.ownBlock=some q∨vv.ownBlock=some q∨OwnB2 va us q
section
variable {w w':World} {base base':Nat} {vr vv va:Value} {us:List Value} {rs:List Int} {m:Mm}
theorem OwnMv.lt (h:OwnMv w base vr vv va us rs m):∀ q,OwnMB vr vv va us q→base≤q∧q < w.heap.size:=by
 rintro q (hq | hq | hq)
 ·exact h.r.lt q hq
 ·exact h.v.lt q hq
 exact h.a.lt q hq
theorem OwnMv.keep (h:OwnMv w base vr vv va us rs m) {S:Nat→Prop} (hc:Chg S w w') (hs:∀ q,OwnMB vr vv va us q→¬S q):OwnMv w' base vr vv va us rs m:=
 ⟨Ow h.r hc (fun q hq=>hs q (Or.inl hq)),Ow h.v hc (fun q hq=>hs q (Or.inr (Or.inl hq))),h.a.keep hc (fun q hq=>hs q (Or.inr (Or.inr hq))),h.rv,h.ra,h.va⟩
theorem OwnMv.below (h:OwnMv w base vr vv va us rs m) (hb:Below w.heap.size w w'):OwnMv w' base vr vv va us rs m:=h.keep (S:=fun _=>False) (Chg.of_below hb) (fun _ _=>id)
theorem OwnMv.mono (h:OwnMv w base vr vv va us rs m) (hb:base'≤base):OwnMv w base' vr vv va us rs m:=⟨Om h.r hb,Om h.v hb,h.a.mono hb,h.rv,h.ra,h.va⟩
theorem OwnMv.far (h:OwnMv w base vr vv va us rs m) (b j:Nat) (x:Value) (hb:¬OwnMB vr vv va us b):OwnMv (w.setCell ⟨b,j,none⟩ x) base vr vv va us rs m:=
 h.keep ((Chg.refl (fun q=>q=b) w).setCell b j x (fun _=>rfl)) (fun _ hq e=>hb (e ▸ hq))
theorem OwnMv.setReg {g n c:Nat} (h:OwnMv w base (.slice (some ⟨g,0,none⟩) n c) vv va us rs m) (k:Nat) (x:Int):OwnMv (w.setCell ⟨g,k,none⟩ (.int .i64 x)) base (.slice (some ⟨g,0,none⟩) n c) vv va us (rs.set k x) m:=by
 have hC:Chg (fun q=>q=g) w (w.setCell ⟨g,k,none⟩ (.int .i64 x)):=(Chg.refl _ _).setCell g k _ (fun _=>rfl)
 have hn:n=rs.length:=by
  obtain ⟨a,c',hs⟩:=Oh h.r
  simp at hs;omega
 subst hn
 refine ⟨?_,Ow h.v hC (fun q hq e=>h.rv q (by subst e;rfl) hq),h.a.keep hC (fun q hq e=>h.ra q (by subst e;rfl) hq),h.rv,h.ra,h.va⟩
 have h1:=(h.r.stored k (.int .i64 x)).1
 rw [ints_set] at h1
 rw [List.length_set];exact h1
theorem OwnMv.setVal {g n c:Nat} (h:OwnMv w base vr (.slice (some ⟨g,0,none⟩) n c) va us rs m) (k:Nat) (x:Int):OwnMv (w.setCell ⟨g,k,none⟩ (.int .i64 x)) base vr (.slice (some ⟨g,0,none⟩) n c) va us rs ⟨m.vals.set k x,m.arrs⟩:=by
 have hC:Chg (fun q=>q=g) w (w.setCell ⟨g,k,none⟩ (.int .i64 x)):=(Chg.refl _ _).setCell g k _ (fun _=>rfl)
 have hn:n=m.vals.length:=by
  obtain ⟨a,c',hs⟩:=Oh h.v
  simp at hs;omega
 subst hn
 refine ⟨Ow h.r hC (fun q hq e=>h.rv q hq (by subst e;rfl)),?_,h.a.keep hC (fun q hq e=>h.va q (by subst e;rfl) hq),h.rv,h.ra,h.va⟩
 have h1:=(h.v.stored k (.int .i64 x)).1
 rw [ints_set] at h1
 simp only [List.length_set];exact h1
theorem OwnMv.setArr {i g n c:Nat} (h:OwnMv w base vr vv va us rs m) (hu:us[i]? = some (.slice (some ⟨g,0,none⟩) n c)) (k:Nat) (x:Int):OwnMv (w.setCell ⟨g,k,none⟩ (.int .i64 x)) base vr vv va us rs ⟨m.vals,m.arrs.set i ((gr m.arrs i).set k x)⟩:=by
 have hC:Chg (fun q=>q=g) w (w.setCell ⟨g,k,none⟩ (.int .i64 x)):=(Chg.refl _ _).setCell g k _ (fun _=>rfl)
 have hi:i < m.arrs.length:=by rw [← h.a.len];exact (List.getElem?_eq_some_iff.1 hu).1
 have b0:gr m.arrs i=m.arrs[i]:=by unfold gr;rw [Int.toNat_natCast,List.getElem?_eq_getElem hi];rfl
 have a0:=h.a.row i _ _ hu (List.getElem?_eq_getElem hi)
 have hn:n=m.arrs[i].length:=by
  obtain ⟨a,c',hs⟩:=Oh a0
  simp at hs;omega
 subst hn
 have hg:OwnB2 va us g:=Or.inr ⟨i,_,hu,rfl⟩
 have h1:=(a0.stored k (.int .i64 x)).1
 rw [ints_set] at h1
 refine ⟨Ow h.r hC (fun q hq e=>h.ra q hq (e ▸ hg)),Ow h.v hC (fun q hq e=>h.va q hq (e ▸ hg)),?_,h.rv,h.ra,h.va⟩
 rw [b0]
 refine h.a.turn hu (r:=m.arrs[i].set k x) (by rw [List.length_set];exact h1) ?_ (by decide)
 exact (Chg.refl _ _).setCell g k _ (fun _=>rfl)
theorem OwnMv.regAt {g n c:Nat} (h:OwnMv w base (.slice (some ⟨g,0,none⟩) n c) vv va us rs m) (k:Nat) (hk:k < rs.length):w.cell? ⟨g,k,none⟩=some (.int .i64 (gi rs k)):=by
 have hn:n=rs.length:=by
  obtain ⟨a,c',hs⟩:=Oh h.r
  simp at hs;omega
 subst hn
 rw [h.r.cellAt k (by omega),ints_at _ _ hk]
 unfold gi;rw [Int.toNat_natCast,List.getElem?_eq_getElem hk];rfl
theorem OwnMv.valAt {g n c:Nat} (h:OwnMv w base vr (.slice (some ⟨g,0,none⟩) n c) va us rs m) (k:Nat) (hk:k < m.vals.length):w.cell? ⟨g,k,none⟩=some (.int .i64 (gi m.vals k)):=by
 have hn:n=m.vals.length:=by
  obtain ⟨a,c',hs⟩:=Oh h.v
  simp at hs;omega
 subst hn
 rw [h.v.cellAt k (by omega),ints_at _ _ hk]
 unfold gi;rw [Int.toNat_natCast,List.getElem?_eq_getElem hk];rfl
theorem OwnMv.arrAt {g n c:Nat} (h:OwnMv w base vr vv (.slice (some ⟨g,0,none⟩) n c) us rs m) (i:Nat) (hi:i < m.arrs.length) (hl:(gr m.arrs i).length=4) :
  ∃ ga ca,w.cell? ⟨g,i,none⟩=some (.slice (some ⟨ga,0,none⟩) 4 ca)∧us[i]? = some (.slice (some ⟨ga,0,none⟩) 4 ca)∧∀ k,k < 4→w.cell? ⟨ga,k,none⟩=some (.int .i64 (gi (gr m.arrs i) k))∧w.frozen? ⟨ga,k,none⟩=false:=by
 obtain ⟨u,hu,a0⟩:=h.a.rowAt i hi
 have b0:gr m.arrs i=m.arrs[i]:=by unfold gr;rw [Int.toNat_natCast,List.getElem?_eq_getElem hi];rfl
 rw [b0] at hl ⊢
 rw [hl] at a0
 obtain ⟨ga,ca,rfl⟩:=own_pos a0 (by omega)
 have hn:n=m.arrs.length:=by
  obtain ⟨a,c',hs⟩:=Oh h.a.out
  simp at hs;omega
 subst hn
 refine ⟨ga,ca,?_,hu,fun k hk=>⟨?_,a0.frozenAt k⟩⟩
 ·rw [h.a.outAt.cellAt i (by omega)];exact hu
 rw [a0.cellAt k (by omega),ints_at _ _ (by omega)]
 unfold gi;rw [Int.toNat_natCast,List.getElem?_eq_getElem (by omega)];rfl
end
end Go.Proofs.Ytkjedgnepnbkpaa
namespace Go.Proofs.Ytkjedgnepnbkpaa
open Go.RowKit
structure OwnS (w:World) (base b:Nat) (vr vv va:Value) (us:List Value) (s:Ms):Prop where
 c0:w.cell? ⟨b,0,none⟩=some (.int .i64 s.pc)
 c1:w.cell? ⟨b,1,none⟩=some vr
 c2:w.cell? ⟨b,2,none⟩=some vv
 c3:w.cell? ⟨b,3,none⟩=some va
 f0:w.frozen? ⟨b,0,none⟩=false
 own:OwnMv w base vr vv va us s.regs s.mem
 ob:¬OwnMB vr vv va us b
theorem OwnS.keep {w w':World} {base b:Nat} {vr vv va:Value} {us:List Value} {s:Ms} (h:OwnS w base b vr vv va us s) {S:Nat→Prop} (hc:Chg S w w') (hb:¬S b) (hs:∀ q,OwnMB vr vv va us q→¬S q):OwnS w' base b vr vv va us s:=
 ⟨Gc hc h.c0 hb,Gc hc h.c1 hb,Gc hc h.c2 hb,Gc hc h.c3 hb,Gf hc (Lc h.c0) h.f0 hb,h.own.keep hc hs,h.ob⟩
theorem OwnS.below {w w':World} {base b:Nat} {vr vv va:Value} {us:List Value} {s:Ms} (h:OwnS w base b vr vv va us s) (hb:Below w.heap.size w w'):OwnS w' base b vr vv va us s:=h.keep (S:=fun _=>False) (Chg.of_below hb) id (fun _ _=>id)
theorem OwnS.lt {w:World} {base b:Nat} {vr vv va:Value} {us:List Value} {s:Ms} (h:OwnS w base b vr vv va us s):b < w.heap.size:=Lc h.c0
structure StepW (S:Nat→Prop) (w W:World) (base b:Nat) (vr vv va:Value) (us:List Value) (rs:List Int) (m:Mm) (tb:Nat) (u:Value) (E:List Ev) (pc:Int):Prop where
 c0:W.cell? ⟨b,0,none⟩=some (.int .i64 pc)
 c1:W.cell? ⟨b,1,none⟩=some vr
 c2:W.cell? ⟨b,2,none⟩=some vv
 c3:W.cell? ⟨b,3,none⟩=some va
 f0:W.frozen? ⟨b,0,none⟩=false
 own:OwnMv W base vr vv va us rs m
 ob:¬OwnMB vr vv va us b
 ev:W.ownsRow tb 47 2 u E.length (evs E)
 eb:∀ q,u.ownBlock=some q→¬q=b∧¬OwnMB vr vv va us q∧(S q∨w.heap.size≤q)
 sb:S b∨w.heap.size≤b
 sm:∀ q,OwnMB vr vv va us q→S q
 chg:Chg S w W
section
variable {S:Nat→Prop} {w W W':World} {base b tb:Nat} {vr vv va u:Value} {us:List Value} {rs:List Int} {m:Mm} {E:List Ev} {pc:Int}
theorem Chg.setNew {S:Nat→Prop} {w W:World} (h:Chg S w W) (b j:Nat) (x:Value) (hs:S b∨w.heap.size≤b):Chg S w (W.setCell ⟨b,j,none⟩ x):=by
 refine ⟨h.os,h.tape,h.output,by simp only [Ss];exact h.size,fun k hk hn=>?_⟩
 have a0:k≠b:=fun e=>by
  rcases hs with hs | hs
  ·exact hn (e ▸ hs)
  omega
 rw [← h.block k hk hn]
 exact Below.heap_setCell _ _ _ _ (by simpa using a0)
theorem Chg.sN {S:Nat→Prop} {w W:World} (h:Chg S w W) (b j:Nat) (x:Value) (hs:w.heap.size≤b:=by omega):Chg S w (W.setCell ⟨b,j,none⟩ x):=h.setNew b j x (Or.inr hs)
theorem StepW.keep (h:StepW S w W base b vr vv va us rs m tb u E pc) (hb:Below W.heap.size W W'):StepW S w W' base b vr vv va us rs m tb u E pc:=
 ⟨Kc hb h.c0,Kc hb h.c1,Kc hb h.c2,Kc hb h.c3,Kf hb (Lc h.c0) h.f0,h.own.below hb,h.ob,Ob h.ev hb,h.eb,h.sb,h.sm,h.chg.trans ((Chg.of_below hb).mono (fun _ _=>id):Chg S W W')⟩
theorem StepW.drew (h:StepW S w W base b vr vv va us rs m tb u E pc):StepW S w W.drew base b vr vv va us rs m tb u E pc:=h.keep (Below.drew (Bs W))
theorem StepW.put (h:StepW S w W base b vr vv va us rs m tb u E pc) (g j:Nat) (x:Value) (hg:OwnMB vr vv va us g) {rs':List Int} {m':Mm} (ho:OwnMv (W.setCell ⟨g,j,none⟩ x) base vr vv va us rs' m'):StepW S w (W.setCell ⟨g,j,none⟩ x) base b vr vv va us rs' m' tb u E pc:=by
 have a0:¬b=g:=fun e=>h.ob (e ▸ hg)
 exact ⟨Nc h.c0 (fun e=>a0 e.1) x,Nc h.c1 (fun e=>a0 e.1) x,Nc h.c2 (fun e=>a0 e.1) x,Nc h.c3 (fun e=>a0 e.1) x,Fs h.f0 x,ho,h.ob,Oe h.ev g j (fun e=>(h.eb g e).2.1 hg) x,h.eb,h.sb,h.sm,h.chg.setNew g j x (Or.inl (h.sm g hg))⟩
theorem StepW.reg {g n c:Nat} (h:StepW S w W base b (.slice (some ⟨g,0,none⟩) n c) vv va us rs m tb u E pc) (k:Nat) (x:Int):StepW S w (W.setCell ⟨g,k,none⟩ (.int .i64 x)) base b (.slice (some ⟨g,0,none⟩) n c) vv va us (rs.set k x) m tb u E pc:=
 h.put g k _ (Or.inl rfl) (h.own.setReg k x)
theorem StepW.val {g n c:Nat} (h:StepW S w W base b vr (.slice (some ⟨g,0,none⟩) n c) va us rs m tb u E pc) (k:Nat) (x:Int):StepW S w (W.setCell ⟨g,k,none⟩ (.int .i64 x)) base b vr (.slice (some ⟨g,0,none⟩) n c) va us rs ⟨m.vals.set k x,m.arrs⟩ tb u E pc:=
 h.put g k _ (Or.inr (Or.inl rfl)) (h.own.setVal k x)
theorem StepW.arr {i g n c:Nat} (h:StepW S w W base b vr vv va us rs m tb u E pc) (hu:us[i]? = some (.slice (some ⟨g,0,none⟩) n c)) (k:Nat) (x:Int):StepW S w (W.setCell ⟨g,k,none⟩ (.int .i64 x)) base b vr vv va us rs ⟨m.vals,m.arrs.set i ((gr m.arrs i).set k x)⟩ tb u E pc:=
 h.put g k _ (Or.inr (Or.inr (Or.inr ⟨i,_,hu,rfl⟩))) (h.own.setArr hu k x)
theorem StepW.event (h:StepW S w W base b vr vv va us rs m tb u E pc) {u':Value} {e:Ev} (ho:W'.ownsRow tb 47 2 u' (E.length+1) (evs E++[.int .i64 e.1,.int .i64 e.2])) (hC:Chg (fun q=>u.ownBlock=some q) W W') (hg:∀ q,u'.ownBlock=some q→u.ownBlock=some q∨W.heap.size≤q):StepW S w W' base b vr vv va us rs m tb u' (E++[e]) pc:=by
 have hb:¬u.ownBlock=some b:=fun e=>(h.eb b e).1 rfl
 have hm:∀ q,OwnMB vr vv va us q→¬u.ownBlock=some q:=fun q hq e=>(h.eb q e).2.1 hq
 have lb:=Lc h.c0
 have lo:=h.own.lt
 refine ⟨Gc hC h.c0 hb,Gc hC h.c1 hb,Gc hC h.c2 hb,Gc hC h.c3 hb,Gf hC lb h.f0 hb,h.own.keep hC hm,h.ob,by rw [List.length_append,evs_append];exact ho,?_,h.sb,h.sm,?_⟩
 ·intro q hq
  rcases hg q hq with hq | hq
  ·exact h.eb q hq
  refine ⟨by omega,fun h2=>by have:=lo q h2;omega,Or.inr (Nat.le_trans h.chg.size hq)⟩
 refine ⟨hC.os.trans h.chg.os,hC.tape.trans h.chg.tape,hC.output.trans h.chg.output,Nat.le_trans h.chg.size hC.size,fun q hq hn=>?_⟩
 have h1:=h.chg.size
 exact (hC.block q (by omega) (fun e=>by
  rcases (h.eb q e).2.2 with h2 | h2
  ·exact hn h2
  omega)).trans (h.chg.block q hq hn)
theorem StepW.fin (h:StepW S w W base b vr vv va us rs m tb u E pc) (p:Int) :
  (W.setCell ⟨b,0,none⟩ (.int .i64 p)).ownsRow tb 47 2 u E.length (evs E)∧OwnS (W.setCell ⟨b,0,none⟩ (.int .i64 p)) base b vr vv va us ⟨p,rs,m⟩∧Chg S w (W.setCell ⟨b,0,none⟩ (.int .i64 p)):=
 ⟨Oe h.ev b 0 (fun e=>(h.eb b e).1 rfl) _,⟨Tc W b 0 _ h.c0,Nc h.c1 (by simp) _,Nc h.c2 (by simp) _,Nc h.c3 (by simp) _,Fs h.f0 _,h.own.far b 0 _ h.ob,h.ob⟩,h.chg.setNew b 0 _ h.sb⟩
end
end Go.Proofs.Ytkjedgnepnbkpaa
namespace Go.Proofs.Ytkjedgnepnbkpaa
open Go.RowKit
def arity (k:Int):Int:=if k=1∨k=2 then 0 else if k=3 then 1 else if 4≤k∧k≤10 then 2 else if k=11 then 3 else -1
def limitOf (nv na:Nat) (k:Int):Int:=if k=1 then 256 else if k=2 then nv else if k=3 then na else 1
def atomK (k:Int):Bool:=k == 1||k == 2
def exOk (nv na:Nat):Nat→Ex→Bool
 | 0,_=>false
 | d+1,e=>((e.kids.length:Int) == arity e.k)&&(decide (0≤e.v)&&(decide (e.v < limitOf nv na e.k)&&(e.kids.all (exOk nv na d)&&(!(e.k == 3)||(match e.kids with | []=>false | x::_=>atomK x.k)))))
def exCnt:Nat→Ex→Int
 | 0,_=>1
 | d+1,e=>1+(e.kids.map (exCnt d)).sum
def Thin:Nat→Ex→Prop
 | 0,_=>False
 | d+1,e=>e.kids.length≤3∧∀ x ∈ e.kids,Thin d x
theorem Thin.mono:∀ {d d':Nat} {e:Ex},d≤d'→Thin d e→Thin d' e:=by
 intro d
 induction d with
 | zero=>intro d' e _ h;cases h
 | succ d ih =>
  intro d' e hd h
  cases d' with
  | zero=>omega
  | succ d'=>exact ⟨h.1,fun x hx=>ih (by omega) (h.2 x hx)⟩
def noneE (e:Ex):Bool:=e.k == 0&&(e.v == 0&&decide (e.kids.length=0))
theorem l2Arity_any (k:Int) (w:World):Calls Try.prog 176 #[.int .i64 k] w fun e w'=>e=.returned (.int .i64 (arity k))∧w'=w:=by
 have hc:k=1∨k=2∨k=3∨(4≤k∧k≤10)∨k=11∨k < 1∨11 < k:=by omega
 rcases hc with rfl | rfl | rfl | h | rfl | h | h
 ·go_enter Try.func176,Try.ntmps176
  go_wp2
  go_ret
  exact ⟨rfl,rfl⟩
 ·go_enter Try.func176,Try.ntmps176
  go_wp2
  go_ret
  exact ⟨rfl,rfl⟩
 ·go_enter Try.func176,Try.ntmps176
  go_wp2
  go_ret
  exact ⟨rfl,rfl⟩
 ·have HA:Hid (arity k=2):=Lib.hid (by unfold arity;rw [if_neg (by omega),if_neg (by omega),if_pos h])
  obtain ⟨h1,h2⟩:=h
  have n1:(k == 1)=false:=by simp;omega
  have n2:(k == 2)=false:=by simp;omega
  have n3:(k == 3)=false:=by simp;omega
  go_enter Try.func176,Try.ntmps176
  go_wp2
  go_ret
  exact ⟨ret_int HA.out.symm,rfl⟩
 ·go_enter Try.func176,Try.ntmps176
  go_wp2
  go_ret
  exact ⟨rfl,rfl⟩
 ·have HA:Hid (arity k=-1):=Lib.hid (by unfold arity;rw [if_neg (by omega),if_neg (by omega),if_neg (by omega),if_neg (by omega)])
  have n1:(k == 1)=false:=by simp;omega
  have n2:(k == 2)=false:=by simp;omega
  have n3:(k == 3)=false:=by simp;omega
  have n4:(k == 11)=false:=by simp;omega
  have n5:decide (4≤k)=false:=by simp;omega
  go_enter Try.func176,Try.ntmps176
  go_wp2
  go_ret
  exact ⟨ret_int HA.out.symm,rfl⟩
 have HA:Hid (arity k=-1):=Lib.hid (by unfold arity;rw [if_neg (by omega),if_neg (by omega),if_neg (by omega),if_neg (by omega)])
 have n1:(k == 1)=false:=by simp;omega
 have n2:(k == 2)=false:=by simp;omega
 have n3:(k == 3)=false:=by simp;omega
 have n4:(k == 11)=false:=by simp;omega
 have n5:decide (k≤10)=false:=by simp;omega
 go_enter Try.func176,Try.ntmps176
 go_wp2
 go_ret
 exact ⟨ret_int HA.out.symm,rfl⟩
theorem l2Limit_any (a0 a1:Option Addr) (nv c0 na c1:Nat) (vb:Value) (k:Int) (w:World):Calls Try.prog 180 #[.agg #[.slice a0 nv c0,.slice a1 na c1,vb],.int .i64 k] w fun e w'=>e=.returned (.int .i64 (limitOf nv na k))∧Below w.heap.size w w':=by
 have b0:=bal (Bs w) (.cells #[.slice a0 nv c0,.slice a1 na c1,vb] 110)
 have hc:k=1∨k=2∨k=3∨(k≠1∧k≠2∧k≠3):=by omega
 rcases hc with rfl | rfl | rfl | h
 ·go_enter Try.func180,Try.ntmps180
  go_wp2
  go_ret
  exact ⟨rfl,b0⟩
 ·go_enter Try.func180,Try.ntmps180
  go_wp2
  go_ret
  exact ⟨rfl,b0⟩
 ·go_enter Try.func180,Try.ntmps180
  go_wp2
  go_ret
  exact ⟨rfl,b0⟩
 have HA:Hid (limitOf nv na k=1):=Lib.hid (by unfold limitOf;rw [if_neg h.1,if_neg h.2.1,if_neg h.2.2])
 have n1:(k == 1)=false:=by simpa using h.1
 have n2:(k == 2)=false:=by simpa using h.2.1
 have n3:(k == 3)=false:=by simpa using h.2.2
 clear h
 go_enter Try.func180,Try.ntmps180
 go_wp2
 go_ret
 exact ⟨ret_int HA.out.symm,b0⟩
theorem l2Atom_any (k v:Int) (u:Value) (w:World):Calls Try.prog 175 #[.agg #[.int .i64 k,.int .i64 v,u]] w fun e w'=>e=.returned (.bool (atomK k))∧Below w.heap.size w w':=by
 have a0:=bal (Bs w) (.cells #[.int .i64 k,.int .i64 v,u] 161)
 have hc:(k == 1)=true∨((k == 1)=false∧((k == 2)=true∨(k == 2)=false)):=by
  cases (k == 1) <;> cases (k == 2) <;> simp
 rcases hc with h | ⟨h,h2 | h2⟩
 ·have HB:Hid (atomK k=true):=Lib.hid (by unfold atomK;rw [h];rfl)
  go_enter Try.func175,Try.ntmps175
  go_wp2
  go_ret
  exact ⟨ret_bool HB.out.symm,a0⟩
 ·have HB:Hid (atomK k=true):=Lib.hid (by unfold atomK;rw [h,h2];rfl)
  go_enter Try.func175,Try.ntmps175
  go_wp2
  go_ret
  exact ⟨ret_bool HB.out.symm,a0⟩
 have HB:Hid (atomK k=false):=Lib.hid (by unfold atomK;rw [h,h2];rfl)
 go_enter Try.func175,Try.ntmps175
 go_wp2
 go_ret
 exact ⟨ret_bool HB.out.symm,a0⟩
theorem l2None_any (n:En) (e:Ex) (hk:n.k=e.k) (hv:n.v=e.v) (hn:n.n=e.kids.length) (w:World):Calls Try.prog 179 #[.agg #[.int .i64 n.k,.int .i64 n.v,.slice n.p n.n n.c]] w fun r w'=>r=.returned (.bool (noneE e))∧Below w.heap.size w w':=by
 have a0:=bal (Bs w) (.cells #[.int .i64 n.k,.int .i64 n.v,.slice n.p n.n n.c] 161)
 have HQ:Hid (noneE e=(n.k == 0&&(n.v == 0&&decide (n.n=0)))):=Lib.hid (by unfold noneE;rw [hk,hv,hn])
 clear hk hv hn
 generalize noneE e=E at *
 obtain ⟨k,v,p,m,c⟩:=n
 simp only at *
 have hc:(k == 0)=false∨((k == 0)=true∧((v == 0)=false∨((v == 0)=true∧(¬m=0∨m=0)))):=by
  cases (k == 0) <;> cases (v == 0) <;> simp <;> omega
 rcases hc with h | ⟨h,h2 | ⟨h2,h3 | h3⟩⟩
 ·have HB:Hid (E=false):=Lib.hid (by rw [HQ.out,h];rfl)
  clear HQ
  go_enter Try.func179,Try.ntmps179
  go_wp2
  go_ret
  exact ⟨ret_bool HB.out.symm,a0⟩
 ·have HB:Hid (E=false):=Lib.hid (by rw [HQ.out,h,h2];rfl)
  clear HQ
  go_enter Try.func179,Try.ntmps179
  go_wp2
  go_ret
  exact ⟨ret_bool HB.out.symm,a0⟩
 ·have HB:Hid (E=false):=Lib.hid (by rw [HQ.out,h,h2,decide_eq_false h3];rfl)
  have h4:((m:Int) == 0)=false:=by simp;omega
  clear HQ
  go_enter Try.func179,Try.ntmps179
  go_wp2
  go_ret
  exact ⟨ret_bool HB.out.symm,a0⟩
 subst h3
 have HB:Hid (E=true):=Lib.hid (by rw [HQ.out,h,h2];rfl)
 clear HQ
 go_enter Try.func179,Try.ntmps179
 go_wp2
 go_ret
 exact ⟨ret_bool HB.out.symm,a0⟩
end Go.Proofs.Ytkjedgnepnbkpaa
