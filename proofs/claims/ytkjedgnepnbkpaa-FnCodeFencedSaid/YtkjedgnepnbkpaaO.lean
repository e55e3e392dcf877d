/-
 Parts of the proofs of the laws FnCodeFenced,FnCountBranches.
-/
import Derived.Lib.SmallJoins
import Derived.Test.YtkjedgnepnbkpaaC
set_option linter.all false
namespace Go.Proofs.Ytkjedgnepnbkpaa
open Go.RowKit Go.ChangeShapes Go.WideShapes
variable {H:Type} {enc:TypeId × Value→H} {P:Program} {w:World} {base:Nat} {spare:Nat→Bool} {held:Bool}
theorem rd_bytes {t e:TypeId} {fuel:Nat} {c:Value} {x:DataW H × List MemPlace} (ht:P.underlying t=some (.slice e)) (he:P.underlying e=some (.int .u8)) (hc:P.cellsOf e=1)
  (h:DataW.trod enc P w base spare held fuel t [c]=some x):∃ xs:List Int,Reads w 1 c xs.length (xs.map (Value.int .u8))∧∀ n ∈ xs,0≤n∧n < 256:=by
 rcases open_ints ht he hc h with ⟨hcs,_⟩ | ⟨a,len,cap,zs,hcs,_,hl,hm,hz,_,hcell,hwz⟩
 ·simp only [List.cons.injEq,and_true] at hcs
  subst hcs
  exact ⟨[],Ro (World.ownsRow_nil w 0 0 1) (by simp),fun n hn=>by cases hn⟩
 simp only [List.cons.injEq,and_true] at hcs
 subst hcs
 have g0:len≤zs.length:=by rw [hz];split <;> omega
 have d0:(zs.take len).length=len:=by rw [List.length_take];omega
 refine ⟨zs.take len,?_,fun n hn=>by have h:=hwz n (List.mem_of_mem_take hn);simp [Lit.wf,IntKind.min,IntKind.max,IntKind.bits,IntKind.signed] at h;omega⟩
 rw [d0]
 obtain ⟨b,f0,b0⟩:=a
 refine ⟨by rw [List.length_map,d0];omega,by unfold maxLen at hm;omega,some ⟨b,f0,b0⟩,cap,b,f0,rfl,⟨hl,fun h=>by cases h⟩,?_,?_⟩
 ·intro h0
  have c0:=hcell 0 (by omega)
  have a0:b0=none:=by simpa [Addr.add] using World.cell?_spot c0
  subst a0
  exact ⟨rfl,by have:=World.block_lt_of_cell? w _ c0;simpa [Addr.add] using this⟩
 intro j hj
 have hj':j < len:=by rw [List.length_map,d0] at hj;exact hj
 have c0:=hcell 0 (by omega)
 have a0:b0=none:=by simpa [Addr.add] using World.cell?_spot c0
 subst a0
 have e0:=hcell j (by omega)
 rw [addr_add] at e0
 rw [e0,List.getElem_map,List.getElem_take]
 congr 2
 simp only [List.getD_eq_getElem?_getD]
 rw [List.getElem?_eq_getElem (by omega)]
 rfl
theorem op_bytes {r:Reach} {b0:Nat} {t e:TypeId} {v:Value} {d:DataW H} {p:List MemPlace} (ht:P.underlying t=some (.slice e)) (he:P.underlying e=some (.int .u8)) (hc:P.cellsOf e=1)
  (hv:Value.okWide P w r b0 t v) (h:DataW.Trod enc P w base spare held t v d p) :
  ∃ xs:List Int,Reads w 1 v xs.length (xs.map (Value.int .u8))∧∀ n ∈ xs,0≤n∧n < 256:=by
 obtain ⟨a,d0,a0,rfl⟩:=okWide_slice ht hv
 obtain ⟨c0,hf⟩:=h
 exact rd_bytes ht he hc (c:=.slice a d0 a0) (by simpa [Value.cells] using hf)
end Go.Proofs.Ytkjedgnepnbkpaa
namespace Go.Proofs.Ytkjedgnepnbkpaa
open Go.RowKit
theorem info_bool:(Try.prog.info? 4).map (fun i=>(i.zero,i.size,i.bytes))=some (some (.bool false),1,1):=by kernel_rfl
theorem mk_boolF (n:Nat) (h:n≤1073741824) (u:World):(Instr.makeSlice 66 (.int .i64 n) (.int .i64 n)).run Try.prog u =
  .ok (.slice (some ⟨u.heap.size,0,none⟩) n n) (u.alloc (.cells (madeCells #[.bool false] n) 4)):=by
 obtain ⟨i0,hi,a0,b0,c0⟩:=info_parts info_bool
 have h:=run_make (P:=Try.prog) u 66 4 i0 (.bool false) Try.underlying66 hi a0 .i64 .i64 n n (by omega) (Int.le_refl _) (by rw [c0];omega) (by omega)
 rw [Int.toNat_natCast,b0,Nat.mul_one] at h
 exact h
theorem info_Instr:(Try.prog.info? 32).map (fun i=>(i.zero,i.size,i.bytes))=some (some (.agg #[.int .i64 0,.int .i64 0,.int .i64 0,.int .i64 0,.int .i64 0]),5,40):=by kernel_rfl
theorem Ac {w:World} {a:Addr} {x:Value} (h:w.cell? a=some x) (o:Obj):(w.alloc o).cell? a=some x:=by
 have hb:=World.block_lt_of_cell? w a h
 rw [← h]
 exact World.cell?_of_block (w:=w) (heap_alloc_old w o hb)
theorem Nc {w:World} {b j b' j':Nat} {x:Value} (h:w.cell? ⟨b',j',none⟩=some x) (hn:¬(b'=b∧j'=j)) (u:Value):(w.setCell ⟨b,j,none⟩ u).cell? ⟨b',j',none⟩=some x:=by
 rw [World.cell?_setCell_other w ⟨b,j,none⟩ ⟨b',j',none⟩ u (fun e=>hn (by simp only [Addr.mk.injEq] at e;omega))]
 exact h
theorem Nn {w:World} {b j b' j':Nat} {x:Value} (h:w.cell? ⟨b',j',none⟩=some x) (u:Value) (hn:¬(b'=b∧j'=j):=by omega):(w.setCell ⟨b,j,none⟩ u).cell? ⟨b',j',none⟩=some x:=Nc h hn u
theorem Wc {w:World} {cs:Array Value} {t:TypeId} {b j:Nat} {x:Value} (hb:b=w.heap.size) (h:cs[j]? = some x):(w.alloc (.cells cs t)).cell? ⟨b,j,none⟩=some x:=by
 subst hb
 rw [cell_of_row _ _ j cs t (0,0) (heap_alloc_new w _)];exact h
theorem Fn {w:World} {cs:Array Value} {t:TypeId} {b j:Nat} (hb:b=w.heap.size):(w.alloc (.cells cs t)).frozen? ⟨b,j,none⟩=false:=by
 subst hb
 exact froz_new w cs t j
theorem Fa {w:World} {b j:Nat} {c:Bool} (hb:b < w.heap.size) (h:w.frozen? ⟨b,j,none⟩=c) (o:Obj):(w.alloc o).frozen? ⟨b,j,none⟩=c:=by
 rw [← h]
 exact World.frozen?_of_block (w:=w) (heap_alloc_old w o hb)
theorem Fs {w:World} {a b:Addr} {c:Bool} (h:w.frozen? a=c) (u:Value):(w.setCell b u).frozen? a=c:=(froz_set w b u a).trans h
theorem Gc {S:Nat→Prop} {w w':World} (h:Chg S w w') {b j:Nat} {x:Value} (hc:w.cell? ⟨b,j,none⟩=some x) (hs:¬S b):w'.cell? ⟨b,j,none⟩=some x:=(h.cell j (Lc hc) hs).trans hc
theorem Gg {g b j:Nat} {w w':World} {v:Value} (hc:Chg (fun k=>k=g) w w') (h:w.cell? ⟨b,j,none⟩=some v) (n:¬b=g:=by omega):w'.cell? ⟨b,j,none⟩=some v:=Gc hc h n
theorem Gf {S:Nat→Prop} {w w':World} (h:Chg S w w') {b j:Nat} {c:Bool} (hb:b < w.heap.size) (hc:w.frozen? ⟨b,j,none⟩=c) (hs:¬S b):w'.frozen? ⟨b,j,none⟩=c:=(h.frozen j hb hs).trans hc
theorem own_diff {w:World} {base base':Nat} {e e':TypeId} {sz sz' n n':Nat} {v v':Value} {xs ys:List Value} (h:w.ownsRow base e sz v n xs) (h':w.ownsRow base' e' sz' v' n' ys) (he:e≠e'):∀ q,v.ownBlock=some q→v'.ownBlock=some q→False:=by
 intro q h1 h2
 rcases h.2 with ⟨rfl,_⟩ | ⟨g,cap,cur,rfl,_,hg,_⟩
 ·simp [Value.ownBlock] at h1
 rcases h'.2 with ⟨rfl,_⟩ | ⟨g',cap',cur',rfl,_,hg',_⟩
 ·simp [Value.ownBlock] at h2
 have e1:g=q:=Option.some.inj h1
 have e2:g'=q:=Option.some.inj h2
 subst e1
 subst e2
 rw [hg] at hg'
 simp only [Option.some.injEq,Obj.cells.injEq] at hg'
 exact he hg'.2.1
structure Cd where
 vars:List Int
 arrays:List Int
 list:List Ins
deriving DecidableEq
structure ReadsC (w:World) (va vb vc:Value) (c:Cd):Prop where
 a:Reads w 1 va c.vars.length (ints c.vars)
 b:Reads w 1 vb c.arrays.length (ints c.arrays)
 l:Reads w 5 vc c.list.length (inss c.list)
def ReadB (va vb vc:Value) (c:Cd) (q:Nat):Prop:=
 (∃ o cap,0 < c.vars.length∧va=.slice (some ⟨q,o,none⟩) c.vars.length cap)∨(∃ o cap,0 < c.arrays.length∧vb=.slice (some ⟨q,o,none⟩) c.arrays.length cap)∨(∃ o cap,0 < c.list.length∧vc=.slice (some ⟨q,o,none⟩) c.list.length cap)
theorem ReadsC.lt {w:World} {va vb vc:Value} {c:Cd} (h:ReadsC w va vb vc c):∀ q,ReadB va vb vc c q→q < w.heap.size:=by
 intro q hq
 rcases hq with ⟨o,cap,h0,hv⟩ | ⟨o,cap,h0,hv⟩ | ⟨o,cap,h0,hv⟩
 ·exact reads_lt h.a q o cap h0 hv
 ·exact reads_lt h.b q o cap h0 hv
 exact reads_lt h.l q o cap h0 hv
theorem ReadsC.keep {w w':World} {va vb vc:Value} {c:Cd} (h:ReadsC w va vb vc c) {S:Nat→Prop} (hc:Chg S w w') (hs:∀ q,ReadB va vb vc c q→¬S q):ReadsC w' va vb vc c:=
 ⟨h.a.keep hc (fun b o cap h0 hv=>hs b (Or.inl ⟨o,cap,h0,hv⟩)),h.b.keep hc (fun b o cap h0 hv=>hs b (Or.inr (Or.inl ⟨o,cap,h0,hv⟩))),h.l.keep hc (fun b o cap h0 hv=>hs b (Or.inr (Or.inr ⟨o,cap,h0,hv⟩)))⟩
theorem ReadsC.below {w w':World} {va vb vc:Value} {c:Cd} (h:ReadsC w va vb vc c) (hb:Below w.heap.size w w'):ReadsC w' va vb vc c:=⟨h.a.below hb,h.b.below hb,h.l.below hb⟩
theorem ReadsC.shape {w:World} {va vb vc:Value} {c:Cd} (h:ReadsC w va vb vc c):∃ a0 c0 a1 c1 a2 c2,va=.slice a0 c.vars.length c0∧vb=.slice a1 c.arrays.length c1∧vc=.slice a2 c.list.length c2:=by
 obtain ⟨a0,c0,h0⟩:=reads_shape h.a
 obtain ⟨a1,c1,h1⟩:=reads_shape h.b
 obtain ⟨a2,c2,h2⟩:=reads_shape h.l
 exact ⟨a0,c0,a1,c1,a2,c2,h0,h1,h2⟩
structure OwnC (w:World) (base:Nat) (va vb vc:Value) (c:Cd):Prop where
 a:w.ownsRow base 3 1 va c.vars.length (ints c.vars)
 b:w.ownsRow base 3 1 vb c.arrays.length (ints c.arrays)
 l:w.ownsRow base 32 5 vc c.list.length (inss c.list)
 ab:∀ q,va.ownBlock=some q→vb.ownBlock=some q→False
def OwnB (va vb vc:Value) (q:Nat):Prop:=va.ownBlock=some q∨vb.ownBlock=some q∨vc.ownBlock=some q
theorem OwnC.lt {w:World} {base:Nat} {va vb vc:Value} {c:Cd} (h:OwnC w base va vb vc c):∀ q,OwnB va vb vc q→base≤q∧q < w.heap.size:=by
 intro q hq
 rcases hq with hq | hq | hq
 ·exact h.a.lt q hq
 ·exact h.b.lt q hq
 exact h.l.lt q hq
theorem OwnC.keep {w w':World} {base:Nat} {va vb vc:Value} {c:Cd} (h:OwnC w base va vb vc c) {S:Nat→Prop} (hc:Chg S w w') (hs:∀ q,OwnB va vb vc q→¬S q):OwnC w' base va vb vc c:=
 ⟨Ow h.a hc (fun q hq=>hs q (Or.inl hq)),Ow h.b hc (fun q hq=>hs q (Or.inr (Or.inl hq))),Ow h.l hc (fun q hq=>hs q (Or.inr (Or.inr hq))),h.ab⟩
theorem OwnC.below {w w':World} {base:Nat} {va vb vc:Value} {c:Cd} (h:OwnC w base va vb vc c) (hb:Below w.heap.size w w'):OwnC w' base va vb vc c:=h.keep (S:=fun _=>False) (Chg.of_below hb) (fun _ _=>id)
theorem OwnC.mono {w:World} {base base':Nat} {va vb vc:Value} {c:Cd} (h:OwnC w base va vb vc c) (hb:base'≤base):OwnC w base' va vb vc c:=⟨Om h.a hb,Om h.b hb,Om h.l hb,h.ab⟩
theorem OwnC.reads {w:World} {base:Nat} {va vb vc:Value} {c:Cd} (h:OwnC w base va vb vc c) (h0:c.vars.length≤9223372036854775807) (h1:c.arrays.length≤9223372036854775807) (h2:c.list.length≤9223372036854775807):ReadsC w va vb vc c:=
 ⟨Ro h.a h0,Ro h.b h1,Ro h.l h2⟩
theorem OwnC.shape {w:World} {base:Nat} {va vb vc:Value} {c:Cd} (h:OwnC w base va vb vc c):∃ a0 c0 a1 c1 a2 c2,va=.slice a0 c.vars.length c0∧vb=.slice a1 c.arrays.length c1∧vc=.slice a2 c.list.length c2:=by
 obtain ⟨a0,c0,h0⟩:=Oh h.a
 obtain ⟨a1,c1,h1⟩:=Oh h.b
 obtain ⟨a2,c2,h2⟩:=Oh h.l
 exact ⟨a0,c0,a1,c1,a2,c2,h0,h1,h2⟩
def wi (n lo hi:Int):Bool:=decide (lo≤n∧n≤hi)
def labOk (n:Int):Bool:=wi n 0 3
def labsOk (xs:List Int):Bool:=xs.all labOk
def declOk (xs ys:List Int):Bool:=decide (1≤xs.length∧xs.length≤12)&&(decide (ys.length≤2)&&(labsOk xs&&labsOk ys))
def shp (op:Int):List UInt8:=
 if op=1 then [114,110,45,45] else if op=2 then [114,118,45,45] else if op=3 then [118,114,45,45] else if op=4 then [114,97,114,45] else if op=5 then [97,114,114,45]
 else if op=6 then [114,111,114,114] else if op=7 then [114,114,114,114] else if op=8 then [105,45,45,45] else if op=9 then [114,105,45,45] else if op=10 then [114,105,45,45]
 else if op=11 then [114,45,45,45] else if op=12 then [45,45,45,45] else if op=13 then [45,45,45,45] else []
theorem shp_cases (op:Int):(op < 1∨13 < op)∨op=1∨op=2∨op=3∨op=4∨op=5∨op=6∨op=7∨op=8∨op=9∨op=10∨op=11∨op=12∨op=13:=by omega
theorem shp_none {op:Int} (h:op < 1∨13 < op):shp op=[]:=by unfold shp;repeat rw [if_neg (by omega)]
theorem shp_len {op:Int} (h:¬(op < 1∨13 < op)):(shp op).length=4:=by
 rcases shp_cases op with h' | rfl | rfl | rfl | rfl | rfl | rfl | rfl | rfl | rfl | rfl | rfl | rfl | rfl
 ·exact absurd h' h
 all_goals rfl
def fOk (nv na nl:Nat) (k n:Int):Bool:=
 if k=114 then wi n 0 (13) else if k=118 then wi n 0 ((nv:Int)-1) else if k=97 then wi n 0 ((na:Int)-1) else if k=110 then wi n 0 (255)
 else if k=111 then wi n 4 (10) else if k=105 then wi n 0 ((nl:Int)-1) else n == 0
def flds (x:Ins):List Int:=[x.a,x.b,x.c,x.d]
def insOk (nv na nl:Nat) (x:Ins):Bool:=wi x.op 1 13&&((shp x.op).zip (flds x)).all (fun p=>fOk nv na nl p.1.toNat p.2)
def lastOk (l:List Ins):Bool:=match l.getLast? with | some x=>x.op == 13||x.op == 8 | none=>false
def codeOk (c:Cd):Bool:=declOk c.vars c.arrays&&(decide (1≤c.list.length∧c.list.length≤400)&&(c.list.all (insOk c.vars.length c.arrays.length c.list.length)&&lastOk c.list))
theorem within_any (n lo hi:Int) (w:World) :
  Calls Try.prog 69 #[.int .i64 n,.int .i64 lo,.int .i64 hi] w fun e w'=>e=.returned (.bool (wi n lo hi))∧Below w.heap.size w w':=by
 by_cases h1:lo≤n
 ·by_cases h2:n≤hi
  ·have HD:Hid (wi n lo hi=true):=Lib.hid (decide_eq_true (p:=lo≤n∧n≤hi) ⟨h1,h2⟩)
   go_enter Try.func69,Try.ntmps69
   go_wp2
   go_ret
   exact ⟨ret_bool HD.out.symm,Below.refl _ _⟩
  have HD:Hid (wi n lo hi=false):=Lib.hid (decide_eq_false (p:=lo≤n∧n≤hi) (by omega))
  have h3:decide (n≤hi)=false:=decide_eq_false h2
  clear h2
  go_enter Try.func69,Try.ntmps69
  go_wp2
  go_ret
  exact ⟨ret_bool HD.out.symm,Below.refl _ _⟩
 have HD:Hid (wi n lo hi=false):=Lib.hid (decide_eq_false (p:=lo≤n∧n≤hi) (by omega))
 go_enter Try.func69,Try.ntmps69
 go_wp2
 go_ret
 exact ⟨ret_bool HD.out.symm,Below.refl _ _⟩
theorem iLabelValid_any (n:Int) (w:World) :
  Calls Try.prog 161 #[.int .i64 n] w fun e w'=>e=.returned (.bool (labOk n))∧Below w.heap.size w w':=by
 go_enter Try.func161,Try.ntmps161
 go_wp2_with fail
 refine (within_any n 0 3 _).mono ?_
 rintro e w1 ⟨rfl,hb⟩
 go_wp2
 go_ret
 exact ⟨rfl,hb⟩
theorem notLabel_any (n:Int) (w:World) :
  Calls Try.prog 160 #[.int .i64 n] w fun e w'=>e=.returned (.bool (!labOk n))∧Below w.heap.size w w':=by
 go_enter Try.func160,Try.ntmps160
 go_wp2_with fail
 refine (iLabelValid_any n _).mono ?_
 rintro e w1 ⟨rfl,hb⟩
 go_wp2
 go_ret
 exact ⟨rfl,hb⟩
set_option maxHeartbeats 3200000 in
theorem shape_any (op:Int) (w:World) :
  Calls Try.prog 141 #[.int .i64 op] w fun e w'=>e=.returned (.string ⟨(shp op).toArray⟩)∧Below w.heap.size w w':=by
 rcases shp_cases op with h | rfl | rfl | rfl | rfl | rfl | rfl | rfl | rfl | rfl | rfl | rfl | rfl | rfl
 ·rw [shp_none h]
  have HD:wi op 1 13=false:=decide_eq_false (p:=1≤op∧op≤13) (by omega)
  go_enter Try.func141,Try.ntmps141
  go_wp2_with fail
  refine (within_any op 1 13 _).mono ?_
  rintro e w1 ⟨rfl,hb⟩
  rw [HD]
  clear HD h
  go_wp2
  go_ret
  exact ⟨rfl,hb⟩
 all_goals
  go_enter Try.func141,Try.ntmps141
  go_wp2_with fail
  refine (within_any _ 1 13 _).mono ?_
  rintro e w1 ⟨rfl,hb⟩
  rw [show wi _ 1 13=true from rfl]
  go_wp2
  go_ret
  exact ⟨rfl,bal hb _⟩
def isBr (op:Int):Bool:=op == 9||op == 10
theorem codeOk_all {c:Cd} (h:codeOk c=true):∀ (k:Nat) (hk:k < c.list.length),insOk c.vars.length c.arrays.length c.list.length c.list[k]=true:=by
 intro k hk
 unfold codeOk at h
 simp only [Bool.and_eq_true] at h
 exact List.all_eq_true.1 h.2.2.1 _ (List.getElem_mem hk)
theorem codeOk_len {c:Cd} (h:codeOk c=true):1≤c.list.length∧c.list.length≤400:=by
 unfold codeOk at h
 simp only [Bool.and_eq_true] at h
 exact of_decide_eq_true h.2.1
theorem codeOk_decl {c:Cd} (h:codeOk c=true):declOk c.vars c.arrays=true:=by
 unfold codeOk at h
 simp only [Bool.and_eq_true] at h
 exact h.1
theorem codeOk_last {c:Cd} (h:codeOk c=true):∃ hk:c.list.length-1 < c.list.length,(c.list[c.list.length-1]'hk).op=13∨(c.list[c.list.length-1]'hk).op=8:=by
 have hl:=codeOk_len h
 unfold codeOk at h
 simp only [Bool.and_eq_true] at h
 have h2:=h.2.2.2
 unfold lastOk at h2
 rw [List.getLast?_eq_getElem?,List.getElem?_eq_getElem (by omega)] at h2
 refine ⟨by omega,?_⟩
 simpa using h2
theorem declOk_len {xs ys:List Int} (h:declOk xs ys=true):xs.length≤12∧ys.length≤2:=by
 unfold declOk at h
 simp only [Bool.and_eq_true] at h
 exact ⟨(of_decide_eq_true h.1).2,of_decide_eq_true h.2.1⟩
theorem isBranch_any (op a b c d:Int) (w:World) :
  Calls Try.prog 100 #[.agg #[.int .i64 op,.int .i64 a,.int .i64 b,.int .i64 c,.int .i64 d]] w fun e w'=>e=.returned (.bool (isBr op))∧Below w.heap.size w w':=by
 have hc:(op == 9)=true∨((op == 9)=false∧((op == 10)=true∨(op == 10)=false)):=by
  cases (op == 9) <;> cases (op == 10) <;> simp
 have a0:=bal (Bs w) (.cells #[.int .i64 op,.int .i64 a,.int .i64 b,.int .i64 c,.int .i64 d] 32)
 rcases hc with h | ⟨h,h2 | h2⟩
 ·have HB:Hid (isBr op=true):=Lib.hid (by unfold isBr;rw [h];rfl)
  go_enter Try.func100,Try.ntmps100
  go_wp2
  go_ret
  exact ⟨ret_bool HB.out.symm,a0⟩
 ·have HB:Hid (isBr op=true):=Lib.hid (by unfold isBr;rw [h,h2];rfl)
  go_enter Try.func100,Try.ntmps100
  go_wp2
  go_ret
  exact ⟨ret_bool HB.out.symm,a0⟩
 have HB:Hid (isBr op=false):=Lib.hid (by unfold isBr;rw [h,h2];rfl)
 go_enter Try.func100,Try.ntmps100
 go_wp2
 go_ret
 exact ⟨ret_bool HB.out.symm,a0⟩
theorem l11Branch_any (op a b c d:Int) (w:World) :
  Calls Try.prog 102 #[.agg #[.int .i64 op,.int .i64 a,.int .i64 b,.int .i64 c,.int .i64 d]] w fun e w'=>e=.returned (.bool (isBr op))∧Below w.heap.size w w':=by
 have hc:(op == 9)=true∨((op == 9)=false∧((op == 10)=true∨(op == 10)=false)):=by
  cases (op == 9) <;> cases (op == 10) <;> simp
 have a0:=bal (Bs w) (.cells #[.int .i64 op,.int .i64 a,.int .i64 b,.int .i64 c,.int .i64 d] 32)
 rcases hc with h | ⟨h,h2 | h2⟩
 ·have HB:Hid (isBr op=true):=Lib.hid (by unfold isBr;rw [h];rfl)
  go_enter Try.func102,Try.ntmps102
  go_wp2
  go_ret
  exact ⟨ret_bool HB.out.symm,a0⟩
 ·have HB:Hid (isBr op=true):=Lib.hid (by unfold isBr;rw [h,h2];rfl)
  go_enter Try.func102,Try.ntmps102
  go_wp2
  go_ret
  exact ⟨ret_bool HB.out.symm,a0⟩
 have HB:Hid (isBr op=false):=Lib.hid (by unfold isBr;rw [h,h2];rfl)
 go_enter Try.func102,Try.ntmps102
 go_wp2
 go_ret
 exact ⟨ret_bool HB.out.symm,a0⟩
theorem bools_replicate (n:Nat) (b:Bool):bools (List.replicate n b)=List.replicate n (.bool b):=by simp [bools]
def Bk (w:World) (b:Nat) (vs:List Value):Prop:=∀ j (h:j < vs.length),w.cell? ⟨b,j,none⟩=some vs[j]∧w.frozen? ⟨b,j,none⟩=false
section
variable {w w':World} {b:Nat} {vs:List Value}
theorem Bk.cell (h:Bk w b vs) (j:Nat) {v:Value} (hj:vs[j]? = some v):w.cell? ⟨b,j,none⟩=some v:=by
 obtain ⟨h1,rfl⟩:=List.getElem?_eq_some_iff.1 hj;exact (h j h1).1
theorem Bk.froz (h:Bk w b vs) (j:Nat) (hj:j < vs.length):w.frozen? ⟨b,j,none⟩=false:=(h j hj).2
theorem Bk.lt (h:Bk w b vs) (h0:0 < vs.length):b < w.heap.size:=Lc (h 0 h0).1
theorem Bk.al (h:Bk w b vs) (o:Obj):Bk (w.alloc o) b vs:=fun j hj=>⟨Ac (h j hj).1 o,Fa (Lc (h j hj).1) (h j hj).2 o⟩
theorem Bk.nw {cs:Array Value} {t:TypeId} (hb:b=w.heap.size) (hc:cs.toList=vs):Bk (w.alloc (.cells cs t)) b vs:=fun j hj=>by
 subst hc
 exact ⟨Wc hb (by simp at hj;rw [Array.getElem?_eq_getElem hj];simp),Fn hb⟩
theorem Bk.ne (h:Bk w b vs) {b' j':Nat} (hn:¬b=b') (u:Value):Bk (w.setCell ⟨b',j',none⟩ u) b vs:=fun j hj=>⟨Nc (h j hj).1 (by omega) u,Fs (h j hj).2 u⟩
theorem Bk.at (h:Bk w b vs) (k:Nat) (u:Value):Bk (w.setCell ⟨b,k,none⟩ u) b (vs.set k u):=fun j hj=>by
 rw [List.length_set] at hj
 by_cases hk:k=j
 ·subst hk;rw [List.getElem_set_self];exact ⟨Tc w b k u (h k hj).1,Fs (h k hj).2 u⟩
 rw [List.getElem_set_ne hk];exact ⟨Nn (h j hj).1 u,Fs (h j hj).2 u⟩
theorem Bk.below (h:Bk w b vs) (hb:Below w.heap.size w w'):Bk w' b vs:=fun j hj=>⟨Kc hb (h j hj).1,Kf hb (Lc (h j hj).1) (h j hj).2⟩
theorem Bk.kg {g:Nat} (h:Bk w b vs) (hc:Chg (fun k=>k=g) w w') (n:¬b=g:=by omega):Bk w' b vs:=fun j hj=>⟨Gc hc (h j hj).1 n,Gf hc (Lc (h j hj).1) (h j hj).2 n⟩
theorem Bk.nn (h:Bk w b vs) {b' j':Nat} (u:Value) (hn:¬b=b':=by omega):Bk (w.setCell ⟨b',j',none⟩ u) b vs:=Bk.ne h hn u
theorem Bk.keep {S:Nat→Prop} (h:Bk w b vs) (hc:Chg S w w') (hs:¬S b):Bk w' b vs:=fun j hj=>⟨Gc hc (h j hj).1 hs,Gf hc (Lc (h j hj).1) (h j hj).2 hs⟩
end
end Go.Proofs.Ytkjedgnepnbkpaa
