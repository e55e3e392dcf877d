/-
 Parts of the proofs of the laws FnRemoveDead,FnRemoveDeadLeak,FnSpecFenced,FnSpecMemory.
-/
import Derived.Lib.SmallJoins
import Derived.Test.YtnpidfbcbmeijaaGreatC
set_option linter.all false
namespace Go.Proofs.YtnpidfbcbmeijaaGreat
open Go.RowKit Go.ChangeShapes Go.WideShapes
variable {H:Type} {enc:TypeId × Value→H} {P:Program} {w:World} {base:Nat} {spare:Nat→Bool} {held:Bool}
theorem rd_bytes {t e:TypeId} {fuel:Nat} {c:Value} {x:DataW H × List MemPlace} (ht:P.underlying t=some (.slice e)) (he:P.underlying e=some (.int .u8)) (hc:P.cellsOf e=1)
  (h:DataW.trod enc P w base spare held fuel t [c]=some x):∃ xs:List Int,Reads w 1 c xs.length (xs.map (Value.int .u8))∧∀ n ∈ xs,0≤n∧n < 256:=by
 rcases open_ints ht he hc h with ⟨hcs,_⟩ | ⟨a,len,cap,zs,hcs,_,hl,hm,hz,_,hcell,hwz⟩
 ·simp only [List.cons.injEq,and_true] at hcs;subst hcs;exact ⟨[],Ro (World.ownsRow_nil w 0 0 1) (by simp),fun n hn=>by cases hn⟩
 simp only [List.cons.injEq,and_true] at hcs;subst hcs;have g0:len≤zs.length:=by rw [hz];split <;> omega
 have d0:(zs.take len).length=len:=by rw [List.length_take];omega
 refine ⟨zs.take len,?_,fun n hn=>by have h:=hwz n (List.mem_of_mem_take hn);simp [Lit.wf,IntKind.min,IntKind.max,IntKind.bits,IntKind.signed] at h;omega⟩;rw [d0];obtain ⟨b,f0,b0⟩:=a;refine ⟨by rw [List.length_map,d0];omega,by unfold maxLen at hm;omega,some ⟨b,f0,b0⟩,cap,b,f0,rfl,⟨hl,fun h=>by cases h⟩,?_,?_⟩
 ·intro h0;have c0:=hcell 0 (by omega);have a0:b0=none:=by simpa [Addr.add] using World.cell?_spot c0
  subst a0;exact ⟨rfl,by have:=World.block_lt_of_cell? w _ c0;simpa [Addr.add] using this⟩
 intro j hj;have hj':j < len:=by rw [List.length_map,d0] at hj;exact hj
 have c0:=hcell 0 (by omega);have a0:b0=none:=by simpa [Addr.add] using World.cell?_spot c0
 subst a0;have e0:=hcell j (by omega);rw [addr_add] at e0;rw [e0,List.getElem_map,List.getElem_take];congr 2
 simp only [List.getD_eq_getElem?_getD];rw [List.getElem?_eq_getElem (by omega)];rfl
theorem op_bytes {r:Reach} {b0:Nat} {t e:TypeId} {v:Value} {d:DataW H} {p:List MemPlace} (ht:P.underlying t=some (.slice e)) (he:P.underlying e=some (.int .u8)) (hc:P.cellsOf e=1)
  (hv:Value.okWide P w r b0 t v) (h:DataW.Trod enc P w base spare held t v d p) :
  ∃ xs:List Int,Reads w 1 v xs.length (xs.map (Value.int .u8))∧∀ n ∈ xs,0≤n∧n < 256:=by
 obtain ⟨a,d0,a0,rfl⟩:=okWide_slice ht hv;obtain ⟨c0,hf⟩:=h;exact rd_bytes ht he hc (c:=.slice a d0 a0) (by simpa [Value.cells] using hf)
end Go.Proofs.YtnpidfbcbmeijaaGreat
namespace Go.Proofs.YtnpidfbcbmeijaaGreat
open Go.RowKit
theorem Ac {w:World} {a:Addr} {x:Value} (h:w.cell? a=some x) (o:Obj):(w.alloc o).cell? a=some x:=by
 have hb:=World.block_lt_of_cell? w a h;rw [← h];exact World.cell?_of_block (w:=w) (heap_alloc_old w o hb)
theorem Nc {w:World} {b j b' j':Nat} {x:Value} (h:w.cell? ⟨b',j',none⟩=some x) (hn:¬(b'=b∧j'=j)) (u:Value):(w.setCell ⟨b,j,none⟩ u).cell? ⟨b',j',none⟩=some x:=by
 rw [World.cell?_setCell_other w ⟨b,j,none⟩ ⟨b',j',none⟩ u (fun e=>hn (by simp only [Addr.mk.injEq] at e;omega))];exact h
theorem Nn {w:World} {b j b' j':Nat} {x:Value} (h:w.cell? ⟨b',j',none⟩=some x) (u:Value) (hn:¬(b'=b∧j'=j):=by omega):(w.setCell ⟨b,j,none⟩ u).cell? ⟨b',j',none⟩=some x:=Nc h hn u
theorem Wc {w:World} {cs:Array Value} {t:TypeId} {b j:Nat} {x:Value} (hb:b=w.heap.size) (h:cs[j]? = some x):(w.alloc (.cells cs t)).cell? ⟨b,j,none⟩=some x:=by
 subst hb;rw [cell_of_row _ _ j cs t (0,0) (heap_alloc_new w _)];exact h
theorem Fn {w:World} {cs:Array Value} {t:TypeId} {b j:Nat} (hb:b=w.heap.size):(w.alloc (.cells cs t)).frozen? ⟨b,j,none⟩=false:=by
 subst hb;exact froz_new w cs t j
theorem Fa {w:World} {b j:Nat} {c:Bool} (hb:b < w.heap.size) (h:w.frozen? ⟨b,j,none⟩=c) (o:Obj):(w.alloc o).frozen? ⟨b,j,none⟩=c:=by
 rw [← h];exact World.frozen?_of_block (w:=w) (heap_alloc_old w o hb)
theorem Fs {w:World} {a b:Addr} {c:Bool} (h:w.frozen? a=c) (u:Value):(w.setCell b u).frozen? a=c:=(froz_set w b u a).trans h
theorem Gc {S:Nat→Prop} {w w':World} (h:Chg S w w') {b j:Nat} {x:Value} (hc:w.cell? ⟨b,j,none⟩=some x) (hs:¬S b):w'.cell? ⟨b,j,none⟩=some x:=(h.cell j (Lc hc) hs).trans hc
theorem Gg {g b j:Nat} {w w':World} {v:Value} (hc:Chg (fun k=>k=g) w w') (h:w.cell? ⟨b,j,none⟩=some v) (n:¬b=g:=by omega):w'.cell? ⟨b,j,none⟩=some v:=Gc hc h n
theorem Gf {S:Nat→Prop} {w w':World} (h:Chg S w w') {b j:Nat} {c:Bool} (hb:b < w.heap.size) (hc:w.frozen? ⟨b,j,none⟩=c) (hs:¬S b):w'.frozen? ⟨b,j,none⟩=c:=(h.frozen j hb hs).trans hc
theorem own_diff {w:World} {base base':Nat} {e e':TypeId} {sz sz' n n':Nat} {v v':Value} {xs ys:List Value} (h:w.ownsRow base e sz v n xs) (h':w.ownsRow base' e' sz' v' n' ys) (he:e≠e'):∀ q,v.ownBlock=some q→v'.ownBlock=some q→False:=by
 intro q h1 h2;rcases h.2 with ⟨rfl,_⟩ | ⟨g,cap,cur,rfl,_,hg,_⟩
 ·simp [Value.ownBlock] at h1
 rcases h'.2 with ⟨rfl,_⟩ | ⟨g',cap',cur',rfl,_,hg',_⟩
 ·simp [Value.ownBlock] at h2
 have e1:g=q:=Si h1;have e2:g'=q:=Si h2;subst e1;subst e2;rw [hg] at hg';simp only [Option.some.injEq,Obj.cells.injEq] at hg';exact he hg'.2.1
theorem info_bool:(Tryz.prog.info? 4).map (fun i=>(i.zero,i.size,i.bytes))=some (some (.bool false),1,1):=by kernel_rfl
theorem tBools:SliceT Tryz.prog 30 4 (.bool false) 1 1:=⟨Tryz.underlying30,info_bool,rfl,by omega,by omega⟩
theorem info_Instr:(Tryz.prog.info? 62).map (fun i=>(i.zero,i.size,i.bytes))=some (some (.agg #[.int .i64 0,.int .i64 0,.int .i64 0,.int .i64 0,.int .i64 0]),5,40):=by kernel_rfl
structure Cd where
 vars:List Int
 arrays:List Int
 list:List Ins
deriving DecidableEq
structure ReadsC (w:World) (va vb vc:Value) (c:Cd):Prop where
 a:Reads w 1 va c.vars.length (ints c.vars)
 b:Reads w 1 vb c.arrays.length (ints c.arrays)
 l:Reads w 5 vc c.list.length (inss c.list)
def ReadB (va vb vc:Value) (c:Cd) (q:Nat):Prop:=
 (∃ o cap,0 < c.vars.length∧va=.slice (some ⟨q,o,none⟩) c.vars.length cap)∨(∃ o cap,0 < c.arrays.length∧vb=.slice (some ⟨q,o,none⟩) c.arrays.length cap)∨(∃ o cap,0 < c.list.length∧vc=.slice (some ⟨q,o,none⟩) c.list.length cap)
theorem ReadsC.lt {w:World} {va vb vc:Value} {c:Cd} (h:ReadsC w va vb vc c):∀ q,ReadB va vb vc c q→q < w.heap.size:=by
 intro q hq;rcases hq with ⟨o,cap,h0,hv⟩ | ⟨o,cap,h0,hv⟩ | ⟨o,cap,h0,hv⟩
 ·exact reads_lt h.a q o cap h0 hv
 ·exact reads_lt h.b q o cap h0 hv
 exact reads_lt h.l q o cap h0 hv
theorem ReadsC.keep {w w':World} {va vb vc:Value} {c:Cd} (h:ReadsC w va vb vc c) {S:Nat→Prop} (hc:Chg S w w') (hs:∀ q,ReadB va vb vc c q→¬S q):ReadsC w' va vb vc c:=
 ⟨h.a.keep hc (fun b o cap h0 hv=>hs b (Or.inl ⟨o,cap,h0,hv⟩)),h.b.keep hc (fun b o cap h0 hv=>hs b (Or.inr (Or.inl ⟨o,cap,h0,hv⟩))),h.l.keep hc (fun b o cap h0 hv=>hs b (Or.inr (Or.inr ⟨o,cap,h0,hv⟩)))⟩
theorem ReadsC.below {w w':World} {va vb vc:Value} {c:Cd} (h:ReadsC w va vb vc c) (hb:Below w.heap.size w w'):ReadsC w' va vb vc c:=⟨h.a.below hb,h.b.below hb,h.l.below hb⟩
theorem ReadsC.shape {w:World} {va vb vc:Value} {c:Cd} (h:ReadsC w va vb vc c):∃ a0 c0 a1 c1 a2 c2,va=.slice a0 c.vars.length c0∧vb=.slice a1 c.arrays.length c1∧vc=.slice a2 c.list.length c2:=by
 obtain ⟨a0,c0,h0⟩:=reads_shape h.a;obtain ⟨a1,c1,h1⟩:=reads_shape h.b;obtain ⟨a2,c2,h2⟩:=reads_shape h.l;exact ⟨a0,c0,a1,c1,a2,c2,h0,h1,h2⟩
structure OwnC (w:World) (base:Nat) (va vb vc:Value) (c:Cd):Prop where
 a:w.ownsRow base 3 1 va c.vars.length (ints c.vars)
 b:w.ownsRow base 3 1 vb c.arrays.length (ints c.arrays)
 l:w.ownsRow base 62 5 vc c.list.length (inss c.list)
 ab:∀ q,va.ownBlock=some q→vb.ownBlock=some q→False
def OwnB (va vb vc:Value) (q:Nat):Prop:=va.ownBlock=some q∨vb.ownBlock=some q∨vc.ownBlock=some q
theorem OwnC.lt {w:World} {base:Nat} {va vb vc:Value} {c:Cd} (h:OwnC w base va vb vc c):∀ q,OwnB va vb vc q→base≤q∧q < w.heap.size:=by
 intro q hq;rcases hq with hq | hq | hq
 ·exact h.a.lt q hq
 ·exact h.b.lt q hq
 exact h.l.lt q hq
theorem OwnC.keep {w w':World} {base:Nat} {va vb vc:Value} {c:Cd} (h:OwnC w base va vb vc c) {S:Nat→Prop} (hc:Chg S w w') (hs:∀ q,OwnB va vb vc q→¬S q):OwnC w' base va vb vc c:=
 ⟨Ow h.a hc (fun q hq=>hs q (Or.inl hq)),Ow h.b hc (fun q hq=>hs q (Or.inr (Or.inl hq))),Ow h.l hc (fun q hq=>hs q (Or.inr (Or.inr hq))),h.ab⟩
theorem OwnC.below {w w':World} {base:Nat} {va vb vc:Value} {c:Cd} (h:OwnC w base va vb vc c) (hb:Below w.heap.size w w'):OwnC w' base va vb vc c:=h.keep (S:=fun _=>False) (Cb hb) (fun _ _=>id)
theorem OwnC.mono {w:World} {base base':Nat} {va vb vc:Value} {c:Cd} (h:OwnC w base va vb vc c) (hb:base'≤base):OwnC w base' va vb vc c:=⟨Om h.a hb,Om h.b hb,Om h.l hb,h.ab⟩
theorem OwnC.reads {w:World} {base:Nat} {va vb vc:Value} {c:Cd} (h:OwnC w base va vb vc c) (h0:c.vars.length≤9223372036854775807) (h1:c.arrays.length≤9223372036854775807) (h2:c.list.length≤9223372036854775807):ReadsC w va vb vc c:=
 ⟨Ro h.a h0,Ro h.b h1,Ro h.l h2⟩
theorem OwnC.shape {w:World} {base:Nat} {va vb vc:Value} {c:Cd} (h:OwnC w base va vb vc c):∃ a0 c0 a1 c1 a2 c2,va=.slice a0 c.vars.length c0∧vb=.slice a1 c.arrays.length c1∧vc=.slice a2 c.list.length c2:=by
 obtain ⟨a0,c0,h0⟩:=Oh h.a;obtain ⟨a1,c1,h1⟩:=Oh h.b;obtain ⟨a2,c2,h2⟩:=Oh h.l;exact ⟨a0,c0,a1,c1,a2,c2,h0,h1,h2⟩
def wi (n lo hi:Int):Bool:=decide (lo≤n∧n≤hi)
def labOk (n:Int):Bool:=wi n 0 3
def labsOk (xs:List Int):Bool:=xs.all labOk
def declOk (xs ys:List Int):Bool:=decide (1≤xs.length∧xs.length≤12)&&(decide (ys.length≤2)&&(labsOk xs&&labsOk ys))
def shp (op:Int):List UInt8:=
 if op=1 then [114,110,45,45] else if op=2 then [114,118,45,45] else if op=3 then [118,114,45,45] else if op=4 then [114,97,114,45] else if op=5 then [97,114,114,45]
 else if op=6 then [114,111,114,114] else if op=7 then [114,114,114,114] else if op=8 then [105,45,45,45] else if op=9 then [114,105,45,45] else if op=10 then [114,105,45,45]
 else if op=11 then [114,45,45,45] else if op=12 then [45,45,45,45] else if op=13 then [45,45,45,45] else []
theorem shp_cases (op:Int):(op < 1∨13 < op)∨op=1∨op=2∨op=3∨op=4∨op=5∨op=6∨op=7∨op=8∨op=9∨op=10∨op=11∨op=12∨op=13:=by omega
theorem shp_none {op:Int} (h:op < 1∨13 < op):shp op=[]:=by unfold shp;repeat rw [if_neg (by omega)]
theorem shp_len {op:Int} (h:¬(op < 1∨13 < op)):(shp op).length=4:=by
 rcases shp_cases op with h' | rfl | rfl | rfl | rfl | rfl | rfl | rfl | rfl | rfl | rfl | rfl | rfl | rfl
 ·exact absurd h' h
 all_goals rfl
def fOk (nv na nl:Nat) (k n:Int):Bool:=
 if k=114 then wi n 0 (13) else if k=118 then wi n 0 ((nv:Int)-1) else if k=97 then wi n 0 ((na:Int)-1) else if k=110 then wi n 0 (255)
 else if k=111 then wi n 4 (10) else if k=105 then wi n 0 ((nl:Int)-1) else n == 0
def flds (x:Ins):List Int:=[x.a,x.b,x.c,x.d]
def insOk (nv na nl:Nat) (x:Ins):Bool:=wi x.op 1 13&&((shp x.op).zip (flds x)).all (fun p=>fOk nv na nl p.1.toNat p.2)
def lastOk (l:List Ins):Bool:=match l.getLast? with | some x=>x.op == 13||x.op == 8 | none=>false
def codeOk (c:Cd):Bool:=declOk c.vars c.arrays&&(decide (1≤c.list.length∧c.list.length≤400)&&(c.list.all (insOk c.vars.length c.arrays.length c.list.length)&&lastOk c.list))
theorem within_any (n lo hi:Int) (w:World) :
  Calls Tryz.prog 48 #[.int .i64 n,.int .i64 lo,.int .i64 hi] w fun e w'=>e=.returned (.bool (wi n lo hi))∧Below w.heap.size w w':=by
 by_cases h1:lo≤n
 ·by_cases h2:n≤hi
  ·have HD:Hid (wi n lo hi=true):=Hi (decide_eq_true (p:=lo≤n∧n≤hi) ⟨h1,h2⟩);go_enter Tryz.func48,Tryz.ntmps48
   go_wp2
   go_ret
   exact ⟨ret_bool HD.out.symm,Below.refl _ _⟩
  have HD:Hid (wi n lo hi=false):=Hi (decide_eq_false (p:=lo≤n∧n≤hi) (by omega));have h3:decide (n≤hi)=false:=decide_eq_false h2;clear h2;go_enter Tryz.func48,Tryz.ntmps48
  go_wp2
  go_ret
  exact ⟨ret_bool HD.out.symm,Below.refl _ _⟩
 have HD:Hid (wi n lo hi=false):=Hi (decide_eq_false (p:=lo≤n∧n≤hi) (by omega));go_enter Tryz.func48,Tryz.ntmps48
 go_wp2
 go_ret
 exact ⟨ret_bool HD.out.symm,Below.refl _ _⟩
theorem iLabelValid_any (n:Int) (w:World) :
  Calls Tryz.prog 123 #[.int .i64 n] w fun e w'=>e=.returned (.bool (labOk n))∧Below w.heap.size w w':=by
 go_enter Tryz.func123,Tryz.ntmps123
 go_wp2_with fail
 refine (within_any n 0 3 _).mono ?_;rintro e w1 ⟨rfl,hb⟩;go_wp2
 go_ret
 exact ⟨rfl,hb⟩
theorem notLabel_any (n:Int) (w:World) :
  Calls Tryz.prog 122 #[.int .i64 n] w fun e w'=>e=.returned (.bool (!labOk n))∧Below w.heap.size w w':=by
 go_enter Tryz.func122,Tryz.ntmps122
 go_wp2_with fail
 refine (iLabelValid_any n _).mono ?_;rintro e w1 ⟨rfl,hb⟩;go_wp2
 go_ret
 exact ⟨rfl,hb⟩
set_option maxHeartbeats 3200000 in
theorem shape_any (op:Int) (w:World) :
  Calls Tryz.prog 98 #[.int .i64 op] w fun e w'=>e=.returned (.string ⟨(shp op).toArray⟩)∧Below w.heap.size w w':=by
 rcases shp_cases op with h | rfl | rfl | rfl | rfl | rfl | rfl | rfl | rfl | rfl | rfl | rfl | rfl | rfl
 ·rw [shp_none h];have HD:wi op 1 13=false:=decide_eq_false (p:=1≤op∧op≤13) (by omega);go_enter Tryz.func98,Tryz.ntmps98
  go_wp2_with fail
  refine (within_any op 1 13 _).mono ?_;rintro e w1 ⟨rfl,hb⟩;rw [HD];clear HD h;go_wp2
  go_ret
  exact ⟨rfl,hb⟩
 all_goals
  go_enter Tryz.func98,Tryz.ntmps98
  go_wp2_with fail
  refine (within_any _ 1 13 _).mono ?_;rintro e w1 ⟨rfl,hb⟩;rw [show wi _ 1 13=true from rfl];go_wp2
  go_ret
  exact ⟨rfl,bal hb _⟩
def isBr (op:Int):Bool:=op == 9||op == 10
def markStep (out:List Bool) (i:Nat) (x:Ins):List Bool:=if isBr x.op=true then (out.set x.b.toNat true).set (i+1) true else out
def marksUpto (l:List Ins):Nat→List Bool
 | 0=>List.replicate l.length false
 | k+1=>match l[k]? with | some x=>markStep (marksUpto l k) k x | none=>marksUpto l k
def marksOf (l:List Ins):List Bool:=marksUpto l l.length
theorem codeOk_all {c:Cd} (h:codeOk c=true):∀ (k:Nat) (hk:k < c.list.length),insOk c.vars.length c.arrays.length c.list.length c.list[k]=true:=by
 intro k hk;unfold codeOk at h
 simp only [Bool.and_eq_true] at h;exact List.all_eq_true.1 h.2.2.1 _ (List.getElem_mem hk)
theorem codeOk_len {c:Cd} (h:codeOk c=true):1≤c.list.length∧c.list.length≤400:=by
 unfold codeOk at h
 simp only [Bool.and_eq_true] at h;exact of_decide_eq_true h.2.1
theorem codeOk_decl {c:Cd} (h:codeOk c=true):declOk c.vars c.arrays=true:=by
 unfold codeOk at h
 simp only [Bool.and_eq_true] at h;exact h.1
theorem codeOk_last {c:Cd} (h:codeOk c=true):∃ hk:c.list.length-1 < c.list.length,(c.list[c.list.length-1]'hk).op=13∨(c.list[c.list.length-1]'hk).op=8:=by
 have hl:=codeOk_len h;unfold codeOk at h
 simp only [Bool.and_eq_true] at h;have h2:=h.2.2.2;unfold lastOk at h2
 rw [List.getLast?_eq_getElem?,List.getElem?_eq_getElem (by omega)] at h2;refine ⟨by omega,?_⟩;simpa using h2
theorem declOk_len {xs ys:List Int} (h:declOk xs ys=true):xs.length≤12∧ys.length≤2:=by
 unfold declOk at h
 simp only [Bool.and_eq_true] at h;exact ⟨(of_decide_eq_true h.1).2,of_decide_eq_true h.2.1⟩
theorem insOk_op {nv na nl:Nat} {x:Ins} (h:insOk nv na nl x=true):1≤x.op∧x.op≤13:=by
 unfold insOk at h
 simp only [Bool.and_eq_true] at h;exact of_decide_eq_true h.1
def Bk (w:World) (b:Nat) (vs:List Value):Prop:=∀ j (h:j < vs.length),w.cell? ⟨b,j,none⟩=some vs[j]∧w.frozen? ⟨b,j,none⟩=false
section
variable {w w':World} {b:Nat} {vs:List Value}
theorem Bk.cell (h:Bk w b vs) (j:Nat) {v:Value} (hj:vs[j]? = some v):w.cell? ⟨b,j,none⟩=some v:=by
 obtain ⟨h1,rfl⟩:=List.getElem?_eq_some_iff.1 hj;exact (h j h1).1
theorem Bk.froz (h:Bk w b vs) (j:Nat) (hj:j < vs.length):w.frozen? ⟨b,j,none⟩=false:=(h j hj).2
theorem Bk.lt (h:Bk w b vs) (h0:0 < vs.length):b < w.heap.size:=Lc (h 0 h0).1
theorem Bk.al (h:Bk w b vs) (o:Obj):Bk (w.alloc o) b vs:=fun j hj=>⟨Ac (h j hj).1 o,Fa (Lc (h j hj).1) (h j hj).2 o⟩
theorem Bk.nw {cs:Array Value} {t:TypeId} (hb:b=w.heap.size) (hc:cs.toList=vs):Bk (w.alloc (.cells cs t)) b vs:=fun j hj=>by
 subst hc;exact ⟨Wc hb (by simp at hj;rw [Array.getElem?_eq_getElem hj];simp),Fn hb⟩
theorem Bk.ne (h:Bk w b vs) {b' j':Nat} (hn:¬b=b') (u:Value):Bk (w.setCell ⟨b',j',none⟩ u) b vs:=fun j hj=>⟨Nc (h j hj).1 (by omega) u,Fs (h j hj).2 u⟩
theorem Bk.at (h:Bk w b vs) (k:Nat) (u:Value):Bk (w.setCell ⟨b,k,none⟩ u) b (vs.set k u):=fun j hj=>by
 rw [List.length_set] at hj;by_cases hk:k=j
 ·subst hk;rw [List.getElem_set_self];exact ⟨Tc w b k u (h k hj).1,Fs (h k hj).2 u⟩
 rw [List.getElem_set_ne hk];exact ⟨Nn (h j hj).1 u,Fs (h j hj).2 u⟩
theorem Bk.below (h:Bk w b vs) (hb:Below w.heap.size w w'):Bk w' b vs:=fun j hj=>⟨Kc hb (h j hj).1,Kf hb (Lc (h j hj).1) (h j hj).2⟩
theorem Bb (h:Bk w b vs) (hb:Below w.heap.size w w'):Bk w' b vs:=Bk.below h hb
theorem Bk.kg {g:Nat} (h:Bk w b vs) (hc:Chg (fun k=>k=g) w w') (n:¬b=g:=by omega):Bk w' b vs:=fun j hj=>⟨Gc hc (h j hj).1 n,Gf hc (Lc (h j hj).1) (h j hj).2 n⟩
theorem Bk.nn (h:Bk w b vs) {b' j':Nat} (u:Value) (hn:¬b=b':=by omega):Bk (w.setCell ⟨b',j',none⟩ u) b vs:=Bk.ne h hn u
theorem Bk.keep {S:Nat→Prop} (h:Bk w b vs) (hc:Chg S w w') (hs:¬S b):Bk w' b vs:=fun j hj=>⟨Gc hc (h j hj).1 hs,Gf hc (Lc (h j hj).1) (h j hj).2 hs⟩
end
end Go.Proofs.YtnpidfbcbmeijaaGreat
namespace Go.Proofs.YtnpidfbcbmeijaaGreat
open Go.RowKit
theorem take_d {P:Program} {ops:Array Oper} {Q:Exit→Act→World→Prop} {md:Region.Mode} {S:World→Prop} {i:Nat} {oi:Oper} {d:Nat} {v:Value} {fuel:Nat} {listed:Array Bool} {a:Act} {w:World} (hi:ops[i]? = some oi) (hd:oi.dst=some d)
  (hs:Region.noSelect ops=true) (hf:Region.free md ops listed i=true) (hr:(Region.ready md ops listed).contains i=true)
  (hQ:∀ c a w,Q (.panic c) (a.put oi.dst v) w→Q (.panic c) a w) (hy:YieldsIf P ops S oi v a) (hS:S w)
  (h:wpAnyH P md ops Q S fuel (listed.setIfInBounds i true) (a.put (some d) v) w):wpAnyH P md ops Q S (fuel+1) listed a w:=
 wpAnyH_take hi hs hf hr hQ hy hS (by rw [hd];exact h)
theorem Bk.cf {w:World} {b:Nat} {vs:List Value} (h:Bk w b vs) (j:Nat) {v:Value} (hv:vs[j]? = some v):w.cell? ⟨b,j,none⟩=some v∧w.frozen? ⟨b,j,none⟩=false:=⟨h.cell j hv,h.froz j (List.getElem?_eq_some_iff.1 hv).1⟩
theorem Bk.lz {w:World} {b:Nat} {v:Value} {vs:List Value} (h:Bk w b (v::vs)):b < w.heap.size:=h.lt (Nat.succ_pos _)
theorem Bk.f2 {w:World} {b:Nat} {vs:List Value} {x0 x1:Value} (h:Bk w b vs) (i0 i1:Nat) (e0:vs[i0]? = some x0) (e1:vs[i1]? = some x1):w.cell? ⟨b,i0,none⟩=some x0∧w.frozen? ⟨b,i0,none⟩=false∧w.cell? ⟨b,i1,none⟩=some x1∧w.frozen? ⟨b,i1,none⟩=false:=⟨(h.cf i0 e0).1,(h.cf i0 e0).2,(h.cf i1 e1).1,(h.cf i1 e1).2⟩
theorem Bk.f3 {w:World} {b:Nat} {vs:List Value} {x0 x1 x2:Value} (h:Bk w b vs) (i0 i1 i2:Nat) (e0:vs[i0]? = some x0) (e1:vs[i1]? = some x1) (e2:vs[i2]? = some x2):w.cell? ⟨b,i0,none⟩=some x0∧w.frozen? ⟨b,i0,none⟩=false∧w.cell? ⟨b,i1,none⟩=some x1∧w.frozen? ⟨b,i1,none⟩=false∧w.cell? ⟨b,i2,none⟩=some x2∧w.frozen? ⟨b,i2,none⟩=false:=⟨(h.cf i0 e0).1,(h.cf i0 e0).2,(h.cf i1 e1).1,(h.cf i1 e1).2,(h.cf i2 e2).1,(h.cf i2 e2).2⟩
theorem Bk.f4 {w:World} {b:Nat} {vs:List Value} {x0 x1 x2 x3:Value} (h:Bk w b vs) (i0 i1 i2 i3:Nat) (e0:vs[i0]? = some x0) (e1:vs[i1]? = some x1) (e2:vs[i2]? = some x2) (e3:vs[i3]? = some x3):w.cell? ⟨b,i0,none⟩=some x0∧w.frozen? ⟨b,i0,none⟩=false∧w.cell? ⟨b,i1,none⟩=some x1∧w.frozen? ⟨b,i1,none⟩=false∧w.cell? ⟨b,i2,none⟩=some x2∧w.frozen? ⟨b,i2,none⟩=false∧w.cell? ⟨b,i3,none⟩=some x3∧w.frozen? ⟨b,i3,none⟩=false:=⟨(h.cf i0 e0).1,(h.cf i0 e0).2,(h.cf i1 e1).1,(h.cf i1 e1).2,(h.cf i2 e2).1,(h.cf i2 e2).2,(h.cf i3 e3).1,(h.cf i3 e3).2⟩
theorem Bk.f5 {w:World} {b:Nat} {vs:List Value} {x0 x1 x2 x3 x4:Value} (h:Bk w b vs) (i0 i1 i2 i3 i4:Nat) (e0:vs[i0]? = some x0) (e1:vs[i1]? = some x1) (e2:vs[i2]? = some x2) (e3:vs[i3]? = some x3) (e4:vs[i4]? = some x4):w.cell? ⟨b,i0,none⟩=some x0∧w.frozen? ⟨b,i0,none⟩=false∧w.cell? ⟨b,i1,none⟩=some x1∧w.frozen? ⟨b,i1,none⟩=false∧w.cell? ⟨b,i2,none⟩=some x2∧w.frozen? ⟨b,i2,none⟩=false∧w.cell? ⟨b,i3,none⟩=some x3∧w.frozen? ⟨b,i3,none⟩=false∧w.cell? ⟨b,i4,none⟩=some x4∧w.frozen? ⟨b,i4,none⟩=false:=⟨(h.cf i0 e0).1,(h.cf i0 e0).2,(h.cf i1 e1).1,(h.cf i1 e1).2,(h.cf i2 e2).1,(h.cf i2 e2).2,(h.cf i3 e3).1,(h.cf i3 e3).2,(h.cf i4 e4).1,(h.cf i4 e4).2⟩
theorem Bk.f8 {w:World} {b:Nat} {vs:List Value} {x0 x1 x2 x3 x4 x5 x6 x7:Value} (h:Bk w b vs) (i0 i1 i2 i3 i4 i5 i6 i7:Nat) (e0:vs[i0]? = some x0) (e1:vs[i1]? = some x1) (e2:vs[i2]? = some x2) (e3:vs[i3]? = some x3) (e4:vs[i4]? = some x4) (e5:vs[i5]? = some x5) (e6:vs[i6]? = some x6) (e7:vs[i7]? = some x7):w.cell? ⟨b,i0,none⟩=some x0∧w.frozen? ⟨b,i0,none⟩=false∧w.cell? ⟨b,i1,none⟩=some x1∧w.frozen? ⟨b,i1,none⟩=false∧w.cell? ⟨b,i2,none⟩=some x2∧w.frozen? ⟨b,i2,none⟩=false∧w.cell? ⟨b,i3,none⟩=some x3∧w.frozen? ⟨b,i3,none⟩=false∧w.cell? ⟨b,i4,none⟩=some x4∧w.frozen? ⟨b,i4,none⟩=false∧w.cell? ⟨b,i5,none⟩=some x5∧w.frozen? ⟨b,i5,none⟩=false∧w.cell? ⟨b,i6,none⟩=some x6∧w.frozen? ⟨b,i6,none⟩=false∧w.cell? ⟨b,i7,none⟩=some x7∧w.frozen? ⟨b,i7,none⟩=false:=⟨(h.cf i0 e0).1,(h.cf i0 e0).2,(h.cf i1 e1).1,(h.cf i1 e1).2,(h.cf i2 e2).1,(h.cf i2 e2).2,(h.cf i3 e3).1,(h.cf i3 e3).2,(h.cf i4 e4).1,(h.cf i4 e4).2,(h.cf i5 e5).1,(h.cf i5 e5).2,(h.cf i6 e6).1,(h.cf i6 e6).2,(h.cf i7 e7).1,(h.cf i7 e7).2⟩
theorem Bk.g2 {w:World} {b:Nat} {x0 x1:Value} (h:Bk w b [x0,x1]):w.cell? ⟨b,0,none⟩=some x0∧w.cell? ⟨b,1,none⟩=some x1:=⟨h.cell 0 rfl,h.cell 1 rfl⟩
theorem Bk.g3 {w:World} {b:Nat} {x0 x1 x2:Value} (h:Bk w b [x0,x1,x2]):w.cell? ⟨b,0,none⟩=some x0∧w.cell? ⟨b,1,none⟩=some x1∧w.cell? ⟨b,2,none⟩=some x2:=⟨h.cell 0 rfl,h.cell 1 rfl,h.cell 2 rfl⟩
theorem Bk.g5 {w:World} {b:Nat} {x0 x1 x2 x3 x4:Value} (h:Bk w b [x0,x1,x2,x3,x4]):w.cell? ⟨b,0,none⟩=some x0∧w.cell? ⟨b,1,none⟩=some x1∧w.cell? ⟨b,2,none⟩=some x2∧w.cell? ⟨b,3,none⟩=some x3∧w.cell? ⟨b,4,none⟩=some x4:=⟨h.cell 0 rfl,h.cell 1 rfl,h.cell 2 rfl,h.cell 3 rfl,h.cell 4 rfl⟩
theorem Bk.g11 {w:World} {b:Nat} {x0 x1 x2 x3 x4 x5 x6 x7 x8 x9 x10:Value} (h:Bk w b [x0,x1,x2,x3,x4,x5,x6,x7,x8,x9,x10]):w.cell? ⟨b,0,none⟩=some x0∧w.cell? ⟨b,1,none⟩=some x1∧w.cell? ⟨b,2,none⟩=some x2∧w.cell? ⟨b,3,none⟩=some x3∧w.cell? ⟨b,4,none⟩=some x4∧w.cell? ⟨b,5,none⟩=some x5∧w.cell? ⟨b,6,none⟩=some x6∧w.cell? ⟨b,7,none⟩=some x7∧w.cell? ⟨b,8,none⟩=some x8∧w.cell? ⟨b,9,none⟩=some x9∧w.cell? ⟨b,10,none⟩=some x10:=⟨h.cell 0 rfl,h.cell 1 rfl,h.cell 2 rfl,h.cell 3 rfl,h.cell 4 rfl,h.cell 5 rfl,h.cell 6 rfl,h.cell 7 rfl,h.cell 8 rfl,h.cell 9 rfl,h.cell 10 rfl⟩
theorem tInstrs:SliceT Tryz.prog 24 62 (.agg #[.int .i64 0,.int .i64 0,.int .i64 0,.int .i64 0,.int .i64 0]) 5 40:=⟨Tryz.underlying24,info_Instr,rfl,by omega,by omega⟩
theorem own_nil_rows (w:World) (e:TypeId) (sz:Nat):(w.alloc (.cells #[] e)).ownsRow w.heap.size e sz (.slice (some ⟨w.heap.size,0,none⟩) 0 0) 0 []:=
 World.ownsRow_lit (base:=w.heap.size) (e:=e) (size:=sz) w #[] 0 Lr (by unfold maxLen;omega) (by simp)
theorem one_inss (l:List Ins):∀ u ∈ inss l,u.oneCell'=true:=by
 induction l with
 | nil=>intro u h;cases h
 | cons x l ih =>
  intro u h;rcases List.mem_append.1 (show u ∈ insc x++inss l from h) with h | h
  ·exact one_insc x u h
  exact ih u h
structure RowK where
 k:Nat
 e:TypeId
 sz:Nat
 v:Value
 n:Nat
 xs:List Value
structure RowSet (w:World) (base:Nat) (l:List RowK):Prop where
 own:∀ r ∈ l,w.ownsRow base r.e r.sz r.v r.n r.xs
 dj:∀ r ∈ l,∀ s ∈ l,r.k≠s.k→∀ q,r.v.ownBlock=some q→s.v.ownBlock=some q→False
section
variable {w w':World} {base:Nat} {l l':List RowK}
theorem RowSet.nil:RowSet w base []:=⟨fun _ h=>(by cases h),fun _ h=>(by cases h)⟩
theorem RowSet.sub (h:RowSet w base l) (hs:∀ r ∈ l',r ∈ l):RowSet w base l':=⟨fun r hr=>h.own r (hs r hr),fun r hr s hs2=>h.dj r (hs r hr) s (hs s hs2)⟩
theorem RowSet.below (h:RowSet w base l) (hb:Below w.heap.size w w'):RowSet w' base l:=⟨fun r hr=>Ob (h.own r hr) hb,h.dj⟩
theorem RowSet.lit (h:RowSet w base l) (k:Nat) (e:TypeId) (sz:Nat) (cs:Array Value) (n:Nat) (hb:base≤w.heap.size) (hn:n≤maxLen) (hc:cs.size=n*sz):RowSet (w.alloc (.cells cs e)) base (⟨k,e,sz,.slice (some ⟨w.heap.size,0,none⟩) n n,n,cs.toList⟩::l):=by
 have hl:(w.alloc (.cells cs e)).ownsRow base e sz (.slice (some ⟨w.heap.size,0,none⟩) n n) n cs.toList:=Om (World.ownsRow_lit (base:=w.heap.size) (e:=e) (size:=sz) w cs n Lr hn hc) hb;have a0:∀ r ∈ l,∀ q,r.v.ownBlock=some q→q < w.heap.size:=fun r hr q hq=>((h.own r hr).lt q hq).2
 refine ⟨fun r hr=>?_,fun r hr s hs hk q h1 h2=>?_⟩
 ·rcases List.mem_cons.1 hr with rfl | hr
  ·exact hl
  exact Ob (h.own r hr) (bal (Bs w) _)
 rcases List.mem_cons.1 hr with rfl | hr
 ·rcases List.mem_cons.1 hs with rfl | hs
  ·exact hk rfl
  have e1:w.heap.size=q:=Si h1;have:=a0 s hs q h2;omega
 rcases List.mem_cons.1 hs with rfl | hs
 ·have e1:w.heap.size=q:=Si h2;have:=a0 r hr q h1;omega
 exact h.dj r hr s hs hk q h1 h2
theorem RowSet.push (h:RowSet w base l) (r:RowK) (hr:r ∈ l) {v':Value} {n':Nat} {xs':List Value} (ho:w'.ownsRow base r.e r.sz v' n' xs') (hc:Chg (fun q=>r.v.ownBlock=some q) w w') (hN:NewOr w r.v v') (hl:∀ s ∈ l',s ∈ l∧s.k≠r.k):RowSet w' base (⟨r.k,r.e,r.sz,v',n',xs'⟩::l'):=by
 have a0:∀ s ∈ l',∀ q,v'.ownBlock=some q→s.v.ownBlock=some q→False:=fun s hs q h1 h2=>by
  rcases hN with e1 | ⟨g,e1,e2⟩
  ·exact h.dj r hr s (hl s hs).1 (fun e=>(hl s hs).2 e.symm) q (e1 ▸ h1) h2
  rw [e1] at h1;have:=Si h1
  have:=((h.own s (hl s hs).1).lt q h2).2
  omega
 refine ⟨fun s hs=>?_,fun a ha b hb hk q h1 h2=>?_⟩
 ·rcases List.mem_cons.1 hs with rfl | hs
  ·exact ho
  exact Ow (h.own s (hl s hs).1) hc (fun q h1 h2=>h.dj r hr s (hl s hs).1 (fun e=>(hl s hs).2 e.symm) q h2 h1)
 rcases List.mem_cons.1 ha with rfl | ha
 ·rcases List.mem_cons.1 hb with rfl | hb
  ·exact hk rfl
  exact a0 b hb q h1 h2
 rcases List.mem_cons.1 hb with rfl | hb
 ·exact a0 a ha q h2 h1
 exact h.dj a (hl a ha).1 b (hl b hb).1 hk q h1 h2
theorem RowSet.set (h:RowSet w base l) (r:RowK) (hr:r ∈ l) {b n c:Nat} (hv:r.v=.slice (some ⟨b,0,none⟩) n c) (hn:r.n=n) (j:Nat) (u:Value) (hl:∀ s ∈ l',s ∈ l∧s.k≠r.k):RowSet (w.setCell ⟨b,j,none⟩ u) base (⟨r.k,r.e,r.sz,r.v,r.n,r.xs.set j u⟩::l'):=by
 have ho:=h.own r hr;obtain ⟨k,e,sz,v,n',xs⟩:=r;simp only at hv hn ho hl ⊢
 subst hv hn;have hs:=(ho.stored j u).1;refine ⟨fun s hs2=>?_,fun a ha b2 hb hk q h1 h2=>?_⟩
 ·rcases List.mem_cons.1 hs2 with rfl | hs2
  ·exact hs
  exact Oe (h.own s (hl s hs2).1) b j (fun h1=>h.dj _ hr s (hl s hs2).1 (fun e=>(hl s hs2).2 e.symm) b rfl h1) u
 have a0:∀ s ∈ l',∀ q,(Value.slice (some ⟨b,0,none⟩) n' c).ownBlock=some q→s.v.ownBlock=some q→False:=fun s hs q h1 h2=>h.dj _ hr s (hl s hs).1 (fun e=>(hl s hs).2 e.symm) q h1 h2
 rcases List.mem_cons.1 ha with rfl | ha
 ·rcases List.mem_cons.1 hb with rfl | hb
  ·exact hk rfl
  exact a0 b2 hb q h1 h2
 rcases List.mem_cons.1 hb with rfl | hb
 ·exact a0 a ha q h2 h1
 exact h.dj a (hl a ha).1 b2 (hl b2 hb).1 hk q h1 h2
end
theorem Sz {l:List RowK}:∀ r ∈ ([]:List RowK),r ∈ l:=fun _ h=>(by cases h)
theorem Sb {a:RowK} {l l':List RowK} (h:a ∈ l) (hs:∀ r ∈ l',r ∈ l):∀ r ∈ a::l',r ∈ l:=fun r hr=>by
 rcases List.mem_cons.1 hr with rfl | hr
 ·exact h
 exact hs r hr
theorem On {l:List RowK} {k:Nat}:∀ s ∈ ([]:List RowK),s ∈ l∧s.k≠k:=fun _ h=>(by cases h)
theorem Oc {a:RowK} {l l':List RowK} {k:Nat} (h:a ∈ l) (hs:∀ s ∈ l',s ∈ l∧s.k≠k) (hk:Nat.beq a.k k=false:=by rfl):∀ s ∈ a::l',s ∈ l∧s.k≠k:=fun r hr=>by
 rcases List.mem_cons.1 hr with rfl | hr
 ·exact ⟨h,fun e=>by rw [e,Nat.beq_refl] at hk;cases hk⟩
 exact hs r hr
theorem name_H {P:Program} {md:Region.Mode} {ops:Array Oper} {Q:Exit→Act→World→Prop} {S:World→Prop} {fuel:Nat} {listed:Array Bool} {a:Act} {w:World}
  (h:∀ (T:Nat→Array Bool→Act→World→Prop),Hid (T=wpAnyH P md ops Q S)→∀ A0,Hid (A0=a)→T fuel listed A0 w):wpAnyH P md ops Q S fuel listed a w:=h _ (Hi rfl) _ (Hi rfl)
theorem Tg {W w w':World} {S:Nat→Prop} (ht:Below W.heap.size W w) (hc:Chg S w w') (hs:∀ q,S q→W.heap.size≤q):Below W.heap.size W w':=ht.trans (hc.below W.heap.size ht.size (fun q hq h=>by have:=hs q h;omega))
theorem Bk.of_own {w:World} {base:Nat} {e:TypeId} {sz b n c:Nat} {xs:List Value} (h:w.ownsRow base e sz (.slice (some ⟨b,0,none⟩) n c) n xs):Bk w b xs:=fun j hj=>by
 refine ⟨?_,h.frozenAt j⟩;rw [h.cellAt j (by rw [← h.1];exact hj),List.getElem?_eq_getElem hj]
theorem Mh {α:Type} {a:α} {l:List α}:a ∈ a::l:=List.Mem.head _
theorem Mt {α:Type} {a b:α} {l:List α} (h:a ∈ l):a ∈ b::l:=List.Mem.tail _ h
abbrev Rv (c:Cd) (p:Option Addr) (t:Nat):RowK:=⟨0,3,1,.slice p c.vars.length t,c.vars.length,ints c.vars⟩
abbrev Ry (c:Cd) (p:Option Addr) (t:Nat):RowK:=⟨4,3,1,.slice p c.arrays.length t,c.arrays.length,ints c.arrays⟩
abbrev Rl (c:Cd) (p:Option Addr) (t:Nat):RowK:=⟨8,62,5,.slice p c.list.length t,c.list.length,inss c.list⟩
abbrev Re (k b:Nat):RowK:=⟨k,3,1,.slice (some ⟨b,0,none⟩) 0 0,0,[]⟩
abbrev Rn (k b:Nat):RowK:=⟨k,62,5,.slice (some ⟨b,0,none⟩) 0 0,0,[]⟩
abbrev Rb (b:Nat) (l:List Value):RowK:=⟨13,26,3,.slice (some ⟨b,0,none⟩) 1 1,1,l⟩
end Go.Proofs.YtnpidfbcbmeijaaGreat
