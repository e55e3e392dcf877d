/-
 Parts of the proofs of the laws FnCompactRegs,FnFenceCode,FnRunTimeSteps.
-/
import Derived.Test.YtkjedgnepnbkpaaGreatOY
set_option maxHeartbeats 12800000
set_option maxRecDepth 100000
set_option linter.all false
namespace Go.Proofs.YtkjedgnepnbkpaaGreat
open Go.RowKit
theorem map_next {f:Ins→Ins} (l:List Ins) (k:Nat) (h:k < l.length) (x:Ins) (hx:x=f l[k]):((l.take k).map f++l.drop k).set k x=(l.take (k+1)).map f++l.drop (k+1):=by
 subst hx
 rw [set_dropped _ l _ k (by simp;omega) h,List.take_succ_eq_append_getElem h,List.map_append]
 rfl
theorem map_get {f:Ins→Ins} (l:List Ins) (k:Nat) (h:k < l.length) (h2:k < ((l.take k).map f++l.drop k).length):((l.take k).map f++l.drop k)[k]'h2=l[k]:=by
 rw [List.getElem_append_right (by simp;omega)]
 simp [Nat.min_eq_left (Nat.le_of_lt h)]
def wrt (x:Ins):Int:=if x.op=1 then x.a else if x.op=2 then x.a else if x.op=4 then x.a else if x.op=6 then x.a else if x.op=7 then x.a else if x.op=10 then x.a else -1
def use (x:Ins):List Int:=if x.op=3 then [x.b] else if x.op=4 then [x.c] else if x.op=5 then [x.b,x.c] else if x.op=6 then [x.c,x.d] else if x.op=7 then [x.b,x.c,x.d] else if x.op=9 then [x.a] else if x.op=10 then [x.a] else if x.op=11 then [x.a] else []
def knl (op:Int):List UInt8:=if op=1 then [50,48] else if op=2 then [50,48] else if op=3 then [48,49] else if op=4 then [50,48,49] else if op=5 then [48,49,49] else if op=6 then [50,48,49,49] else if op=7 then [50,49,49,49] else if op=8 then [48] else if op=9 then [49,48] else if op=10 then [51,48] else if op=11 then [49] else []
theorem l12Kind_any (op:Int) (w:World) (hop:¬(op < 1∨13 < op)) :
  Calls Tryz.prog 41 #[.int .i64 op] w fun e w'=>e=.returned (.string ⟨(knl op).toArray⟩)∧Below w.heap.size w w':=by
 rcases shp_cases op with h | rfl | rfl | rfl | rfl | rfl | rfl | rfl | rfl | rfl | rfl | rfl | rfl | rfl
 ·exact absurd h hop
 all_goals
  clear hop
  go_enter Tryz.func41,Tryz.ntmps41
  go_wp2
  go_ret
  exact ⟨rfl,bal (Bs w) _⟩
theorem knl_reads {x:Ins} (hop:¬(x.op < 1∨13 < x.op)) (r:Int):((knl x.op).zip (flds x)).any (fun p=>(p.1 == 49||p.1 == 51)&&p.2 == r)=(use x).any (fun u=>u == r):=by
 obtain ⟨op,a,b,c,d⟩:=x
 rcases shp_cases op with h | rfl | rfl | rfl | rfl | rfl | rfl | rfl | rfl | rfl | rfl | rfl | rfl | rfl
 ·exact absurd h hop
 all_goals simp [knl,use,flds]
theorem knl_writes {x:Ins} (hop:¬(x.op < 1∨13 < x.op)) (r:Int) (h0:0≤r):((knl x.op).zip (flds x)).any (fun p=>(p.1 == 50||p.1 == 51)&&p.2 == r)=(wrt x == r):=by
 obtain ⟨op,a,b,c,d⟩:=x
 have hm:(-1 == r)=false:=by simp;omega
 rcases shp_cases op with h | rfl | rfl | rfl | rfl | rfl | rfl | rfl | rfl | rfl | rfl | rfl | rfl | rfl
 ·exact absurd h hop
 all_goals simp [knl,wrt,flds,hm]
def tab (f:Nat→Bool):List Bool:=(List.range 14).map f
theorem tab_len (f:Nat→Bool):(tab f).length=14:=by simp [tab]
theorem tab_get (f:Nat→Bool) (r:Nat) (h:r < (tab f).length):(tab f)[r]=f r:=by simp [tab]
theorem tab_congr {f g:Nat→Bool} (h:∀ r,r < 14→f r=g r):tab f=tab g:=by
 unfold tab
 exact List.map_congr_left (fun r hr=>h r (List.mem_range.1 hr))
theorem tab_set (f:Nat→Bool) (r:Nat) (b:Bool):(tab f).set r b=tab (fun q=>if q=r then b else f q):=by
 apply List.ext_getElem
 ·simp [tab]
 intro j h1 h2
 rw [List.getElem_set]
 simp only [tab,List.getElem_map,List.getElem_range]
 by_cases e:r=j
 ·subst e;simp
 rw [if_neg e,if_neg (fun h=>e h.symm)]
theorem tab_false:List.replicate 14 false=tab (fun _=>false):=by simp [tab,List.map_const']
def bit (L:List (List Bool)) (t:Int) (r:Nat):Bool:=((L[t.toNat]?).getD []).getD r false
theorem insOk_cases {nv na nl:Nat} {x:Ins} (h:insOk nv na nl x=true):∀ p ∈ (shp x.op).zip (flds x),fOk nv na nl p.1.toNat p.2=true:=by
 unfold insOk at h
 simp only [Bool.and_eq_true] at h
 exact List.all_eq_true.1 h.2
theorem fOk_r {nv na nl:Nat} {n:Int} (h:fOk nv na nl 114 n=true):0≤n∧n < 14:=by
 unfold fOk at h
 rw [if_pos rfl] at h
 have:=of_decide_eq_true h
 omega
theorem knl_in {nv na nl:Nat} {x:Ins} (h:insOk nv na nl x=true):∀ p ∈ (knl x.op).zip (flds x),p.1≠48→0≤p.2∧p.2 < 14:=by
 have b0:=insOk_op h
 have a0:=insOk_cases h
 obtain ⟨op,a,b,c,d⟩:=x
 simp only at b0 a0
 rcases shp_cases op with h' | rfl | rfl | rfl | rfl | rfl | rfl | rfl | rfl | rfl | rfl | rfl | rfl | rfl
 ·omega
 all_goals
  simp only [shp,flds,knl] at a0 ⊢
  simp at a0 ⊢
 all_goals first | exact fOk_r a0.1 | exact fOk_r a0.2.1 | exact ⟨fOk_r a0.1,fOk_r a0.2.2.1⟩ | exact ⟨fOk_r a0.2.1,fOk_r a0.2.2.1⟩ | exact ⟨fOk_r a0.1,fOk_r a0.2.2.1,fOk_r a0.2.2.2⟩ | exact ⟨fOk_r a0.1,fOk_r a0.2.1,fOk_r a0.2.2.1,fOk_r a0.2.2.2⟩
theorem mk_bool14 (u:World):(Instr.makeSlice 50 (.int .i64 14) (.int .i64 14)).run Tryz.prog u=.ok (.slice (some ⟨u.heap.size,0,none⟩) 14 14) (u.alloc (.cells (madeCells #[.bool false] 14) 4)):=mk_boolF 14 (by omega) u
theorem own_tab_set {w:World} {base:Nat} {e:TypeId} {g cap:Nat} {F:Nat→Bool} (ho:w.ownsRow base e 1 (.slice (some ⟨g,0,none⟩) 14 cap) 14 (bools (tab F))) (r:Nat) (b:Bool) {G:Nat→Bool} (hG:∀ q,q < 14→(if q=r then b else F q)=G q) :
  (w.setCell ⟨g,r,none⟩ (.bool b)).ownsRow base e 1 (.slice (some ⟨g,0,none⟩) 14 cap) 14 (bools (tab G)):=by
 have h:=(ho.stored r (.bool b)).1
 rw [bools_set,tab_set,tab_congr hG] at h
 exact h
theorem own_tab_at {w:World} {base:Nat} {e:TypeId} {g cap:Nat} {F:Nat→Bool} (ho:w.ownsRow base e 1 (.slice (some ⟨g,0,none⟩) 14 cap) 14 (bools (tab F))) (r:Nat) (hr:r < 14):w.cell? ⟨g,r,none⟩=some (.bool (F r)):=by
 rw [ho.cellAt r (by omega),bools_at _ _ (by rw [tab_len];exact hr),tab_get]
def zk (x:Ins):List (UInt8 × Int):=(knl x.op).zip (flds x)
def rdK (x:Ins) (k:Nat) (r:Nat):Bool:=((zk x).take k).any (fun p=>(p.1 == 49||p.1 == 51)&&p.2 == (r:Int))
def wrK (x:Ins) (k:Nat) (r:Nat):Bool:=((zk x).take k).any (fun p=>(p.1 == 50||p.1 == 51)&&p.2 == (r:Int))
theorem knl_len (op:Int):(knl op).length≤4:=by unfold knl;repeat (first | split | simp)
theorem zk_len (x:Ins):(zk x).length=(knl x.op).length:=by unfold zk;rw [List.length_zip];have:=knl_len x.op;simp [flds];omega
theorem knl_kinds (op:Int):∀ u ∈ knl op,u=48∨u=49∨u=50∨u=51:=by
 intro u hu
 have h:(knl op).all (fun u=>u == 48||(u == 49||(u == 50||u == 51)))=true:=by unfold knl;repeat (first | rfl | split)
 simpa using List.all_eq_true.1 h u hu
theorem zk_get (x:Ins) (k:Nat) (h:k < (zk x).length) (h1:k < (knl x.op).length) (h2:k < (flds x).length):(zk x)[k]=((knl x.op)[k],(flds x)[k]):=by simp [zk]
theorem zk_succ (x:Ins) (f:UInt8 × Int→Bool) (k:Nat) (h:k < (zk x).length):((zk x).take (k+1)).any f=(((zk x).take k).any f||f (zk x)[k]):=by
 rw [List.take_succ_eq_append_getElem h,List.any_append];simp
theorem rdK_all {x:Ins} (hop:¬(x.op < 1∨13 < x.op)):rdK x (knl x.op).length=fun r:Nat=>(use x).any (fun u=>u == (r:Int)):=by
 funext r;unfold rdK;rw [List.take_of_length_le (by rw [zk_len];omega)];exact knl_reads hop r
theorem wrK_all {x:Ins} (hop:¬(x.op < 1∨13 < x.op)):wrK x (knl x.op).length=fun r:Nat=>wrt x == (r:Int):=by
 funext r;unfold wrK;rw [List.take_of_length_le (by rw [zk_len];omega)];exact knl_writes hop r (by omega)
theorem l12Regs_any (x:Ins) (w:World) (hop:¬(x.op < 1∨13 < x.op)) (hin:∀ p ∈ zk x,p.1≠48→0≤p.2∧p.2 < 14) :
  Calls Tryz.prog 44 #[.agg #[.int .i64 x.op,.int .i64 x.a,.int .i64 x.b,.int .i64 x.c,.int .i64 x.d]] w fun e w'=>∃ g g2,e=.returned (.tuple #[.slice (some ⟨g,0,none⟩) 14 14,.slice (some ⟨g2,0,none⟩) 14 14]) ∧
   w'.ownsRow w.heap.size 4 1 (.slice (some ⟨g,0,none⟩) 14 14) 14 (bools (tab (fun r:Nat=>(use x).any (fun u=>u == (r:Int)))))∧w'.ownsRow w.heap.size 4 1 (.slice (some ⟨g2,0,none⟩) 14 14) 14 (bools (tab (fun r:Nat=>wrt x == (r:Int))))∧¬g=g2∧Below w.heap.size w w':=by
 have hR:=rdK_all hop
 have hW:=wrK_all hop
 have n0:=Lib.hid (And.intro hR hW)
 clear hR hW
 have w0:=fun u=>mk_bool14 u
 obtain ⟨B,hB⟩:∃ B:Obj,B=.cells #[.int .i64 x.op,.int .i64 x.a,.int .i64 x.b,.int .i64 x.c,.int .i64 x.d] 71:=⟨_,rfl⟩
 have o1:=own_made (w.alloc B) (.bool false) 14 4 (by unfold maxLen;omega)
 have o2:=own_made ((w.alloc B).alloc (.cells (madeCells #[.bool false] 14) 4)) (.bool false) 14 4 (by unfold maxLen;omega)
 have h0:=bal (bal (bal (Bs w) B) (.cells (madeCells #[.bool false] 14) 4)) (.cells (madeCells #[.bool false] 14) 4)
 replace o1:=Ob o1 (bal (Bs _) (.cells (madeCells #[.bool false] 14) 4))
 rw [← bools_replicate,tab_false] at o1 o2
 simp only [Sa] at o1 o2
 subst hB
 obtain ⟨w3,g0⟩:∃ X,X=((w.alloc (.cells #[.int .i64 x.op,.int .i64 x.a,.int .i64 x.b,.int .i64 x.c,.int .i64 x.d] 71)).alloc (.cells (madeCells #[.bool false] 14) 4)).alloc (.cells (madeCells #[.bool false] 14) 4):=⟨_,rfl⟩
 have d0:w3.cell? ⟨w.heap.size,0,none⟩=some (.int .i64 x.op):=by rw [g0];exact Ac (Ac (Wc rfl rfl) _) _
 have d1:w3.cell? ⟨w.heap.size,1,none⟩=some (.int .i64 x.a):=by rw [g0];exact Ac (Ac (Wc rfl rfl) _) _
 have d2:w3.cell? ⟨w.heap.size,2,none⟩=some (.int .i64 x.b):=by rw [g0];exact Ac (Ac (Wc rfl rfl) _) _
 have d3:w3.cell? ⟨w.heap.size,3,none⟩=some (.int .i64 x.c):=by rw [g0];exact Ac (Ac (Wc rfl rfl) _) _
 have d4:w3.cell? ⟨w.heap.size,4,none⟩=some (.int .i64 x.d):=by rw [g0];exact Ac (Ac (Wc rfl rfl) _) _
 have q0:w3.heap.size=w.heap.size+1+1+1:=by rw [g0];simp
 rw [← g0] at o1 o2 h0
 have y0:=Lib.hid q0
 have o0:=Lib.hid g0
 have hz3':w.heap.size+3≤w3.heap.size:=by omega
 clear g0 q0
 have k0:=Lc d0
 go_enter Tryz.func44,Tryz.ntmps44
 go_upto_region 3 with (fail)
 rw [← o0.out]
 clear o0 w0
 go_wp2_with fail
 refine (l12Kind_any x.op _ hop).mono ?_
 rintro e w4 ⟨rfl,hb⟩
 have c1:=hb.size
 replace o1:=Ob o1 hb;replace o2:=Ob o2 hb;replace h0:=btr h0 hb
 replace d0:=Kc hb d0;replace d1:=Kc hb d1;replace d2:=Kc hb d2;replace d3:=Kc hb d3;replace d4:=Kc hb d4
 clear hb
 have k0:=Lc d0
 obtain ⟨S,hS⟩:∃ S:ByteArray,S=⟨(knl x.op).toArray⟩:=⟨_,rfl⟩
 rw [← hS]
 have HZ:Hid (S.size=(knl x.op).length):=Lib.hid (by rw [hS];simp [ByteArray.size])
 have HG:Hid (∀ (k:Nat) (h:k < (knl x.op).length) (h':k < S.size),S[k]'h'=(knl x.op)[k]):=Lib.hid (by subst hS;exact str_get _)
 clear hS
 go_wp2_with fail
 refine (l6Parts_any x _).mono ?_
 rintro e w5 ⟨gp,rfl,hp,hb⟩
 have e1:=hb.size
 replace o1:=Ob o1 hb;replace o2:=Ob o2 hb;replace h0:=btr h0 hb
 have b1:=hp.lt gp rfl
 clear hb d0 d1 d2 d3 d4 k0
 have HI:=Lib.hid hin
 have HL:=Lib.hid (And.intro (knl_len x.op) (And.intro (zk_len x) (knl_kinds x.op)))
 have HP:=Lib.hid hop
 clear hin hop
 go_wp2_with fail
 go_loopw [8] (fun t wr=>∃ k:Nat,k≤(knl x.op).length∧t=.int .i64 k∧wr.ownsRow (w.heap.size+1) 4 1 (.slice (some ⟨w.heap.size+1,0,none⟩) 14 14) 14 (bools (tab (rdK x k)))∧wr.ownsRow (w.heap.size+1+1) 4 1 (.slice (some ⟨w.heap.size+1+1,0,none⟩) 14 14) 14 (bools (tab (wrK x k)))∧Chg (fun q=>q=w.heap.size+1∨q=w.heap.size+1+1) w5 wr) (fun t _=>(knl x.op).length-(intOf t).toNat)
 case atStart=>exact ⟨0,Nat.zero_le _,rfl,by rw [show tab (rdK x 0)=tab (fun _=>false) from tab_congr (fun q _=>by simp [rdK])];exact o1,by rw [show tab (wrK x 0)=tab (fun _=>false) from tab_congr (fun q _=>by simp [wrK])];exact o2,Chg.refl _ _⟩
 case round =>
  obtain ⟨k,hk,rfl,h1,h2,hC⟩:=hrel
  have f1:=hC.size
  clear o1 o2
  have z0:k≤4:=by have:=HL.out.1;omega
  by_cases hlt:k < (knl x.op).length
  ·have x0:=Ow hp hC (fun q hq h=>by have e:gp=q:=Option.some.inj hq;omega)
   have p0:k < (flds x).length:=by have:=HL.out.1;simp [flds];omega
   have c0:=x0.cellAt k (by have:=HL.out.1;omega)
   rw [List.getElem?_eq_getElem (by rw [ints_length];exact p0),ints_get] at c0
   have hk4':k < 4:=by have:=HL.out.1;omega
   have l0:k < (zk x).length:=by rw [HL.out.2.1];exact hlt
   have j0:=zk_get x k l0 hlt p0
   have hr:=fun q=>zk_succ x (fun p=>(p.1 == 49||p.1 == 51)&&p.2 == (Nat.cast q:Int)) k l0
   have hw:=fun q=>zk_succ x (fun p=>(p.1 == 50||p.1 == 51)&&p.2 == (Nat.cast q:Int)) k l0
   have b0:=HI.out _ (List.getElem_mem l0)
   have hS:∀ h',S[k]'h'=(knl x.op)[k]:=HG.out k hlt
   have a1:k < S.size:=by rw [HZ.out];exact hlt
   have m0:(k:Int) < (S.size:Int):=by omega
   have u0:decide (S.size≤k)=false:=decide_eq_false (by omega)
   have v0:¬((S.size:Int)≤(k:Int)):=by omega
   have t0:=HL.out.2.2 _ (List.getElem_mem hlt)
   rw [j0] at hr hw b0
   generalize (knl x.op)[k]=kd at *
   generalize (flds x)[k]=fd at *
   simp only at hr hw b0
   clear j0 hp
   rcases t0 with rfl | rfl | rfl | rfl
   ·replace h1:=(show tab (rdK x k)=tab (rdK x (k+1)) from tab_congr (fun q hq=>by unfold rdK;rw [hr q];simp)) ▸ h1
    replace h2:=(show tab (wrK x k)=tab (wrK x (k+1)) from tab_congr (fun q hq=>by unfold wrK;rw [hw q];simp)) ▸ h2
    clear hr hw b0
    go_wp2
    go_roundw
    case rel=>exact ⟨k+1,by omega,by go_num,h1,h2,hC⟩
    case measure=>simp [intOf];omega
   ·obtain ⟨nf,rfl⟩:∃ nf:Nat,fd=(nf:Int):=⟨fd.toNat,by have:=b0 (by decide);omega⟩
    have a0:nf < 14:=by have:=b0 (by decide);omega
    have e0:=own_tab_at h1 nf a0
    have r0:=h1.frozenAt nf
    replace h1:=own_tab_set h1 nf true (G:=rdK x (k+1)) (fun q hq=>by
     unfold rdK;rw [hr q]
     by_cases e:q=nf
     ·subst e;simp
     rw [if_neg e];have e2:((nf:Int) == (q:Int))=false:=by simp;omega
     simp only [e2];simp)
    replace h2:=Oe h2 (w.heap.size+1) nf (fun h=>by have e:w.heap.size+1+1=w.heap.size+1:=Option.some.inj h;omega) (.bool true)
    have i0:=Nn (b:=w.heap.size+1) (j:=nf) c0 (.bool true)
    replace hC:=hC.setCell (w.heap.size+1) nf (.bool true) (fun _=>Or.inl rfl)
    generalize rdK x k nf=y1 at e0
    replace h2:=(show tab (wrK x k)=tab (wrK x (k+1)) from tab_congr (fun q hq=>by unfold wrK;rw [hw q];simp)) ▸ h2
    clear hr hw b0
    go_wp2
    go_roundw
    case rel=>exact ⟨k+1,by omega,by go_num,h1,h2,hC⟩
    case measure=>simp [intOf];omega
   ·obtain ⟨nf,rfl⟩:∃ nf:Nat,fd=(nf:Int):=⟨fd.toNat,by have:=b0 (by decide);omega⟩
    have a0:nf < 14:=by have:=b0 (by decide);omega
    replace h1:=(show tab (rdK x k)=tab (rdK x (k+1)) from tab_congr (fun q hq=>by unfold rdK;rw [hr q];simp)) ▸ h1
    have f0:=own_tab_at h2 nf a0
    have s0:=h2.frozenAt nf
    replace h2:=own_tab_set h2 nf true (G:=wrK x (k+1)) (fun q hq=>by
     unfold wrK;rw [hw q]
     by_cases e:q=nf
     ·subst e;simp
     rw [if_neg e];have e2:((nf:Int) == (q:Int))=false:=by simp;omega
     simp only [e2];simp)
    replace h1:=Oe h1 (w.heap.size+1+1) nf (fun h=>by have e:w.heap.size+1=w.heap.size+1+1:=Option.some.inj h;omega) (.bool true)
    replace hC:=hC.setCell (w.heap.size+1+1) nf (.bool true) (fun _=>Or.inr rfl)
    generalize wrK x k nf=y2 at f0
    clear hr hw b0
    go_wp2
    go_roundw
    case rel=>exact ⟨k+1,by omega,by go_num,h1,h2,hC⟩
    case measure=>simp [intOf];omega
   obtain ⟨nf,rfl⟩:∃ nf:Nat,fd=(nf:Int):=⟨fd.toNat,by have:=b0 (by decide);omega⟩
   have a0:nf < 14:=by have:=b0 (by decide);omega
   have e0:=own_tab_at h1 nf a0
   have r0:=h1.frozenAt nf
   replace h1:=own_tab_set h1 nf true (G:=rdK x (k+1)) (fun q hq=>by
    unfold rdK;rw [hr q]
    by_cases e:q=nf
    ·subst e;simp
    rw [if_neg e];have e2:((nf:Int) == (q:Int))=false:=by simp;omega
    simp only [e2];simp)
   replace h2:=Oe h2 (w.heap.size+1) nf (fun h=>by have e:w.heap.size+1+1=w.heap.size+1:=Option.some.inj h;omega) (.bool true)
   have i0:=Nn (b:=w.heap.size+1) (j:=nf) c0 (.bool true)
   replace hC:=hC.setCell (w.heap.size+1) nf (.bool true) (fun _=>Or.inl rfl)
   generalize rdK x k nf=y1 at e0
   have f0:=own_tab_at h2 nf a0
   have s0:=h2.frozenAt nf
   replace h2:=own_tab_set h2 nf true (G:=wrK x (k+1)) (fun q hq=>by
    unfold wrK;rw [hw q]
    by_cases e:q=nf
    ·subst e;simp
    rw [if_neg e];have e2:((nf:Int) == (q:Int))=false:=by simp;omega
    simp only [e2];simp)
   replace h1:=Oe h1 (w.heap.size+1+1) nf (fun h=>by have e:w.heap.size+1=w.heap.size+1+1:=Option.some.inj h;omega) (.bool true)
   replace hC:=hC.setCell (w.heap.size+1+1) nf (.bool true) (fun _=>Or.inr rfl)
   generalize wrK x k nf=y2 at f0
   clear hr hw b0
   go_wp2
   go_roundw
   case rel=>exact ⟨k+1,by omega,by go_num,h1,h2,hC⟩
   case measure=>simp [intOf];omega
  have e:k=(knl x.op).length:=by omega
  subst e
  have m0:¬(((knl x.op).length:Int) < (S.size:Int)):=by rw [HZ.out];omega
  rw [n0.out.1] at h1
  rw [n0.out.2] at h2
  go_wp2
  exact bodyPost_ret (v:=.tuple #[.slice (some ⟨w.heap.size+1,0,none⟩) 14 14,.slice (some ⟨w.heap.size+1+1,0,none⟩) 14 14]) (by simp [results,Tryz.results44,go_sem]) rfl (by exact ⟨_,_,rfl,Om h1 (by omega),Om h2 (by omega),by omega,h0.trans (hC.below w.heap.size h0.size (fun q hq h=>by omega))⟩)
def idxI (xs:List Int) (r:Int):Int:=match xs.findIdx? (fun x=>x == r) with | some k=>(k:Int) | none=>-1
def ordS (O:List Int) (r:Int):List Int:=if O.contains r then O else O++[r]
theorem idxI_at {xs:List Int} {r:Int} {k:Nat} (hk:k < xs.length) (h:xs[k]=r) (hb:∀ j (h:j < xs.length),j < k→¬xs[j]=r):idxI xs r=k:=by
 unfold idxI
 rw [show xs.findIdx? (fun x=>x == r)=some k from by
  rw [List.findIdx?_eq_some_iff_getElem]
  exact ⟨hk,by simpa using h,fun j hj=>by simpa using hb j (by omega) hj⟩]
theorem idxI_no {xs:List Int} {r:Int} (hb:∀ j (h:j < xs.length),¬xs[j]=r):idxI xs r=-1:=by
 unfold idxI
 rw [show xs.findIdx? (fun x=>x == r)=none from by
  rw [List.findIdx?_eq_none_iff]
  intro x hx
  obtain ⟨j,hj,rfl⟩:=List.getElem_of_mem hx
  simpa using hb j hj]
theorem idxI_has (xs:List Int) (r:Int):decide (0≤idxI xs r)=xs.contains r:=by
 unfold idxI
 cases h:xs.findIdx? (fun x=>x == r) with
 | some k =>
  obtain ⟨hk,h1,_⟩:=List.findIdx?_eq_some_iff_getElem.1 h
  have:xs[k]=r:=by simpa using h1
  rw [List.contains_iff_mem.2 (this ▸ List.getElem_mem hk)]
  simp
 | none =>
  rw [List.findIdx?_eq_none_iff] at h
  have:¬r ∈ xs:=fun hm=>by have:=h r hm;simp at this
  rw [show xs.contains r=false from by simpa using this]
  rfl
theorem indexI_any (v:Value) (xs:List Int) (r:Int) (w:World) (hr:Reads w 1 v xs.length (ints xs)) :
  Calls Tryz.prog 37 #[v,.int .i64 r] w fun e w'=>e=.returned (.int .i64 (idxI xs r))∧w'=w:=by
 obtain ⟨_,hn,a,e0,b,g0,rfl,d0,ha,b0⟩:=hr
 go_enter Tryz.func37,Tryz.ntmps37
 go_wp2
 go_loop [8] (fun i=>∃ k:Nat,k≤xs.length∧i=.int .i64 k∧(∀ j (h:j < xs.length),j < k→¬xs[j]=r)) (fun i=>xs.length-(intOf i).toNat)
 case atStart=>exact ⟨0,Nat.zero_le _,rfl,fun j _ h=>absurd h (by omega)⟩
 case round =>
  obtain ⟨k,hk,rfl,a0⟩:=hrel
  have HA:=Lib.hid a0;clear a0
  by_cases hlt:k < xs.length
  ·obtain ⟨rfl,f0⟩:=ha (by omega)
   have c0:=b0 k (by simpa [ints] using hlt)
   rw [ints_get] at c0
   have HY:=Lib.hid (fun (h:xs[k]=r)=>idxI_at hlt h HA.out)
   have HN:Hid (¬xs[k]=r→∀ j (h:j < xs.length),j < k+1→¬xs[j]=r):=Lib.hid (fun h j hj hlt2=>by
    by_cases e:j=k
    ·subst e;exact h
    exact HA.out j hj (by omega))
   clear b0 ha
   generalize xs[k]=x at *
   by_cases hxy:x=r
   ·have e1:(r == x)=true:=by simp [hxy]
    have HX:=Lib.hid hxy;clear hxy
    go_wp2
    go_ret
    exact ⟨ret_int (HY.out HX.out).symm,rfl⟩
   have e1:(r == x)=false:=by simp;exact fun h=>hxy h.symm
   have HX:=Lib.hid hxy;clear hxy
   go_wp2
   go_round
   case rel=>exact ⟨k+1,by omega,by go_num,HN.out HX.out⟩
   case measure=>simp [intOf];omega
  have HZ:=Lib.hid (idxI_no (fun j h=>HA.out j h (by omega)))
  go_wp2
  go_ret
  exact ⟨ret_int HZ.out.symm,rfl⟩
theorem containsI_any (v:Value) (xs:List Int) (r:Int) (w:World) (hr:Reads w 1 v xs.length (ints xs)) :
  Calls Tryz.prog 79 #[v,.int .i64 r] w fun e w'=>e=.returned (.bool (xs.contains r))∧w'=w:=by
 go_enter Tryz.func79,Tryz.ntmps79
 go_wp2_with fail
 refine (indexI_any _ xs r _ hr).mono ?_
 rintro e w1 ⟨rfl,rfl⟩
 have HI:=Lib.hid (idxI_has xs r)
 clear hr
 go_wp2
 go_ret
 exact ⟨ret_bool HI.out,rfl⟩
theorem ordS_in {O:List Int} {r:Int} (h:O.contains r=true):ordS O r=O:=by unfold ordS;rw [if_pos h]
theorem ordS_new {O:List Int} {r:Int} (h:O.contains r=false):ordS O r=O++[r]:=by unfold ordS;rw [if_neg (by rw [h];decide)]
theorem numbS_any (r:Int) (B base:Nat) (v:Value) (O:List Int) (w:World) (hc:w.cell? ⟨B,0,none⟩=some v) (hf:w.frozen? ⟨B,0,none⟩=false) (ho:w.ownsRow base 3 1 v O.length (ints O))
  (hB:¬v.ownBlock=some B) (hO:O.length≤1048576) (hbase:base≤w.heap.size) :
  Calls Tryz.prog 78 #[.int .i64 r,.pointer (some ⟨B,0,none⟩)] w fun e w'=>e=.returned (.int .i64 r)∧∃ v',w'.cell? ⟨B,0,none⟩=some v'∧w'.frozen? ⟨B,0,none⟩=false∧w'.ownsRow base 3 1 v' (ordS O r).length (ints (ordS O r))∧Chg (fun q=>q=B∨v.ownBlock=some q) w w'∧NewOr w v v':=by
 obtain ⟨a,c,rfl⟩:=Oh ho
 have kB:=Lc hc
 have hr:=Ro ho (by omega)
 go_enter Tryz.func78,Tryz.ntmps78
 go_wp2_with fail
 refine (containsI_any _ O r _ hr).mono ?_
 rintro e w1 ⟨rfl,rfl⟩
 clear hr
 cases hcn:O.contains r with
 | true =>
  have HC:=Lib.hid (ordS_in hcn)
  clear hcn
  go_wp2
  go_ret
  exact ⟨rfl,_,hc,hf,by rw [HC.out];exact ho,Chg.refl _ _,Or.inl rfl⟩
 | false =>
  have HC:=Lib.hid (ordS_new hcn)
  clear hcn
  go_wp2_with (at_builtin;refine wpList_ap tInts rfl _ _ rfl base _ O.length _ rfl ho [.int .i64 r] rfl rfl (one_ints [r]) (by omega) hbase ?_)
  intro g c' w2 ho' hC hg
  have g0:¬g=B:=by
   rcases hg with h | h
   ·exact fun e=>hB (e ▸ h)
   omega
  have c0:=Gc hC hc hB
  have e0:=Gf hC kB hf hB
  have d0:=Tc w2 B 0 (.slice (some ⟨g,0,none⟩) (O.length+1) c') c0
  have f0:=Fs (b:=⟨B,0,none⟩) e0 (.slice (some ⟨g,0,none⟩) (O.length+1) c')
  have h0:=Oe ho' B 0 (fun h=>g0 (Option.some.inj h)) (.slice (some ⟨g,0,none⟩) (O.length+1) c')
  have a0:Chg (fun q=>q=B∨(Value.slice a O.length c).ownBlock=some q) w1 w2:=⟨hC.os,hC.tape,hC.output,hC.size,fun q hq hn=>hC.block q hq (fun h=>hn (Or.inr h))⟩
  have b0:=a0.setCell B 0 (.slice (some ⟨g,0,none⟩) (O.length+1) c') (fun _=>Or.inl rfl)
  have hN:NewOr w1 (.slice a O.length c) (.slice (some ⟨g,0,none⟩) (O.length+1) c'):=by
   rcases hg with h | h
   ·exact Or.inl h.symm
   exact Or.inr ⟨g,rfl,h⟩
  have HN:=Lib.hid hN
  clear ho ho' hC a0 hN hc hf hg
  go_wp2
  go_ret
  exact ⟨rfl,_,d0,f0,by rw [HC.out,List.length_append,ints_append];exact h0,b0,HN.out⟩
theorem withFields_any (op a b c d f0 f1 f2 f3:Int) (g cap:Nat) (w:World) (h0:w.cell? ⟨g,0,none⟩=some (.int .i64 f0)) (h1:w.cell? ⟨g,1,none⟩=some (.int .i64 f1)) (h2:w.cell? ⟨g,2,none⟩=some (.int .i64 f2)) (h3:w.cell? ⟨g,3,none⟩=some (.int .i64 f3)) :
  Calls Tryz.prog 83 #[.agg #[.int .i64 op,.int .i64 a,.int .i64 b,.int .i64 c,.int .i64 d],.slice (some ⟨g,0,none⟩) 4 cap] w fun e w'=>e=.returned (.agg #[.int .i64 op,.int .i64 f0,.int .i64 f1,.int .i64 f2,.int .i64 f3])∧Below w.heap.size w w':=by
 have kg:=Lc h0
 go_enter Tryz.func83,Tryz.ntmps83
 go_upto_region 1 with (fail)
 obtain ⟨w2,a0⟩:∃ X,X=(w.alloc (.cells #[.int .i64 op,.int .i64 a,.int .i64 b,.int .i64 c,.int .i64 d] 71)).alloc (.cells #[.int .i64 0,.int .i64 0,.int .i64 0,.int .i64 0,.int .i64 0] 71):=⟨_,rfl⟩
 have e0:w2.cell? ⟨w.heap.size,0,none⟩=some (.int .i64 op):=by rw [a0];exact Ac (Wc rfl rfl) _
 have r0:w2.cell? ⟨w.heap.size+1,0,none⟩=some (.int .i64 0):=by rw [a0];exact Wc (by simp) rfl
 have r1:w2.cell? ⟨w.heap.size+1,1,none⟩=some (.int .i64 0):=by rw [a0];exact Wc (by simp) rfl
 have r2:w2.cell? ⟨w.heap.size+1,2,none⟩=some (.int .i64 0):=by rw [a0];exact Wc (by simp) rfl
 have r3:w2.cell? ⟨w.heap.size+1,3,none⟩=some (.int .i64 0):=by rw [a0];exact Wc (by simp) rfl
 have r4:w2.cell? ⟨w.heap.size+1,4,none⟩=some (.int .i64 0):=by rw [a0];exact Wc (by simp) rfl
 have q0:w2.frozen? ⟨w.heap.size+1,0,none⟩=false:=by rw [a0];exact Fn (by simp)
 have q1:w2.frozen? ⟨w.heap.size+1,1,none⟩=false:=by rw [a0];exact Fn (by simp)
 have q2:w2.frozen? ⟨w.heap.size+1,2,none⟩=false:=by rw [a0];exact Fn (by simp)
 have q3:w2.frozen? ⟨w.heap.size+1,3,none⟩=false:=by rw [a0];exact Fn (by simp)
 have q4:w2.frozen? ⟨w.heap.size+1,4,none⟩=false:=by rw [a0];exact Fn (by simp)
 have hb:Below w.heap.size w w2:=by rw [a0];exact bal (bal (Bs w) _) _
 rw [← a0]
 replace h0:=Kc hb h0;replace h1:=Kc hb h1;replace h2:=Kc hb h2;replace h3:=Kc hb h3
 clear a0
 have D:=Below.drew hb
 clear D
 go_region
 have x0:=(Nn (b:=w.heap.size+1) (j:=4) (Nn (b:=w.heap.size+1) (j:=3) (Nn (b:=w.heap.size+1) (j:=2) (Nn (b:=w.heap.size+1) (j:=1) (Tc _ (w.heap.size+1) 0 (.int .i64 op) r0) (.int .i64 f0)) (.int .i64 f1)) (.int .i64 f2)) (.int .i64 f3))
 have x1:=(Nn (b:=w.heap.size+1) (j:=4) (Nn (b:=w.heap.size+1) (j:=3) (Nn (b:=w.heap.size+1) (j:=2) (Tc _ (w.heap.size+1) 1 (.int .i64 f0) (Nn (b:=w.heap.size+1) (j:=0) r1 (.int .i64 op))) (.int .i64 f1)) (.int .i64 f2)) (.int .i64 f3))
 have x2:=(Nn (b:=w.heap.size+1) (j:=4) (Nn (b:=w.heap.size+1) (j:=3) (Tc _ (w.heap.size+1) 2 (.int .i64 f1) (Nn (b:=w.heap.size+1) (j:=1) (Nn (b:=w.heap.size+1) (j:=0) r2 (.int .i64 op)) (.int .i64 f0))) (.int .i64 f2)) (.int .i64 f3))
 have x3:=(Nn (b:=w.heap.size+1) (j:=4) (Tc _ (w.heap.size+1) 3 (.int .i64 f2) (Nn (b:=w.heap.size+1) (j:=2) (Nn (b:=w.heap.size+1) (j:=1) (Nn (b:=w.heap.size+1) (j:=0) r3 (.int .i64 op)) (.int .i64 f0)) (.int .i64 f1))) (.int .i64 f3))
 have x4:=(Tc _ (w.heap.size+1) 4 (.int .i64 f3) (Nn (b:=w.heap.size+1) (j:=3) (Nn (b:=w.heap.size+1) (j:=2) (Nn (b:=w.heap.size+1) (j:=1) (Nn (b:=w.heap.size+1) (j:=0) r4 (.int .i64 op)) (.int .i64 f0)) (.int .i64 f1)) (.int .i64 f2)))
 have tt:=(bst (bst (bst (bst (bst hb (w.heap.size+1) 0 (by omega) (.int .i64 op)) (w.heap.size+1) 1 (by omega) (.int .i64 f0)) (w.heap.size+1) 2 (by omega) (.int .i64 f1)) (w.heap.size+1) 3 (by omega) (.int .i64 f2)) (w.heap.size+1) 4 (by omega) (.int .i64 f3))
 clear r0 r1 r2 r3 r4 h0 h1 h2 h3 e0 hb
 go_wp2
 exact bodyPost_ret (v:=.agg #[.int .i64 op,.int .i64 f0,.int .i64 f1,.int .i64 f2,.int .i64 f3]) (by simp [results,Tryz.results83,go_sem,x0,x1,x2,x3,x4]) rfl (by exact ⟨rfl,Below.drew tt⟩)
end Go.Proofs.YtkjedgnepnbkpaaGreat
