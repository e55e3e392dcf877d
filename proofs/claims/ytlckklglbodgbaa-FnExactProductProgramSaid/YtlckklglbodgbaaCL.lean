/-
 Parts of the proofs of the laws FnExactProductProgram.
-/
import Derived.Test.YtlckklglbodgbaaProg
import Derived.Test.YtlckklglbodgbaaK
set_option linter.all false
namespace Go.Proofs.Ytlckklglbodgbaa
open Go.RowKit
theorem Ac {w:World} {a:Addr} {x:Value} (h:w.cell? a=some x) (o:Obj):(w.alloc o).cell? a=some x:=by
 have hb:=World.block_lt_of_cell? w a h;rw [← h];exact World.cell?_of_block (w:=w) (heap_alloc_old w o hb)
theorem Nc {w:World} {b j b' j':Nat} {x:Value} (h:w.cell? ⟨b',j',none⟩=some x) (hn:¬(b'=b∧j'=j)) (u:Value):(w.setCell ⟨b,j,none⟩ u).cell? ⟨b',j',none⟩=some x:=by
 rw [World.cell?_setCell_other w ⟨b,j,none⟩ ⟨b',j',none⟩ u (fun e=>hn (by simp only [Addr.mk.injEq] at e;omega))];exact h
theorem Nn {w:World} {b j b' j':Nat} {x:Value} (h:w.cell? ⟨b',j',none⟩=some x) (u:Value) (hn:¬(b'=b∧j'=j):=by omega):(w.setCell ⟨b,j,none⟩ u).cell? ⟨b',j',none⟩=some x:=Nc h hn u
theorem Wc {w:World} {cs:Array Value} {t:TypeId} {b j:Nat} {x:Value} (hb:b=w.heap.size) (h:cs[j]? = some x):(w.alloc (.cells cs t)).cell? ⟨b,j,none⟩=some x:=by
 subst hb;rw [cell_of_row _ _ j cs t (0,0) (heap_alloc_new w _)];exact h
theorem Fn {w:World} {cs:Array Value} {t:TypeId} {b j:Nat} (hb:b=w.heap.size):(w.alloc (.cells cs t)).frozen? ⟨b,j,none⟩=false:=by
 subst hb;exact froz_new w cs t j
theorem Fa {w:World} {b j:Nat} {c:Bool} (hb:b < w.heap.size) (h:w.frozen? ⟨b,j,none⟩=c) (o:Obj):(w.alloc o).frozen? ⟨b,j,none⟩=c:=by
 rw [← h];exact World.frozen?_of_block (w:=w) (heap_alloc_old w o hb)
theorem Fs {w:World} {a b:Addr} {c:Bool} (h:w.frozen? a=c) (u:Value):(w.setCell b u).frozen? a=c:=(froz_set w b u a).trans h
theorem Gc {S:Nat→Prop} {w w':World} (h:Chg S w w') {b j:Nat} {x:Value} (hc:w.cell? ⟨b,j,none⟩=some x) (hs:¬S b):w'.cell? ⟨b,j,none⟩=some x:=(h.cell j (Lc hc) hs).trans hc
theorem Gf {S:Nat→Prop} {w w':World} (h:Chg S w w') {b j:Nat} {c:Bool} (hb:b < w.heap.size) (hc:w.frozen? ⟨b,j,none⟩=c) (hs:¬S b):w'.frozen? ⟨b,j,none⟩=c:=(h.frozen j hb hs).trans hc
theorem own_diff {w:World} {base base':Nat} {e e':TypeId} {sz sz' n n':Nat} {v v':Value} {xs ys:List Value} (h:w.ownsRow base e sz v n xs) (h':w.ownsRow base' e' sz' v' n' ys) (he:e≠e'):∀ q,v.ownBlock=some q→v'.ownBlock=some q→False:=by
 intro q h1 h2;rcases h.2 with ⟨rfl,_⟩ | ⟨g,cap,cur,rfl,_,hg,_⟩
 ·simp [Value.ownBlock] at h1
 rcases h'.2 with ⟨rfl,_⟩ | ⟨g',cap',cur',rfl,_,hg',_⟩
 ·simp [Value.ownBlock] at h2
 have e1:g=q:=Si h1;have e2:g'=q:=Si h2;subst e1;subst e2;rw [hg] at hg';simp only [Option.some.injEq,Obj.cells.injEq] at hg';exact he hg'.2.1
theorem all_succ {xs:List Int} {k:Nat} {P:(j:Nat)→Int→Prop} (hk:k < xs.length) (h:∀ j (h:j < xs.length),j < k→P j xs[j]) (hx:P k xs[k]):∀ j (h:j < xs.length),j < k+1→P j xs[j]:=by
 intro j hj a0;by_cases e:j=k
 ·subst e;exact hx
 exact h j hj (by omega)
theorem eqIntS_any (va vb:Value) (xs ys:List Int) (w:World) (ha:Reads w 1 va xs.length (ints xs)) (hb:Reads w 1 vb ys.length (ints ys)) :
  Calls Try.prog 36 #[va,vb] w fun e w'=>e=.returned (.bool (decide (xs=ys)))∧∃ k,w'=w.drewN k:=by
 obtain ⟨_,hn,a,g0,b,i0,rfl,f0,ha,a0⟩:=ha;obtain ⟨_,hn',a',cap',b',off',rfl,hcap',ha',b0⟩:=hb;by_cases hl:xs.length=ys.length
 ·have e0:((xs.length:Int) != (ys.length:Int))=false:=by simp [hl]
  have HL:=Hi hl;clear hl;go_enter Try.func36,Try.ntmps36
  go_wp2
  go_loopw [5] (fun i wr=>∃ k:Nat,k≤xs.length∧i=.int .i64 k∧xs.take k=ys.take k∧∃ d,wr=w.drewN d) (fun i _=>xs.length-(intOf i).toNat)
  case atStart=>exact ⟨0,Nat.zero_le _,rfl,rfl,0,rfl⟩
  case round =>
   obtain ⟨k,hk,rfl,he,d,rfl⟩:=hrel;have HE:=Hi he;clear he;by_cases hlt:k < xs.length
   ·obtain ⟨rfl,h0⟩:=ha (by omega);obtain ⟨rfl,hbs'⟩:=ha' (by have:=HL.out;omega);have hlt':k < ys.length:=by have:=HL.out;omega
    have c0:=a0 k (by simpa [ints] using hlt);have d0:=b0 k (by simpa [ints] using hlt');rw [ints_get] at c0 d0;clear a0 b0 ha ha';by_cases hxy:xs[k]=ys[k]
    ·have e1:(xs[k] != ys[k])=false:=by simp [hxy]
     clear hxy;go_wp2
     go_quiet (fail)
     go_wp2
     go_roundw
     case rel=>exact ⟨k+1,by omega,by go_num,take_succ_eq hlt hlt' HE.out (by simpa using e1),_,rfl⟩
     case measure=>simp [intOf];omega
    have e1:(xs[k] != ys[k])=true:=by simp [hxy]
    have HX:=Hi hxy;clear hxy;go_wp2
    go_quiet (fail)
    go_wp2
    go_ret
    exact ⟨ret_bool (decide_eq_false (fun h=>HX.out (by subst h;rfl))).symm,_,World.drewN_drewN ..⟩
   go_wp2
   go_ret
   exact ⟨ret_bool (decide_eq_true (by have h:=HE.out;rwa [List.take_of_length_le (by omega),List.take_of_length_le (by have:=HL.out;omega)] at h)).symm,_,rfl⟩
 have e0:((xs.length:Int) != (ys.length:Int))=true:=by simp;omega
 have HL:=Hi hl;clear hl;go_enter Try.func36,Try.ntmps36
 go_wp2
 go_ret
 exact ⟨ret_bool (decide_eq_false (fun h=>HL.out (by rw [h]))).symm,0,rfl⟩
theorem info_int:(Try.prog.info? 3).map (fun i=>(i.zero,i.size,i.bytes))=some (some (.int .i64 0),1,8):=by kernel_rfl
theorem mk_int (n:Nat) (h:n≤1073741824) (u:World):(Instr.makeSlice 23 (.int .i64 n) (.int .i64 n)).run Try.prog u =
  .ok (.slice (some ⟨u.heap.size,0,none⟩) n n) (u.alloc (.cells (madeCells #[.int .i64 0] n) 3)):=by
 obtain ⟨i0,hi,a0,b0,c0⟩:=info_parts info_int;have h:=run_make (P:=Try.prog) u 23 3 i0 (.int .i64 0) Try.underlying23 hi a0 .i64 .i64 n n (by omega) (Int.le_refl _) (by rw [c0];omega) (by omega);rw [Int.toNat_natCast,b0,Nat.mul_one] at h;exact h
theorem own_made (w:World) (z:Value) (n:Nat) (e:TypeId) (h:n≤maxLen):(w.alloc (.cells (madeCells #[z] n) e)).ownsRow w.heap.size e 1 (.slice (some ⟨w.heap.size,0,none⟩) n n) n (List.replicate n z):=by
 have h:=World.ownsRow_lit (base:=w.heap.size) (e:=e) (size:=1) w (madeCells #[z] n) n Lr h (by rw [size_madeCells,Nat.mul_one]);rwa [toList_madeCells_one] at h
theorem set_fill (xs:List Value) (z:Value) (k:Nat) (h:k < xs.length):(xs.take k++List.replicate (xs.length-k) z).set k xs[k]=xs.take (k+1)++List.replicate (xs.length-(k+1)) z:=by
 apply List.ext_getElem?
 intro j;simp only [List.getElem?_set,List.getElem?_append,List.length_take,List.length_append,List.length_replicate,List.getElem?_take,List.getElem?_replicate];grind
theorem fill_at (xs:List Value) (z:Value) (k:Nat) (h:k < xs.length):(xs.take k++List.replicate (xs.length-k) z)[k]? = some z:=by
 simp only [List.getElem?_append,List.length_take,List.getElem?_replicate];grind
theorem fill_full (xs:List Value) (z:Value) (n:Nat) (h:xs.length≤n):xs.take n++List.replicate (xs.length-n) z=xs:=by
 rw [List.take_of_length_le h,Nat.sub_eq_zero_of_le h];simp
theorem toIntS_any (v:Value) (xs:List Int) (w:World) (hr:Reads w 1 v xs.length (ints xs)) (hsz:xs.length≤1073741824) :
  Calls Try.prog 31 #[v] w fun e w'=>∃ u,e=.returned u∧w'.ownsRow w.heap.size 3 1 u xs.length (ints xs)∧Below w.heap.size w w':=by
 obtain ⟨_,hn,a,k0,b,j0,rfl,i0,ha,e0⟩:=hr;have m0:=mk_int xs.length hsz;have b0:=own_made w (.int .i64 0) xs.length 3 (by unfold maxLen;omega);go_enter Try.func31,Try.ntmps31
 go_wp2
 go_loopw [4] (fun i wr=>∃ k:Nat,k≤xs.length∧i=.int .i64 k∧wr.ownsRow w.heap.size 3 1 (.slice (some ⟨w.heap.size,0,none⟩) xs.length xs.length) xs.length ((ints xs).take k++List.replicate ((ints xs).length-k) (.int .i64 0))∧Below w.heap.size w wr) (fun i _=>xs.length-(intOf i).toNat)
 case atStart=>exact ⟨0,Nat.zero_le _,rfl,by rw [ints_length];exact b0,(Below.refl _ _).alloc Lr _⟩
 case round =>
  obtain ⟨k,hk,rfl,ho,a0⟩:=hrel;clear b0;by_cases hlt:k < xs.length
  ·obtain ⟨rfl,h0⟩:=ha (by omega);have c0:=e0 k (by simpa [ints] using hlt);rw [ints_get] at c0;have hc1':=(a0.cell (p:=⟨b,j0+k,none⟩) h0).trans c0;have l0:wr.cell? ⟨w.heap.size,k,none⟩=some (.int .i64 0):=by rw [ho.cellAt k (by omega)];exact fill_at _ _ _ (by simpa [ints] using hlt)
   have hf:=ho.frozenAt k;have f0:=(ho.stored k (.int .i64 xs[k])).1;have d0:=set_fill (ints xs) (.int .i64 0) k (by simpa [ints] using hlt);rw [ints_get] at d0;rw [d0] at f0;have g0:=a0.setCell (p:=⟨w.heap.size,k,none⟩) Lr (.int .i64 xs[k]);clear e0 ha c0 d0;go_wp2
   go_roundw
   case rel=>exact ⟨k+1,by omega,by go_num,f0,g0⟩
   case measure=>simp [intOf];omega
  go_wp2
  go_ret
  have e:k=xs.length:=by omega
  subst e;exact ⟨_,rfl,by rw [fill_full _ _ _ (by simp [ints])] at ho;exact ho,a0⟩
theorem tInts:SliceT Try.prog 23 3 (.int .i64 0) 1 8:=⟨Try.underlying23,info_int,rfl,by omega,by omega⟩
abbrev Ev:=Int × Int
def evs:List Ev→List Value
 | []=>[]
 | e::l=>.int .i64 e.1::.int .i64 e.2::evs l
theorem evs_append (a b:List Ev):evs (a++b)=evs a++evs b:=by
 induction a with
 | nil=>rfl
 | cons e l ih=>simp [evs,ih]
def rows {α:Type} (f:α→List Value):List α→List Value
 | []=>[]
 | e::l=>f e++rows f l
theorem rows_length {α:Type} {f:α→List Value} {sz:Nat} (hf:∀ x,(f x).length=sz) (l:List α):(rows f l).length=l.length*sz:=by
 induction l with
 | nil=>simp [rows]
 | cons e l ih=>simp only [rows,List.length_append,ih,hf,List.length_cons,Nat.add_mul];omega
theorem rows_append {α:Type} (f:α→List Value) (a b:List α):rows f (a++b)=rows f a++rows f b:=by
 induction a with
 | nil=>rfl
 | cons e l ih=>simp [rows,ih]
theorem rows_one {α:Type} (f:α→List Value) (a:α):rows f [a]=f a:=by simp [rows]
theorem rows_get {α:Type} {f:α→List Value} {sz:Nat} (hf:∀ x,(f x).length=sz) (l:List α) (k:Nat) (h:k < l.length) (j:Nat) (hj:j < sz):(rows f l)[k*sz+j]? = (f l[k])[j]?:=by
 induction l generalizing k with
 | nil=>cases h
 | cons e l ih =>
  cases k with
  | zero =>
   simp only [rows,Nat.zero_mul,Nat.zero_add,List.getElem_cons_zero];rw [List.getElem?_append_left (by rw [hf];exact hj)]
  | succ k =>
   have e1:(k+1)*sz+j=sz+(k*sz+j):=by rw [Nat.add_mul];omega
   simp only [rows,List.getElem_cons_succ];rw [List.getElem?_append_right (by rw [hf];omega),hf,e1,Nat.add_sub_cancel_left];exact ih k (by simpa using h)
def setFrom:List Value→Nat→List Value→List Value
 | xs,_,[]=>xs
 | xs,i,u::us=>setFrom (xs.set i u) (i+1) us
theorem setFrom_append_right (a b us:List Value) (i:Nat):setFrom (a++b) (a.length+i) us=a++setFrom b i us:=by
 induction us generalizing b i with
 | nil=>rfl
 | cons u us ih =>
  simp only [setFrom];rw [List.set_append_right _ _ (by omega),Nat.add_sub_cancel_left,Nat.add_assoc];exact ih _ _
theorem setFrom_full (a us b:List Value) (h:a.length=us.length):setFrom (a++b) 0 us=us++b:=by
 induction us generalizing a with
 | nil =>
  have:a=[]:=List.eq_nil_of_length_eq_zero (by simpa using h)
  subst this;rfl
 | cons u us ih =>
  cases a with
  | nil=>simp at h
  | cons x a =>
   simp only [setFrom,List.cons_append,List.set_cons_zero];have h1:=setFrom_append_right [u] (a++b) us 0;simp only [List.cons_append,List.nil_append,List.length_cons,List.length_nil,Nat.zero_add,Nat.add_zero] at h1;rw [Nat.zero_add,h1,ih a (by simpa using h)]
theorem rows_set {α:Type} {f:α→List Value} {sz:Nat} (hf:∀ x,(f x).length=sz) (l:List α) (k:Nat) (h:k < l.length) (x:α):setFrom (rows f l) (k*sz) (f x)=rows f (l.set k x):=by
 have e:l=l.take k++l[k]::l.drop (k+1):=by simp
 have e2:l.set k x=l.take k++x::l.drop (k+1):=by rw [List.set_eq_take_append_cons_drop,if_pos h]
 have hl:(rows f (l.take k)).length=k*sz:=by rw [rows_length hf,List.length_take,Nat.min_eq_left (by omega)]
 rw [e2];conv=>lhs;rw [e]
 rw [rows_append,rows_append];have h1:=setFrom_append_right (rows f (l.take k)) (rows f (l[k]::l.drop (k+1))) (f x) 0;rw [hl] at h1;simp only [Nat.add_zero] at h1;rw [h1];simp only [rows];rw [setFrom_full _ _ _ (by rw [hf,hf])]
structure Ins where
 op:Int
 a:Int
 b:Int
 c:Int
 d:Int
deriving DecidableEq
def insc (e:Ins):List Value:=[.int .i64 e.op,.int .i64 e.a,.int .i64 e.b,.int .i64 e.c,.int .i64 e.d]
theorem one_insc (e:Ins):∀ u ∈ insc e,u.oneCell'=true:=by
 intro u hu;simp only [insc,List.mem_cons,List.not_mem_nil,or_false] at hu;rcases hu with rfl | rfl | rfl | rfl | rfl <;> rfl
abbrev inss (l:List Ins):List Value:=rows insc l
theorem reads_row {α:Type} {f:α→List Value} {sz:Nat} (hf:∀ x,(f x).length=sz) {w:World} {b off:Nat} {l:List α} (hc:∀ j (h:j < (rows f l).length),w.cell? ⟨b,off+j,none⟩=some (rows f l)[j]) (k:Nat) (h:k < l.length) (j:Nat) (hj:j < sz) :
  w.cell? ⟨b,off+(k*sz+j),none⟩=(f l[k])[j]?:=by
 have hl:=rows_length hf l
 have a0:k*sz+j < (rows f l).length:=by
  rw [hl];have:(k+1)*sz≤l.length*sz:=Nat.mul_le_mul_right sz h
  rw [Nat.add_mul] at this;omega
 rw [hc _ a0,← rows_get hf l k h j hj,List.getElem?_eq_getElem a0]
theorem own_row {α:Type} {f:α→List Value} {sz:Nat} (hf:∀ x,(f x).length=sz) {w:World} {base:Nat} {e:TypeId} {g n cap:Nat} {l:List α} (ho:w.ownsRow base e sz (.slice (some ⟨g,0,none⟩) n cap) n (rows f l)) (k:Nat) (h:k < l.length) (j:Nat) (hj:j < sz) :
  w.cell? ⟨g,k*sz+j,none⟩=(f l[k])[j]?:=by
 have hl:=rows_length hf l
 have a0:k*sz+j < l.length*sz:=by
  have:(k+1)*sz≤l.length*sz:=Nat.mul_le_mul_right sz h
  rw [Nat.add_mul] at this;omega
 rw [ho.cellAt _ (by rw [← ho.1,hl];exact a0),rows_get hf l k h j hj]
end Go.Proofs.Ytlckklglbodgbaa
