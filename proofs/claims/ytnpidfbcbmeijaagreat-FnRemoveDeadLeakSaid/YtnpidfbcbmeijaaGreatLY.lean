/-
  Parts of the proofs of the laws FnRemoveDead,FnRemoveDeadLeak,FnSpecFenced,FnSpecMemory.
-/
import Derived.Test.YtnpidfbcbmeijaaGreatOY
import Derived.Test.YtnpidfbcbmeijaaGreatLV
set_option linter.all false
namespace Go.Proofs.YtnpidfbcbmeijaaGreat
open Go.RowKit
theorem flw_any (x:Ins) (i:Nat) (p:Int→Bool):(flw x i).any p=(nxt x i).any p:=by
  unfold flw nxt
  split
  · rfl
  split
  · simp [Bool.or_comm]
  rfl
theorem knl_reads {x:Ins} (hop:¬(x.op < 1∨13 < x.op)) (r:Int):((knl x.op).zip (flds x)).any (fun p=>(p.1 == 49||p.1 == 51)&&p.2 == r)=(use x).any (fun u=>u == r):=by
  obtain ⟨op,a,b,c,d⟩:=x;rcases shp_cases op with h | rfl | rfl | rfl | rfl | rfl | rfl | rfl | rfl | rfl | rfl | rfl | rfl | rfl
  · exact absurd h hop
  all_goals simp [knl,use,flds]
theorem knl_writes {x:Ins} (hop:¬(x.op < 1∨13 < x.op)) (r:Int) (h0:0≤r):((knl x.op).zip (flds x)).any (fun p=>(p.1 == 50||p.1 == 51)&&p.2 == r)=(wrt x == r):=by
  obtain ⟨op,a,b,c,d⟩:=x;have hm:(-1 == r)=false:=by simp;omega
  rcases shp_cases op with h | rfl | rfl | rfl | rfl | rfl | rfl | rfl | rfl | rfl | rfl | rfl | rfl | rfl
  · exact absurd h hop
  all_goals simp [knl,wrt,flds,hm]
def tab (f:Nat→Bool):List Bool:=(List.range 14).map f
theorem tab_len (f:Nat→Bool):(tab f).length=14:=by simp [tab]
theorem tab_get (f:Nat→Bool) (r:Nat) (h:r < (tab f).length):(tab f)[r]=f r:=by simp [tab]
theorem tab_getD (f:Nat→Bool) (r:Nat) (h:r < 14):(tab f).getD r false=f r:=by
  rw [List.getD_eq_getElem?_getD,List.getElem?_eq_getElem (by rw [tab_len];exact h),tab_get];rfl
theorem tab_congr {f g:Nat→Bool} (h:∀ r,r < 14→f r=g r):tab f=tab g:=by
  unfold tab
  exact List.map_congr_left (fun r hr=>h r (List.mem_range.1 hr))
theorem tab_set (f:Nat→Bool) (r:Nat) (b:Bool):(tab f).set r b=tab (fun q=>if q=r then b else f q):=by
  apply List.ext_getElem
  · simp [tab]
  intro j h1 h2;rw [List.getElem_set];simp only [tab,List.getElem_map,List.getElem_range];by_cases e:r=j
  · subst e;simp
  rw [if_neg e,if_neg (fun h=>e h.symm)]
theorem tab_false:List.replicate 14 false=tab (fun _=>false):=by simp [tab,List.map_const']
def bit (L:List (List Bool)) (t:Int) (r:Nat):Bool:=((L[t.toNat]?).getD []).getD r false
theorem bit_at (L:List (List Bool)) (t r:Nat) (h:t < L.length) (h2:r < L[t].length):bit L (t:Int) r=L[t][r]:=by
  unfold bit
  rw [Int.toNat_natCast,List.getElem?_eq_getElem h,Option.getD_some,List.getD_eq_getElem?_getD,List.getElem?_eq_getElem h2];rfl
def aftF (L:List (List Bool)) (ts:List Int) (r:Nat):Bool:=ts.any (fun t=>bit L t r)
def aft (L:List (List Bool)) (ts:List Int):List Bool:=tab (aftF L ts)
theorem aftF_succ (L:List (List Bool)) (ts:List Int) (k:Nat) (h:k < ts.length) (r:Nat):aftF L (ts.take (k+1)) r=(aftF L (ts.take k) r||bit L ts[k] r):=by
  unfold aftF
  rw [List.take_succ_eq_append_getElem h,List.any_append];simp
theorem aft_same (L:List (List Bool)) (x:Ins) (i:Nat):aft L (flw x i)=aft L (nxt x i):=tab_congr (fun _ _=>flw_any x i _)
def befF (x:Ins) (A:Nat→Bool) (r:Nat):Bool:=(use x).any (fun u=>u == (r:Int))||(A r&&!(wrt x == (r:Int)))
def befAt (c:Cd) (L:List (List Bool)) (i:Nat):List Bool:=match c.list[i]? with | some x=>tab (befF x (aftF L (flw x i))) | none=>[]
theorem befAt_at (c:Cd) (L:List (List Bool)) (i:Nat) (h:i < c.list.length):befAt c L i=tab (befF c.list[i] (aftF L (flw c.list[i] i))):=by
  unfold befAt;rw [List.getElem?_eq_getElem h]
def swpTo (c:Cd):Nat→List (List Bool)→List (List Bool)
  | 0,L=>L
  | k+1,L=>swpTo c k (L.set k (befAt c L k))
def swp (c:Cd) (L:List (List Bool)):List (List Bool):=swpTo c c.list.length L
def zeroL (c:Cd):List (List Bool):=List.replicate c.list.length (tab (fun _=>false))
def swps (c:Cd):Nat→List (List Bool)
  | 0=>zeroL c
  | n+1=>swp c (swps c n)
def liveOf (c:Cd):List (List Bool):=swps c (14*c.list.length)
theorem swps_fix {c:Cd} {n:Nat} (h:swp c (swps c n)=swps c n) (m:Nat):swps c (n+m)=swps c n:=by
  induction m with
  | zero=>rfl
  | succ m ih=>rw [← Nat.add_assoc,swps,ih,h]
theorem liveOf_of {c:Cd} {n:Nat} (h:swp c (swps c n)=swps c n) (hn:n≤14*c.list.length):swps c n=liveOf c:=by
  obtain ⟨m,hm⟩:=Nat.exists_eq_add_of_le hn;rw [liveOf,hm,swps_fix h]
def leq (a b:List Bool):Prop:=∀ r,r < 14→a.getD r false=true→b.getD r false=true
theorem leq_refl (a:List Bool):leq a a:=fun _ _ h=>h
theorem leq_trans {a b c:List Bool} (h:leq a b) (k:leq b c):leq a c:=fun r hr ha=>k r hr (h r hr ha)
structure InvL (c:Cd) (L:List (List Bool)):Prop where
  len:L.length=c.list.length
  rows:∀ k (h:k < L.length),L[k].length=14
  low:∀ k (h:k < L.length),leq L[k] (befAt c L k)
theorem bit_mono {L M:List (List Bool)} (h:∀ k:Nat,leq ((L[k]?).getD []) ((M[k]?).getD [])) (t:Int) {r:Nat} (hr:r < 14):bit L t r=true→bit M t r=true:=h t.toNat r hr
theorem befAt_mono {c:Cd} {L M:List (List Bool)} (h:∀ k:Nat,leq ((L[k]?).getD []) ((M[k]?).getD [])) (i:Nat):leq (befAt c L i) (befAt c M i):=by
  intro r hr;unfold befAt
  cases c.list[i]? with
  | none=>exact id
  | some x =>
    simp only
    rw [tab_getD _ _ hr,tab_getD _ _ hr];unfold befF aftF
    simp only [Bool.or_eq_true,Bool.and_eq_true,List.any_eq_true];rintro (h1 | ⟨⟨t,ht,hb⟩,h2⟩)
    · exact Or.inl h1
    exact Or.inr ⟨⟨t,ht,bit_mono h t hr hb⟩,h2⟩
theorem befAt_len {c:Cd} {L:List (List Bool)} {k:Nat} (h:k < c.list.length):(befAt c L k).length=14:=by rw [befAt_at c L k h,tab_len]
theorem zero_inv (c:Cd):InvL c (zeroL c):=by
  refine ⟨by simp [zeroL],fun k h=>by simp [zeroL,tab_len],fun k h r hr=>?_⟩;simp only [zeroL,List.getElem_replicate];rw [tab_getD _ _ hr];intro h;cases h
theorem up_leq {c:Cd} {L:List (List Bool)} (h:InvL c L) (k:Nat):∀ j:Nat,leq ((L[j]?).getD []) (((L.set k (befAt c L k))[j]?).getD []):=by
  intro j;rw [List.getElem?_set];by_cases e:k=j
  · subst e
    rw [if_pos rfl];by_cases hk:k < L.length
    · rw [if_pos hk,List.getElem?_eq_getElem hk]
      exact h.low k hk
    rw [if_neg hk,List.getElem?_eq_none (by omega)];exact leq_refl _
  rw [if_neg e];exact leq_refl _
theorem up_inv {c:Cd} {L:List (List Bool)} (h:InvL c L) (k:Nat) (hk:k < L.length):InvL c (L.set k (befAt c L k)):=by
  refine ⟨by rw [List.length_set];exact h.len,fun j hj=>?_,fun j hj=>?_⟩
  · rw [List.getElem_set]
    split
    · exact befAt_len (by rw [← h.len];exact hk)
    exact h.rows j (by simpa using hj)
  rw [List.getElem_set];split
  · rename_i e
    subst e;exact befAt_mono (up_leq h k) k
  exact leq_trans (h.low j (by simpa using hj)) (befAt_mono (up_leq h k) j)
def offs (L:List (List Bool)):Nat:=(L.map (fun a=>a.count false)).sum
theorem count_le {a b:List Bool} (hl:a.length=b.length) (h:∀ r,r < a.length→a.getD r false=true→b.getD r false=true):b.count false≤a.count false∧(a≠b→b.count false < a.count false):=by
  induction a generalizing b with
  | nil =>
    have:b=[]:=List.eq_nil_of_length_eq_zero (by simpa using hl.symm)
    subst this;simp
  | cons x a ih =>
    cases b with
    | nil=>simp at hl
    | cons y b =>
      have h0:=h 0 (by simp);have ih:=ih (b:=b) (by simpa using hl) (fun r hr=>by have:=h (r+1) (by simpa using hr);simpa using this);simp only [List.getD_cons_zero] at h0;obtain ⟨i1,i2⟩:=ih;rw [List.count_cons,List.count_cons];cases x <;> cases y <;> simp at h0 ⊢
      · exact ⟨i1,i2⟩
      · omega
      exact ⟨i1,i2⟩
theorem sum_set (f:List Bool→Nat) (L:List (List Bool)) (k:Nat) (hk:k < L.length) (x:List Bool):((L.set k x).map f).sum+f L[k]=(L.map f).sum+f x:=by
  induction L generalizing k with
  | nil=>cases hk
  | cons a L ih =>
    cases k with
    | zero=>simp;omega
    | succ k =>
      have:=ih k (by simpa using hk)
      simp only [List.set_cons_succ,List.map_cons,List.sum_cons,List.getElem_cons_succ];omega
theorem up_offs {c:Cd} {L:List (List Bool)} (h:InvL c L) (k:Nat) (hk:k < L.length):offs (L.set k (befAt c L k))≤offs L∧(befAt c L k≠L[k]→offs (L.set k (befAt c L k)) < offs L):=by
  have h1:=sum_set (fun a=>a.count false) L k hk (befAt c L k);have a0:=h.rows k hk;have b0:(befAt c L k).length=14:=befAt_len (by rw [← h.len];exact hk);obtain ⟨c1,c2⟩:=count_le (a:=L[k]) (b:=befAt c L k) (by rw [a0,b0]) (fun r hr=>h.low k hk r (by omega));unfold offs
  refine ⟨by omega,fun hne=>?_⟩;have:=c2 (fun e=>hne e.symm)
  omega
theorem zero_offs (c:Cd):offs (zeroL c)=14*c.list.length:=by
  unfold offs zeroL
  rw [List.map_replicate,List.sum_replicate_nat];rw [show (tab (fun _=>false)).count false=14 from by rw [← tab_false];simp];omega
theorem swpTo_step (c:Cd) (k:Nat) (L:List (List Bool)):swpTo c (k+1) L=swpTo c k (L.set k (befAt c L k)):=rfl
theorem set_self {L:List (List Bool)} {k:Nat} (hk:k < L.length) {x:List Bool} (h:x=L[k]):L.set k x=L:=by
  subst h;simp
theorem nxt_in {c:Cd} (h:codeOk c=true) {i:Nat} (hi:i < c.list.length):∀ t ∈ nxt c.list[i] i,0≤t∧t < (c.list.length:Int):=by
  intro t ht;have e0:=codeOk_all h i hi;obtain ⟨hl,b0⟩:=codeOk_last h
  have a0:¬c.list[i].op=13→¬c.list[i].op=8→(i:Int)+1 < (c.list.length:Int):=by
    intro h1 h2;by_cases e:i=c.list.length-1
    · subst e
      rcases b0 with h3 | h3
      · exact absurd h3 h1
      exact absurd h3 h2
    omega
  have c0:=fun hop=>tgt_in0 e0 hop
  have d0:=fun h0=>(tgt_in e0 h0).1
  rcases tgt_cases c.list[i] with ⟨h8,e,_⟩ | ⟨h9,e,_⟩ | ⟨h9,e,_⟩ | ⟨⟨h1,h2,h3⟩,_,_⟩
  · have h0:=c0 (Or.inl h8)
    have h2:=d0 h0;rw [e] at h0 h2;simp only [nxt,h8,if_true,List.mem_singleton] at ht;subst ht;exact ⟨h0,h2⟩
  · have h0:=c0 (Or.inr (Or.inl h9))
    have h2:=d0 h0;have h3:=a0 (by omega) (by omega);rw [e] at h0 h2;unfold nxt at ht
    rw [if_neg (by omega),if_pos (Or.inl h9)] at ht;simp only [List.mem_cons,List.not_mem_nil,or_false] at ht;rcases ht with rfl | rfl
    · omega
    exact ⟨h0,h2⟩
  · have h0:=c0 (Or.inr (Or.inr h9))
    have h2:=d0 h0;have h3:=a0 (by omega) (by omega);rw [e] at h0 h2;unfold nxt at ht
    rw [if_neg (by omega),if_pos (Or.inr h9)] at ht;simp only [List.mem_cons,List.not_mem_nil,or_false] at ht;rcases ht with rfl | rfl
    · omega
    exact ⟨h0,h2⟩
  unfold nxt at ht
  rw [if_neg h1,if_neg (by omega)] at ht;by_cases h13:c.list[i].op=13
  · rw [if_pos h13] at ht;cases ht
  rw [if_neg h13] at ht;simp only [List.mem_singleton] at ht;have:=a0 h13 h1
  subst ht;omega
theorem flw_in {c:Cd} (h:codeOk c=true) {i:Nat} (hi:i < c.list.length):∀ t ∈ flw c.list[i] i,0≤t∧t < (c.list.length:Int):=by
  intro t ht;have h1:=flw_any c.list[i] i (fun u=>u == t);have h2:(flw c.list[i] i).any (fun u=>u == t)=true:=List.any_eq_true.2 ⟨t,ht,by simp⟩;rw [h1] at h2;obtain ⟨u,hu,he⟩:=List.any_eq_true.1 h2;have:u=t:=by simpa using he
  subst this;exact nxt_in h hi u hu
theorem insOk_cases {nv na nl:Nat} {x:Ins} (h:insOk nv na nl x=true):∀ p ∈ (shp x.op).zip (flds x),fOk nv na nl p.1.toNat p.2=true:=by
  unfold insOk at h
  simp only [Bool.and_eq_true] at h;exact List.all_eq_true.1 h.2
theorem fOk_r {nv na nl:Nat} {n:Int} (h:fOk nv na nl 114 n=true):0≤n∧n < 14:=by
  unfold fOk at h
  rw [if_pos rfl] at h;have:=of_decide_eq_true h
  omega
theorem use_in {nv na nl:Nat} {x:Ins} (h:insOk nv na nl x=true):∀ u ∈ use x,0≤u∧u < 14:=by
  have b0:=insOk_op h;have a0:=insOk_cases h;obtain ⟨op,a,b,c,d⟩:=x;simp only at b0 a0
  rcases shp_cases op with h' | rfl | rfl | rfl | rfl | rfl | rfl | rfl | rfl | rfl | rfl | rfl | rfl | rfl
  · omega
  all_goals
    simp only [shp,flds,use] at a0 ⊢;simp at a0 ⊢
  all_goals first | omega | skip
  · exact fOk_r a0.2.1
  · exact fOk_r a0.2.2.1
  · exact ⟨fOk_r a0.2.1,fOk_r a0.2.2.1⟩
  · exact ⟨fOk_r a0.2.2.1,fOk_r a0.2.2.2⟩
  · exact ⟨fOk_r a0.2.1,fOk_r a0.2.2.1,fOk_r a0.2.2.2⟩
  · exact fOk_r a0.1
  · exact fOk_r a0.1
  exact fOk_r a0.1
theorem wrt_in {nv na nl:Nat} {x:Ins} (h:insOk nv na nl x=true):wrt x=-1∨(0≤wrt x∧wrt x < 14):=by
  have b0:=insOk_op h;have a0:=insOk_cases h;obtain ⟨op,a,b,c,d⟩:=x;simp only at b0 a0
  rcases shp_cases op with h' | rfl | rfl | rfl | rfl | rfl | rfl | rfl | rfl | rfl | rfl | rfl | rfl | rfl
  · omega
  all_goals
    simp only [shp,flds] at a0;simp [wrt] at a0 ⊢
  all_goals exact Or.inr (fOk_r a0.1)
theorem knl_in {nv na nl:Nat} {x:Ins} (h:insOk nv na nl x=true):∀ p ∈ (knl x.op).zip (flds x),p.1≠48→0≤p.2∧p.2 < 14:=by
  have b0:=insOk_op h;have a0:=insOk_cases h;obtain ⟨op,a,b,c,d⟩:=x;simp only at b0 a0
  rcases shp_cases op with h' | rfl | rfl | rfl | rfl | rfl | rfl | rfl | rfl | rfl | rfl | rfl | rfl | rfl
  · omega
  all_goals
    simp only [shp,flds,knl] at a0 ⊢;simp at a0 ⊢
  all_goals first | exact fOk_r a0.1 | exact fOk_r a0.2.1 | exact ⟨fOk_r a0.1,fOk_r a0.2.2.1⟩ | exact ⟨fOk_r a0.2.1,fOk_r a0.2.2.1⟩ | exact ⟨fOk_r a0.1,fOk_r a0.2.2.1,fOk_r a0.2.2.2⟩ | exact ⟨fOk_r a0.1,fOk_r a0.2.1,fOk_r a0.2.2.1,fOk_r a0.2.2.2⟩
theorem swpTo_inv {c:Cd} (k:Nat) {L:List (List Bool)} (h:InvL c L) (hk:k≤L.length):InvL c (swpTo c k L):=by
  induction k generalizing L with
  | zero=>exact h
  | succ k ih=>exact ih (up_inv h k (by omega)) (by rw [List.length_set];omega)
theorem swps_inv (c:Cd) (n:Nat):InvL c (swps c n):=by
  induction n with
  | zero=>exact zero_inv c
  | succ n ih=>exact swpTo_inv _ ih (by rw [ih.len];exact Lr)
def stay (d:Nat→Bool):Nat→Nat
  | 0=>0
  | k+1=>stay d k+(if d k=true then 0 else 1)
theorem stay_le (d:Nat→Bool) (k:Nat):stay d k≤k:=by
  induction k with
  | zero=>simp [stay]
  | succ k ih=>simp only [stay];split <;> omega
theorem stay_mono (d:Nat→Bool) {j k:Nat} (h:j≤k):stay d j≤stay d k:=by
  induction k with
  | zero => have : j = 0 := by omega
            subst this;exact Lr
  | succ k ih =>
    by_cases e:j=k+1
    · subst e;exact Lr
    have:=ih (by omega)
    simp only [stay];omega
theorem stay_lt (d:Nat→Bool) {j k:Nat} (h:j < k) (hd:d j=true):stay d k < k:=by
  induction k with
  | zero=>omega
  | succ k ih =>
    simp only [stay];by_cases e:j=k
    · subst e
      rw [if_pos hd];have:=stay_le d j
      omega
    have:=ih (by omega)
    split <;> omega
def stays (d:Nat→Bool) (k:Nat):List Int:=(List.range k).map (fun i=>(stay d i:Int))
theorem stays_len (d:Nat→Bool) (k:Nat):(stays d k).length=k:=by simp [stays]
theorem stays_succ (d:Nat→Bool) (k:Nat):stays d (k+1)=stays d k++[(stay d k:Int)]:=by simp [stays,List.range_succ]
theorem stays_get (d:Nat→Bool) (n k:Nat) (h:k < (stays d n).length):(stays d n)[k]=(stay d k:Int):=by simp [stays]
def dx (d:Nat→Bool) (x:Ins):Ins:=if 0≤tgt x then aim x (stay d (tgt x).toNat) else x
def outTo (l:List Ins) (d:Nat→Bool):Nat→List Ins
  | 0=>[]
  | k+1=>outTo l d k++(match l[k]? with | some x=>if d k=true then [] else [dx d x] | none=>[])
theorem outTo_succ (l:List Ins) (d:Nat→Bool) (k:Nat) (h:k < l.length):outTo l d (k+1)=outTo l d k++(if d k=true then [] else [dx d l[k]]):=by
  conv=>lhs;unfold outTo
  rw [List.getElem?_eq_getElem h]
theorem outTo_len (l:List Ins) (d:Nat→Bool) (k:Nat) (h:k≤l.length):(outTo l d k).length=stay d k:=by
  induction k with
  | zero=>rfl
  | succ k ih =>
    rw [outTo_succ l d k (by omega),List.length_append,ih (by omega)];simp only [stay];split <;> simp
def wout (c:Cd) (d:Nat→Bool):Cd:=⟨c.vars,c.arrays,outTo c.list d c.list.length⟩
theorem outTo_mem (l:List Ins) (d:Nat→Bool) (k:Nat) (h:k≤l.length):∀ y ∈ outTo l d k,∃ (j:Nat) (hj:j < l.length),j < k∧d j=false∧y=dx d l[j]:=by
  induction k with
  | zero=>intro y hy;simp [outTo] at hy
  | succ k ih =>
    intro y hy;rw [outTo_succ l d k (by omega)] at hy;rcases List.mem_append.1 hy with hy | hy
    · obtain ⟨j,hj,h1,h2,h3⟩:=ih (by omega) y hy
      exact ⟨j,hj,by omega,h2,h3⟩
    cases hd:d k with
    | true=>rw [hd] at hy;simp at hy
    | false =>
      rw [hd] at hy;simp at hy
      exact ⟨k,by omega,by omega,hd,hy⟩
theorem dx_op (d:Nat→Bool) (x:Ins):(dx d x).op=x.op:=by
  unfold dx
  split
  · unfold aim;repeat (first | split | rfl)
  rfl
theorem aim_ok {nv na nl nl':Nat} {x:Ins} (h:insOk nv na nl x=true) {t:Nat} (h0:0≤tgt x) (ht:t < nl'):insOk nv na nl' (aim x (t:Int))=true:=by
  obtain ⟨_,a0⟩:=tgt_in h h0;obtain ⟨op,a,b,c,d⟩:=x;simp only at a0
  rcases a0 with rfl | rfl | rfl
  all_goals
    unfold insOk at h ⊢
    simp [shp,flds,fOk,aim] at h ⊢
    simp [h]
    unfold wi
    exact decide_eq_true (by omega)
theorem insOk_any {nv na nl nl':Nat} {x:Ins} (h:insOk nv na nl x=true) (h0:¬0≤tgt x):insOk nv na nl' x=true:=by
  have a0:=insOk_op h;have h1:=fun hp=>tgt_in0 h hp
  have h8:¬(x.op=8∨x.op=9∨x.op=10):=fun e=>h0 (h1 e)
  clear h1 h0;obtain ⟨op,a,b,c,d⟩:=x;simp only at a0 h8
  rcases shp_cases op with h' | rfl | rfl | rfl | rfl | rfl | rfl | rfl | rfl | rfl | rfl | rfl | rfl | rfl
  all_goals first | omega | (unfold insOk at h ⊢;simp [shp,flds,fOk] at h ⊢;exact h)
theorem dx_ok {nv na nl nl':Nat} {d:Nat→Bool} {x:Ins} (h:insOk nv na nl x=true) (hd:∀ t,t < nl→stay d t < nl'):insOk nv na nl' (dx d x)=true:=by
  unfold dx
  split
  · rename_i h0
    obtain ⟨ht,_⟩:=tgt_in h h0;exact aim_ok h h0 (hd _ (by omega))
  rename_i h0
  exact insOk_any h h0
theorem codeOk_mk {c:Cd} (h1:declOk c.vars c.arrays=true) (h2:1≤c.list.length∧c.list.length≤400) (h3:∀ x ∈ c.list,insOk c.vars.length c.arrays.length c.list.length x=true) (h4:lastOk c.list=true):codeOk c=true:=by
  unfold codeOk
  rw [h1,decide_eq_true h2,List.all_eq_true.2 h3,h4];rfl
theorem wout_ok {c:Cd} {d:Nat→Bool} (h:codeOk c=true) (hd:d (c.list.length-1)=false):codeOk (wout c d)=true:=by
  obtain ⟨h1,h2⟩:=codeOk_len h;obtain ⟨hk,a0⟩:=codeOk_last h;obtain ⟨n,hn⟩:∃ n,c.list.length=n+1:=⟨c.list.length-1,by omega⟩;have c0:c.list.length-1=n:=by omega
  have b0:=outTo_len c.list d c.list.length Lr;have hs:stay d c.list.length=stay d n+1:=by rw [hn];simp only [stay];rw [← c0,hd];rfl
  have f0:=stay_le d c.list.length
  have e0:∀ t,t < c.list.length→stay d t < stay d c.list.length:=fun t ht=>by
    have:=stay_mono d (j:=t) (k:=n) (by omega)
    omega
  refine codeOk_mk (show declOk c.vars c.arrays=true from codeOk_decl h) ⟨?_,?_⟩ ?_ ?_
  · simp only [wout];omega
  · simp only [wout];omega
  · intro y hy
    obtain ⟨j,hj,_,_,rfl⟩:=outTo_mem c.list d c.list.length Lr y hy;simp only [wout];rw [b0];exact dx_ok (codeOk_all h j hj) e0
  unfold lastOk
  have e:(wout c d).list=outTo c.list d n++[dx d c.list[n]]:=by
    simp only [wout];conv=>lhs;rw [hn]
    have d0:d n=false:=by rw [← c0];exact hd
    rw [outTo_succ c.list d n (by omega),d0];simp
  rw [e,List.getLast?_concat];simp only [dx_op];simp only [c0] at a0;rcases a0 with h3 | h3 <;> rw [h3] <;> rfl
def ded (x:Ins) (A:Nat→Bool):Bool:=(x.op == 1||(x.op == 2||(x.op == 6||x.op == 7)))&&!(A x.a.toNat)
def dedAt (c:Cd) (k:Nat):Bool:=match c.list[k]? with | some x=>ded x (aftF (liveOf c) (flw x k)) | none=>false
theorem dedAt_at (c:Cd) (k:Nat) (h:k < c.list.length):dedAt c k=ded c.list[k] (aftF (liveOf c) (flw c.list[k] k)):=by
  unfold dedAt;rw [List.getElem?_eq_getElem h]
def deds (c:Cd) (k:Nat):List Bool:=(List.range k).map (dedAt c)
theorem deds_len (c:Cd) (k:Nat):(deds c k).length=k:=by simp [deds]
theorem deds_succ (c:Cd) (k:Nat):deds c (k+1)=deds c k++[dedAt c k]:=by simp [deds,List.range_succ]
theorem deds_get (c:Cd) (n k:Nat) (h:k < (deds c n).length):(deds c n)[k]=dedAt c k:=by simp [deds]
theorem ded_last {c:Cd} (h:codeOk c=true):dedAt c (c.list.length-1)=false:=by
  obtain ⟨hk,a0⟩:=codeOk_last h;rw [dedAt_at c _ hk];unfold ded
  rcases a0 with h3 | h3 <;> rw [h3] <;> rfl
def anyDed (c:Cd):Bool:=(deds c c.list.length).any id
theorem anyDed_yes {c:Cd} (h:anyDed c=true):∃ k,k < c.list.length∧dedAt c k=true:=by
  unfold anyDed at h
  obtain ⟨b,hb,h1⟩:=List.any_eq_true.1 h;simp only [deds,List.mem_map,List.mem_range] at hb;obtain ⟨k,hk,rfl⟩:=hb;exact ⟨k,hk,h1⟩
def rem1 (c:Cd):Cd:=wout c (dedAt c)
theorem rem1_len {c:Cd} (h:anyDed c=true):(rem1 c).list.length < c.list.length:=by
  obtain ⟨k,hk,h1⟩:=anyDed_yes h;simp only [rem1,wout];rw [outTo_len _ _ _ Lr];exact stay_lt _ hk h1
theorem rem1_ok {c:Cd} (h:codeOk c=true):codeOk (rem1 c)=true:=wout_ok h (ded_last h)
def remN:Nat→Cd→Cd
  | 0,c=>c
  | n+1,c=>if anyDed c=true then remN n (rem1 c) else c
theorem remN_no {c:Cd} (h:anyDed c=false) (n:Nat):remN n c=c:=by
  cases n with
  | zero=>rfl
  | succ n=>rw [remN,if_neg (by rw [h];exact Bool.false_ne_true)]
theorem remN_same (n:Nat):∀ (m:Nat) (c:Cd),c.list.length≤n→c.list.length≤m→remN n c=remN m c:=by
  induction n with
  | zero =>
    intro m c hn hm
    have:anyDed c=false:=by
      cases h:anyDed c with
      | false=>rfl
      | true=>have:=rem1_len h;omega
    rw [remN_no this,remN_no this]
  | succ n ih =>
    intro m c hn hm
    cases h:anyDed c with
    | false=>rw [remN_no h,remN_no h]
    | true =>
      have hl:=rem1_len h
      cases m with
      | zero=>omega
      | succ m =>
        rw [remN,remN,if_pos h,if_pos h];exact ih m (rem1 c) (by omega) (by omega)
def remOf (c:Cd):Cd:=remN c.list.length c
theorem remOf_no {c:Cd} (h:anyDed c=false):remOf c=c:=remN_no h _
theorem remOf_yes {c:Cd} (h:anyDed c=true):remOf c=remOf (rem1 c):=by
  have hl:=rem1_len h;unfold remOf
  obtain ⟨n,hn⟩:∃ n,c.list.length=n+1:=⟨c.list.length-1,by omega⟩;rw [hn,remN,if_pos h];exact remN_same _ _ _ (by omega) Lr
def remR (c:Cd):Cd × Bool:=if codeOk c=true then (remOf c,true) else (noCode,false)
theorem remR_no {c:Cd} (h:codeOk c=false):remR c=(noCode,false):=by unfold remR;rw [h];rfl
theorem remR_yes {c:Cd} (h:codeOk c=true):remR c=(remOf c,true):=by unfold remR;rw [if_pos h]
theorem remN_ok (n:Nat):∀ c:Cd,codeOk c=true→codeOk (remN n c)=true:=by
  induction n with
  | zero=>intro c h;exact h
  | succ n ih=>intro c h;rw [remN];split;exact ih _ (rem1_ok h);exact h
theorem remOf_ok {c:Cd} (h:codeOk c=true):codeOk (remOf c)=true:=remN_ok _ c h
theorem remR_lens (c:Cd):(remR c).1.vars.length≤1048576∧(remR c).1.arrays.length≤1048576∧(remR c).1.list.length≤1048576:=by
  cases h:codeOk c with
  | true =>
    rw [remR_yes h];have h0:=remOf_ok h;have h1:=declOk_len (codeOk_decl h0);have h2:=codeOk_len h0;refine ⟨?_,?_,?_⟩ <;> simp only <;> omega
  | false=>rw [remR_no h];simp [noCode]
end Go.Proofs.YtnpidfbcbmeijaaGreat
