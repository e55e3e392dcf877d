/-
 Parts of the proofs of the laws FnExactProductProgram.
-/
import Derived.Test.YtlckklglbodgbaaGB
import Derived.Test.YtlckklglbodgbaaGC
set_option linter.all false
namespace Go.Proofs.Ytlckklglbodgbaa
open Go.RowKit
def marks (k:Int) (n:Nat):List Int:=(List.range n).map (fun i:Nat=>k+(i:Int))
theorem marks_length (k:Int) (n:Nat):(marks k n).length=n:=by simp [marks]
theorem marks_succ (k:Int) (n:Nat):marks k (n+1)=marks k n++[k+n]:=by simp [marks,List.range_succ]
theorem marks_get (k:Int) (n j:Nat) (h:j < (marks k n).length):(marks k n)[j]=k+j:=by simp [marks]
theorem szIntS_any (v:Value) (n:Nat) (vs:List Value) (left:Int) (w:World) (hr:Reads w 1 v n vs) (h0:0≤left) (h1:left≤1073741824) :
  Calls Try.prog 27 #[v,.int .i64 left] w fun e w'=>e=.returned (.int .i64 (if left < n then -1 else left-n))∧w'=w:=by
 obtain ⟨_,hn,a,a0,b,b0,rfl,_⟩:=hr;by_cases h:left < n
 ·have h2:left-(n:Int) < 0:=by omega
  rw [if_pos h];clear h;go_enter Try.func27,Try.ntmps27
  go_wp2
  go_ret
  exact ⟨rfl,rfl⟩
 have h2:¬left-(n:Int) < 0:=by omega
 rw [if_neg h];clear h;go_enter Try.func27,Try.ntmps27
 go_wp2
 go_ret
 exact ⟨rfl,rfl⟩
theorem set_marks (xs:List Int) (k:Int) (j:Nat) (h:j < xs.length):(ints (marks k j++xs.drop j)).set j (.int .i64 (k+j))=ints (marks k (j+1)++xs.drop (j+1)):=by
 have e:xs.drop j=xs[j]::xs.drop (j+1):=by rw [List.drop_eq_getElem_cons h]
 have hl:(ints (marks k j)).length=j:=by simp [ints,marks]
 rw [marks_succ,e,ints_append,ints_append,ints_append,List.set_append_right _ _ (by omega),hl,Nat.sub_self];simp only [ints,List.map_cons,List.set_cons_zero,List.map_nil,List.append_assoc,List.cons_append,List.nil_append]
theorem markIntS_any (v:Value) (xs:List Int) (k:Int) (w:World) (base:Nat) (ho:w.ownsRow base 3 1 v xs.length (ints xs)) (hn:xs.length≤1073741824) (h0:0≤k) (h1:k≤1073741824) :
  Calls Try.prog 38 #[v,.int .i64 k] w fun e w'=>e=.returned (.int .i64 (k+xs.length))∧w'.ownsRow base 3 1 v xs.length (ints (marks k xs.length))∧Chg (fun g=>v.ownBlock=some g) w w':=by
 have e0:(v=.slice none 0 0∧xs=[])∨∃ g cap,v=.slice (some ⟨g,0,none⟩) xs.length cap:=by
  rcases ho.2 with ⟨h,h'⟩ | ⟨g,cap,_,h,_⟩
  ·exact Or.inl ⟨h,List.eq_nil_of_length_eq_zero h'⟩
  exact Or.inr ⟨g,cap,h⟩
 rcases e0 with ⟨rfl,rfl⟩ | ⟨g,cap,rfl⟩
 ·go_enter Try.func38,Try.ntmps38
  go_wp2
  refine wp_loop_rounds 1 ?_;rw [rounds_succ];go_wp2
  go_ret
  exact ⟨ret_int (by simp),by simpa [marks] using ho,Chg.refl _ _⟩
 go_enter Try.func38,Try.ntmps38
 go_wp2
 go_loopw [1,5] (fun kk i wr=>∃ j:Nat,j≤xs.length∧i=.int .i64 j∧kk=.int .i64 (k+j)∧wr.ownsRow base 3 1 (.slice (some ⟨g,0,none⟩) xs.length cap) xs.length (ints (marks k j++xs.drop j))∧Chg (fun k=>g=k) w wr) (fun _ i _=>xs.length-(intOf i).toNat)
 case atStart=>exact ⟨0,Nat.zero_le _,rfl,by simp,by simpa [marks] using ho,Chg.refl _ _⟩
 case round =>
  obtain ⟨j,hj,rfl,rfl,a0,hc⟩:=hrel;by_cases hlt:j < xs.length
  ·have b0:wr.cell? ⟨g,j,none⟩=some (.int .i64 xs[j]):=by
    rw [a0.cellAt j (by omega)];simp [ints,List.getElem?_append,marks_length,hlt]
   have hf:=a0.frozenAt j;have c0:=(a0.stored j (.int .i64 (k+j))).1;rw [set_marks xs k j hlt] at c0;have d0:=hc.setCell g j (.int .i64 (k+j)) (fun _=>rfl);clear a0 hc ho;go_wp2
   go_roundw
   case rel=>exact ⟨j+1,by omega,by go_num,by simp;omega,c0,d0⟩
   case measure=>simp [intOf];omega
  have e:j=xs.length:=by omega
  subst e;go_wp2
  go_ret
  exact ⟨rfl,by simpa using a0,hc.mono (fun _ _ h=>by simp [Value.ownBlock,h])⟩
theorem heldIntS_any (v:Value) (n:Nat) (k:Int) (w:World) (hr:Reads w 1 v n (ints (marks k n))) (hn:n≤1073741824) (h0:0≤k) (h1:k≤1073741824) :
  Calls Try.prog 40 #[v,.int .i64 k] w fun e w'=>e=.returned (.int .i64 (k+n))∧∃ d,w'=w.drewN d:=by
 obtain ⟨_,_,a,d0,b,f0,rfl,⟨c0,_⟩,ha,a0⟩:=hr;go_enter Try.func40,Try.ntmps40
 go_wp2
 go_loopw [1,5] (fun kk i wr=>∃ j:Nat,j≤n∧i=.int .i64 j∧kk=.int .i64 (k+j)∧∃ d,wr=w.drewN d) (fun _ i _=>n-(intOf i).toNat)
 case atStart=>exact ⟨0,Nat.zero_le _,rfl,by simp,0,rfl⟩
 case round =>
  obtain ⟨j,hj,rfl,rfl,d,rfl⟩:=hrel;by_cases hlt:j < n
  ·obtain ⟨rfl,e0⟩:=ha (by omega);have b0:=a0 j (by simpa [ints,marks] using hlt);rw [ints_get,marks_get] at b0;clear a0 ha;go_wp2
   go_roundw
   case rel=>exact ⟨j+1,by omega,by go_num,by simp;omega,d,rfl⟩
   case measure=>simp [intOf];omega
  have e:j=n:=by omega
  subst e;go_wp2
  go_ret
  exact ⟨rfl,_,rfl⟩
theorem szI_p (v:Value) (n:Nat) (vs:List Value) (left:Int) (w:World) (hr:Reads w 1 v n vs) (h0:0≤left) (h1:left≤1048576) :
  Calls Try.prog 27 #[v,.int .i64 left] w fun e w'=>SzP n left w e w':=by
 refine (szIntS_any v n vs left w hr h0 (by omega)).mono ?_;rintro e w' ⟨rfl,rfl⟩;exact ⟨_,rfl,by split <;> omega,Below.refl _ _⟩
theorem szBl_any (B:Nat→Prop) (D:Nat) (u:Value) (L:List St) (left:Int) (w:World) (h:BlAt w B D u L) (h0:0≤left) (h1:left≤1048576):Calls Try.prog 28 #[u,.int .i64 left] w fun e w'=>SzP (stNs L) left w e w':=(szSt_both B D).2 u L left w h h0 h1
set_option maxHeartbeats 6400000 in
set_option maxRecDepth 100000 in
theorem szProgram_any (va vb:Value) (xs ys:List Int) (A:Nat→Prop) (D:Nat) (u:Value) (L:List St) (left:Int) (w:World) (hr:Reads w 1 va xs.length (ints xs)) (hs:Reads w 1 vb ys.length (ints ys)) (hx:BlAt w A D u L) (h0:0≤left) (h1:left≤1048576) :
  Calls Try.prog 11 #[.agg #[va,vb,u],.int .i64 left] w fun r w'=>SzP (xs.length+ys.length+stNs L) left w r w':=by
 obtain ⟨pv,cv,rfl⟩:=reads_shape hr;obtain ⟨pa,ca,rfl⟩:=reads_shape hs;obtain ⟨pu,cu,rfl⟩:=hx.shape;have d0:BlAt w (fun q=>q < w.heap.size) D (.slice pu L.length cu) L:=hx.keep (S:=fun _=>False) (Chg.refl _ _) (fun _ _ _=>id) (fun q _ h=>h) Lr;have HA:Hid (∀ (l:Int) (W:World),Below w.heap.size w W→0≤l→l≤1048576→Calls Try.prog 27 #[.slice pv xs.length cv,.int .i64 l] W fun e w'=>SzP xs.length l W e w'):=Hi (fun l W hW h0 h1=>szI_p _ _ _ l W (hr.below hW) h0 h1);have HB:Hid (∀ (l:Int) (W:World),Below w.heap.size w W→0≤l→l≤1048576→Calls Try.prog 27 #[.slice pa ys.length ca,.int .i64 l] W fun e w'=>SzP ys.length l W e w'):=Hi (fun l W hW h0 h1=>szI_p _ _ _ l W (hs.below hW) h0 h1);have HC:Hid (∀ (l:Int) (W:World),Below w.heap.size w W→0≤l→l≤1048576→Calls Try.prog 28 #[.slice pu L.length cu,.int .i64 l] W fun e w'=>SzP (stNs L) l W e w'):=Hi (fun l W hW h0 h1=>szBl_any _ D _ L l W (d0.below hW) h0 h1);clear hr hs hx d0;obtain ⟨m,hm⟩:∃ m,m=stNs L:=⟨_,rfl⟩;rw [← hm] at HC ⊢;clear hm;go_enter Try.func11,Try.ntmps11
 go_wp2_with fail
 refine (HA.out (left) _ (bal (Bs w) (.cells #[.slice pv xs.length cv,.slice pa ys.length ca,.slice pu L.length cu] 36)) (by omega) (by omega)).mono ?_;rintro e w1 ⟨r0,rfl,e0,hb⟩;have c0:=hb.size;simp only [Sa] at c0;have b0:Bk w1 (w.heap.size) [.slice pv xs.length cv,.slice pa ys.length ca,.slice pu L.length cu]:=Bb (Bk.nw (by simp) rfl) hb;have a0:=btr (bal (Bs w) (.cells #[.slice pv xs.length cv,.slice pa ys.length ca,.slice pu L.length cu] 36)) hb;clear hb;have t0:=Bk.lz b0;rcases e0 with rfl | ⟨k0,j0⟩
 ·have tt:=a0;go_wp2
  exact bodyPost_ret (v:=.int .i64 (-1)) (by simp [results,Try.results11,go_sem]) rfl (by exact ⟨_,rfl,.inl rfl,tt⟩)
 have q0:¬r0 < 0:=by omega
 have o0:r0≤1048576:=by omega
 have J0:=Hi j0;clear j0;obtain ⟨i0,m0⟩:=Bk.cf b0 1 rfl;go_wp2_with fail
 refine (HB.out (r0) _ a0 (by omega) (by omega)).mono ?_;rintro e w2 ⟨r1,rfl,e1,hb⟩;have f0:=hb.size;clear m0 i0;replace b0:=Bb b0 hb;replace a0:=btr a0 hb;clear hb;rcases e1 with rfl | ⟨k1,j1⟩
 ·have tt:=a0;go_wp2
  exact bodyPost_ret (v:=.int .i64 (-1)) (by simp [results,Try.results11,go_sem]) rfl (by exact ⟨_,rfl,.inl rfl,tt⟩)
 have q1:¬r1 < 0:=by omega
 have p0:r1≤1048576:=by omega
 have J1:=Hi j1;clear j1;obtain ⟨l0,n0⟩:=Bk.cf b0 2 rfl;go_wp2_with fail
 refine (HC.out (r1) _ a0 (by omega) (by omega)).mono ?_;rintro e w3 ⟨r2,rfl,e2,hb⟩;have g0:=hb.size;clear n0 l0;replace b0:=Bb b0 hb;replace a0:=btr a0 hb;clear hb;rcases e2 with rfl | ⟨k2,j2⟩
 ·have tt:=a0;go_wp2
  exact bodyPost_ret (v:=.int .i64 (-1)) (by simp [results,Try.results11,go_sem]) rfl (by exact ⟨_,rfl,.inl rfl,tt⟩)
 have q2:¬r2 < 0:=by omega
 have s0:r2≤1048576:=by omega
 have J2:=Hi j2;clear j2;have tt:=a0;go_wp2
 exact bodyPost_ret (v:=.int .i64 r2) (by simp [results,Try.results11,go_sem]) rfl (by exact ⟨_,rfl,.inr ⟨by omega,by have:=J0.out;have:=J1.out;have:=J2.out;omega⟩,tt⟩)
structure OwnP0 (w:World) (base:Nat) (va vb u:Value) (D:Nat) (xs ys:List Int) (L:List St):Prop where
 a:w.ownsRow base 3 1 va xs.length (ints xs)
 b:w.ownsRow base 3 1 vb ys.length (ints ys)
 t:TrS w base D u L
 ab:∀ q,va.ownBlock=some q→vb.ownBlock=some q→False
structure ReadsP (w:World) (A:Nat→Prop) (D:Nat) (va vb u:Value) (xs ys:List Int) (L:List St):Prop where
 a:Reads w 1 va xs.length (ints xs)
 b:Reads w 1 vb ys.length (ints ys)
 t:BlAt w A D u L
def OwnPB (base top:Nat) (q:Nat):Prop:=base≤q∧q < top
def OwnP (w:World) (base top:Nat) (va vb u:Value) (D:Nat) (xs ys:List Int) (L:List St):Prop:=∃ w0:World,top=w0.heap.size∧OwnP0 w0 base va vb u D xs ys L∧Chg (fun q=>¬OwnPB base top q) w0 w
section
variable {w w':World} {base top base':Nat} {va vb u:Value} {D:Nat} {xs ys:List Int} {L:List St}
theorem OwnP.lt (h:OwnP w base top va vb u D xs ys L):∀ q,OwnPB base top q→base≤q∧q < w.heap.size:=by
 obtain ⟨w0,rfl,_,h⟩:=h;intro q hq;have:=h.size
 exact ⟨hq.1,by have:=hq.2;omega⟩
theorem OwnP.topl (h:OwnP w base top va vb u D xs ys L):top≤w.heap.size:=by
 obtain ⟨w0,rfl,_,h⟩:=h;exact h.size
theorem OwnP.keep (h:OwnP w base top va vb u D xs ys L) {S:Nat→Prop} (hc:Chg S w w') (hs:∀ q,OwnPB base top q→¬S q):OwnP w' base top va vb u D xs ys L:=by
 obtain ⟨w0,h1,h2,h3⟩:=h;exact ⟨w0,h1,h2,h3.trans (hc.mono (fun q _ h hq=>hs q hq h))⟩
theorem OwnP.below (h:OwnP w base top va vb u D xs ys L) (hb:Below w.heap.size w w'):OwnP w' base top va vb u D xs ys L:=h.keep (S:=fun _=>False) (Cb hb) (fun _ _=>id)
theorem OwnP0.now (h:OwnP0 w base va vb u D xs ys L):OwnP w base w.heap.size va vb u D xs ys L:=⟨w,rfl,h,Chg.refl _ _⟩
theorem OwnP0.mono (h:OwnP0 w base va vb u D xs ys L) (hb:base'≤base):OwnP0 w base' va vb u D xs ys L:=⟨Om h.a hb,Om h.b hb,h.t.mono hb,h.ab⟩
theorem OwnP.here (h:OwnP w base top va vb u D xs ys L):OwnP0 w base va vb u D xs ys L:=by
 obtain ⟨w0,rfl,h2,h3⟩:=h;have k:∀ q,base≤q→q < w0.heap.size→¬¬OwnPB base w0.heap.size q:=fun q h1 h2 h=>h ⟨h1,h2⟩
 exact ⟨Ow h2.a h3 (fun q hq=>k q (h2.a.lt q hq).1 (h2.a.lt q hq).2),Ow h2.b h3 (fun q hq=>k q (h2.b.lt q hq).1 (h2.b.lt q hq).2),h2.t.keep h3 k,h2.ab⟩
theorem OwnP.shs (h:OwnP w base top va vb u D xs ys L):ShS w base top D u L:=by
 obtain ⟨w0,rfl,h2,h3⟩:=h;exact h2.t.sh.keep h3 (fun q h1 h2 h=>h ⟨h1,h2⟩)
theorem OwnP0.reads (h:OwnP0 w base va vb u D xs ys L):ReadsP w (fun q=>base≤q) D va vb u xs ys L:=⟨Ro h.a (own_len h.a),Ro h.b (own_len h.b),h.t.row⟩
theorem OwnP.reads (h:OwnP w base top va vb u D xs ys L):ReadsP w (fun q=>base≤q) D va vb u xs ys L:=h.here.reads
theorem OwnP0.shape (h:OwnP0 w base va vb u D xs ys L):∃ a0 c0 a1 c1 a2 c2,va=.slice a0 xs.length c0∧vb=.slice a1 ys.length c1∧u=.slice a2 L.length c2:=by
 obtain ⟨a0,c0,h0⟩:=Oh h.a;obtain ⟨a1,c1,h1⟩:=Oh h.b;obtain ⟨a2,c2,h2⟩:=h.t.shape;exact ⟨a0,c0,a1,c1,a2,c2,h0,h1,h2⟩
theorem OwnP.shape (h:OwnP w base top va vb u D xs ys L):∃ a0 c0 a1 c1 a2 c2,va=.slice a0 xs.length c0∧vb=.slice a1 ys.length c1∧u=.slice a2 L.length c2:=h.here.shape
variable {A:Nat→Prop}
theorem ReadsP.below (h:ReadsP w A D va vb u xs ys L) (hb:Below w.heap.size w w'):ReadsP w' A D va vb u xs ys L:=⟨h.a.below hb,h.b.below hb,h.t.below hb⟩
theorem ReadsP.shape (h:ReadsP w A D va vb u xs ys L):∃ a0 c0 a1 c1 a2 c2,va=.slice a0 xs.length c0∧vb=.slice a1 ys.length c1∧u=.slice a2 L.length c2:=by
 obtain ⟨a0,c0,h0⟩:=reads_shape h.a;obtain ⟨a1,c1,h1⟩:=reads_shape h.b;obtain ⟨a2,c2,h2⟩:=RowOf.shape h.t;exact ⟨a0,c0,a1,c1,a2,c2,h0,h1,h2⟩
structure OwnRp (w:World) (base:Nat) (va vb:Value) (xs ys:List Int):Prop where
 a:w.ownsRow base 3 1 va xs.length (ints xs)
 b:w.ownsRow base 3 1 vb ys.length (ints ys)
 ab:∀ q,va.ownBlock=some q→vb.ownBlock=some q→False
def OwnRB (va vb:Value) (q:Nat):Prop:=va.ownBlock=some q∨vb.ownBlock=some q
theorem OwnRp.lt (h:OwnRp w base va vb xs ys):∀ q,OwnRB va vb q→base≤q∧q < w.heap.size:=by
 rintro q (hq | hq)
 ·exact h.a.lt q hq
 exact h.b.lt q hq
theorem OwnRp.keep (h:OwnRp w base va vb xs ys) {S:Nat→Prop} (hc:Chg S w w') (hs:∀ q,OwnRB va vb q→¬S q):OwnRp w' base va vb xs ys:=⟨Ow h.a hc (fun q hq=>hs q (Or.inl hq)),Ow h.b hc (fun q hq=>hs q (Or.inr hq)),h.ab⟩
theorem OwnRp.below (h:OwnRp w base va vb xs ys) (hb:Below w.heap.size w w'):OwnRp w' base va vb xs ys:=h.keep (S:=fun _=>False) (Cb hb) (fun _ _=>id)
theorem OwnRp.mono (h:OwnRp w base va vb xs ys) (hb:base'≤base):OwnRp w base' va vb xs ys:=⟨Om h.a hb,Om h.b hb,h.ab⟩
theorem OwnRp.shape (h:OwnRp w base va vb xs ys):∃ a0 c0 a1 c1,va=.slice a0 xs.length c0∧vb=.slice a1 ys.length c1:=by
 obtain ⟨a0,c0,h0⟩:=Oh h.a;obtain ⟨a1,c1,h1⟩:=Oh h.b;exact ⟨a0,c0,a1,c1,h0,h1⟩
theorem OwnRp.reads (h:OwnRp w base va vb xs ys):ReadsP w (fun _=>True) 0 va vb (.slice none 0 0) xs ys []:=⟨Ro h.a (own_len h.a),Ro h.b (own_len h.b),RowOf.nil⟩
theorem shE_off {b n:Nat} {v:Value} {zs:List Value} (ha:w.ownsRow b 3 1 v n zs) (hc:Chg (fun q=>v.ownBlock=some q) w w'):∀ {d:Nat} {u:Value} {L:List Ex},ShE w base top d u L→ShE w' base top d u L:=by
 intro d
 induction d with
 | zero =>
  intro u L h;obtain ⟨h1,xs,h2,a0⟩:=h;exact ⟨h1,xs,Ow h2 hc (fun q hq h=>own_diff h2 ha (by decide) q hq h),a0⟩
 | succ d ih =>
  intro u L h;obtain ⟨xs,⟨h2,a0⟩,h4⟩:=h
  exact ⟨xs,⟨Ow h2 hc (fun q hq h=>own_diff h2 ha (by decide) q hq h),a0⟩,fun j hj=>by
   obtain ⟨a1,a2,u',a3,a4⟩:=h4 j hj;exact ⟨a1,a2,u',a3,ih a4⟩⟩
theorem shS_off {b n:Nat} {v:Value} {zs:List Value} (ha:w.ownsRow b 3 1 v n zs) (hc:Chg (fun q=>v.ownBlock=some q) w w'):∀ {d:Nat} {u:Value} {L:List St},ShS w base top d u L→ShS w' base top d u L:=by
 intro d
 induction d with
 | zero =>
  intro u L h;obtain ⟨h1,xs,h2,a0⟩:=h;exact ⟨h1,xs,Ow h2 hc (fun q hq h=>own_diff h2 ha (by decide) q hq h),a0⟩
 | succ d ih =>
  intro u L h;obtain ⟨xs,⟨h2,a0⟩,h4⟩:=h
  exact ⟨xs,⟨Ow h2 hc (fun q hq h=>own_diff h2 ha (by decide) q hq h),a0⟩,fun j hj=>by
   obtain ⟨a1,⟨u1,D1,b1,c1⟩,⟨u2,D2,b2,c2⟩,⟨u3,b3,c3⟩,u4,b4,c4⟩:=h4 j hj;exact ⟨a1,⟨u1,D1,b1,shE_off ha hc c1⟩,⟨u2,D2,b2,shE_off ha hc c2⟩,⟨u3,b3,ih c3⟩,u4,b4,ih c4⟩⟩
theorem shS_nil (w:World):ShS w 0 0 0 (.slice none 0 0) []:=⟨rfl,[],World.ownsRow_nil _ _ _ _,fun q h=>by cases h⟩
theorem blAt_nilb (w:World) (A:Nat→Prop) (D:Nat):BlAt w A D (.slice none 0 0) []:=RowOf.nil
end
end Go.Proofs.Ytlckklglbodgbaa
