/-
 Parts of the proofs of the laws FnPairMemory,FnSplitMemory.
-/
import Derived.Test.YtlckklglbodgbaaGreatLB5
set_option linter.all false
namespace Go.Proofs.YtlckklglbodgbaaGreat
open Go.RowKit
def RdB (w:World) (B:Nat→Prop) (u:Value) (xs:List Int):Prop:=Reads w 1 u xs.length (ints xs)∧∀ b o c,0 < xs.length→u=.slice (some ⟨b,o,none⟩) xs.length c→B b
theorem RdB.keep {w w':World} {B B':Nat→Prop} {u:Value} {xs:List Int} {S:Nat→Prop} (h:RdB w B u xs) (hc:Chg S w w') (hS:∀ q,B q→q < w.heap.size→¬S q) (hB:∀ q,B q→q < w.heap.size→B' q):RdB w' B' u xs:=
 ⟨h.1.keep hc (fun b o c h0 hv=>hS b (h.2 b o c h0 hv) (reads_lt h.1 b o c h0 hv)),fun b o c h0 hv=>hB b (h.2 b o c h0 hv) (reads_lt h.1 b o c h0 hv)⟩
theorem RdB.below {w w':World} {B:Nat→Prop} {u:Value} {xs:List Int} (h:RdB w B u xs) (hb:Below w.heap.size w w'):RdB w' B u xs:=h.keep (S:=fun _=>False) (Cb hb) (fun _ _ _=>id) (fun _ h _=>h)
theorem RdB.of_own {w:World} {B:Nat→Prop} {u:Value} {xs:List Int} {base:Nat} {e:TypeId} (h:w.ownsRow base e 1 u xs.length (ints xs)) (hB:∀ q,u.ownBlock=some q→B q):RdB w B u xs:=
 ⟨Ro h (own_len h),fun b o c h0 hv=>hB b (by
  obtain ⟨g,c2,hg⟩:=own_pos h h0;rw [hg] at hv;simp only [Value.slice.injEq,Option.some.injEq,Addr.mk.injEq] at hv;rw [hg,← hv.1.1];rfl)⟩
def Qt (B:Nat→Prop) (vd:Value) (q:Nat):Prop:=B q∧¬vd.ownBlock=some q
structure LnS (w:World) (lo:Nat) (B:Nat→Prop) (D:Nat) (va vb vd:Value) (xs ys:List Int) (L:List St):Prop where
 bs:lo≤w.heap.size
 lt:∀ q,B q→q < w.heap.size
 a:RdB w (Qt B vd) va xs
 b:RdB w (Qt B vd) vb ys
 o:∀ q,vd.ownBlock=some q→B q
 g:∃ rs,GrAt snc 11 75 (fun W A n x=>StAt W A D n x) B w lo vd rs L
structure LnC (w:World) (B:Nat→Prop) (vd:Value) (W:World) (B':Nat→Prop) (vd':Value):Prop where
 c:Chg (fun q=>vd.ownBlock=some q∨w.heap.size≤q) w W
 b:∀ q,q < w.heap.size→(B' q ↔ B q)
 v:∀ q,q < w.heap.size→vd'.ownBlock=some q→vd.ownBlock=some q
section
variable {w w' W:World} {lo D:Nat} {B B' B'' A:Nat→Prop} {va vb vd vd' vd'':Value} {xs ys:List Int} {L:List St}
theorem LnC.refl (w:World) (B:Nat→Prop) (vd:Value):LnC w B vd w B vd:=⟨Chg.refl _ _,fun _ _=>Iff.rfl,fun _ _ h=>h⟩
theorem LnC.trans (h:LnC w B vd w' B' vd') (k:LnC w' B' vd' W B'' vd''):LnC w B vd W B'' vd'':=
 ⟨chg_app h.c k.c (fun q hq ht=>by
  rcases ht with ht | ht
  ·exact Or.inl (h.v q hq ht)
  exact Or.inr (Nat.le_trans h.c.size ht)),fun q hq=>(k.b q (Nat.lt_of_lt_of_le hq h.c.size)).trans (h.b q hq),fun q hq hv=>h.v q hq (k.v q (Nat.lt_of_lt_of_le hq h.c.size) hv)⟩
theorem LnC.below (h:LnC w B vd w' B' vd') (hb:Below w'.heap.size w' W):LnC w B vd W B' vd':=⟨h.c.trans (Cb hb),h.b,h.v⟩
theorem LnC.set (h:LnC w B vd w' B' vd') (b j:Nat) (u:Value) (hb:w.heap.size≤b):LnC w B vd (w'.setCell ⟨b,j,none⟩ u) B' vd':=⟨h.c.setCell b j u (fun _=>Or.inr hb),h.b,h.v⟩
theorem LnC.grow {N:Nat→Prop} (h:LnC w B vd w' B' vd') (hN:∀ q,N q→w.heap.size≤q):LnC w B vd w' (fun q=>B' q∨N q) vd':=
 ⟨h.c,fun q hq=>⟨fun e=>e.elim (h.b q hq).1 (fun e=>absurd (hN q e) (by omega)),fun e=>Or.inl ((h.b q hq).2 e)⟩,h.v⟩
theorem LnC.qt (c:LnC w B vd W B' vd') (q:Nat) (h:Qt B vd q) (hq:q < w.heap.size):Qt B' vd' q:=⟨(c.b q hq).2 h.1,fun e=>h.2 (c.v q hq e)⟩
theorem LnC.no (c:LnC w B vd W B' vd') (q:Nat) (h:Qt B vd q) (hq:q < w.heap.size):¬(vd.ownBlock=some q∨w.heap.size≤q):=fun e=>e.elim h.2 (fun e=>absurd e (by omega))
theorem LnC.ex (c:LnC w B vd W B' vd') {d:Nat} {n:En} {e:Ex} (h:ExAt w (Qt B vd) d n e):ExAt W (Qt B' vd') d n e:=ExAt.keep c.c c.no c.qt Lr h
theorem LnC.bl (c:LnC w B vd W B' vd') {d:Nat} {u:Value} {l:List St} (h:BlAt w (Qt B vd) d u l):BlAt W (Qt B' vd') d u l:=h.keep c.c c.no c.qt Lr
theorem LnC.rd (c:LnC w B vd W B' vd') {u:Value} {l:List Int} (h:RdB w (Qt B vd) u l):RdB W (Qt B' vd') u l:=h.keep c.c c.no c.qt
theorem LnC.st (c:LnC w B vd W B' vd') {d:Nat} {n:Sn} {s:St} (h:StAt w (Qt B vd) d n s):StAt W (Qt B' vd') d n s:=StAt.keep c.c c.no c.qt Lr h
theorem LnS.keep {S:Nat→Prop} (h:LnS w lo B D va vb vd xs ys L) (hc:Chg S w w') (hs:∀ q,B q→¬S q):LnS w' lo B D va vb vd xs ys L:=
 ⟨Nat.le_trans h.bs hc.size,fun q hq=>Nat.lt_of_lt_of_le (h.lt q hq) hc.size,h.a.keep hc (fun q hq _=>hs q hq.1) (fun _ h _=>h),h.b.keep hc (fun q hq _=>hs q hq.1) (fun _ h _=>h),h.o,by
  obtain ⟨rs,hg⟩:=h.g;exact ⟨rs,hg.keep (kpS D) hc (fun q hq=>hs q (h.o q hq)) (fun q hq _=>hs q hq)⟩⟩
theorem LnS.below (h:LnS w lo B D va vb vd xs ys L) (hb:Below w.heap.size w w'):LnS w' lo B D va vb vd xs ys L:=h.keep (S:=fun _=>False) (Cb hb) (fun _ _=>id)
theorem LnS.set (h:LnS w lo B D va vb vd xs ys L) (b j:Nat) (u:Value) (hb:¬B b):LnS (w.setCell ⟨b,j,none⟩ u) lo B D va vb vd xs ys L:=h.keep (C1 b j u) (fun q hq e=>hb (e ▸ hq))
theorem LnS.grow {N:Nat→Prop} (h:LnS w lo B D va vb vd xs ys L) (hN:∀ q,N q→q < w.heap.size):LnS w lo (fun q=>B q∨N q) D va vb vd xs ys L:=
 ⟨h.bs,fun q hq=>hq.elim (h.lt q) (hN q),h.a.keep (S:=fun _=>False) (Chg.refl _ _) (fun _ _ _=>id) (fun q h _=>⟨Or.inl h.1,h.2⟩),h.b.keep (S:=fun _=>False) (Chg.refl _ _) (fun _ _ _=>id) (fun q h _=>⟨Or.inl h.1,h.2⟩),fun q hq=>Or.inl (h.o q hq),by
  obtain ⟨rs,hg⟩:=h.g;exact ⟨rs,hg.mono (kpS D) (fun q hq _=>Or.inl hq)⟩⟩
theorem LnS.labels {va':Value} {xs':List Int} (h:LnS w lo B D va vb vd xs ys L) (hr:RdB w (Qt B vd) va' xs'):LnS w lo B D va' vb vd xs' ys L:=⟨h.bs,h.lt,hr,h.b,h.o,h.g⟩
theorem LnS.push (h:LnS w lo B D va vb vd xs ys L) {rs:List Sn} {n:Sn} {x:St} (hg:GrAt snc 11 75 (fun W A n x=>StAt W A D n x) B w lo vd rs L) (ho:w'.ownsRow lo 75 11 vd' (L.length+1) (rows snc rs++snc n)) (hc:Chg (fun k=>vd.ownBlock=some k) w w') (hN:NewOr w vd vd') (hn:StAt w (Qt B vd) D n x) :
  LnS w' lo (fun q=>B q∨vd'.ownBlock=some q) D va vb vd' xs ys (L++[x]):=by
 have hB:∀ q,q < w.heap.size→¬vd.ownBlock=some q→¬vd'.ownBlock=some q:=fun q hq h1 h2=>by
  rcases newOr_blk hN q h2 with e | e
  ·exact h1 e
  omega
 have hq:∀ q,Qt B vd q→q < w.heap.size→Qt (fun q=>B q∨vd'.ownBlock=some q) vd' q:=fun q hq hl=>⟨Or.inl hq.1,hB q hl hq.2⟩
 exact ⟨Nat.le_trans h.bs hc.size,fun q hq=>hq.elim (fun e=>Nat.lt_of_lt_of_le (h.lt q e) hc.size) (fun e=>(ho.lt q e).2),h.a.keep hc (fun q hq _=>hq.2) hq,h.b.keep hc (fun q hq _=>hq.2) hq,fun q hq=>Or.inr hq,
  ⟨_,(hg.push (kpS D) ho hc hN hn (fun q hq _=>hq)).mono (kpS D) (fun q hq _=>Or.inl hq)⟩⟩
theorem LnS.pushC (h:LnS w lo B D va vb vd xs ys L) (hc:Chg (fun k=>vd.ownBlock=some k) w w') (hN:NewOr w vd vd'):LnC w B vd w' (fun q=>B q∨vd'.ownBlock=some q) vd':=
 ⟨hc.mono (fun q _ e=>Or.inl e),fun q hq=>⟨fun e=>e.elim id (fun e=>by
  rcases newOr_blk hN q e with e | e
  ·exact h.o q e
  ·omega),Or.inl⟩,fun q hq e=>by
  rcases newOr_blk hN q e with e | e
  ·exact e
  omega⟩
theorem LnS.pushX (h:LnS w lo B D va vb vd xs ys L) {rs:List Sn} {n:Sn} {x:St} (hg:GrAt snc 11 75 (fun W A n x=>StAt W A D n x) B w lo vd rs L) (ho:w'.ownsRow lo 75 11 vd' (L.length+1) (rows snc rs++snc n)) (hc:Chg (fun k=>vd.ownBlock=some k) w w') (hN:NewOr w vd vd') (hn:StAt w (Qt B vd) D n x) :
  ∃ B',LnS w' lo B' D va vb vd' xs ys (L++[x])∧LnC w B vd w' B' vd':=⟨_,h.push hg ho hc hN hn,h.pushC hc hN⟩
theorem LnS.grown {w0:World} {B0:Nat→Prop} {vd0:Value} (h:LnS w lo B D va vb vd xs ys L) (hd:LnC w0 B0 vd0 w B vd) (hb:Below w.heap.size w W) {N:Nat→Prop} (hN:∀ q,N q→w.heap.size≤q∧q < W.heap.size) :
  ∃ B',LnS W lo B' D va vb vd xs ys L∧LnC w0 B0 vd0 W B' vd∧(∀ q,Qt B vd q∨N q→Qt B' vd q)∧(∀ q,B' q→B q∨N q):=
 ⟨fun q=>B q∨N q,(h.below hb).grow (fun q hq=>(hN q hq).2),(hd.below hb).grow (fun q hq=>Nat.le_trans hd.c.size (hN q hq).1),fun q hq=>hq.elim (fun e=>⟨Or.inl e.1,e.2⟩) (fun e=>⟨Or.inr e,fun e2=>by have:=h.lt q (h.o q e2);have:=hN q e;omega⟩),fun _ h=>h⟩
theorem exAt_mono {d:Nat} {n:En} {e:Ex} (h:ExAt w B d n e) (hB:∀ q,B q→q < w.heap.size→B' q):ExAt w B' d n e:=ExAt.keep (S:=fun _=>False) (Chg.refl _ _) (fun _ _ _=>id) hB Lr h
theorem blAt_mono {d:Nat} {u:Value} {l:List St} (h:BlAt w B d u l) (hB:∀ q,B q→q < w.heap.size→B' q):BlAt w B' d u l:=h.keep (S:=fun _=>False) (Chg.refl _ _) (fun _ _ _=>id) hB Lr
theorem LnS.row (h:LnS w lo B D va vb vd xs ys L):∃ p c,vd=.slice p L.length c:=by
 obtain ⟨rs,hg⟩:=h.g;exact Oh hg.own
theorem LnC.nb (c:LnC w B vd W B' vd') {b:Nat} (h:¬B b) (hb:b < w.heap.size):¬B' b:=fun e=>h ((c.b b hb).1 e)
end
section
variable {w w' W:World} {lo lo2 D d:Nat} {B B' B0:Nat→Prop} {va vb vd vd' vd0 v v':Value} {xs ys:List Int} {L:List St} {rs:List En} {l:List Ex} {w0:World}
theorem LnC.chg {S:Nat→Prop} (h:LnC w B vd w' B' vd') (hc:Chg S w' W) (hs:∀ q,S q→w.heap.size≤q):LnC w B vd W B' vd':=⟨h.c.trans (hc.mono (fun q _ e=>Or.inr (hs q e))),h.b,h.v⟩
theorem LnS.more (h:LnS w lo B D va vb vd xs ys L) (hd:LnC w0 B0 vd0 w B vd) {N:Nat→Prop} (hN:∀ q,N q→w0.heap.size≤q∧q < w.heap.size∧¬B q) :
  ∃ B',LnS w lo B' D va vb vd xs ys L∧LnC w0 B0 vd0 w B' vd∧(∀ q,Qt B vd q∨N q→Qt B' vd q)∧(∀ q,B' q→B q∨N q):=
 ⟨fun q=>B q∨N q,h.grow (fun q hq=>(hN q hq).2.1),hd.grow (fun q hq=>(hN q hq).1),fun q hq=>hq.elim (fun e=>⟨Or.inl e.1,e.2⟩) (fun e=>⟨Or.inr e,fun e2=>(hN q e).2.2 (h.o q e2)⟩),fun _ h=>h⟩
structure KdS (w:World) (lo:Nat) (B:Nat→Prop) (vd v:Value) (rs:List En) (l:List Ex) (d:Nat):Prop where
 g:GrAt enc 3 73 (fun W A n x=>ExAt W A d n x) (Qt B vd) w lo v rs l
 n:∀ q,v.ownBlock=some q→¬B q
theorem KdS.nil:KdS w lo2 B vd (.slice none 0 0) [] [] d:=⟨GrAt.nil,fun q h=>by cases h⟩
theorem KdS.call (h:KdS w lo2 B vd v rs l d) (ho:∀ q,vd.ownBlock=some q→B q) (c:LnC w B vd W B' vd'):KdS W lo2 B' vd' v rs l d:=
 ⟨⟨h.g.len,Ow h.g.own c.c (fun q hq e=>e.elim (fun e=>h.n q hq (ho q e)) (fun e=>by have:=(h.g.own.lt q hq).2;omega)),fun j a b=>ExAt.keep c.c (fun q hq hl=>c.no q hq.1 hl) (fun q hq hl=>⟨c.qt q hq.1 hl,hq.2⟩) Lr (h.g.kid j a b)⟩,fun q hq e=>h.n q hq ((c.b q (h.g.own.lt q hq).2).1 e)⟩
theorem KdS.below (h:KdS w lo2 B vd v rs l d) (hb:Below w.heap.size w W):KdS W lo2 B vd v rs l d:=⟨h.g.below (kpE d) hb,h.n⟩
theorem KdS.set (h:KdS w lo2 B vd v rs l d) (b j:Nat) (u:Value) (hb:¬B b) (hl:∀ q,v.ownBlock=some q→¬q=b):KdS (w.setCell ⟨b,j,none⟩ u) lo2 B vd v rs l d:=
 ⟨h.g.keep (kpE d) (C1 b j u) hl (fun q hq _ e=>hb (e ▸ hq.1)),h.n⟩
theorem KdS.push (h:KdS w lo2 B vd v rs l d) {n:En} {x:Ex} (ho:w'.ownsRow lo2 73 3 v' (l.length+1) (rows enc rs++enc n)) (hc:Chg (fun k=>v.ownBlock=some k) w w') (hN:NewOr w v v') (hlt:∀ q,B q→q < w.heap.size) (hn:ExAt w (Qt B vd) d n x):KdS w' lo2 B vd v' (rs++[n]) (l++[x]) d:=
 ⟨h.g.push (kpE d) ho hc hN hn (fun q hq _=>⟨hq,fun e=>h.n q e hq.1⟩),fun q hq e=>by
  rcases newOr_blk hN q hq with h2 | h2
  ·exact h.n q h2 e
  have:=hlt q e;omega⟩
theorem KdS.ex (h:KdS w lo2 B vd v rs l d) {k x:Int} {p:Option Addr} {c:Nat} (hv:v=.slice p l.length c) (hB:∀ q,Qt B vd q∨v.ownBlock=some q→Qt B' vd q):ExAt w (Qt B' vd) (d+1) ⟨k,x,p,l.length,c⟩ (.mk k x l):=
 ⟨rfl,rfl,by subst hv;exact rowOf_own h.g.len h.g.own (own_len h.g.own) (fun q hq=>hB q (Or.inr hq)) (fun j a b=>exAt_mono (h.g.kid j a b) (fun q hq _=>hB q (Or.inl hq.1)))⟩
end
def LnP (lo D:Nat) (B:Nat→Prop) (vb vp vd:Value) (ys:List Int) (S:List Int × List St) (w:World) (r:Ending) (w':World):Prop:=∃ (xs:List Int) (L:List St) (B':Nat→Prop) (p1 p2:Option Addr) (c1 c2:Nat),S=(xs,L)∧r=.returned (.agg #[.slice p1 xs.length c1,vb,vp,.slice p2 L.length c2]) ∧
 LnS w' lo B' D (.slice p1 xs.length c1) vb (.slice p2 L.length c2) xs ys L∧LnC w B vd w' B' (.slice p2 L.length c2)
def LnPi (lo D:Nat) (B:Nat→Prop) (vb vp vd:Value) (ys:List Int) (S:List Int × List St) (i:Int) (w:World) (r:Ending) (w':World):Prop:=∃ (xs:List Int) (L:List St) (B':Nat→Prop) (p1 p2:Option Addr) (c1 c2:Nat),S=(xs,L)∧r=.returned (.tuple #[.agg #[.slice p1 xs.length c1,vb,vp,.slice p2 L.length c2],.int .i64 i]) ∧
 LnS w' lo B' D (.slice p1 xs.length c1) vb (.slice p2 L.length c2) xs ys L∧LnC w B vd w' B' (.slice p2 L.length c2)
def LnPe (lo D d:Nat) (B:Nat→Prop) (vb vp vd:Value) (ys:List Int) (S:(List Int × List St) × Ex) (w:World) (r:Ending) (w':World):Prop:=∃ (xs:List Int) (L:List St) (e:Ex) (B':Nat→Prop) (p1 p2:Option Addr) (c1 c2:Nat) (n:En),S=((xs,L),e)∧r=.returned (.tuple #[.agg #[.slice p1 xs.length c1,vb,vp,.slice p2 L.length c2],.agg #[.int .i64 n.k,.int .i64 n.v,.slice n.p n.n n.c]]) ∧
 LnS w' lo B' D (.slice p1 xs.length c1) vb (.slice p2 L.length c2) xs ys L∧LnC w B vd w' B' (.slice p2 L.length c2)∧ExAt w' (Qt B' (.slice p2 L.length c2)) d n e
def LnPb (lo D d:Nat) (B:Nat→Prop) (vb vp vd:Value) (ys:List Int) (S:(List Int × List St) × List St) (w:World) (r:Ending) (w':World):Prop:=∃ (xs:List Int) (L K:List St) (B':Nat→Prop) (p1 p2 p3:Option Addr) (c1 c2 c3:Nat),S=((xs,L),K)∧r=.returned (.tuple #[.agg #[.slice p1 xs.length c1,vb,vp,.slice p2 L.length c2],.slice p3 K.length c3]) ∧
 LnS w' lo B' D (.slice p1 xs.length c1) vb (.slice p2 L.length c2) xs ys L∧LnC w B vd w' B' (.slice p2 L.length c2)∧BlAt w' (Qt B' (.slice p2 L.length c2)) d (.slice p3 K.length c3) K
section
variable {w w':World} {lo lo2 D:Nat} {B Bi:Nat→Prop} {va vb vd va' vdi:Value} {xs xs' ys:List Int} {L K:List St}
def nilV:Value:=.slice none 0 0
theorem LnS.inner (h:LnS w lo B (D+1) va vb vd xs ys L):LnS w w.heap.size (Qt B vd) D va vb (.slice none 0 0) xs ys []:=
 ⟨Lr,fun q hq=>h.lt q hq.1,h.a.keep (S:=fun _=>False) (Chg.refl _ _) (fun _ _ _=>id) (fun q h _=>⟨h,fun e=>(by cases e)⟩),h.b.keep (S:=fun _=>False) (Chg.refl _ _) (fun _ _ _=>id) (fun q h _=>⟨h,fun e=>(by cases e)⟩),fun q hq=>(by cases hq),⟨[],GrAt.nil⟩⟩
theorem LnS.join (h:LnS w lo B (D+1) va vb vd xs ys L) (hi:LnS w' lo2 Bi D va' vb vdi xs' ys K) (hc:LnC w (Qt B vd) (.slice none 0 0) w' Bi vdi) :
  ∃ B',LnS w' lo B' (D+1) va' vb vd xs' ys L∧LnC w B vd w' B' vd∧BlAt w' (Qt B' vd) D vdi K:=by
 have hn:∀ q,Bi q→¬vd.ownBlock=some q:=fun q hq e=>by
  have h1:=h.lt q (h.o q e);exact ((hc.b q h1).1 hq).2 e
 have hC:Chg (fun q=>w.heap.size≤q) w w':=hc.c.mono (fun q _ e=>e.elim (fun e=>by cases e) id);have hq:∀ q,Qt Bi vdi q→q < w'.heap.size→Qt (fun q=>B q∨Bi q) vd q:=fun q e _=>⟨Or.inr e.1,hn q e.1⟩
 refine ⟨fun q=>B q∨Bi q,⟨Nat.le_trans h.bs hC.size,fun q hq=>hq.elim (fun e=>Nat.lt_of_lt_of_le (h.lt q e) hC.size) (hi.lt q),hi.a.keep (S:=fun _=>False) (Chg.refl _ _) (fun _ _ _=>id) hq,hi.b.keep (S:=fun _=>False) (Chg.refl _ _) (fun _ _ _=>id) hq,fun q e=>Or.inl (h.o q e),?_⟩,⟨hC.mono (fun q _ e=>Or.inr e),fun q hl=>⟨fun e=>e.elim id (fun e=>((hc.b q hl).1 e).1),Or.inl⟩,fun _ _ e=>e⟩,?_⟩
 ·obtain ⟨rs,hg⟩:=h.g;exact ⟨rs,(hg.keep (kpS (D+1)) hC (fun q e e2=>by have:=h.lt q (h.o q e);omega) (fun q e hl e2=>by omega)).mono (kpS (D+1)) (fun q e _=>Or.inl e)⟩
 obtain ⟨rs,hg⟩:=hi.g;exact rowOf_own hg.len hg.own (own_len hg.own) (fun q e=>⟨Or.inr (hi.o q e),hn q (hi.o q e)⟩) (fun j a b=>StAt.keep (S:=fun _=>False) (Chg.refl _ _) (fun _ _ _=>id) hq Lr (hg.kid j a b))
end
def LnPn (lo D:Nat) (B:Nat→Prop) (vb vp vd:Value) (ys:List Int) (L:List St) (S:List Int × List St) (w:World) (r:Ending) (w':World):Prop:=∃ (xs:List Int) (K:List St) (B':Nat→Prop) (p1 p3:Option Addr) (c1 c3:Nat),S=(xs,K)∧r=.returned (.agg #[.slice p1 xs.length c1,vb,vp,.slice p3 K.length c3]) ∧
 LnS w' lo B' (D+1) (.slice p1 xs.length c1) vb vd xs ys L∧LnC w B vd w' B' vd∧BlAt w' (Qt B' vd) D (.slice p3 K.length c3) K
section
variable {w w':World} {lo D:Nat} {B:Nat→Prop} {xs ys:List Int} {L:List St}
theorem l5Fresh_ln (p1 p2 py pz:Option Addr) (c1 c2 ny cy nz cz:Nat) (l:Int) (h:LnS w lo B D (.slice p1 xs.length c1) (.slice py ny cy) (.slice p2 L.length c2) xs ys L) (hn:xs.length≤1048576) :
  Calls Tryz.prog 124 #[.agg #[.slice p1 xs.length c1,.slice py ny cy,.slice pz nz cz,.slice p2 L.length c2],.int .i64 l] w fun r w'=>LnPi lo D B (.slice py ny cy) (.slice pz nz cz) (.slice p2 L.length c2) ys (xs++[l],L) xs.length w r w':=by
 refine (l5Fresh_any xs l _ py pz p2 ny nz L.length cy cz c2 w h.a.1 hn).mono ?_;rintro r w' ⟨p,c,rfl,ho,hb⟩;have e1:(xs++[l]).length=xs.length+1:=by simp
 have hw:=hb.size;have hN:∀ q,(w.heap.size≤q∧q < w'.heap.size)→q < w'.heap.size:=fun q hq=>hq.2
 have h2:=((h.below hb).grow (N:=fun q=>w.heap.size≤q∧q < w'.heap.size) hN);refine ⟨xs++[l],L,fun q=>B q∨(w.heap.size≤q∧q < w'.heap.size),p,p2,c,c2,rfl,by rw [e1],?_,((LnC.refl w B _).below hb).grow (fun q hq=>hq.1)⟩;refine h2.labels (RdB.of_own (by rw [e1];exact ho) (fun q hq=>?_));rw [e1] at hq;have h3:=ho.lt q hq;exact ⟨Or.inr h3,fun e=>by have:=h.lt q (h.o q e);omega⟩
end
end Go.Proofs.YtlckklglbodgbaaGreat
namespace Go.Proofs.YtlckklglbodgbaaGreat
open Go.RowKit
set_option maxHeartbeats 6400000 in
set_option maxRecDepth 100000 in
theorem l5Assign_ln {w:World} {lo D:Nat} {B:Nat→Prop} {xs ys:List Int} {L:List St} (p1 p2 py pz:Option Addr) (c1 c2 cy nz cz:Nat) (v:Int) (d:Nat) (n:En) (e:Ex) (h:LnS w lo B (D+1) (.slice p1 xs.length c1) (.slice py ys.length cy) (.slice p2 L.length c2) xs ys L) (hx:ExAt w (Qt B (.slice p2 L.length c2)) d n e) (hn:L.length≤4000000000) :
  Calls Tryz.prog 103 #[.agg #[.slice p1 xs.length c1,.slice py ys.length cy,.slice pz nz cz,.slice p2 L.length c2],.int .i64 v,.agg #[.int .i64 n.k,.int .i64 n.v,.slice n.p n.n n.c]] w fun r w'=>LnP lo (D+1) B (.slice py ys.length cy) (.slice pz nz cz) (.slice p2 L.length c2) ys (xs,L++[asgS v e]) w r w':=by
 have d1:=Hi (fun W B' v' (c:LnC w B (.slice p2 L.length c2) W B' v')=>c.ex hx);have hS:=h;have hD:=LnC.refl w B (.slice p2 L.length c2);clear h hx;go_enter Tryz.func103,Tryz.ntmps103
 go_upto_region 1 with (fail)
 generalize hnw:World.alloc _ _=w1;have hb:=nmh hnw;clear hnw
 have k0:¬B (w.heap.size):=fun h=>by have:=hS.lt _ h;omega
 have p0:¬B (w.heap.size+1):=fun h=>by have:=hS.lt _ h;omega
 have c0:¬B (w.heap.size+1+1):=fun h=>by have:=hS.lt _ h;omega
 replace hD:=(((hD.below (bal (Bs _) _)).below (bal (Bs _) _)).below (bal (Bs _) _)).below hb;replace hS:=(((hS.below (bal (Bs _) _)).below (bal (Bs _) _)).below (bal (Bs _) _)).below hb;have o0:=hb.size;simp only [Sa] at o0;have f0:=Bb (Bk.al (Bk.al (Bk.n4 (w.heap.size)) (.cells #[.int .i64 n.k,.int .i64 n.v,.slice n.p n.n n.c] 73)) (.cells #[.slice none 0 0,.slice none 0 0,.slice none 0 0,.slice none 0 0] 98)) hb;have g0:=Bb (Bk.al (Bk.n3 (w.heap.size+1)) (.cells #[.slice none 0 0,.slice none 0 0,.slice none 0 0,.slice none 0 0] 98)) hb;have h0:=Bb (Bk.n4 (w.heap.size+1+1)) hb;clear hb;have i2:=Bk.lz f0;have j2:=Bk.lz g0;have i1:=Bk.lz h0;have b0:¬B (w1.heap.size):=fun h=>by have:=hS.lt _ h;omega
 have a0:=(hS.below (bal (Bs _) (.cells #[.int .i64 1,.int .i64 v,.int .i64 0,.int .i64 0,.slice none 0 0,.int .i64 n.k,.int .i64 n.v,.slice n.p n.n n.c,.int .i64 0,.slice none 0 0,.slice none 0 0] 75)));have m0:=(hD.below (bal (Bs _) (.cells #[.int .i64 1,.int .i64 v,.int .i64 0,.int .i64 0,.slice none 0 0,.int .i64 n.k,.int .i64 n.v,.slice n.p n.n n.c,.int .i64 0,.slice none 0 0,.slice none 0 0] 75)));obtain ⟨j1,n0⟩:=a0.g;have y0:=Ro (World.ownsRow_lit (base:=(w1).heap.size) (e:=75) (size:=11) (w1) #[.int .i64 1,.int .i64 v,.int .i64 0,.int .i64 0,.slice none 0 0,.int .i64 n.k,.int .i64 n.v,.slice n.p n.n n.c,.int .i64 0,.slice none 0 0,.slice none 0 0] 1 Lr (by unfold maxLen;omega) (by simp)) (by simp);have a1:StAt (World.alloc w1 (.cells #[.int .i64 1,.int .i64 v,.int .i64 0,.int .i64 0,.slice none 0 0,.int .i64 n.k,.int .i64 n.v,.slice n.p n.n n.c,.int .i64 0,.slice none 0 0,.slice none 0 0] 75)) (Qt B (.slice p2 L.length c2)) (D+1) ⟨1,v,⟨0,0,none,0,0⟩,n,0,none,0,0,none,0,0⟩ (asgS v e):=⟨rfl,rfl,rfl,⟨1,exAt_leaf 0 0⟩,⟨d,d1.out _ _ _ m0⟩,RowOf.nil,RowOf.nil⟩;obtain ⟨q0,u0⟩:=Bk.cf f0 3 rfl;obtain ⟨r0,v0,s0,w0,t0,x0⟩:=Bk.h3 g0;go_wp2_with (at_builtin;refine wpList_aps tStmts2 rfl _ _ rfl lo _ L.length (rows snc j1) rfl n0.own _ 1 (snc ⟨1,v,⟨0,0,none,0,0⟩,n,0,none,0,0,none,0,0⟩) rfl y0 (one_snc _) (by omega) a0.bs ?_)
 intro vA w2 oA hc z0 _;obtain ⟨d0,e0,rfl⟩:=Oh oA;obtain ⟨B9_1,b1,hC⟩:=a0.pushX n0 oA hc z0 a1;have hb:=hC.c;have iV:∀ q,((Value.slice p2 L.length c2).ownBlock=some q∨(World.alloc w1 (.cells #[.int .i64 1,.int .i64 v,.int .i64 0,.int .i64 0,.slice none 0 0,.int .i64 n.k,.int .i64 n.v,.slice n.p n.n n.c,.int .i64 0,.slice none 0 0,.slice none 0 0] 75)).heap.size≤q)→¬q=w.heap.size∧¬q=w.heap.size+1∧¬q=w.heap.size+1+1∧¬q=w1.heap.size:=fun q h=>h.elim (fun h=>⟨fun e=>k0 (a0.o _ (e ▸ h)),fun e=>p0 (a0.o _ (e ▸ h)),fun e=>c0 (a0.o _ (e ▸ h)),fun e=>b0 (a0.o _ (e ▸ h))⟩) (fun h=>by (try simp only [Sa,Ss] at h);omega)
 replace k0:=hC.nb k0 (by (try simp only [Sa,Ss]);omega);replace p0:=hC.nb p0 (by (try simp only [Sa,Ss]);omega);replace c0:=hC.nb c0 (by (try simp only [Sa,Ss]);omega);replace b0:=hC.nb b0 (by (try simp only [Sa,Ss]);omega);replace hD:=m0.trans hC;have e1:=hC;have h1:=a0;replace hS:=b1;clear b1 hC a0 m0 n0 y0 a1 oA hc z0;obtain ⟨L_1,i0⟩:∃ X,X=L++[asgS v e]:=⟨_,rfl⟩;have e9:L.length+1=L_1.length:=by rw [i0];simp
 rw [← i0,e9] at hS;rw [e9] at hD ⊢;have h2:L_1.length≤L.length+1:=by omega
 clear e9;replace i0:=Hi i0;have j0:=hb.size;simp only [Sa] at j0;clear u0 q0 v0 r0 w0 s0 x0 t0;replace f0:=Bk.keep (Bk.al f0 _) hb (fun h=>by have:=iV _ h;omega);replace g0:=Bk.keep (Bk.al g0 _) hb (fun h=>by have:=iV _ h;omega);replace h0:=Bk.keep (Bk.al h0 _) hb (fun h=>by have:=iV _ h;omega);have l0:Bk w2 (w1.heap.size) [.int .i64 1,.int .i64 v,.int .i64 0,.int .i64 0,.slice none 0 0,.int .i64 n.k,.int .i64 n.v,.slice n.p n.n n.c,.int .i64 0,.slice none 0 0,.slice none 0 0]:=Bk.keep (Bk.n11 (w1.heap.size)) hb (fun h=>by have:=iV _ h;omega);clear hb;clear iV e1 h1;clear g0 l0;have g1:=Hi (((((hS.set (w.heap.size) 3 (.slice d0 L_1.length e0) k0).set (w.heap.size+1+1) 0 (.slice p1 xs.length c1) c0).set (w.heap.size+1+1) 1 (.slice py ys.length cy) c0).set (w.heap.size+1+1) 2 (.slice pz nz cz) c0).set (w.heap.size+1+1) 3 (.slice d0 L_1.length e0) c0);have f1:=Hi (((((hD.set (w.heap.size) 3 (.slice d0 L_1.length e0) (by omega)).set (w.heap.size+1+1) 0 (.slice p1 xs.length c1) (by omega)).set (w.heap.size+1+1) 1 (.slice py ys.length cy) (by omega)).set (w.heap.size+1+1) 2 (.slice pz nz cz) (by omega)).set (w.heap.size+1+1) 3 (.slice d0 L_1.length e0) (by omega));clear hS hD;obtain ⟨k1,t1,l1,u1,m1,v1,n1,x1⟩:=Bk.h4 f0;obtain ⟨o1,y1,q1,z1,r1,a2,s1,b2⟩:=Bk.h4 h0;obtain ⟨d2,e2,f2,g2⟩:=Bk.g4 (Bk.t4 (Bk.nn (b':=(w.heap.size)) (j':=3) h0 (.slice d0 L_1.length e0)) (.slice p1 xs.length c1) (.slice py ys.length cy) (.slice pz nz cz) (.slice d0 L_1.length e0));have tt:=trivial;go_wp2
 exact bodyPost_ret (v:=.agg #[.slice p1 xs.length c1,.slice py ys.length cy,.slice pz nz cz,.slice d0 L_1.length e0]) (by simp [results,Tryz.results103,go_sem,d2,e2,f2,g2]) rfl (by exact (by unfold LnP;exact ⟨xs,_,_,_,_,_,_,by rw [i0.out],rfl,g1.out,f1.out⟩))
end Go.Proofs.YtlckklglbodgbaaGreat
