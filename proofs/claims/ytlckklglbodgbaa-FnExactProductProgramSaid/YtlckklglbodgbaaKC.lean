/-
 Parts of the proofs of the laws FnExactProductProgram.
-/
import Derived.Test.YtlckklglbodgbaaKB
set_option linter.all false
namespace Go.Proofs.Ytlckklglbodgbaa
open Go.RowKit
theorem sFlows_any (a b:Int) (w:World):Calls Try.prog 127 #[.int .i64 a,.int .i64 b] w fun e w'=>e=.returned (.bool (floB a b))∧Below w.heap.size w w':=by
 have HL:=Hi sLabelValid_any;go_enter Try.func127,Try.ntmps127
 go_wp2_with fail
 refine (HL.out a _).mono ?_;rintro e w1 ⟨rfl,hb⟩;have b0:=hb.size;have a0:=btr (Bs w) hb;clear hb
 cases h0:labOk a with
 | false =>
  have tt:=a0;go_wp2
  exact bodyPost_ret (v:=.bool false) (by simp [results,Try.results127,go_sem]) rfl (by exact ⟨by simp [floB,lbo,h0],tt⟩)
 | true =>
  go_wp2_with fail
  refine (HL.out b _).mono ?_;rintro e w2 ⟨rfl,hb⟩;have c0:=hb.size;replace a0:=btr a0 hb;clear hb
  cases h1:labOk b with
  | false =>
   have tt:=a0;go_wp2
   exact bodyPost_ret (v:=.bool false) (by simp [results,Try.results127,go_sem]) rfl (by exact ⟨by simp [floB,lbo,h0,h1],tt⟩)
  | true =>
   have tt:=a0;go_wp2
   exact bodyPost_ret (v:=.bool (bits .or .i64 a b == b)) (by simp [results,Try.results127,go_sem]) rfl (by exact ⟨by simp [floB,lbo,h0,h1],tt⟩)
theorem sTrusted_any (a:Int) (w:World):Calls Try.prog 128 #[.int .i64 a] w fun e w'=>e=.returned (.bool (truB a))∧Below w.heap.size w w':=by
 have HL:=Hi sLabelValid_any;go_enter Try.func128,Try.ntmps128
 go_wp2_with fail
 refine (HL.out a _).mono ?_;rintro e w1 ⟨rfl,hb⟩;have b0:=hb.size;have a0:=btr (Bs w) hb;clear hb
 cases h0:labOk a with
 | false =>
  have tt:=a0;go_wp2
  exact bodyPost_ret (v:=.bool false) (by simp [results,Try.results128,go_sem]) rfl (by exact ⟨by simp [truB,h0],tt⟩)
 | true =>
  have tt:=a0;go_wp2
  exact bodyPost_ret (v:=.bool (bits .and .i64 a 2 == 0)) (by simp [results,Try.results128,go_sem]) rfl (by exact ⟨by simp [truB,h0],tt⟩)
theorem sSecret_any (a:Int) (w:World):Calls Try.prog 120 #[.int .i64 a] w fun e w'=>e=.returned (.bool (secB a))∧Below w.heap.size w w':=by
 have HL:=Hi sLabelValid_any;go_enter Try.func120,Try.ntmps120
 go_wp2_with fail
 refine (HL.out a _).mono ?_;rintro e w1 ⟨rfl,hb⟩;have b0:=hb.size;have a0:=btr (Bs w) hb;clear hb
 cases h0:labOk a with
 | false =>
  have tt:=a0;go_wp2
  exact bodyPost_ret (v:=.bool false) (by simp [results,Try.results120,go_sem]) rfl (by exact ⟨by simp [secB,h0],tt⟩)
 | true =>
  have tt:=a0;go_wp2
  exact bodyPost_ret (v:=.bool (bits .and .i64 a 1 == 1)) (by simp [results,Try.results120,go_sem]) rfl (by exact ⟨by simp [secB,h0],tt⟩)
theorem st_cases {nv na d:Nat} {k t c:Int} {ix val:Ex} {body els:List St} (h:stOk nv na (d+1) (.mk k t ix val c body els)=true) :
  ((k=1∨k=5)∧0≤t∧t < nv∧exOk nv na 5 val=true∧body=[]∧els=[])∨(k=2∧0≤t∧t < na∧exOk nv na 5 ix=true∧exOk nv na 5 val=true∧body=[]∧els=[]) ∨
  (k=3∧exOk nv na 5 val=true∧body.all (stOk nv na d)=true∧els.all (stOk nv na d)=true)∨(k=4∧body.all (stOk nv na d)=true∧els=[]∧noneE val=true):=by
 have hx:∀ e,exRight nv na e=true→exOk nv na 5 e=true:=fun e h=>by unfold exRight at h;simp only [Bool.and_eq_true] at h;exact h.1
 have hn:∀ l:List St,decide (l.length=0)=true→l=[]:=fun l h=>List.eq_nil_of_length_eq_zero (of_decide_eq_true h)
 have hw:∀ a b c:Int,wi a b c=true→b≤a∧a≤c:=fun a b c h=>by simpa [wi] using h
 by_cases h1:(k == 1||k == 5)=true
 ·rw [stOk_as h1] at h;simp only [Bool.and_eq_true] at h;obtain ⟨⟨g1,g2,g3,g4,g5,g6⟩,_⟩:=h;have:=hw _ _ _ g1
  exact Or.inl ⟨by simpa using h1,by omega,by omega,hx _ g6,hn _ g3,hn _ g4⟩
 by_cases h2:(k == 2)=true
 ·rw [stOk_st h2] at h;simp only [Bool.and_eq_true] at h;obtain ⟨⟨g1,g2,g3,g4,g5,g6,g7⟩,_⟩:=h;have:=hw _ _ _ g1
  exact Or.inr (Or.inl ⟨by simpa using h2,by omega,by omega,hx _ g5,hx _ g7,hn _ g3,hn _ g4⟩)
 by_cases h3:(k == 3)=true
 ·rw [stOk_if h3] at h;simp only [Bool.and_eq_true] at h;obtain ⟨⟨_,_,_,g6⟩,g7,g8⟩:=h;exact Or.inr (Or.inr (Or.inl ⟨by simpa using h3,hx _ g6,g7,g8⟩))
 by_cases h4:(k == 4)=true
 ·rw [stOk_re h4] at h;simp only [Bool.and_eq_true] at h;obtain ⟨⟨_,_,g3,_,g5⟩,g7,_⟩:=h;exact Or.inr (Or.inr (Or.inr ⟨by simpa using h4,g7,hn _ g3,g5⟩))
 rw [stOk_no (by simp at h1 h2 h3 h4;omega)] at h;cases h
theorem stOk_pos {nv na d:Nat} {s:St} (h:stOk nv na d s=true):∃ e,d=e+1:=by
 cases d with
 | zero=>simp [stOk] at h
 | succ d=>exact ⟨d,rfl⟩
theorem stAt_pos {w:World} {A:Nat→Prop} {D:Nat} {n:Sn} {s:St} (h:StAt w A D n s):∃ e,D=e+1:=by
 cases D with
 | zero=>cases h
 | succ d=>exact ⟨d,rfl⟩
theorem stAt_val {w:World} {A:Nat→Prop} {D:Nat} {n:Sn} {s:St} (h:StAt w A (D+1) n s):n.k=s.k∧(∃ D1,ExAt w A D1 n.val s.val)∧BlAt w A D (.slice n.bp n.bn n.bc) s.body∧BlAt w A D (.slice n.ep n.en n.ec) s.els:=by
 obtain ⟨k,t,ix,val,c,body,els⟩:=s;obtain ⟨h1,_,_,_,h5,h6,h7⟩:=h;exact ⟨h1,h5,h6,h7⟩
theorem stOk_val {nv na d:Nat} {s:St} (h:stOk nv na (d+1) s=true) (hk:s.k=3):exOk nv na 5 s.val=true:=by
 obtain ⟨k,t,ix,val,c,a0,b0⟩:=s;rcases st_cases h with ⟨h1,_,_,h4,_⟩ | ⟨h1,_⟩ | ⟨_,h4,_⟩ | ⟨h1,_⟩
 ·exact h4
 ·simp only [St.k] at hk;omega
 ·exact h4
 simp only [St.k] at hk;omega
structure ReadsM (w:World) (vx vy:Value) (m:Mm):Prop where
 x:Reads w 1 vx m.vals.length (ints m.vals)
 y:Reads2 ints w vy m.arrs
theorem ReadsM.below {w w':World} {vx vy:Value} {m:Mm} (h:ReadsM w vx vy m) (hb:Below w.heap.size w w'):ReadsM w' vx vy m:=⟨h.x.below hb,h.y.below hb⟩
theorem ReadsM.shape {w:World} {vx vy:Value} {m:Mm} (h:ReadsM w vx vy m):∃ a0 c0 a1 c1,vx=.slice a0 m.vals.length c0∧vy=.slice a1 m.arrs.length c1:=by
 obtain ⟨a0,c0,h0⟩:=reads_shape h.x;obtain ⟨a1,c1,h1⟩:=h.y.shape;exact ⟨a0,c0,a1,c1,h0,h1⟩
structure OwnM (w:World) (base:Nat) (vx vy:Value) (us:List Value) (m:Mm):Prop where
 x:w.ownsRow base 3 1 vx m.vals.length (ints m.vals)
 y:Own2I w base vy us m.arrs
 ap:∀ q,vx.ownBlock=some q→¬OwnB2 vy us q
def OwnBM (vx vy:Value) (us:List Value) (q:Nat):Prop:=vx.ownBlock=some q∨OwnB2 vy us q
section
variable {w w':World} {base base':Nat} {vx vy:Value} {us:List Value} {m:Mm}
theorem OwnM.lt (h:OwnM w base vx vy us m):∀ q,OwnBM vx vy us q→base≤q∧q < w.heap.size:=by
 rintro q (hq | hq)
 ·exact h.x.lt q hq
 exact h.y.lt q hq
theorem OwnM.keep (h:OwnM w base vx vy us m) {S:Nat→Prop} (hc:Chg S w w') (hs:∀ q,OwnBM vx vy us q→¬S q):OwnM w' base vx vy us m:=
 ⟨Ow h.x hc (fun q hq=>hs q (Or.inl hq)),h.y.keep hc (fun q hq=>hs q (Or.inr hq)),h.ap⟩
theorem OwnM.below (h:OwnM w base vx vy us m) (hb:Below w.heap.size w w'):OwnM w' base vx vy us m:=h.keep (S:=fun _=>False) (Cb hb) (fun _ _=>id)
theorem OwnM.mono (h:OwnM w base vx vy us m) (hb:base'≤base):OwnM w base' vx vy us m:=⟨Om h.x hb,h.y.mono hb,h.ap⟩
theorem OwnM.reads (h:OwnM w base vx vy us m) (h0:m.vals.length≤1048576) (h1:m.arrs.length≤1048576) (h2:pre2 m.arrs m.arrs.length≤1048576):ReadsM w vx vy m:=
 ⟨Ro h.x (by omega),h.y.reads (by omega) (fun k r hr=>by
  obtain ⟨hk,rfl⟩:=List.getElem?_eq_some_iff.1 hr;have:=pre2_all m.arrs k hk m.arrs.length hk
  omega)⟩
theorem OwnM.shape (h:OwnM w base vx vy us m):∃ a0 c0 a1 c1,vx=.slice a0 m.vals.length c0∧vy=.slice a1 m.arrs.length c1:=by
 obtain ⟨a0,c0,h0⟩:=Oh h.x;obtain ⟨a1,c1,h1⟩:=h.y.shape;exact ⟨a0,c0,a1,c1,h0,h1⟩
end
end Go.Proofs.Ytlckklglbodgbaa
namespace Go.Proofs.Ytlckklglbodgbaa
open Go.RowKit
theorem newOr_blk {w:World} {v v':Value} (h:NewOr w v v'):∀ q,v'.ownBlock=some q→v.ownBlock=some q∨w.heap.size≤q:=by
 intro q hq;rcases h with h | ⟨g,h,hg⟩
 ·exact Or.inl (h ▸ hq)
 rw [hq] at h;cases h;exact Or.inr hg
def Kp {α β:Type} (R:World→(Nat→Prop)→α→β→Prop):Prop:=∀ (W W':World) (S A A':Nat→Prop) (a:α) (c:β),Chg S W W'→(∀ q,A q→q < W.heap.size→¬S q)→(∀ q,A q→q < W.heap.size→A' q)→R W A a c→R W' A' a c
structure GrAt {α β:Type} (f:α→List Value) (sz:Nat) (e:TypeId) (R:World→(Nat→Prop)→α→β→Prop) (P:Nat→Prop) (W:World) (b:Nat) (v:Value) (rs:List α) (l:List β):Prop where
 len:rs.length=l.length
 own:W.ownsRow b e sz v l.length (rows f rs)
 kid:∀ j (h:j < rs.length) (h':j < l.length),R W (fun q=>P q∧¬v.ownBlock=some q) rs[j] l[j]
section
variable {α β:Type} {f:α→List Value} {sz:Nat} {e:TypeId} {R:World→(Nat→Prop)→α→β→Prop} {P:Nat→Prop} {W W':World} {b:Nat} {v v':Value} {rs:List α} {l:List β}
theorem GrAt.keep (h:GrAt f sz e R P W b v rs l) (hR:Kp R) {S:Nat→Prop} (hc:Chg S W W') (h1:∀ q,v.ownBlock=some q→¬S q) (h2:∀ q,P q→q < W.heap.size→¬S q):GrAt f sz e R P W' b v rs l:=
 ⟨h.len,Ow h.own hc h1,fun j a c=>hR W W' S _ _ _ _ hc (fun q hq hl=>h2 q hq.1 hl) (fun q hq _=>hq) (h.kid j a c)⟩
theorem GrAt.below (h:GrAt f sz e R P W b v rs l) (hR:Kp R) (hb:Below W.heap.size W W'):GrAt f sz e R P W' b v rs l:=h.keep hR (S:=fun _=>False) (Cb hb) (fun _ _=>id) (fun _ _ _=>id)
theorem GrAt.nil:GrAt f sz e R P W b (.slice none 0 0) [] []:=⟨rfl,World.ownsRow_nil _ _ _ _,fun j h=>by simp at h⟩
theorem GrAt.push (h:GrAt f sz e R P W b v rs l) (hR:Kp R) {n:α} {x:β} {A:Nat→Prop} (ho:W'.ownsRow b e sz v' (l.length+1) (rows f rs++f n)) (hc:Chg (fun k=>v.ownBlock=some k) W W') (hN:NewOr W v v')
  (hn:R W A n x) (hA:∀ q,A q→q < W.heap.size→P q∧¬v.ownBlock=some q):GrAt f sz e R P W' b v' (rs++[n]) (l++[x]):=by
 have hB:∀ q,q < W.heap.size→¬v.ownBlock=some q→¬v'.ownBlock=some q:=fun q hq h1 h2=>by
  rcases hN with e1 | ⟨g,e1,e2⟩
  ·exact h1 (e1 ▸ h2)
  rw [e1] at h2;have:=Si h2;omega
 refine ⟨by simp [h.len],?_,rows_push h.len (fun j h1 h2=>?_) ?_⟩
 ·rw [rows_append,rows_one,List.length_append];exact ho
 ·exact hR W W' _ _ _ _ _ hc (fun q hq _=>hq.2) (fun q hq hl=>⟨hq.1,hB q hl hq.2⟩) (h.kid j h1 h2)
 exact hR W W' _ _ _ _ _ hc (fun q hq hl=>(hA q hq hl).2) (fun q hq hl=>⟨(hA q hq hl).1,hB q hl (hA q hq hl).2⟩) hn
theorem GrAt.mono (h:GrAt f sz e R P W b v rs l) (hR:Kp R) {P':Nat→Prop} (hP:∀ q,P q→q < W.heap.size→P' q):GrAt f sz e R P' W b v rs l:=
 ⟨h.len,h.own,fun j a c=>hR W W (fun _=>False) _ _ _ _ (Chg.refl _ _) (fun _ _ _=>id) (fun q hq hl=>⟨hP q hq.1 hl,hq.2⟩) (h.kid j a c)⟩
theorem GrAt.base (h:GrAt f sz e R P W b v rs l) {b':Nat} (hb:b'≤b):GrAt f sz e R P W b' v rs l:=⟨h.len,Om h.own hb,h.kid⟩
theorem GrAt.row (h:GrAt f sz e R P W b v rs l) (hR:Kp R) {B:Nat→Prop} (hb:∀ q,b≤q→q < W.heap.size→B q) (hP:∀ q,P q→q < W.heap.size→B q):RowOf f sz W B (R W B) v l:=
 RowOf.of_own h.len h.own (own_len h.own) hb (fun j a c=>hR W W (fun _=>False) _ _ _ _ (Chg.refl _ _) (fun _ _ _=>id) (fun q hq hl=>hP q hq.1 hl) (h.kid j a c))
end
theorem kpE (d:Nat):Kp (fun W A n x=>ExAt W A d n x):=fun W W' S A A' a c hc h1 h2 h=>ExAt.keep hc h1 h2 Lr h
theorem kpS (d:Nat):Kp (fun W A n x=>StAt W A d n x):=fun W W' S A A' a c hc h1 h2 h=>StAt.keep hc h1 h2 Lr h
end Go.Proofs.Ytlckklglbodgbaa
namespace Go.Proofs.Ytlckklglbodgbaa
open Go.RowKit
theorem info_expr:(Try.prog.info? 49).map (fun i=>(i.zero,i.size,i.bytes))=some (some (.agg #[.int .i64 0,.int .i64 0,.slice none 0 0]),3,40):=by kernel_rfl
theorem tExprs:SliceT Try.prog 47 49 (.agg #[.int .i64 0,.int .i64 0,.slice none 0 0]) 3 40:=⟨Try.underlying47,info_expr,rfl,by omega,by omega⟩
structure KidsAt (W:World) (b8 d:Nat) (v:Value) (rs:List En) (l:List Ex):Prop where
 len:rs.length=l.length
 own:W.ownsRow (b8+1) 49 3 v l.length (rows enc rs)
 kid:∀ j (h:j < rs.length) (h':j < l.length),ExAt W (fun q=>b8 < q∧¬v.ownBlock=some q) d rs[j] l[j]
 thin:∀ x ∈ l,Thin d x
theorem KidsAt.keep {W W':World} {b8 d:Nat} {v:Value} {rs:List En} {l:List Ex} (h:KidsAt W b8 d v rs l) {S:Nat→Prop} (hc:Chg S W W') (hS:∀ q,b8 < q→¬S q):KidsAt W' b8 d v rs l:=
 ⟨h.len,Ow h.own hc (fun q hq=>hS q (by have:=h.own.lt q hq;omega)),fun j h1 h2=>ExAt.keep hc (fun q hq _=>hS q hq.1) (fun _ hq _=>hq) Lr (h.kid j h1 h2),h.thin⟩
theorem KidsAt.below {W W':World} {b8 d:Nat} {v:Value} {rs:List En} {l:List Ex} (h:KidsAt W b8 d v rs l) (hb:Below W.heap.size W W'):KidsAt W' b8 d v rs l:=
 ⟨h.len,Ob h.own hb,fun j h1 h2=>(h.kid j h1 h2).below hb,h.thin⟩
theorem KidsAt.nil {W:World} {b8 d:Nat}:KidsAt W b8 d (.slice none 0 0) [] []:=⟨rfl,World.ownsRow_nil _ _ _ _,fun j h=>by simp at h,fun x h=>by cases h⟩
theorem KidsAt.push {W W':World} {b8 d:Nat} {v v':Value} {rs:List En} {l:List Ex} {n:En} {e:Ex} {b1:Nat} (h:KidsAt W b8 d v rs l) (ho:W'.ownsRow (b8+1) 49 3 v' (l.length+1) (rows enc rs++enc n)) (hc:Chg (fun k=>v.ownBlock=some k) W W') (hN:NewOr W v v')
  (hn:ExAt W (fun q=>b1≤q) d n e) (ht:Thin d e) (h8:b8 < b1) (hv:∀ q,v.ownBlock=some q→q < b1):KidsAt W' b8 d v' (rs++[n]) (l++[e]):=by
 have hA:∀ q,q < W.heap.size→¬v.ownBlock=some q→¬v'.ownBlock=some q:=fun q hq h1 h2=>by
  rcases hN with e1 | ⟨g,e1,e2⟩
  ·exact h1 (e1 ▸ h2)
  rw [e1] at h2;have:=Si h2;omega
 refine ⟨by simp [h.len],?_,rows_push h.len (fun j h1 h2=>?_) ?_,fun x hx=>?_⟩
 ·rw [rows_append,rows_one,List.length_append];exact ho
 ·exact ExAt.keep hc (fun q hq _=>hq.2) (fun q hq hlt=>⟨hq.1,hA q hlt hq.2⟩) Lr (h.kid j h1 h2)
 ·exact ExAt.keep hc (fun q (hq:b1≤q) _ h1=>by have:=hv q h1;omega) (fun q (hq:b1≤q) hlt=>⟨by omega,hA q hlt (fun h1=>by have:=hv q h1;omega)⟩) Lr hn
 rcases List.mem_append.1 hx with h1 | h1
 ·exact h.thin x h1
 rw [List.mem_singleton.1 h1];exact ht
end Go.Proofs.Ytlckklglbodgbaa
