/-
 Parts of the proofs of the laws FnCodeFenced,FnCountBranches.
-/
import Derived.Test.YtkjedgnepnbkpaaY
set_option linter.all false
namespace Go.Proofs.Ytkjedgnepnbkpaa
open Go.RowKit
theorem info_expr:(Try.prog.info? 161).map (fun i=>(i.zero,i.size,i.bytes))=some (some (.agg #[.int .i64 0,.int .i64 0,.slice none 0 0]),3,40):=by kernel_rfl
theorem tExprs:SliceT Try.prog 159 161 (.agg #[.int .i64 0,.int .i64 0,.slice none 0 0]) 3 40:=⟨Try.underlying159,info_expr,rfl,by omega,by omega⟩
structure KidsAt (W:World) (b8 d:Nat) (v:Value) (rs:List En) (l:List Ex):Prop where
 len:rs.length=l.length
 own:W.ownsRow (b8+1) 161 3 v l.length (rows enc rs)
 kid:∀ j (h:j < rs.length) (h':j < l.length),ExAt W (fun q=>b8 < q∧¬v.ownBlock=some q) d rs[j] l[j]
 thin:∀ x ∈ l,Thin d x
theorem KidsAt.keep {W W':World} {b8 d:Nat} {v:Value} {rs:List En} {l:List Ex} (h:KidsAt W b8 d v rs l) {S:Nat→Prop} (hc:Chg S W W') (hS:∀ q,b8 < q→¬S q):KidsAt W' b8 d v rs l:=
 ⟨h.len,Ow h.own hc (fun q hq=>hS q (by have:=h.own.lt q hq;omega)),fun j h1 h2=>ExAt.keep hc (fun q hq _=>hS q hq.1) (fun _ hq _=>hq) (Nat.le_refl _) (h.kid j h1 h2),h.thin⟩
theorem KidsAt.below {W W':World} {b8 d:Nat} {v:Value} {rs:List En} {l:List Ex} (h:KidsAt W b8 d v rs l) (hb:Below W.heap.size W W'):KidsAt W' b8 d v rs l:=
 ⟨h.len,Ob h.own hb,fun j h1 h2=>(h.kid j h1 h2).below hb,h.thin⟩
theorem KidsAt.nil {W:World} {b8 d:Nat}:KidsAt W b8 d (.slice none 0 0) [] []:=⟨rfl,World.ownsRow_nil _ _ _ _,fun j h=>by simp at h,fun x h=>by cases h⟩
theorem KidsAt.push {W W':World} {b8 d:Nat} {v v':Value} {rs:List En} {l:List Ex} {n:En} {e:Ex} {b1:Nat} (h:KidsAt W b8 d v rs l) (ho:W'.ownsRow (b8+1) 161 3 v' (l.length+1) (rows enc rs++enc n)) (hc:Chg (fun k=>v.ownBlock=some k) W W') (hN:NewOr W v v')
  (hn:ExAt W (fun q=>b1≤q) d n e) (ht:Thin d e) (h8:b8 < b1) (hv:∀ q,v.ownBlock=some q→q < b1):KidsAt W' b8 d v' (rs++[n]) (l++[e]):=by
 have hA:∀ q,q < W.heap.size→¬v.ownBlock=some q→¬v'.ownBlock=some q:=fun q hq h1 h2=>by
  rcases hN with e1 | ⟨g,e1,e2⟩
  ·exact h1 (e1 ▸ h2)
  rw [e1] at h2;have:=Option.some.inj h2;omega
 refine ⟨by simp [h.len],?_,rows_push h.len (fun j h1 h2=>?_) ?_,fun x hx=>?_⟩
 ·rw [rows_append,rows_one,List.length_append];exact ho
 ·exact ExAt.keep hc (fun q hq _=>hq.2) (fun q hq hlt=>⟨hq.1,hA q hlt hq.2⟩) (Nat.le_refl _) (h.kid j h1 h2)
 ·exact ExAt.keep hc (fun q (hq:b1≤q) _ h1=>by have:=hv q h1;omega) (fun q (hq:b1≤q) hlt=>⟨by omega,hA q hlt (fun h1=>by have:=hv q h1;omega)⟩) (Nat.le_refl _) hn
 rcases List.mem_append.1 hx with h1 | h1
 ·exact h.thin x h1
 rw [List.mem_singleton.1 h1];exact ht
theorem KidsAt.node {W:World} {b8 d:Nat} {a:Option Addr} {c:Nat} {rs:List En} {l:List Ex} (h:KidsAt W b8 d (.slice a l.length c) rs l) (hl:l.length≤3) (k v:Int):ExAt W (fun q=>b8 < q) (d+1) ⟨k,v,a,l.length,c⟩ (.mk k v l)∧Thin (d+1) (.mk k v l):=
 ⟨⟨rfl,rfl,RowOf.of_own h.len h.own (show l.length≤_ by omega) (fun q hq _=>hq) (fun j h1 h2=>ExAt.keep (S:=fun _=>False) (Chg.refl _ _) (fun _ _ _=>id) (fun q hq _=>hq.1) (Nat.le_refl _) (h.kid j h1 h2))⟩,hl,h.thin⟩
theorem drawn_kinds {kd:Int} (h:kd ∈ [4,10,8,9,3,6,7,5,11]):kd=3∨((kd == 3)=false∧∃ ar:Nat,arity kd=ar∧1≤ar∧ar≤3):=by
 simp only [List.mem_cons,List.not_mem_nil,or_false] at h
 rcases h with rfl | rfl | rfl | rfl | rfl | rfl | rfl | rfl | rfl
 ·exact Or.inr ⟨rfl,2,rfl,by omega,by omega⟩
 ·exact Or.inr ⟨rfl,2,rfl,by omega,by omega⟩
 ·exact Or.inr ⟨rfl,2,rfl,by omega,by omega⟩
 ·exact Or.inr ⟨rfl,2,rfl,by omega,by omega⟩
 ·exact Or.inl rfl
 ·exact Or.inr ⟨rfl,2,rfl,by omega,by omega⟩
 ·exact Or.inr ⟨rfl,2,rfl,by omega,by omega⟩
 ·exact Or.inr ⟨rfl,2,rfl,by omega,by omega⟩
 exact Or.inr ⟨rfl,3,rfl,by omega,by omega⟩
theorem dcost_le {d:Nat} (h:d≤4):dcost d≤10000∧8≤dcost d:=by
 have:d=0∨d=1∨d=2∨d=3∨d=4:=by omega
 rcases this with rfl | rfl | rfl | rfl | rfl <;> decide
set_option maxHeartbeats 6400000 in
set_option maxRecDepth 100000 in
theorem l2Draw_any (pv pa:Option Addr) (nv cv na ca:Nat) (vb:Value) (B g:Nat) (hnv:1≤nv) (hnb:nv≤1000∧na≤1000):∀ (d p:Nat) (w:World),d≤4→Rnd w B g p→p+dcost d≤1000000000 →
  Calls Try.prog 172 #[.pointer (some ⟨g,0,none⟩),.agg #[.slice pv nv cv,.slice pa na ca,vb],.int .i64 d] w fun r w'=>∃ (n:En) (e:Ex) (p':Nat),r=.returned (.agg #[.int .i64 n.k,.int .i64 n.v,.slice n.p n.n n.c])∧ExAt w' (fun q=>w.heap.size≤q) (d+1) n e∧Thin (d+1) e∧Rnd w' B g p'∧p'≤p+dcost d∧Chg (fun q=>q=g) w w':=by
 intro d
 induction d with
 | zero =>
  intro p w hd hR hp
  have y3:dcost 0=8:=rfl
  have z3:=dcost_le hd
  have hg:=hR.lt
  have hC:Chg (fun k=>k=g) w w:=Chg.refl _ _
  have f1:∀ q,(fun k=>k=g) q→q=g:=fun q h=>h
  go_enter Try.func172,Try.ntmps172
  go_wp2_with fail
  refine (l2DrawAtom_any pv pa nv cv na ca vb B g (p) _ ((hR.below (bal (Bs _) (.cells #[.slice pv nv cv,.slice pa na ca,vb] 110))).below (bal (Bs _) (.cells #[.int .i64 0,.int .i64 0,.slice none 0 0] 161))) (by omega) hnv hnb).mono ?_
  rintro e w1 ⟨k,v,p1,rfl,l0,i3,hc⟩
  replace hC:=(((hC.trans (Chg.of_below (bal (Bs _) _))).trans (Chg.of_below (bal (Bs _) _)))).trans hc
  replace hR:=l0;clear l0
  have k1:=hc.size
  simp only [Sa] at k1
  have k0:Bk w1 (w.heap.size) [.slice pv nv cv,.slice pa na ca,vb]:=Bk.kg (Bk.al (Bk.nw (by simp) rfl) (.cells #[.int .i64 0,.int .i64 0,.slice none 0 0] 161)) hc
  have j0:Bk w1 (w.heap.size+1) [.int .i64 0,.int .i64 0,.slice none 0 0]:=Bk.kg (Bk.nw (by simp) rfl) hc
  clear hc
  have r3:=Bk.lz k0
  have s3:=Bk.lz j0
  have tC:=(((hC.sN (w.heap.size+1) (0) (.int .i64 k)).sN (w.heap.size+1) (1) (.int .i64 v)).sN (w.heap.size+1) (2) (.slice none 0 0));have tR:=(((hR.kC (w.heap.size+1) (0) (.int .i64 k)).kC (w.heap.size+1) (1) (.int .i64 v)).kC (w.heap.size+1) (2) (.slice none 0 0))
  obtain ⟨t3,g5,u3,m5,t1,c3⟩:=Bk.f3 j0 0 1 2 rfl rfl rfl
  have n5:=(Nn (b:=(w.heap.size+1)) (j:=2) (Nn (b:=(w.heap.size+1)) (j:=1) (Tc _ (w.heap.size+1) 0 (.int .i64 k) t3) (.int .i64 v)) (.slice none 0 0))
  have r5:=(Nn (b:=(w.heap.size+1)) (j:=2) (Tc _ (w.heap.size+1) 1 (.int .i64 v) (Nn (b:=(w.heap.size+1)) (j:=0) u3 (.int .i64 k))) (.slice none 0 0))
  have s5:=(Tc _ (w.heap.size+1) 2 (.slice none 0 0) (Nn (b:=(w.heap.size+1)) (j:=1) (Nn (b:=(w.heap.size+1)) (j:=0) t1 (.int .i64 k)) (.int .i64 v)))
  have tt:=True.intro
  go_wp2
  exact bodyPost_ret (v:=.agg #[.int .i64 k,.int .i64 v,.slice none 0 0]) (by simp [results,Try.results172,go_sem,n5,r5,s5]) rfl (by exact ⟨⟨k,v,none,0,0⟩,.mk k v [],_,rfl,ExAt.leaf k v,⟨by simp [Ex.kids],fun x hx=>by simp [Ex.kids] at hx⟩,tR,by omega,tC⟩)
 | succ d IH =>
  intro p w hd hR hp
  have y3:dcost (d+1)=8+3*dcost d:=rfl
  have z3:=dcost_le (d:=d) (by omega)
  have H8:Hid (8≤dcost (d+1)):=Lib.hid (by omega)
  have f2:=Lib.hid y3;clear y3
  by_cases hd1:d=0
  ·subst hd1
   have o6:Hid (8≤dcost 1):=Lib.hid (by decide)
   have x5:p+2≤1000000000:=by have:=H8.out;omega
   have hg:=hR.lt
   have hC:Chg (fun k=>k=g) w w:=Chg.refl _ _
   have f1:∀ q,(fun k=>k=g) q→q=g:=fun q h=>h
   go_enter Try.func172,Try.ntmps172
   go_wp2_with fail
   refine (l2DrawAtom_any pv pa nv cv na ca vb B g (p) _ ((hR.below (bal (Bs _) (.cells #[.slice pv nv cv,.slice pa na ca,vb] 110))).below (bal (Bs _) (.cells #[.int .i64 0,.int .i64 0,.slice none 0 0] 161))) (by omega) hnv hnb).mono ?_
   rintro e w1 ⟨k,v,p1,rfl,l0,i3,hc⟩
   replace hC:=(((hC.trans (Chg.of_below (bal (Bs _) _))).trans (Chg.of_below (bal (Bs _) _)))).trans hc
   replace hR:=l0;clear l0
   have k1:=hc.size
   simp only [Sa] at k1
   have k0:Bk w1 (w.heap.size) [.slice pv nv cv,.slice pa na ca,vb]:=Bk.kg (Bk.al (Bk.nw (by simp) rfl) (.cells #[.int .i64 0,.int .i64 0,.slice none 0 0] 161)) hc
   have j0:Bk w1 (w.heap.size+1) [.int .i64 0,.int .i64 0,.slice none 0 0]:=Bk.kg (Bk.nw (by simp) rfl) hc
   clear hc
   have r3:=Bk.lz k0
   have s3:=Bk.lz j0
   have tC:=(((hC.sN (w.heap.size+1) (0) (.int .i64 k)).sN (w.heap.size+1) (1) (.int .i64 v)).sN (w.heap.size+1) (2) (.slice none 0 0));have tR:=(((hR.kC (w.heap.size+1) (0) (.int .i64 k)).kC (w.heap.size+1) (1) (.int .i64 v)).kC (w.heap.size+1) (2) (.slice none 0 0))
   obtain ⟨t3,g5,u3,m5,t1,c3⟩:=Bk.f3 j0 0 1 2 rfl rfl rfl
   have n5:=(Nn (b:=(w.heap.size+1)) (j:=2) (Nn (b:=(w.heap.size+1)) (j:=1) (Tc _ (w.heap.size+1) 0 (.int .i64 k) t3) (.int .i64 v)) (.slice none 0 0))
   have r5:=(Nn (b:=(w.heap.size+1)) (j:=2) (Tc _ (w.heap.size+1) 1 (.int .i64 v) (Nn (b:=(w.heap.size+1)) (j:=0) u3 (.int .i64 k))) (.slice none 0 0))
   have s5:=(Tc _ (w.heap.size+1) 2 (.slice none 0 0) (Nn (b:=(w.heap.size+1)) (j:=1) (Nn (b:=(w.heap.size+1)) (j:=0) t1 (.int .i64 k)) (.int .i64 v)))
   have tt:=True.intro
   go_wp2
   exact bodyPost_ret (v:=.agg #[.int .i64 k,.int .i64 v,.slice none 0 0]) (by simp [results,Try.results172,go_sem,n5,r5,s5]) rfl (by exact ⟨⟨k,v,none,0,0⟩,.mk k v [],_,rfl,ExAt.leaf k v,⟨by simp [Ex.kids],fun x hx=>by simp [Ex.kids] at hx⟩,tR,by have:=o6.out;omega,tC⟩)
  have q1:decide ((d:Int)+1 < 2)=false:=decide_eq_false (by omega)
  have q2:(2:Int)≤(d:Int)+1:=by omega
  have hg:=hR.lt
  have hC:Chg (fun k=>k=g) w w:=Chg.refl _ _
  have f1:∀ q,(fun k=>k=g) q→q=g:=fun q h=>h
  go_enter Try.func172,Try.ntmps172
  go_wp2_with fail
  refine (pick_any _ _ B g (p) ((hR.below (bal (Bs _) (.cells #[.slice pv nv cv,.slice pa na ca,vb] 110))).below (bal (Bs _) (.cells #[.int .i64 0,.int .i64 0,.slice none 0 0] 161))) (by omega) (by omega) (by omega)).mono ?_
  rintro e w1 ⟨r,r0,r1,rfl,l0,hc⟩
  replace hC:=(((hC.trans (Chg.of_below (bal (Bs _) _))).trans (Chg.of_below (bal (Bs _) _)))).trans hc
  replace hR:=l0;clear l0
  have k1:=hc.size
  simp only [Sa] at k1
  have k0:Bk w1 (w.heap.size) [.slice pv nv cv,.slice pa na ca,vb]:=Bk.kg (Bk.al (Bk.nw (by simp) rfl) (.cells #[.int .i64 0,.int .i64 0,.slice none 0 0] 161)) hc
  have j0:Bk w1 (w.heap.size+1) [.int .i64 0,.int .i64 0,.slice none 0 0]:=Bk.kg (Bk.nw (by simp) rfl) hc
  clear hc
  have r3:=Bk.lz k0
  have s3:=Bk.lz j0
  by_cases h0:r=0
  ·subst h0
   have x5:p+1+2≤1000000000:=by have:=f2.out;omega
   obtain ⟨t3,g5,u3,m5,t1,c3⟩:=Bk.f3 k0 0 1 2 rfl rfl rfl
   go_wp2_with fail
   refine (l2DrawAtom_any pv pa nv cv na ca vb B g (p+1) _ hR (by omega) hnv hnb).mono ?_
   rintro e w2 ⟨k,v,p1,rfl,l0,i3,hc⟩
   replace hC:=(hC).trans hc
   replace hR:=l0;clear l0
   have z5:=hc.size
   clear g5 t3 m5 u3 c3 t1
   replace k0:=Bk.kg k0 hc
   replace j0:=Bk.kg j0 hc
   clear hc
   have tC:=(((hC.sN (w.heap.size+1) (0) (.int .i64 k)).sN (w.heap.size+1) (1) (.int .i64 v)).sN (w.heap.size+1) (2) (.slice none 0 0));have tR:=(((hR.kC (w.heap.size+1) (0) (.int .i64 k)).kC (w.heap.size+1) (1) (.int .i64 v)).kC (w.heap.size+1) (2) (.slice none 0 0))
   obtain ⟨g4,v6,h4,x6,i4,y6⟩:=Bk.f3 j0 0 1 2 rfl rfl rfl
   have f7:=(Nn (b:=(w.heap.size+1)) (j:=2) (Nn (b:=(w.heap.size+1)) (j:=1) (Tc _ (w.heap.size+1) 0 (.int .i64 k) g4) (.int .i64 v)) (.slice none 0 0))
   have g7:=(Nn (b:=(w.heap.size+1)) (j:=2) (Tc _ (w.heap.size+1) 1 (.int .i64 v) (Nn (b:=(w.heap.size+1)) (j:=0) h4 (.int .i64 k))) (.slice none 0 0))
   have h7:=(Tc _ (w.heap.size+1) 2 (.slice none 0 0) (Nn (b:=(w.heap.size+1)) (j:=1) (Nn (b:=(w.heap.size+1)) (j:=0) i4 (.int .i64 k)) (.int .i64 v)))
   have tt:=True.intro
   go_wp2
   exact bodyPost_ret (v:=.agg #[.int .i64 k,.int .i64 v,.slice none 0 0]) (by simp [results,Try.results172,go_sem,f7,g7,h7]) rfl (by exact ⟨⟨k,v,none,0,0⟩,.mk k v [],_,rfl,ExAt.leaf k v,⟨by simp [Ex.kids],fun x hx=>by simp [Ex.kids] at hx⟩,tR,by have:=f2.out;omega,tC⟩)
  have q0:(r == 0)=false:=by simpa using h0
  have x5:p+8≤1000000000:=by have:=f2.out;omega
  go_wp2_with fail
  refine (num_any _ [4,10,8,9,3,6,7,5,11] _ B g (p+1) (hR.below (bal (Bs _) (.cells #[.int .i64 4,.int .i64 10,.int .i64 8,.int .i64 9,.int .i64 3,.int .i64 6,.int .i64 7,.int .i64 5,.int .i64 11] 3))) (Ro (World.ownsRow_lit (base:=(w1).heap.size) (e:=3) (size:=1) (w1) #[.int .i64 4,.int .i64 10,.int .i64 8,.int .i64 9,.int .i64 3,.int .i64 6,.int .i64 7,.int .i64 5,.int .i64 11] 9 (Nat.le_refl _) (by unfold maxLen;omega) (by simp)) (by simp)) (fun b o c hb=>by simp at hb;omega) (by simp) (by simp) (by omega)).mono ?_
  rintro e w2 ⟨kd,f4,rfl,l0,hc⟩
  replace hC:=((hC.trans (Chg.of_below (bal (Bs _) _)))).trans hc
  replace hR:=l0;clear l0
  have m3:=hc.size
  simp only [Sa] at m3
  replace k0:=Bk.kg (Bk.al k0 _) hc
  replace j0:=Bk.kg (Bk.al j0 _) hc
  have x3:Bk w2 (w1.heap.size) [.int .i64 4,.int .i64 10,.int .i64 8,.int .i64 9,.int .i64 3,.int .i64 6,.int .i64 7,.int .i64 5,.int .i64 11]:=Bk.kg (Bk.nw (by simp) rfl) hc
  clear hc
  clear x3
  replace r3:=Bk.lz k0
  replace s3:=Bk.lz j0
  rcases drawn_kinds f4 with rfl | ⟨q3,ar,har,ha1,ha3⟩
  ·clear f4
   by_cases hna:na=0
   ·have q4:((na:Int) == 0)=true:=by simp [hna]
    clear hna
    obtain ⟨j4,z4,l4,a5,m4,b5⟩:=Bk.f3 k0 0 1 2 rfl rfl rfl
    go_wp2_with fail
    refine (l2DrawAtom_any pv pa nv cv na ca vb B g (p+1+1) _ hR (by omega) hnv hnb).mono ?_
    rintro e w3 ⟨k,v,p1,rfl,l0,i3,hc⟩
    replace hC:=(hC).trans hc
    replace hR:=l0;clear l0
    have a6:=hc.size
    clear z4 j4 a5 l4 b5 m4
    replace k0:=Bk.kg k0 hc
    replace j0:=Bk.kg j0 hc
    clear hc
    have tC:=(((hC.sN (w.heap.size+1) (0) (.int .i64 k)).sN (w.heap.size+1) (1) (.int .i64 v)).sN (w.heap.size+1) (2) (.slice none 0 0));have tR:=(((hR.kC (w.heap.size+1) (0) (.int .i64 k)).kC (w.heap.size+1) (1) (.int .i64 v)).kC (w.heap.size+1) (2) (.slice none 0 0))
    obtain ⟨n4,z6,o4,a7,p4,b7⟩:=Bk.f3 j0 0 1 2 rfl rfl rfl
    have i7:=(Nn (b:=(w.heap.size+1)) (j:=2) (Nn (b:=(w.heap.size+1)) (j:=1) (Tc _ (w.heap.size+1) 0 (.int .i64 k) n4) (.int .i64 v)) (.slice none 0 0))
    have j7:=(Nn (b:=(w.heap.size+1)) (j:=2) (Tc _ (w.heap.size+1) 1 (.int .i64 v) (Nn (b:=(w.heap.size+1)) (j:=0) o4 (.int .i64 k))) (.slice none 0 0))
    have k7:=(Tc _ (w.heap.size+1) 2 (.slice none 0 0) (Nn (b:=(w.heap.size+1)) (j:=1) (Nn (b:=(w.heap.size+1)) (j:=0) p4 (.int .i64 k)) (.int .i64 v)))
    have tt:=True.intro
    go_wp2
    exact bodyPost_ret (v:=.agg #[.int .i64 k,.int .i64 v,.slice none 0 0]) (by simp [results,Try.results172,go_sem,i7,j7,k7]) rfl (by exact ⟨⟨k,v,none,0,0⟩,.mk k v [],_,rfl,ExAt.leaf k v,⟨by simp [Ex.kids],fun x hx=>by simp [Ex.kids] at hx⟩,tR,by have:=f2.out;omega,tC⟩)
   have q4:((na:Int) == 0)=false:=by simp;omega
   obtain ⟨r4,c5⟩:=Bk.cf k0 1 rfl
   go_upto_region 7 with (fail)
   clear c5 r4
   obtain ⟨e0,v0,f0,w0,g0,x0⟩:=Bk.f3 k0 1 0 2 rfl rfl rfl
   refine wp_region_noPanic ?_
   refine wp_region_held_drew (S:=(fun W'=>W'.cell? ⟨w.heap.size,1,none⟩=some (.slice pa na ca)∧W'.cell? ⟨w.heap.size,0,none⟩=some (.slice pv nv cv)∧W'.cell? ⟨w.heap.size,2,none⟩=some (vb))) (by kernel_rfl) ⟨Kc (Below.drew (Bs w2)) e0,Kc (Below.drew (Bs w2)) f0,Kc (Below.drew (Bs w2)) g0⟩ (fun hHeld=>?_)
   obtain ⟨w3,p2⟩:∃ X,X=World.drew w2:=⟨_,rfl⟩
   rw [← p2] at hHeld ⊢
   have hb:Below w2.heap.size w2 w3:=by rw [p2];exact Below.drew (Bs _)
   clear p2
   replace hC:=(hC).trans (Chg.of_below hb)
   replace hR:=hR.below hb
   have b6:=hb.size
   replace v0:=Kf hb (Lc e0) v0
   replace w0:=Kf hb (Lc f0) w0
   replace x0:=Kf hb (Lc g0) x0
   replace e0:=Kc hb e0
   replace f0:=Kc hb f0
   replace g0:=Kc hb g0
   replace k0:=Bk.below k0 hb
   replace j0:=Bk.below j0 hb
   clear hb
   refine (tq 0 32 rfl rfl ?_ ?_ (tq 1 33 rfl rfl ?_ ?_ (tq 2 34 rfl rfl ?_ ?_ (tq 3 35 rfl rfl ?_ ?_ (tq 4 36 rfl rfl ?_ ?_ (tq 6 38 rfl rfl ?_ ?_ (tq 7 39 rfl rfl ?_ ?_ ?_)))))))
   iterate 7 (rotate_left;intro W' hSw;(try dsimp only at hSw);go_simp;try with_reducible rfl)
   try simp only [Ep]
   refine Rdy 5 rfl (fun K hK=>?_)
   go_simp
   refine (pick_any _ _ B g (p+1+1) hR (by omega) (by omega) (by omega)).mono ?_
   rintro e w4 ⟨i,i0,i1,rfl,l0,hc⟩
   replace hC:=(hC).trans hc
   replace hR:=l0;clear l0
   have c6:=hc.size
   replace v0:=Gf hc (Lc e0) v0 (fun h=>by have:=f1 _ h;omega)
   replace w0:=Gf hc (Lc f0) w0 (fun h=>by have:=f1 _ h;omega)
   replace x0:=Gf hc (Lc g0) x0 (fun h=>by have:=f1 _ h;omega)
   replace e0:=Gg hc e0
   replace f0:=Gg hc f0
   replace g0:=Gg hc g0
   replace k0:=Bk.kg k0 hc
   replace j0:=Bk.kg j0 hc
   clear hc
   refine hK.out _ _ ⟨e0,f0,g0⟩ (fun hHeld=>?_)
   clear hK K
   try simp only [Ep]
   refine Rdy 8 rfl (fun K hK=>?_)
   go_simp
   refine (l2DrawAtom_any pv pa nv cv na ca vb B g (p+1+1+1) _ hR (by omega) hnv hnb).mono ?_
   rintro e w5 ⟨k,kv,p1,rfl,l0,i3,hc⟩
   replace hC:=(hC).trans hc
   replace hR:=l0;clear l0
   have d6:=hc.size
   replace v0:=Gf hc (Lc e0) v0 (fun h=>by have:=f1 _ h;omega)
   replace w0:=Gf hc (Lc f0) w0 (fun h=>by have:=f1 _ h;omega)
   replace x0:=Gf hc (Lc g0) x0 (fun h=>by have:=f1 _ h;omega)
   replace e0:=Gg hc e0
   replace f0:=Gg hc f0
   replace g0:=Gg hc g0
   replace k0:=Bk.kg k0 hc
   replace j0:=Bk.kg j0 hc
   clear hc
   replace r3:=Bk.lz k0
   replace s3:=Bk.lz j0
   refine hK.out _ _ ⟨e0,f0,g0⟩ (fun hHeld=>?_)
   clear hK K
   try simp only [Ep]
   refine Rdy 9 rfl (fun K hK=>?_)
   go_simp
   obtain ⟨w6,p0,hb⟩:=nmw (World.alloc w5 (.cells #[.int .i64 k,.int .i64 kv,.slice none 0 0] 161))
   replace hC:=((hC.trans (Chg.of_below (bal (Bs _) _)))).trans (Chg.of_below hb)
   replace hR:=(hR.below (bal (Bs _) _)).below hb
   have o1:=Ob (World.ownsRow_lit (base:=(w5).heap.size) (e:=161) (size:=3) (w5) #[.int .i64 k,.int .i64 kv,.slice none 0 0] 1 (Nat.le_refl _) (by unfold maxLen;omega) (by simp)) hb
   try simp only [Sa,Ss] at o1
   have n3:=hb.size
   simp only [Sa] at n3
   replace v0:=Kf hb (Lc (Ac e0 _)) (Fa (Lc e0) v0 _)
   replace w0:=Kf hb (Lc (Ac f0 _)) (Fa (Lc f0) w0 _)
   replace x0:=Kf hb (Lc (Ac g0 _)) (Fa (Lc g0) x0 _)
   replace e0:=Kc hb (Ac e0 _)
   replace f0:=Kc hb (Ac f0 _)
   replace g0:=Kc hb (Ac g0 _)
   replace k0:=Bk.below (Bk.al k0 _) hb
   replace j0:=Bk.below (Bk.al j0 _) hb
   have g2:Bk w6 (w5.heap.size) [.int .i64 k,.int .i64 kv,.slice none 0 0]:=Bk.below (Bk.nw (by simp) rfl) hb
   clear hb
   have x1:=o1.lt
   try simp only [Sa] at x1
   rw [← p0]
   clear p0
   have t6:=Bk.lz g2
   refine hK.out _ _ ⟨e0,f0,g0⟩ (fun hHeld=>?_)
   clear hK K
   try simp only [Ep]
   refine (tq 10 42 rfl rfl (.agg #[.int .i64 3,.int .i64 i,.slice (some ⟨w5.heap.size,0,none⟩) 1 1]) (fun W' _=>by kernel_rfl) ?_)
   try simp only [Ep]
   refine Rdy 11 rfl (fun K hK=>?_)
   obtain ⟨s4,d5,t4,e5,u4,f5⟩:=Bk.f3 j0 0 1 2 rfl rfl rfl
   go_simp
   obtain ⟨w7,p0,hb⟩:=nmw (World.setCell (World.setCell (World.setCell w6 ⟨w.heap.size+1,0,none⟩ (.int .i64 3)) ⟨w.heap.size+1,1,none⟩ (.int .i64 i)) ⟨w.heap.size+1,2,none⟩ (.slice (some ⟨w5.heap.size,0,none⟩) 1 1))
   replace hC:=((((hC.sN _ _ _).sN _ _ _).sN _ _ _)).trans (Chg.of_below hb)
   replace hR:=(((hR.kC _ _ _).kC _ _ _).kC _ _ _).below hb
   have o3:=hb.size
   simp only [Ss] at o3
   clear d5 s4 e5 t4 f5 u4
   replace v0:=Kf hb (Lc (Nn (Nn (Nn e0 _) _) _)) (Fs (Fs (Fs v0 _) _) _)
   replace w0:=Kf hb (Lc (Nn (Nn (Nn f0 _) _) _)) (Fs (Fs (Fs w0 _) _) _)
   replace x0:=Kf hb (Lc (Nn (Nn (Nn g0 _) _) _)) (Fs (Fs (Fs x0 _) _) _)
   replace e0:=Kc hb (Nn (Nn (Nn e0 _) _) _)
   replace f0:=Kc hb (Nn (Nn (Nn f0 _) _) _)
   replace g0:=Kc hb (Nn (Nn (Nn g0 _) _) _)
   replace o1:=Ob (Oe (Oe (Oe o1 _ _ (fun h=>by have:=x1 _ h;omega) _) _ _ (fun h=>by have:=x1 _ h;omega) _) _ _ (fun h=>by have:=x1 _ h;omega) _) hb
   replace k0:=Bk.below (Bk.nn (Bk.nn (Bk.nn k0 _) _) _) hb
   replace j0:Bk w7 (w.heap.size+1) [.int .i64 3,.int .i64 i,.slice (some ⟨w5.heap.size,0,none⟩) 1 1]:=Bk.below (Bk.at (Bk.at (Bk.at j0 0 (.int .i64 3)) 1 (.int .i64 i)) 2 (.slice (some ⟨w5.heap.size,0,none⟩) 1 1)) hb
   replace g2:=Bk.below (Bk.nn (Bk.nn (Bk.nn g2 _) _) _) hb
   clear hb
   rw [← p0]
   clear p0
   refine hK.out _ _ ⟨e0,f0,g0⟩ (fun hHeld=>?_)
   clear hK K
   try simp only [Ep]
   refine Dn ?_
   clear hHeld
   have hT:=Lib.hid (KidsAt.node (W:=w7) (b8:=w.heap.size) (d:=d+1) (rs:=[⟨k,kv,none,0,0⟩]) (l:=[.mk k kv []]) (a:=some ⟨w5.heap.size,0,none⟩) (c:=1) ⟨rfl,Om o1 (by omega),fun j h1 h2=>by (have hj:j=0:=by simp at h1;omega);subst hj;exact ExAt.leaf k kv,fun x hx=>by rw [List.mem_singleton.1 hx];exact ⟨by simp [Ex.kids],fun x hx=>by simp [Ex.kids] at hx⟩⟩ (by simp) 3 i)
   have tC:=hC;have tR:=hR
   obtain ⟨v4,c7,x4,d7,y4,e7⟩:=Bk.f3 j0 0 1 2 rfl rfl rfl
   have l7:=v4
   have m7:=x4
   have n7:=y4
   have tt:=True.intro
   go_wp2
   exact bodyPost_ret (v:=.agg #[.int .i64 3,.int .i64 i,.slice (some ⟨w5.heap.size,0,none⟩) 1 1]) (by simp [results,Try.results172,go_sem,l7,m7,n7]) rfl (by exact ⟨⟨3,i,some ⟨w5.heap.size,0,none⟩,1,1⟩,.mk 3 i [.mk k kv []],_,rfl,ExAt.keep (S:=fun _=>False) (Chg.of_below (Bs _)) (fun _ _ _=>id) (fun q (hq:w.heap.size < q) _=>by show w.heap.size≤q;omega) (by omega) hT.out.1,Thin.mono (by omega) hT.out.2,tR,by have:=f2.out;omega,tC⟩)
  have p6:=Lib.hid har;clear har f4 h0 q0
  go_wp2_with fail
  refine (l2Arity_any _ _).mono ?_
  rintro e w3 ⟨rfl,g6⟩
  rw [p6.out]
  have hb:Below ((World.alloc w2 (.cells #[.int .i64 kd,.int .i64 0,.slice none 0 0] 161))).heap.size ((World.alloc w2 (.cells #[.int .i64 kd,.int .i64 0,.slice none 0 0] 161))) w3:=by rw [g6];exact Bs _
  clear g6
  replace hC:=((hC.trans (Chg.of_below (bal (Bs _) _)))).trans (Chg.of_below hb)
  replace hR:=(hR.below (bal (Bs _) _)).below hb
  have p3:=hb.size
  simp only [Sa] at p3
  replace k0:=Bk.below (Bk.al k0 _) hb
  replace j0:=Bk.below (Bk.al j0 _) hb
  have i2:Bk w3 (w2.heap.size) [.int .i64 kd,.int .i64 0,.slice none 0 0]:=Bk.below (Bk.nw (by simp) rfl) hb
  clear hb
  replace r3:=Bk.lz k0
  replace s3:=Bk.lz j0
  have u6:=Bk.lz i2
  obtain ⟨r2,h5,t2,i5,u2,d3⟩:=Bk.f3 i2 0 1 2 rfl rfl rfl
  obtain ⟨v2,j5,x2,k5,y2,l5⟩:=Bk.f3 k0 0 1 2 rfl rfl rfl
  obtain ⟨z2,e3,a3,g3,b3,h3⟩:=Bk.f3 j0 0 1 2 rfl rfl rfl
  have q6:=Lib.hid (show _∧_∧_∧_∧_∧_∧_∧_∧_∧_∧_∧_∧_ from ⟨r2,t2,u2,d3,v2,x2,y2,z2,a3,b3,e3,g3,h3⟩)
  have s6:w.heap.size≤w2.heap.size∧w2.heap.size < w3.heap.size∧w.heap.size≤w.heap.size+1∧w.heap.size+1 < w2.heap.size:=by omega
  have t5:Hid (let wr:=w3;∃ i,i=Value.int .i64 (ar:Nat)∧(∃ (k:Nat) (rs:List En) (l:List Ex) (a:Option Addr) (c pk:Nat),k≤ar∧i=.int .i64 ((ar:Int)-k)∧l.length=k∧KidsAt wr w2.heap.size (d+1) (.slice a k c) rs l∧wr.cell? ⟨w2.heap.size,0,none⟩=some (.int .i64 kd)∧wr.cell? ⟨w2.heap.size,1,none⟩=some (.int .i64 0)∧wr.cell? ⟨w2.heap.size,2,none⟩=some (.slice a k c)∧wr.frozen? ⟨w2.heap.size,2,none⟩=false∧wr.cell? ⟨w.heap.size,0,none⟩=some (.slice pv nv cv)∧wr.cell? ⟨w.heap.size,1,none⟩=some (.slice pa na ca)∧wr.cell? ⟨w.heap.size,2,none⟩=some (vb)∧wr.cell? ⟨w.heap.size+1,0,none⟩=some (.int .i64 0)∧wr.cell? ⟨w.heap.size+1,1,none⟩=some (.int .i64 0)∧wr.cell? ⟨w.heap.size+1,2,none⟩=some (.slice none 0 0)∧wr.frozen? ⟨w.heap.size+1,0,none⟩=false∧wr.frozen? ⟨w.heap.size+1,1,none⟩=false∧wr.frozen? ⟨w.heap.size+1,2,none⟩=false∧Rnd wr B g pk∧pk≤p+2+k*dcost d∧Chg (fun q=>q=g) w wr∧wr.heap.size≤wr.heap.size)):=Lib.hid ⟨_,rfl,0,[],[],none,0,p+1+1,by omega,by simp,rfl,KidsAt.nil,r2,t2,u2,d3,v2,x2,y2,z2,a3,b3,e3,g3,h3,hR,by omega,hC,Nat.le_refl _⟩
  clear q6 hR hC k0 j0 i2 r2 h5 t2 i5 u2 d3 v2 j5 x2 k5 y2 l5 z2 e3 a3 g3 b3 h3
  go_wp2_with fail
  go_loopw [9] (fun i wr=>∃ (k:Nat) (rs:List En) (l:List Ex) (a:Option Addr) (c pk:Nat),k≤ar∧i=.int .i64 ((ar:Int)-k)∧l.length=k∧KidsAt wr w2.heap.size (d+1) (.slice a k c) rs l∧wr.cell? ⟨w2.heap.size,0,none⟩=some (.int .i64 kd)∧wr.cell? ⟨w2.heap.size,1,none⟩=some (.int .i64 0)∧wr.cell? ⟨w2.heap.size,2,none⟩=some (.slice a k c)∧wr.frozen? ⟨w2.heap.size,2,none⟩=false∧wr.cell? ⟨w.heap.size,0,none⟩=some (.slice pv nv cv)∧wr.cell? ⟨w.heap.size,1,none⟩=some (.slice pa na ca)∧wr.cell? ⟨w.heap.size,2,none⟩=some (vb)∧wr.cell? ⟨w.heap.size+1,0,none⟩=some (.int .i64 0)∧wr.cell? ⟨w.heap.size+1,1,none⟩=some (.int .i64 0)∧wr.cell? ⟨w.heap.size+1,2,none⟩=some (.slice none 0 0)∧wr.frozen? ⟨w.heap.size+1,0,none⟩=false∧wr.frozen? ⟨w.heap.size+1,1,none⟩=false∧wr.frozen? ⟨w.heap.size+1,2,none⟩=false∧Rnd wr B g pk∧pk≤p+2+k*dcost d∧Chg (fun q=>q=g) w wr∧wr.heap.size≤wr.heap.size) (fun i _=>(intOf i).toNat)
  case atStart=>obtain ⟨i,hi,h⟩:=t5.out;rw [hi] at h;exact h
  case round =>
   obtain ⟨k,rs,l,a,c,pk,hk,rfl,a4,b0,d0,d1,d2,df,c0,c1,c2,s0,s1,s2,m0,n0,o0,hR,p7,hC,q7⟩:=hrel
   clear t5
   have k8:=Lc d0
   have k4:=Lc c0
   have k6:=Lc s0
   have v1:=b0.own.lt
   by_cases hlt:k < ar
   ·have qi:(0:Int) < (ar:Int)-k:=by omega
    have o7:k*dcost d≤2*dcost d:=Nat.mul_le_mul_right _ (by omega)
    have y5:pk+dcost d≤1000000000:=by have:=f2.out;omega
    have v5:Hid (IntKind.i64.wrap (d:Int)=d):=Lib.hid (IntWalk.i64_in _ (by omega))
    have u1:=Lib.hid a4
    clear a4
    have j1:∀ q,(Value.slice a k c).ownBlock=some q→q < wr.heap.size:=fun q hq=>(b0.own.lt q hq).2
    go_upto_region 12 with (fail)
    have y1:=Lc d0
    have z1:=Lc c0
    have a2:=Lc s0
    refine wp_region_noPanic ?_
    refine wp_region_held_drew (S:=(fun W'=>W'.cell? ⟨w.heap.size,0,none⟩=some (.slice pv nv cv)∧W'.cell? ⟨w.heap.size,1,none⟩=some (.slice pa na ca)∧W'.cell? ⟨w.heap.size,2,none⟩=some (vb))) (by kernel_rfl) ⟨Kc (Below.drew (Bs wr)) c0,Kc (Below.drew (Bs wr)) c1,Kc (Below.drew (Bs wr)) c2⟩ (fun hHeld=>?_)
    obtain ⟨w4,p2⟩:∃ X,X=World.drew wr:=⟨_,rfl⟩
    rw [← p2] at hHeld ⊢
    have hb:Below wr.heap.size wr w4:=by rw [p2];exact Below.drew (Bs _)
    clear p2
    have a0:=b0.below hb
    replace hC:=(hC).trans (Chg.of_below hb)
    replace hR:=hR.below hb
    have e6:=hb.size
    replace df:=Kf hb (Lc d2) df
    replace m0:=Kf hb (Lc s0) m0
    replace n0:=Kf hb (Lc s1) n0
    replace o0:=Kf hb (Lc s2) o0
    replace d0:=Kc hb d0
    replace d1:=Kc hb d1
    replace d2:=Kc hb d2
    replace c0:=Kc hb c0
    replace c1:=Kc hb c1
    replace c2:=Kc hb c2
    replace s0:=Kc hb s0
    replace s1:=Kc hb s1
    replace s2:=Kc hb s2
    clear hb
    clear b0;have b0:=a0;clear a0
    replace y1:=Lc d0
    replace z1:=Lc c0
    replace a2:=Lc s0
    refine (tq 0 51 rfl rfl ?_ ?_ (tq 2 53 rfl rfl ?_ ?_ (tq 3 54 rfl rfl ?_ ?_ (tq 4 55 rfl rfl ?_ ?_ (tq 5 56 rfl rfl ?_ ?_ ?_)))))
    iterate 5 (rotate_left;intro W' hSw;(try dsimp only at hSw);go_simp;try with_reducible rfl)
    try simp only [Ep]
    refine Rdy2 1 6 rfl rfl (fun K hK=>?_) (fun K hK=>?_)
    ·go_simp
     refine hK.out _ _ ⟨c0,c1,c2⟩ (fun hHeld=>?_)
     clear hK K
     try simp only [Ep]
     refine Rdy 6 rfl (fun K hK=>?_)
     go_simp
     rw [v5.out]
     refine (IH pk _ (by omega) hR y5).mono ?_
     rintro e w5 ⟨n,e,p1,rfl,hE,v3,l0,i3,hc⟩
     have a0:=b0.keep hc (fun q hq (h:q=g)=>by omega)
     replace hC:=(hC).trans hc
     replace hR:=l0;clear l0
     have f6:=hc.size
     replace df:=Gf hc (Lc d2) df (fun h=>by have:=f1 _ h;omega)
     replace m0:=Gf hc (Lc s0) m0 (fun h=>by have:=f1 _ h;omega)
     replace n0:=Gf hc (Lc s1) n0 (fun h=>by have:=f1 _ h;omega)
     replace o0:=Gf hc (Lc s2) o0 (fun h=>by have:=f1 _ h;omega)
     replace d0:=Gg hc d0
     replace d1:=Gg hc d1
     replace d2:=Gg hc d2
     replace c0:=Gg hc c0
     replace c1:=Gg hc c1
     replace c2:=Gg hc c2
     replace s0:=Gg hc s0
     replace s1:=Gg hc s1
     replace s2:=Gg hc s2
     clear hc
     clear b0;have b0:=a0;clear a0
     replace y1:=Lc d0
     replace z1:=Lc c0
     replace a2:=Lc s0
     refine hK.out _ _ ⟨c0,c1,c2⟩ (fun hHeld=>?_)
     clear hK K
     try simp only [Ep]
     refine Rdy 7 rfl (fun K hK=>?_)
     go_simp
     obtain ⟨w6,p0,hb⟩:=nmw (World.alloc w5 (.cells #[.int .i64 n.k,.int .i64 n.v,.slice n.p n.n n.c] 161))
     have a0:=(b0.below (bal (Bs _) (.cells #[.int .i64 n.k,.int .i64 n.v,.slice n.p n.n n.c] 161))).below hb
     replace hC:=((hC.trans (Chg.of_below (bal (Bs _) _)))).trans (Chg.of_below hb)
     replace hR:=(hR.below (bal (Bs _) _)).below hb
     have g1:=Ob (World.ownsRow_lit (base:=(w5).heap.size) (e:=161) (size:=3) (w5) #[.int .i64 n.k,.int .i64 n.v,.slice n.p n.n n.c] 1 (Nat.le_refl _) (by unfold maxLen;omega) (by simp)) hb
     try simp only [Sa,Ss] at g1
     replace hE:=((hE.below (bal (Bs _) _)).below hb)
     have j2:=hb.size
     simp only [Sa] at j2
     replace df:=Kf hb (Lc (Ac d2 _)) (Fa (Lc d2) df _)
     replace m0:=Kf hb (Lc (Ac s0 _)) (Fa (Lc s0) m0 _)
     replace n0:=Kf hb (Lc (Ac s1 _)) (Fa (Lc s1) n0 _)
     replace o0:=Kf hb (Lc (Ac s2 _)) (Fa (Lc s2) o0 _)
     replace d0:=Kc hb (Ac d0 _)
     replace d1:=Kc hb (Ac d1 _)
     replace d2:=Kc hb (Ac d2 _)
     replace c0:=Kc hb (Ac c0 _)
     replace c1:=Kc hb (Ac c1 _)
     replace c2:=Kc hb (Ac c2 _)
     replace s0:=Kc hb (Ac s0 _)
     replace s1:=Kc hb (Ac s1 _)
     replace s2:=Kc hb (Ac s2 _)
     have y0:Bk w6 (w5.heap.size) [.int .i64 n.k,.int .i64 n.v,.slice n.p n.n n.c]:=Bk.below (Bk.nw (by simp) rfl) hb
     clear hb
     have l1:=g1.lt
     try simp only [Sa] at l1
     clear b0;have b0:=a0;clear a0
     rw [← p0]
     clear p0
     have h6:=Bk.lz y0
     refine hK.out _ _ ⟨c0,c1,c2⟩ (fun hHeld=>?_)
     clear hK K
     try simp only [Ep]
     refine Rdy 8 rfl (fun K hK=>?_)
     have v1:=b0.own.lt
     have iK:∀ q,(Value.slice a k c).ownBlock=some q→w.heap.size≤q∧w2.heap.size < q∧q < w4.heap.size:=fun q hq=>by have h1:=j1 q hq;have h2:=v1 q hq;omega
     have b1:w6.ownsRow (w2.heap.size+1) 161 3 (.slice a k c) k (rows enc rs):=by have h:=b0.own;rw [u1.out] at h;exact h
     refine step_aps tExprs rfl _ _ rfl (w2.heap.size+1) _ k (rows enc rs) rfl b1 _ 1 (enc n) rfl (Ro g1 (by simp)) (one_enc n) (by omega) (by omega) ?_
     intro vA w7 oA hc b2 _
     obtain ⟨pA,tA,rfl⟩:=Oh oA
     have a0:=KidsAt.push b0 (by rw [u1.out];exact oA) hc b2 hE v3 (by omega) (fun q hq=>by have:=j1 q hq;omega)
     replace hC:=chg_app hC hc (fun q hq h=>by have:=iK q h;omega)
     replace hR:=hR.keep hc (fun h=>by have:=iK _ h;omega) (fun k hk h=>by have:=iK _ h;omega)
     replace hE:=ExAt.keep hc (fun q (hq:w4.heap.size≤q) _ h=>by have:=iK q h;omega) (fun _ h _=>h) (Nat.le_refl _) hE
     have b4:=hc.size
     replace df:=Gf hc (Lc d2) df (fun h=>by have:=iK _ h;omega)
     replace m0:=Gf hc (Lc s0) m0 (fun h=>by have:=iK _ h;omega)
     replace n0:=Gf hc (Lc s1) n0 (fun h=>by have:=iK _ h;omega)
     replace o0:=Gf hc (Lc s2) o0 (fun h=>by have:=iK _ h;omega)
     replace d0:=Gc hc d0 (fun h=>by have:=iK _ h;omega)
     replace d1:=Gc hc d1 (fun h=>by have:=iK _ h;omega)
     replace d2:=Gc hc d2 (fun h=>by have:=iK _ h;omega)
     replace c0:=Gc hc c0 (fun h=>by have:=iK _ h;omega)
     replace c1:=Gc hc c1 (fun h=>by have:=iK _ h;omega)
     replace c2:=Gc hc c2 (fun h=>by have:=iK _ h;omega)
     replace s0:=Gc hc s0 (fun h=>by have:=iK _ h;omega)
     replace s1:=Gc hc s1 (fun h=>by have:=iK _ h;omega)
     replace s2:=Gc hc s2 (fun h=>by have:=iK _ h;omega)
     replace g1:=Ow g1 hc (fun gq h h2=>by have:=l1 gq h;have:=iK gq h2;omega)
     replace y0:=Bk.keep y0 hc (fun h=>by have:=iK _ h;omega)
     clear hc
     clear b0;have b0:=a0;clear a0
     clear b2 oA b1 iK v1
     refine hK.out _ _ ⟨c0,c1,c2⟩ (fun hHeld=>?_)
     clear hK K
     try simp only [Ep]
     refine (tq 9 60 rfl rfl ?_ ?_ ?_)
     (rotate_left;intro W' hSw;(try dsimp only at hSw);go_simp;try with_reducible rfl)
     try simp only [Ep]
     refine Rdy 10 rfl (fun K hK=>?_)
     go_simp
     obtain ⟨w8,p0,hb⟩:=nmw (World.setCell w7 ⟨w2.heap.size,2,none⟩ (.slice pA (k+1) tA))
     have a0:=(b0.keep (C1 (w2.heap.size) 2 (.slice pA (k+1) tA)) (fun q hq (h:q=(w2.heap.size))=>by omega)).below hb
     replace hC:=((hC.sN _ _ _)).trans (Chg.of_below hb)
     replace hR:=(hR.kC _ _ _).below hb
     have k2:=hb.size
     simp only [Ss] at k2
     replace df:=Kf hb (Lc (Tc _ (w2.heap.size) 2 (.slice pA (k+1) tA) d2)) (Fs df _)
     replace m0:=Kf hb (Lc (Nn s0 _)) (Fs m0 _)
     replace n0:=Kf hb (Lc (Nn s1 _)) (Fs n0 _)
     replace o0:=Kf hb (Lc (Nn s2 _)) (Fs o0 _)
     replace d0:=Kc hb (Nn d0 _)
     replace d1:=Kc hb (Nn d1 _)
     replace d2:w8.cell? ⟨w2.heap.size,2,none⟩=some (.slice pA (k+1) tA):=Kc hb (Tc _ (w2.heap.size) 2 (.slice pA (k+1) tA) d2)
     replace c0:=Kc hb (Nn c0 _)
     replace c1:=Kc hb (Nn c1 _)
     replace c2:=Kc hb (Nn c2 _)
     replace s0:=Kc hb (Nn s0 _)
     replace s1:=Kc hb (Nn s1 _)
     replace s2:=Kc hb (Nn s2 _)
     replace g1:=Ob (Oe g1 _ _ (fun h=>by have:=l1 _ h;omega) _) hb
     replace y0:=Bk.below (Bk.nn y0 _) hb
     clear hb
     clear b0;have b0:=a0;clear a0
     rw [← p0]
     clear p0
     refine hK.out _ _ ⟨c0,c1,c2⟩ (fun hHeld=>?_)
     clear hK K
     try simp only [Ep]
     refine Dn ?_
     clear hHeld
     have e2:(l++[e]).length=k+1:=by rw [List.length_append,u1.out];rfl
     have k3:=Lib.hid e2;clear e2
     have e1:(k+1)*dcost d=k*dcost d+dcost d:=Nat.succ_mul _ _
     have l3:=Lib.hid e1;clear e1
     have j3:=Lib.hid b0;clear b0
     have HH:=Lib.hid (And.intro hR hC);clear hR hC
     go_wp2
     go_roundw
     case rel=>exact ⟨k+1,rs++[n],l++[e],pA,tA,p1,by omega,by congr 1;omega,k3.out,j3.out,d0,d1,d2,df,c0,c1,c2,s0,s1,s2,m0,n0,o0,HH.out.1,by have:=l3.out;omega,HH.out.2,by omega⟩
     case measure=>simp [intOf];omega
    go_simp
    rw [v5.out]
    refine (IH pk _ (by omega) hR y5).mono ?_
    rintro e w5 ⟨n,e,p1,rfl,hE,v3,l0,i3,hc⟩
    have a0:=b0.keep hc (fun q hq (h:q=g)=>by omega)
    replace hC:=(hC).trans hc
    replace hR:=l0;clear l0
    have c4:=hc.size
    replace df:=Gf hc (Lc d2) df (fun h=>by have:=f1 _ h;omega)
    replace m0:=Gf hc (Lc s0) m0 (fun h=>by have:=f1 _ h;omega)
    replace n0:=Gf hc (Lc s1) n0 (fun h=>by have:=f1 _ h;omega)
    replace o0:=Gf hc (Lc s2) o0 (fun h=>by have:=f1 _ h;omega)
    replace d0:=Gg hc d0
    replace d1:=Gg hc d1
    replace d2:=Gg hc d2
    replace c0:=Gg hc c0
    replace c1:=Gg hc c1
    replace c2:=Gg hc c2
    replace s0:=Gg hc s0
    replace s1:=Gg hc s1
    replace s2:=Gg hc s2
    clear hc
    clear b0;have b0:=a0;clear a0
    replace y1:=Lc d0
    replace z1:=Lc c0
    replace a2:=Lc s0
    refine hK.out _ _ ⟨c0,c1,c2⟩ (fun hHeld=>?_)
    clear hK K
    try simp only [Ep]
    refine Rdy2 1 7 rfl rfl (fun K hK=>?_) (fun K hK=>?_)
    ·go_simp
     replace y1:=Lc d0
     replace z1:=Lc c0
     replace a2:=Lc s0
     refine hK.out _ _ ⟨c0,c1,c2⟩ (fun hHeld=>?_)
     clear hK K
     try simp only [Ep]
     refine Rdy 7 rfl (fun K hK=>?_)
     go_simp
     obtain ⟨w6,p0,hb⟩:=nmw (World.alloc w5 (.cells #[.int .i64 n.k,.int .i64 n.v,.slice n.p n.n n.c] 161))
     have a0:=(b0.below (bal (Bs _) (.cells #[.int .i64 n.k,.int .i64 n.v,.slice n.p n.n n.c] 161))).below hb
     replace hC:=((hC.trans (Chg.of_below (bal (Bs _) _)))).trans (Chg.of_below hb)
     replace hR:=(hR.below (bal (Bs _) _)).below hb
     have t0:=Ob (World.ownsRow_lit (base:=(w5).heap.size) (e:=161) (size:=3) (w5) #[.int .i64 n.k,.int .i64 n.v,.slice n.p n.n n.c] 1 (Nat.le_refl _) (by unfold maxLen;omega) (by simp)) hb
     try simp only [Sa,Ss] at t0
     replace hE:=((hE.below (bal (Bs _) _)).below hb)
     have l2:=hb.size
     simp only [Sa] at l2
     replace df:=Kf hb (Lc (Ac d2 _)) (Fa (Lc d2) df _)
     replace m0:=Kf hb (Lc (Ac s0 _)) (Fa (Lc s0) m0 _)
     replace n0:=Kf hb (Lc (Ac s1 _)) (Fa (Lc s1) n0 _)
     replace o0:=Kf hb (Lc (Ac s2 _)) (Fa (Lc s2) o0 _)
     replace d0:=Kc hb (Ac d0 _)
     replace d1:=Kc hb (Ac d1 _)
     replace d2:=Kc hb (Ac d2 _)
     replace c0:=Kc hb (Ac c0 _)
     replace c1:=Kc hb (Ac c1 _)
     replace c2:=Kc hb (Ac c2 _)
     replace s0:=Kc hb (Ac s0 _)
     replace s1:=Kc hb (Ac s1 _)
     replace s2:=Kc hb (Ac s2 _)
     have z0:Bk w6 (w5.heap.size) [.int .i64 n.k,.int .i64 n.v,.slice n.p n.n n.c]:=Bk.below (Bk.nw (by simp) rfl) hb
     clear hb
     have m1:=t0.lt
     try simp only [Sa] at m1
     clear b0;have b0:=a0;clear a0
     rw [← p0]
     clear p0
     have i6:=Bk.lz z0
     refine hK.out _ _ ⟨c0,c1,c2⟩ (fun hHeld=>?_)
     clear hK K
     try simp only [Ep]
     refine Rdy 8 rfl (fun K hK=>?_)
     have v1:=b0.own.lt
     have iK:∀ q,(Value.slice a k c).ownBlock=some q→w.heap.size≤q∧w2.heap.size < q∧q < w4.heap.size:=fun q hq=>by have h1:=j1 q hq;have h2:=v1 q hq;omega
     have b1:w6.ownsRow (w2.heap.size+1) 161 3 (.slice a k c) k (rows enc rs):=by have h:=b0.own;rw [u1.out] at h;exact h
     refine step_aps tExprs rfl _ _ rfl (w2.heap.size+1) _ k (rows enc rs) rfl b1 _ 1 (enc n) rfl (Ro t0 (by simp)) (one_enc n) (by omega) (by omega) ?_
     intro vA w7 oA hc b2 _
     obtain ⟨pA,tA,rfl⟩:=Oh oA
     have a0:=KidsAt.push b0 (by rw [u1.out];exact oA) hc b2 hE v3 (by omega) (fun q hq=>by have:=j1 q hq;omega)
     replace hC:=chg_app hC hc (fun q hq h=>by have:=iK q h;omega)
     replace hR:=hR.keep hc (fun h=>by have:=iK _ h;omega) (fun k hk h=>by have:=iK _ h;omega)
     replace hE:=ExAt.keep hc (fun q (hq:w4.heap.size≤q) _ h=>by have:=iK q h;omega) (fun _ h _=>h) (Nat.le_refl _) hE
     have d4:=hc.size
     replace df:=Gf hc (Lc d2) df (fun h=>by have:=iK _ h;omega)
     replace m0:=Gf hc (Lc s0) m0 (fun h=>by have:=iK _ h;omega)
     replace n0:=Gf hc (Lc s1) n0 (fun h=>by have:=iK _ h;omega)
     replace o0:=Gf hc (Lc s2) o0 (fun h=>by have:=iK _ h;omega)
     replace d0:=Gc hc d0 (fun h=>by have:=iK _ h;omega)
     replace d1:=Gc hc d1 (fun h=>by have:=iK _ h;omega)
     replace d2:=Gc hc d2 (fun h=>by have:=iK _ h;omega)
     replace c0:=Gc hc c0 (fun h=>by have:=iK _ h;omega)
     replace c1:=Gc hc c1 (fun h=>by have:=iK _ h;omega)
     replace c2:=Gc hc c2 (fun h=>by have:=iK _ h;omega)
     replace s0:=Gc hc s0 (fun h=>by have:=iK _ h;omega)
     replace s1:=Gc hc s1 (fun h=>by have:=iK _ h;omega)
     replace s2:=Gc hc s2 (fun h=>by have:=iK _ h;omega)
     replace t0:=Ow t0 hc (fun gq h h2=>by have:=m1 gq h;have:=iK gq h2;omega)
     replace z0:=Bk.keep z0 hc (fun h=>by have:=iK _ h;omega)
     clear hc
     clear b0;have b0:=a0;clear a0
     clear b2 oA b1 iK v1
     refine hK.out _ _ ⟨c0,c1,c2⟩ (fun hHeld=>?_)
     clear hK K
     try simp only [Ep]
     refine (tq 9 60 rfl rfl ?_ ?_ ?_)
     (rotate_left;intro W' hSw;(try dsimp only at hSw);go_simp;try with_reducible rfl)
     try simp only [Ep]
     refine Rdy 10 rfl (fun K hK=>?_)
     go_simp
     obtain ⟨w8,p0,hb⟩:=nmw (World.setCell w7 ⟨w2.heap.size,2,none⟩ (.slice pA (k+1) tA))
     have a0:=(b0.keep (C1 (w2.heap.size) 2 (.slice pA (k+1) tA)) (fun q hq (h:q=(w2.heap.size))=>by omega)).below hb
     replace hC:=((hC.sN _ _ _)).trans (Chg.of_below hb)
     replace hR:=(hR.kC _ _ _).below hb
     have m2:=hb.size
     simp only [Ss] at m2
     replace df:=Kf hb (Lc (Tc _ (w2.heap.size) 2 (.slice pA (k+1) tA) d2)) (Fs df _)
     replace m0:=Kf hb (Lc (Nn s0 _)) (Fs m0 _)
     replace n0:=Kf hb (Lc (Nn s1 _)) (Fs n0 _)
     replace o0:=Kf hb (Lc (Nn s2 _)) (Fs o0 _)
     replace d0:=Kc hb (Nn d0 _)
     replace d1:=Kc hb (Nn d1 _)
     replace d2:w8.cell? ⟨w2.heap.size,2,none⟩=some (.slice pA (k+1) tA):=Kc hb (Tc _ (w2.heap.size) 2 (.slice pA (k+1) tA) d2)
     replace c0:=Kc hb (Nn c0 _)
     replace c1:=Kc hb (Nn c1 _)
     replace c2:=Kc hb (Nn c2 _)
     replace s0:=Kc hb (Nn s0 _)
     replace s1:=Kc hb (Nn s1 _)
     replace s2:=Kc hb (Nn s2 _)
     replace t0:=Ob (Oe t0 _ _ (fun h=>by have:=m1 _ h;omega) _) hb
     replace z0:=Bk.below (Bk.nn z0 _) hb
     clear hb
     clear b0;have b0:=a0;clear a0
     rw [← p0]
     clear p0
     refine hK.out _ _ ⟨c0,c1,c2⟩ (fun hHeld=>?_)
     clear hK K
     try simp only [Ep]
     refine Dn ?_
     clear hHeld
     have e2:(l++[e]).length=k+1:=by rw [List.length_append,u1.out];rfl
     have k3:=Lib.hid e2;clear e2
     have e1:(k+1)*dcost d=k*dcost d+dcost d:=Nat.succ_mul _ _
     have l3:=Lib.hid e1;clear e1
     have j3:=Lib.hid b0;clear b0
     have HH:=Lib.hid (And.intro hR hC);clear hR hC
     go_wp2
     go_roundw
     case rel=>exact ⟨k+1,rs++[n],l++[e],pA,tA,p1,by omega,by congr 1;omega,k3.out,j3.out,d0,d1,d2,df,c0,c1,c2,s0,s1,s2,m0,n0,o0,HH.out.1,by have:=l3.out;omega,HH.out.2,by omega⟩
     case measure=>simp [intOf];omega
    go_simp
    obtain ⟨w6,p0,hb⟩:=nmw (World.alloc w5 (.cells #[.int .i64 n.k,.int .i64 n.v,.slice n.p n.n n.c] 161))
    have a0:=(b0.below (bal (Bs _) (.cells #[.int .i64 n.k,.int .i64 n.v,.slice n.p n.n n.c] 161))).below hb
    replace hC:=((hC.trans (Chg.of_below (bal (Bs _) _)))).trans (Chg.of_below hb)
    replace hR:=(hR.below (bal (Bs _) _)).below hb
    have u0:=Ob (World.ownsRow_lit (base:=(w5).heap.size) (e:=161) (size:=3) (w5) #[.int .i64 n.k,.int .i64 n.v,.slice n.p n.n n.c] 1 (Nat.le_refl _) (by unfold maxLen;omega) (by simp)) hb
    try simp only [Sa,Ss] at u0
    replace hE:=((hE.below (bal (Bs _) _)).below hb)
    have n2:=hb.size
    simp only [Sa] at n2
    replace df:=Kf hb (Lc (Ac d2 _)) (Fa (Lc d2) df _)
    replace m0:=Kf hb (Lc (Ac s0 _)) (Fa (Lc s0) m0 _)
    replace n0:=Kf hb (Lc (Ac s1 _)) (Fa (Lc s1) n0 _)
    replace o0:=Kf hb (Lc (Ac s2 _)) (Fa (Lc s2) o0 _)
    replace d0:=Kc hb (Ac d0 _)
    replace d1:=Kc hb (Ac d1 _)
    replace d2:=Kc hb (Ac d2 _)
    replace c0:=Kc hb (Ac c0 _)
    replace c1:=Kc hb (Ac c1 _)
    replace c2:=Kc hb (Ac c2 _)
    replace s0:=Kc hb (Ac s0 _)
    replace s1:=Kc hb (Ac s1 _)
    replace s2:=Kc hb (Ac s2 _)
    have a1:Bk w6 (w5.heap.size) [.int .i64 n.k,.int .i64 n.v,.slice n.p n.n n.c]:=Bk.below (Bk.nw (by simp) rfl) hb
    clear hb
    have n1:=u0.lt
    try simp only [Sa] at n1
    clear b0;have b0:=a0;clear a0
    rw [← p0]
    clear p0
    have j6:=Bk.lz a1
    refine hK.out _ _ ⟨c0,c1,c2⟩ (fun hHeld=>?_)
    clear hK K
    try simp only [Ep]
    refine Rdy 1 rfl (fun K hK=>?_)
    go_simp
    refine hK.out _ _ ⟨c0,c1,c2⟩ (fun hHeld=>?_)
    clear hK K
    try simp only [Ep]
    refine Rdy 8 rfl (fun K hK=>?_)
    have v1:=b0.own.lt
    have iK:∀ q,(Value.slice a k c).ownBlock=some q→w.heap.size≤q∧w2.heap.size < q∧q < w4.heap.size:=fun q hq=>by have h1:=j1 q hq;have h2:=v1 q hq;omega
    have b1:w6.ownsRow (w2.heap.size+1) 161 3 (.slice a k c) k (rows enc rs):=by have h:=b0.own;rw [u1.out] at h;exact h
    refine step_aps tExprs rfl _ _ rfl (w2.heap.size+1) _ k (rows enc rs) rfl b1 _ 1 (enc n) rfl (Ro u0 (by simp)) (one_enc n) (by omega) (by omega) ?_
    intro vA w7 oA hc b2 _
    obtain ⟨pA,tA,rfl⟩:=Oh oA
    have a0:=KidsAt.push b0 (by rw [u1.out];exact oA) hc b2 hE v3 (by omega) (fun q hq=>by have:=j1 q hq;omega)
    replace hC:=chg_app hC hc (fun q hq h=>by have:=iK q h;omega)
    replace hR:=hR.keep hc (fun h=>by have:=iK _ h;omega) (fun k hk h=>by have:=iK _ h;omega)
    replace hE:=ExAt.keep hc (fun q (hq:w4.heap.size≤q) _ h=>by have:=iK q h;omega) (fun _ h _=>h) (Nat.le_refl _) hE
    have e4:=hc.size
    replace df:=Gf hc (Lc d2) df (fun h=>by have:=iK _ h;omega)
    replace m0:=Gf hc (Lc s0) m0 (fun h=>by have:=iK _ h;omega)
    replace n0:=Gf hc (Lc s1) n0 (fun h=>by have:=iK _ h;omega)
    replace o0:=Gf hc (Lc s2) o0 (fun h=>by have:=iK _ h;omega)
    replace d0:=Gc hc d0 (fun h=>by have:=iK _ h;omega)
    replace d1:=Gc hc d1 (fun h=>by have:=iK _ h;omega)
    replace d2:=Gc hc d2 (fun h=>by have:=iK _ h;omega)
    replace c0:=Gc hc c0 (fun h=>by have:=iK _ h;omega)
    replace c1:=Gc hc c1 (fun h=>by have:=iK _ h;omega)
    replace c2:=Gc hc c2 (fun h=>by have:=iK _ h;omega)
    replace s0:=Gc hc s0 (fun h=>by have:=iK _ h;omega)
    replace s1:=Gc hc s1 (fun h=>by have:=iK _ h;omega)
    replace s2:=Gc hc s2 (fun h=>by have:=iK _ h;omega)
    replace u0:=Ow u0 hc (fun gq h h2=>by have:=n1 gq h;have:=iK gq h2;omega)
    replace a1:=Bk.keep a1 hc (fun h=>by have:=iK _ h;omega)
    clear hc
    clear b0;have b0:=a0;clear a0
    clear b2 oA b1 iK v1
    refine hK.out _ _ ⟨c0,c1,c2⟩ (fun hHeld=>?_)
    clear hK K
    try simp only [Ep]
    refine (tq 9 60 rfl rfl ?_ ?_ ?_)
    (rotate_left;intro W' hSw;(try dsimp only at hSw);go_simp;try with_reducible rfl)
    try simp only [Ep]
    refine Rdy 10 rfl (fun K hK=>?_)
    go_simp
    obtain ⟨w8,p0,hb⟩:=nmw (World.setCell w7 ⟨w2.heap.size,2,none⟩ (.slice pA (k+1) tA))
    have a0:=(b0.keep (C1 (w2.heap.size) 2 (.slice pA (k+1) tA)) (fun q hq (h:q=(w2.heap.size))=>by omega)).below hb
    replace hC:=((hC.sN _ _ _)).trans (Chg.of_below hb)
    replace hR:=(hR.kC _ _ _).below hb
    have o2:=hb.size
    simp only [Ss] at o2
    replace df:=Kf hb (Lc (Tc _ (w2.heap.size) 2 (.slice pA (k+1) tA) d2)) (Fs df _)
    replace m0:=Kf hb (Lc (Nn s0 _)) (Fs m0 _)
    replace n0:=Kf hb (Lc (Nn s1 _)) (Fs n0 _)
    replace o0:=Kf hb (Lc (Nn s2 _)) (Fs o0 _)
    replace d0:=Kc hb (Nn d0 _)
    replace d1:=Kc hb (Nn d1 _)
    replace d2:w8.cell? ⟨w2.heap.size,2,none⟩=some (.slice pA (k+1) tA):=Kc hb (Tc _ (w2.heap.size) 2 (.slice pA (k+1) tA) d2)
    replace c0:=Kc hb (Nn c0 _)
    replace c1:=Kc hb (Nn c1 _)
    replace c2:=Kc hb (Nn c2 _)
    replace s0:=Kc hb (Nn s0 _)
    replace s1:=Kc hb (Nn s1 _)
    replace s2:=Kc hb (Nn s2 _)
    replace u0:=Ob (Oe u0 _ _ (fun h=>by have:=n1 _ h;omega) _) hb
    replace a1:=Bk.below (Bk.nn a1 _) hb
    clear hb
    clear b0;have b0:=a0;clear a0
    rw [← p0]
    clear p0
    refine hK.out _ _ ⟨c0,c1,c2⟩ (fun hHeld=>?_)
    clear hK K
    try simp only [Ep]
    refine Dn ?_
    clear hHeld
    have e2:(l++[e]).length=k+1:=by rw [List.length_append,u1.out];rfl
    have k3:=Lib.hid e2;clear e2
    have e1:(k+1)*dcost d=k*dcost d+dcost d:=Nat.succ_mul _ _
    have l3:=Lib.hid e1;clear e1
    have j3:=Lib.hid b0;clear b0
    have HH:=Lib.hid (And.intro hR hC);clear hR hC
    go_wp2
    go_roundw
    case rel=>exact ⟨k+1,rs++[n],l++[e],pA,tA,p1,by omega,by congr 1;omega,k3.out,j3.out,d0,d1,d2,df,c0,c1,c2,s0,s1,s2,m0,n0,o0,HH.out.1,by have:=l3.out;omega,HH.out.2,by omega⟩
    case measure=>simp [intOf];omega
   have r6:k=ar:=by omega
   subst r6
   subst a4
   have u5:=Lib.hid (KidsAt.node b0 (by omega) kd 0)
   clear b0
   have l6:=Lc d0
   have m6:=Lc c0
   have n6:=Lc s0
   have tE:=Lib.hid (ExAt.keep (C1 (w.heap.size+1) 2 (.slice a l.length c)) (fun q (hq:w2.heap.size < q) _ (h:q=(w.heap.size+1))=>by omega) (fun _ h _=>h) (Nat.le_refl _) (ExAt.keep (C1 (w.heap.size+1) 1 (.int .i64 0)) (fun q (hq:w2.heap.size < q) _ (h:q=(w.heap.size+1))=>by omega) (fun _ h _=>h) (Nat.le_refl _) (ExAt.keep (C1 (w.heap.size+1) 0 (.int .i64 kd)) (fun q (hq:w2.heap.size < q) _ (h:q=(w.heap.size+1))=>by omega) (fun _ h _=>h) (Nat.le_refl _) u5.out.1)))
   have tC:=(((hC.sN (w.heap.size+1) (0) (.int .i64 kd)).sN (w.heap.size+1) (1) (.int .i64 0)).sN (w.heap.size+1) (2) (.slice a l.length c));have tR:=(((hR.kC (w.heap.size+1) (0) (.int .i64 kd)).kC (w.heap.size+1) (1) (.int .i64 0)).kC (w.heap.size+1) (2) (.slice a l.length c))
   have o5:=(Nn (b:=(w.heap.size+1)) (j:=2) (Nn (b:=(w.heap.size+1)) (j:=1) (Tc _ (w.heap.size+1) 0 (.int .i64 kd) s0) (.int .i64 0)) (.slice a l.length c))
   have p5:=(Nn (b:=(w.heap.size+1)) (j:=2) (Tc _ (w.heap.size+1) 1 (.int .i64 0) (Nn (b:=(w.heap.size+1)) (j:=0) s1 (.int .i64 kd))) (.slice a l.length c))
   have q5:=(Tc _ (w.heap.size+1) 2 (.slice a l.length c) (Nn (b:=(w.heap.size+1)) (j:=1) (Nn (b:=(w.heap.size+1)) (j:=0) s2 (.int .i64 kd)) (.int .i64 0)))
   have tt:=True.intro
   go_wp2
   exact bodyPost_ret (v:=.agg #[.int .i64 kd,.int .i64 0,.slice a l.length c]) (by simp [results,Try.results172,go_sem,o5,p5,q5]) rfl (by exact ⟨⟨kd,0,a,l.length,c⟩,.mk kd 0 l,_,rfl,ExAt.keep (S:=fun _=>False) (Chg.refl _ _) (fun _ _ _=>id) (fun q (hq:w2.heap.size < q) _=>by show w.heap.size≤q;omega) (by omega) tE.out,Thin.mono (by omega) u5.out.2,tR,by have:=f2.out;have:l.length*dcost d≤3*dcost d:=Nat.mul_le_mul_right _ (by omega);omega,tC⟩)
end Go.Proofs.Ytkjedgnepnbkpaa
