/-
 Parts of the proofs of the laws FnCompactRegs,FnFenceCode,FnRunTimeSteps.
-/
import Derived.Test.YtkjedgnepnbkpaaGreatJ
set_option maxHeartbeats 12800000
set_option maxRecDepth 100000
set_option linter.all false
namespace Go.Proofs.YtkjedgnepnbkpaaGreat
open Go.RowKit
theorem l10Access_any (g c:Nat) (x y:Int) (a:Int) (w:World) (base:Nat) (ho:w.ownsRow base 3 1 (.slice (some ⟨g,0,none⟩) 2 c) 2 (ints [x,y])) (h0:0≤a) (h7:a≤7) :
  Calls Tryz.prog 105 #[.agg #[.slice (some ⟨g,0,none⟩) 2 c],.int .i64 a] w fun e w'=>e=.returned (.bool ([x,y].getD ((a / 2) % 2).toNat 0 == a / 2)) ∧
   w'.ownsRow base 3 1 (.slice (some ⟨g,0,none⟩) 2 c) 2 (ints ([x,y].set ((a / 2) % 2).toNat (a / 2)))∧Chg (fun k=>k=g) w w':=by
 have hg:=ho.lt g rfl
 have b0:=ho.cellAt 0 (by simp)
 have c0:=ho.cellAt 1 (by simp)
 have hf:=ho.frozenAt
 simp only [ints,List.map_cons,List.map_nil,List.getElem?_cons_zero,List.getElem?_cons_succ] at b0 c0
 obtain ⟨_,hg⟩:=hg
 have a0:a=0∨a=1∨a=2∨a=3∨a=4∨a=5∨a=6∨a=7:=by omega
 rcases a0 with rfl | rfl | rfl | rfl | rfl | rfl | rfl | rfl
 all_goals
  clear h0 h7
  go_enter Tryz.func105,Tryz.ntmps105
  go_wp2
  go_ret
  refine ⟨rfl,?_,?_⟩
  ·exact Ow (ho.stored _ _).1 (S:=fun _=>False) (Chg.of_below (bal (Bs _) _)) (fun _ _=>id)
  exact ((Chg.refl (fun k=>k=g) w).setCell g _ _ (fun _=>rfl)).trans (Chg.of_below (bal (Bs _) _))
theorem l10Limit_any (w:World):Calls Tryz.prog 104 #[] w fun e w'=>e=.returned (.int .i64 8)∧w=w':=by
 go_enter Tryz.func104,Tryz.ntmps104
 go_wp2
 go_ret
 exact ⟨rfl,rfl⟩
theorem one_bool1 (b:Bool):∀ u ∈ [Value.bool b],u.oneCell'=true:=by intro u hu;simp at hu;subst hu;rfl
theorem crunR_ok {xs:List Int} {l:List Ev} {y:List Int} {h:List Bool} (hok:cacheOk xs=true) (hr:crun xs l=some (y,h)):crunR xs l=(y,h,true):=by
 unfold crunR;rw [if_pos hok,hr]
theorem crunR_none {xs:List Int} {l:List Ev} (hr:crun xs l=none):crunR xs l=([],[],false):=by
 unfold crunR;split
 ·rw [hr]
 rfl
theorem crunR_bad {xs:List Int} {l:List Ev} (hok:¬cacheOk xs=true):crunR xs l=([],[],false):=by
 unfold crunR;rw [if_neg hok]
theorem iCacheRun_bad (v tv:Value) (xs:List Int) (w:World) (hr:Reads w 1 v xs.length (ints xs)) (hok:¬cacheOk xs=true) :
  Calls Tryz.prog 64 #[.agg #[v],tv] w fun e w'=>e=.returned (.tuple #[.agg #[.slice none 0 0],.slice none 0 0,.bool false])∧Below w.heap.size w w':=by
 have hv:=iCacheValid_any v xs
 have hf:cacheOk xs=false:=by simpa using hok
 rw [hf] at hv
 have HV:=Lib.hid hv;clear hv hok hf
 obtain ⟨va,vc,rfl⟩:=reads_shape hr
 have b0:=bal (bal (Bs w) (.cells #[.slice va xs.length vc] 56)) (.cells #[.slice none 0 0] 56)
 go_enter Tryz.func64,Tryz.ntmps64
 go_wp2_with fail
 refine (HV.out _ (hr.below b0)).mono ?_
 rintro e w1 ⟨rfl,a0⟩
 have d0:=btr b0 a0
 have c0:w1.cell? ⟨w.heap.size+1,0,none⟩=some (.slice none 0 0):=Kc a0 (by simp [go_sem])
 have e0:w1.frozen? ⟨w.heap.size+1,0,none⟩=false:=Kf a0 (by simp) (by simp [go_sem])
 clear b0 a0 hr
 go_wp2
 exact bodyPost_ret (v:=.tuple #[.agg #[.slice none 0 0],.slice none 0 0,.bool false]) (by simp [results,Tryz.results64,go_sem,c0]) rfl ⟨rfl,bst d0 _ _ (by omega) _⟩
theorem isAddress_yes (n:Int) (w:World) (h:isAddr n=true):Calls Tryz.prog 97 #[.int .i64 n] w fun e w'=>e=.returned (.bool true)∧w=w':=by
 obtain ⟨h0,h7⟩:=of_decide_eq_true h
 clear h
 go_enter Tryz.func97,Tryz.ntmps97
 go_wp2
 go_ret
 exact ⟨rfl,rfl⟩
theorem isAddress_no (n:Int) (w:World) (h:¬isAddr n=true):Calls Tryz.prog 97 #[.int .i64 n] w fun e w'=>e=.returned (.bool false)∧w=w':=by
 have h:n < 0∨(0≤n∧decide (n≤7)=false):=by
  unfold isAddr at h
  by_cases h0:n < 0
  ·exact Or.inl h0
  refine Or.inr ⟨by omega,?_⟩
  rw [decide_eq_false_iff_not]
  intro h7
  exact h (decide_eq_true ⟨by omega,h7⟩)
 rcases h with h | ⟨h,h'⟩
 all_goals
  go_enter Tryz.func97,Tryz.ntmps97
  go_wp2
  go_ret
  exact ⟨rfl,rfl⟩
theorem accL_len2 {xs:List Int} {a:Int} (h:cacheOk xs=true) (ha:isAddr a=true):(accL xs a).length=2:=by
 have hh:=of_decide_eq_true ha
 unfold accL;rw [if_pos (accOk_of h hh.1 hh.2)];simp [cacheOk_len h]
theorem iCacheRun_ok (v tv:Value) (xs:List Int) (l:List Ev) (w:World) (hr:Reads w 1 v xs.length (ints xs)) (ht:Reads w 2 tv l.length (evs l)) (hok:cacheOk xs=true) (hlen:l.length≤1073741824) :
  Calls Tryz.prog 64 #[.agg #[v],tv] w fun e w'=>∃ u b,e=.returned (.tuple #[.agg #[u],b,.bool (crunR xs l).2.2]) ∧
   w'.ownsRow w.heap.size 3 1 u (crunR xs l).1.length (ints (crunR xs l).1)∧w'.ownsRow w.heap.size 4 1 b (crunR xs l).2.1.length (bools (crunR xs l).2.1)∧Below w.heap.size w w':=by
 have hv:=iCacheValid_any v xs
 rw [hok] at hv
 have HV:=Lib.hid hv;clear hv
 have i3:xs.length≤2:=by rw [cacheOk_len hok];omega
 have e1:=Lib.hid hok;clear hok
 obtain ⟨va,vc,rfl⟩:=reads_shape hr
 obtain ⟨_,hn,a,a3,tb,y0,rfl,q2,ha,s1⟩:=ht
 have HC:=Lib.hid (reads_ev s1)
 clear s1
 have i1:=bal (bal (Bs w) (.cells #[.slice va xs.length vc] 56)) (.cells #[.slice none 0 0] 56)
 go_enter Tryz.func64,Tryz.ntmps64
 go_wp2_with fail
 refine (HV.out _ (hr.below i1)).mono ?_
 rintro e w1 ⟨rfl,s0⟩
 have d1:=btr i1 s0
 have j2:w1.cell? ⟨w.heap.size,0,none⟩=some (.slice va xs.length vc):=Kc s0 (by simp [go_sem])
 have z0:w1.cell? ⟨w.heap.size+1,0,none⟩=some (.slice none 0 0):=Kc s0 (by simp [go_sem])
 have p1:w1.frozen? ⟨w.heap.size+1,0,none⟩=false:=Kf s0 (by simp) (by simp [go_sem])
 have y1:=hr.below d1
 clear i1 s0 hr HV
 go_wp2_with fail
 refine (clone_any _ xs _ y1 (by omega)).mono ?_
 rintro e w2 ⟨u,rfl,o2,t0⟩
 have u1:=btr d1 t0
 have g1:=Kc t0 z0
 have q1:=Kf t0 (Lc z0) p1
 have d3:=d1.size
 have c3:=Lc z0
 have e3:=t0.size
 obtain ⟨ua,uc,rfl⟩:=Oh o2
 clear d1 t0 j2 z0 p1 y1
 go_wp2_with fail
 have k1:=own_pos o2 (by have:=cacheOk_len e1.out;omega)
 obtain ⟨g0,b3,t1⟩:=k1
 simp only [Value.slice.injEq,true_and] at t1
 obtain ⟨rfl,rfl⟩:=t1
 have k1:=o2.lt g0 rfl
 go_loopw [8,23] (fun hv i wr=>∃ (k:Nat) (ys:List Int) (a0:List Bool) (g c:Nat),k≤l.length∧i=.int .i64 k∧crun xs (l.take k)=some (ys,a0) ∧
   wr.cell? ⟨w2.heap.size,0,none⟩=some (.slice (some ⟨g,0,none⟩) ys.length c)∧wr.frozen? ⟨w2.heap.size,0,none⟩=false∧¬g=w2.heap.size ∧
   wr.ownsRow (w.heap.size+2) 3 1 (.slice (some ⟨g,0,none⟩) ys.length c) ys.length (ints ys)∧wr.ownsRow (w2.heap.size+1) 4 1 hv a0.length (bools a0) ∧
   wr.cell? ⟨w.heap.size+1,0,none⟩=some (.slice none 0 0)∧wr.frozen? ⟨w.heap.size+1,0,none⟩=false∧Below w.heap.size w wr) (fun _ i _=>l.length-(intOf i).toNat)
 case atStart =>
  refine ⟨0,xs,[],g0,uc,Nat.zero_le _,rfl,rfl,cell_new1 _ _ _,froz_new _ _ _ _,by omega,Om (o2.alloc _) (by omega),World.ownsRow_nil _ _ _ _,Kc (bal (Bs w2) _) g1,Kf (bal (Bs w2) _) (Lc g1) q1,bal u1 _⟩
 case round =>
  obtain ⟨k,ys,a0,g,c,hk,rfl,p0,o0,b1,t2,oy,oh,d0,v0,b0⟩:=hrel
  clear o2 u1 g1 q1 k1
  by_cases hlt:k < l.length
  ·obtain ⟨rfl,z1⟩:=ha (by omega)
   obtain ⟨c1,c2⟩:=HC.out k hlt
   have c1:=(b0.cell (p:=⟨tb,y0+k*2,none⟩) z1).trans c1
   have c2:=(b0.cell (p:=⟨tb,y0+k*2+1,none⟩) z1).trans c2
   have x0:=crun_take xs l k hlt
   rw [p0] at x0
   simp only [Option.bind_some] at x0
   generalize l[k]=ev at c1 c2 x0
   obtain ⟨kd,va⟩:=ev
   have HT:=Lib.hid x0
   have HS:=Lib.hid p0
   clear x0 p0 HC ha
   simp only at c1 c2
   by_cases ht:touches (kd,va)=true
   ·have c0:(kd != 2)=false∨((kd != 2)=true∧(kd != 3)=false):=by
     have h:=of_decide_eq_true ht
     simp only at h
     rcases h with rfl | rfl
     ·exact Or.inl rfl
     exact Or.inr ⟨rfl,rfl⟩
    have q0:=Lib.hid ht
    clear ht
    by_cases hadr:isAddr va=true
    ·have r0:=of_decide_eq_true hadr
     obtain ⟨f3,g3⟩:=r0
     have HA:=Lib.hid hadr
     clear hadr
     have a2:=crun_inv xs e1.out _ _ _ HS.out
     have HY:=Lib.hid a2
     clear a2
     have hz:=bal (Bs wr) (.cells #[.int .i64 kd,.int .i64 va] 38)
     rcases c0 with c0 | ⟨c0,hk33⟩
     all_goals
      have u2:=oh.lt
      have hb7z:=Kc hz o0
      have hb7l:=Lc o0
      have e2:=Ob oy hz
      have d2:=Ob oh hz
      have hf7z:=Kf hz hb7l b1
      have e0:=Kc hz d0
      have j0:=Lc d0
      have l0:=Kf hz j0 v0
      have r1:=btr b0 hz
      clear oy oh b1 v0 b0
      go_wp2_with fail
      refine (isAddress_yes va _ HA.out).mono ?_
      rintro e wq ⟨rfl,rfl⟩
      go_wp2_with fail
      refine (iAccess_any _ ys va _ (Ro e2 (by have:=cacheOk_len HY.out.1;omega))).mono ?_
      rintro e w3 ⟨u,rfl,ou,i0⟩
      obtain ⟨g2,h0,rfl⟩:=own_pos ou (by rw [accL_len2 HY.out.1 HA.out];omega)
      have s2:=ou.lt g2 rfl
      simp only [Sa] at s2
      replace ou:=Om ou (base':=w.heap.size+2) (by simp;omega)
      have b7:=Kc i0 hb7z
      have b7f:=Kf i0 (Lc hb7z) hf7z
      have br:=Kc i0 e0
      have f2:=Kf i0 (Lc e0) l0
      have j1:=btr r1 i0
      have n0:=Ob d2 i0
      have v1:=Lc b7
      have x1:=Lc br
      have w0:¬g2=w2.heap.size:=by omega
      clear e2 d2 hf7z e0 l0 r1 i0 hb7z hz d0 o0
      go_wp2_with fail
      have a1:=Below.drew (bal (bal (Bs w3) (.cells #[.slice (some ⟨g2,0,none⟩) (accL ys va).length h0] 56)) (.cells #[.bool (accH ys va)] 4))
      have b2:=Ob n0 a1
      have u0:=Below.drew (bal (Bs (w3.alloc (.cells #[.slice (some ⟨g2,0,none⟩) (accL ys va).length h0] 56))) (.cells #[.bool (accH ys va)] 4))
      have l2:=cell_new1 w3 (.slice (some ⟨g2,0,none⟩) (accL ys va).length h0) 56
      have m1:¬u8.ownBlock=some w3.heap.size:=fun h=>by have:=n0.lt _ h;omega
      have l1:w3.heap.size < (w3.alloc (.cells #[.slice (some ⟨g2,0,none⟩) (accL ys va).length h0] 56)).heap.size:=by simp
      have n1:=(reads_new (w3.alloc (.cells #[.slice (some ⟨g2,0,none⟩) (accL ys va).length h0] 56)) [.bool (accH ys va)] 4 1 rfl).below (Below.drew (Bs _))
      rw [Sa] at n1
      have v2:a0.length+1≤4294967296:=by have:=HY.out.2;simp at this;omega
      have r2:∀ q,Value.ownBlock (.slice (some ⟨g2,0,none⟩) (accL ys va).length h0)=some q→¬u8.ownBlock=some q:=fun q h1 h2=>by
       have:=u2 q h2
       simp [Value.ownBlock] at h1
       omega
      have o1:w2.heap.size+1≤w3.heap.size:=by omega
      go_region_law (refine step_aps tBools rfl (.tmp 48) (.tmp 50) rfl (w2.heap.size+1) u8 a0.length (bools a0) (by simp [Act.eval]) b2 (.slice (some ⟨w3.heap.size+1,0,none⟩) 1 1) 1 [.bool (accH ys va)] (by simp [Act.eval]) n1 (one_bool1 _) v2 (Nat.le_trans o1 a1.size) ?_;intro v' w' ho' hc' hn' _;have k0:=(Chg.of_below (S:=fun k=>u8.ownBlock=some k) a1).trans hc';have b7w:=(k0.cell 0 v1 (not_own n0 (by omega))).trans b7;have f7w:=(k0.frozen 0 v1 (not_own n0 (by omega))).trans b7f;have i2:=(k0.cell 0 x1 (not_own n0 (by omega))).trans br;have k2:=(k0.frozen 0 x1 (not_own n0 (by omega))).trans f2;have y2:=Ow ou k0 (fun q h1 h2=>r2 q h1 h2);have n2:=j1.trans (k0.below w.heap.size (by omega) (fun q hq=>not_own n0 (by omega)));have b11w:=(((Chg.of_below (S:=fun k=>u8.ownBlock=some k) u0).trans hc').cell 0 l1 m1).trans l2;clear k0 hc' hn' b2 n1 a1 u0)
      all_goals (go_wp2_with fail)
      all_goals
       go_roundw
       case rel =>
        refine ⟨k+1,accL ys va,a0++[accH ys va],g2,h0,by omega,by go_num,by rw [HT.out];unfold cstep;rw [if_pos q0.out,if_pos HA.out],Tc _ _ _ _ b7w,(froz_set ..).trans f7w,w0,?_,?_,(cell_far _ _ _ _ _ _ (by omega)).trans i2,(froz_set ..).trans k2,bst n2 _ _ (by omega) _⟩
        ·exact Oe y2 _ _ (fun h=>w0 (by simpa [Value.ownBlock] using h)) _
        rw [bools_append,List.length_append]
        exact Oe ho' _ _ (fun h=>by have:=ho'.lt _ h;omega) _
       case measure=>simp [intOf];omega
    have c0:(kd != 2)=false∨((kd != 2)=true∧(kd != 3)=false):=by
     have h:=of_decide_eq_true q0.out
     simp only at h
     rcases h with rfl | rfl
     ·exact Or.inl rfl
     exact Or.inr ⟨rfl,rfl⟩
    have f0:crun xs l=none:=by
     refine crun_none xs l (k+1) ?_
     rw [HT.out];unfold cstep;rw [if_pos q0.out,if_neg hadr]
    have f1:=Lib.hid (crunR_none f0)
    have HA:=Lib.hid hadr
    clear hadr f0
    have hz:=bal (Bs wr) (.cells #[.int .i64 kd,.int .i64 va] 38)
    have e0:=Kc hz d0
    have j0:=Lc d0
    have l0:=Kf hz j0 v0
    have m0:=Kc (bal (Bs (wr.setCell ⟨w.heap.size+1,0,none⟩ (.slice none 0 0))) (.cells #[.int .i64 kd,.int .i64 va] 38)) (Tc wr (w.heap.size+1) 0 (.slice none 0 0) d0)
    clear oy oh b1 v0 o0 d0 hz
    rcases c0 with c0 | ⟨c0,hk33⟩
    all_goals
     go_wp2_with fail
     refine (isAddress_no va _ HA.out).mono ?_
     rintro e wq ⟨rfl,rfl⟩
     go_wp2_with fail
     refine bodyPost_ret (v:=.tuple #[.agg #[.slice none 0 0],.slice none 0 0,.bool false]) (by simp [results,Tryz.results64,go_sem,m0]) rfl ⟨_,_,by rw [f1.out],by rw [f1.out];exact World.ownsRow_nil _ _ _ _,by rw [f1.out];exact World.ownsRow_nil _ _ _ _,bal (bst b0 _ _ (by omega) _) _⟩
   have h2:(kd != 2)=true:=by unfold touches at ht;simp at ht ⊢;exact ht.1
   have h3:(kd != 3)=true:=by unfold touches at ht;simp at ht ⊢;exact ht.2
   have q0:=Lib.hid ht
   clear ht
   go_wp2_with fail
   go_roundw
   case rel =>
    have hz:=bal (Bs wr) (.cells #[.int .i64 kd,.int .i64 va] 38)
    exact ⟨k+1,ys,a0,g,c,by omega,by go_num,by rw [HT.out];unfold cstep;rw [if_neg q0.out],Kc hz o0,Kf hz (Lc o0) b1,t2,Ob oy hz,Ob oh hz,Kc hz d0,Kf hz (Lc d0) v0,bal b0 _⟩
   case measure=>simp [intOf];omega
  have e:k=l.length:=by omega
  subst e
  rw [List.take_length] at p0
  have HS:=Lib.hid (crunR_ok e1.out p0)
  have m0:=Tc wr (w.heap.size+1) 0 (.slice (some ⟨g,0,none⟩) ys.length c) d0
  obtain ⟨m2,p2,rfl⟩:=Oh oh
  have z2:=Om (Oe oy (w.heap.size+1) 0 (fun h=>by have:=oy.lt _ h;omega) (.slice (some ⟨g,0,none⟩) ys.length c)) (base':=w.heap.size) (by omega)
  have x2:=Om (Oe oh (w.heap.size+1) 0 (fun h=>by have:=oh.lt _ h;omega) (.slice (some ⟨g,0,none⟩) ys.length c)) (base':=w.heap.size) (by omega)
  clear p0 HC ha
  go_wp2
  refine bodyPost_ret (v:=.tuple #[.agg #[.slice (some ⟨g,0,none⟩) ys.length c],.slice m2 a0.length p2,.bool true]) (by simp [results,Tryz.results64,go_sem,m0]) rfl ⟨_,_,by rw [HS.out],by rw [HS.out];exact z2,by rw [HS.out];exact x2,bst b0 _ _ (by omega) _⟩
end Go.Proofs.YtkjedgnepnbkpaaGreat
