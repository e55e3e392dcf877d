/-
 Parts of the proofs of the laws FnCompactRegs,FnFenceCode,FnRunTimeSteps.
-/
import Derived.Test.YtkjedgnepnbkpaaGreatL
set_option linter.all false
namespace Go.Proofs.YtkjedgnepnbkpaaGreat
open Go.RowKit
theorem l10Touches_any (kd va:Int) (w:World) :
  Calls Tryz.prog 103 #[.agg #[.int .i64 kd,.int .i64 va]] w fun e w'=>e=.returned (.bool (touches (kd,va)))∧Below w.heap.size w w':=by
 have hx:((kd == 2)=true∧true=touches (kd,va))∨((kd == 2)=false∧(kd == 3)=touches (kd,va)):=by
  unfold touches
  by_cases h:kd=2
  ·left;subst h;exact ⟨rfl,(decide_eq_true (Or.inl rfl)).symm⟩
  right
  refine ⟨by simpa using h,?_⟩
  rw [Bool.eq_iff_iff,beq_iff_eq,decide_eq_true_iff]
  simp [h]
 have hb:=bal (Bs w) (.cells #[.int .i64 kd,.int .i64 va] 38)
 rcases hx with ⟨h1,h2⟩ | ⟨h1,h2⟩
 all_goals
  have H2:=Lib.hid h2
  clear h2
  go_enter Tryz.func103,Tryz.ntmps103
  go_wp2
  go_ret
  exact ⟨ret_bool H2.out,hb⟩
theorem sCacheRun_bad (v tv:Value) (xs:List Int) (w:World) (hr:Reads w 1 v xs.length (ints xs)) (hok:¬cacheOk xs=true) :
  Calls Tryz.prog 68 #[.agg #[v],tv] w fun e w'=>∃ b,e=.returned (.tuple #[.agg #[.slice none 0 0],b,.bool false])∧w'.ownsRow w.heap.size 4 1 b 0 []∧Below w.heap.size w w':=by
 have hv:=sCacheValid_any v xs
 have hf:cacheOk xs=false:=by simpa using hok
 rw [hf] at hv
 have HV:=Lib.hid hv;clear hv hok hf
 obtain ⟨va,vc,rfl⟩:=reads_shape hr
 have b0:=bal (bal (Bs w) (.cells #[.slice va xs.length vc] 56)) (.cells #[.slice none 0 0] 56)
 go_enter Tryz.func68,Tryz.ntmps68
 go_wp2_with fail
 refine (HV.out _ (hr.below b0)).mono ?_
 rintro e w1 ⟨rfl,a0⟩
 have e0:=btr b0 a0
 have d0:w1.cell? ⟨w.heap.size+1,0,none⟩=some (.slice none 0 0):=Kc a0 (by simp [go_sem])
 have f0:w1.frozen? ⟨w.heap.size+1,0,none⟩=false:=Kf a0 (by simp) (by simp [go_sem])
 have g0:=Lc d0
 have h0:=e0.size
 clear b0 a0 hr
 go_wp2
 have c0:=Kc (bal (Bs (w1.setCell ⟨w.heap.size+1,0,none⟩ (.slice none 0 0))) (.cells #[] 4)) (Tc w1 (w.heap.size+1) 0 (.slice none 0 0) d0)
 have ho:=own_nil_made (w1.setCell ⟨w.heap.size+1,0,none⟩ (.slice none 0 0)) 4
 simp only [Ss] at ho
 refine bodyPost_ret (v:=.tuple #[.agg #[.slice none 0 0],.slice (some ⟨w1.heap.size,0,none⟩) 0 0,.bool false]) (by simp [results,Tryz.results68,go_sem,c0]) rfl ⟨_,rfl,Om ho (by omega),bal (bst e0 _ _ (by omega) _) _⟩
theorem l10Limit_q (w:World) (n:Nat):Calls Tryz.prog 104 #[] (w.drewN n) fun e w''=>e=.returned (.int .i64 8)∧∃ m,w''=w.drewN m:=
 Calls.quiet_of_same ((l10Limit_any _).mono fun _ _ ⟨h1,h2⟩=>⟨h1,h2.symm⟩)
theorem l10Access_v (g c:Nat) (ys:List Int) (a:Int) (w:World) (base:Nat) (ho:w.ownsRow base 3 1 (.slice (some ⟨g,0,none⟩) ys.length c) ys.length (ints ys)) (hok:cacheOk ys=true) (ha:isAddr a=true) :
  Calls Tryz.prog 105 #[.agg #[.slice (some ⟨g,0,none⟩) ys.length c],.int .i64 a] w fun e w'=>e=.returned (.bool (accH ys a)) ∧
   w'.ownsRow base 3 1 (.slice (some ⟨g,0,none⟩) (accL ys a).length c) (accL ys a).length (ints (accL ys a))∧Chg (fun k=>k=g) w w':=by
 have h:=of_decide_eq_true ha
 obtain ⟨x,y,rfl⟩:=cacheOk_two hok
 have hA:=accOk_of hok h.1 h.2
 have e1:accL [x,y] a=[x,y].set ((a / 2) % 2).toNat (a / 2):=by unfold accL;rw [if_pos hA]
 have e2:accH [x,y] a=([x,y].getD ((a / 2) % 2).toNat 0 == a / 2):=by unfold accH;rw [hA,Bool.true_and]
 rw [e1,e2,List.length_set]
 exact l10Access_any g c x y a w base ho h.1 h.2
set_option maxHeartbeats 1600000 in
set_option maxRecDepth 100000 in
theorem sCacheRun_ok (v tv:Value) (xs:List Int) (l:List Ev) (w:World) (hr:Reads w 1 v xs.length (ints xs)) (ht:Reads w 2 tv l.length (evs l)) (hok:cacheOk xs=true) (hlen:l.length≤1073741824) :
  Calls Tryz.prog 68 #[.agg #[v],tv] w fun e w'=>∃ u b,e=.returned (.tuple #[.agg #[u],b,.bool (crunR xs l).2.2]) ∧
   w'.ownsRow w.heap.size 3 1 u (crunR xs l).1.length (ints (crunR xs l).1)∧w'.ownsRow w.heap.size 4 1 b (crunR xs l).2.1.length (bools (crunR xs l).2.1)∧Below w.heap.size w w':=by
 have hv:=sCacheValid_any v xs
 rw [hok] at hv
 have HV:=Lib.hid hv;clear hv
 have h3:xs.length≤2:=by rw [cacheOk_len hok];omega
 have d1:=Lib.hid hok;clear hok
 obtain ⟨va,vc,rfl⟩:=reads_shape hr
 obtain ⟨_,hn,a,z2,tb,w0,rfl,p2,ha,i0⟩:=ht
 have HC:=Lib.hid (reads_ev i0)
 clear i0
 have i1:=bal (bal (Bs w) (.cells #[.slice va xs.length vc] 56)) (.cells #[.slice none 0 0] 56)
 go_enter Tryz.func68,Tryz.ntmps68
 go_wp2_with fail
 refine (HV.out _ (hr.below i1)).mono ?_
 rintro e w1 ⟨rfl,o0⟩
 have b1:=btr i1 o0
 have i2:w1.cell? ⟨w.heap.size,0,none⟩=some (.slice va xs.length vc):=Kc o0 (by simp [go_sem])
 have y0:w1.cell? ⟨w.heap.size+1,0,none⟩=some (.slice none 0 0):=Kc o0 (by simp [go_sem])
 have m1:w1.frozen? ⟨w.heap.size+1,0,none⟩=false:=Kf o0 (by simp) (by simp [go_sem])
 have x1:=hr.below b1
 clear i1 o0 hr HV
 go_wp2_with fail
 refine (l10Copy_any _ xs _ x1 (by omega)).mono ?_
 rintro e w2 ⟨u,rfl,o2,p0⟩
 have t1:=btr b1 p0
 have g1:=Kc p0 y0
 have n1:=Kf p0 (Lc y0) m1
 have c3:=b1.size
 have b3:=Lc y0
 have d3:=p0.size
 obtain ⟨g0,uc,rfl⟩:=own_pos o2 (by have:=cacheOk_len d1.out;omega)
 clear b1 p0 i2 y0 m1 x1
 go_wp2_with fail
 have r2:=o2.lt g0 rfl
 have u0:=bal (bal (Bs w2) (.cells #[.slice (some ⟨g0,0,none⟩) xs.length uc] 56)) (.cells #[] 4)
 have a2:=bal (Bs (w2.alloc (.cells #[.slice (some ⟨g0,0,none⟩) xs.length uc] 56))) (.cells #[] 4)
 have l1:=own_nil_made (w2.alloc (.cells #[.slice (some ⟨g0,0,none⟩) xs.length uc] 56)) 4
 simp only [Sa] at l1
 go_loopw [8,9] (fun hv i wr=>∃ (k:Nat) (ys:List Int) (c0:List Bool) (g c:Nat),k≤l.length∧i=.int .i64 k∧crun xs (l.take k)=some (ys,c0) ∧
   wr.cell? ⟨w2.heap.size,0,none⟩=some (.slice (some ⟨g,0,none⟩) ys.length c)∧¬g=w2.heap.size∧g < w2.heap.size ∧
   wr.ownsRow (w.heap.size+2) 3 1 (.slice (some ⟨g,0,none⟩) ys.length c) ys.length (ints ys)∧wr.ownsRow (w2.heap.size+1) 4 1 hv c0.length (bools c0) ∧
   wr.cell? ⟨w.heap.size+1,0,none⟩=some (.slice none 0 0)∧wr.frozen? ⟨w.heap.size+1,0,none⟩=false∧Below w.heap.size w wr) (fun _ i _=>l.length-(intOf i).toNat)
 case atStart =>
  exact ⟨0,xs,[],g0,uc,Nat.zero_le _,rfl,rfl,Kc a2 (cell_new1 _ _ _),by omega,by omega,Om (Ob o2 u0) (by omega),l1,Kc u0 g1,Kf u0 (Lc g1) n1,btr t1 u0⟩
 case round =>
  obtain ⟨k,ys,c0,g,c,hk,rfl,l0,j1,s1,hg7',oy,oh,z0,r1,e0⟩:=hrel
  clear o2 t1 g1 n1 r2 u0 a2 l1
  by_cases hlt:k < l.length
  ·obtain ⟨rfl,y1⟩:=ha (by omega)
   obtain ⟨c1,c2⟩:=HC.out k hlt
   have c1:=(e0.cell (p:=⟨tb,w0+k*2,none⟩) y1).trans c1
   have c2:=(e0.cell (p:=⟨tb,w0+k*2+1,none⟩) y1).trans c2
   have t0:=crun_take xs l k hlt
   rw [l0] at t0
   simp only [Option.bind_some] at t0
   generalize l[k]=ev at c1 c2 t0
   obtain ⟨kd,va⟩:=ev
   have HT:=Lib.hid t0
   have HS:=Lib.hid l0
   clear t0 l0 HC ha
   simp only at c1 c2
   go_wp2_with fail
   refine (l10Touches_any kd va _).mono ?_
   rintro e wt ⟨rfl,f0⟩
   have hb7l:=Lc j1
   have k1:=Lc z0
   have c1:=Kc f0 c1
   have c2:=Kc f0 c2
   have s0:=oh.lt
   have hb7t:=Kc f0 j1
   have m0:=Ob oy f0
   have v0:=Ob oh f0
   have b0:=Kc f0 z0
   have d0:=Kf f0 k1 r1
   have a0:=btr e0 f0
   have k0:=f0.size
   clear f0 oy oh z0 r1 e0 j1
   by_cases ht:touches (kd,va)=true
   ·have x0:=Lib.hid ht
    rw [ht]
    clear ht
    by_cases hadr:isAddr va=true
    ·have n0:=of_decide_eq_true hadr
     obtain ⟨f3,g3⟩:=n0
     have HA:=Lib.hid hadr
     clear hadr
     have z1:=crun_inv xs d1.out _ _ _ HS.out
     have HY:=Lib.hid z1
     clear z1
     have q1:decide (va < 0)=false:=by simp;omega
     have q2:decide (8≤va)=false:=by simp;omega
     go_wp2_with fail
     go_quiet ((go_at_call 104;exact l10Limit_q _ _))
     go_wp2_with fail
     have hq:=below_drewN' wt nq
     replace c1:=Kc hq c1
     replace c2:=Kc hq c2
     replace hb7t:=Kc hq hb7t
     replace m0:=Ob m0 hq
     replace v0:=Ob v0 hq
     replace d0:=Kf hq (Lc b0) d0
     replace b0:=Kc hq b0
     replace a0:=btr a0 hq
     replace k0:=Nat.le_trans k0 hq.size
     clear hq
     generalize wt.drewN nq=wz at *
     have a1:=Below.drew (Bs wz)
     have b2:=Ob m0 a1
     have v2:=Ob v0 a1
     have o1:=l10Access_v g c ys va wz.drew _ b2 HY.out.1 HA.out
     have d2:=Lib.hid o1
     have s2:c0.length+1≤4294967296:=by have:=HY.out.2;simp at this;omega
     clear o1 b2
     have u1:=Lc hb7t
     have v1:=Lc b0
     have a3:=m0.lt g rfl
     have n7:¬(w2.heap.size=g∨u8.ownBlock=some w2.heap.size):=fun h=>by
      rcases h with h | h
      ·omega
      have:=s0 _ h;omega
     have nr:¬(w.heap.size+1=g∨u8.ownBlock=some (w.heap.size+1)):=fun h=>by
      rcases h with h | h
      ·omega
      have:=s0 _ h;omega
     have nb:∀ q,q < w.heap.size→¬(q=g∨u8.ownBlock=some q):=fun q hq h=>by
      rcases h with h | h
      ·omega
      have:=s0 _ h;omega
     have ng:∀ q,u8.ownBlock=some q→¬q=g:=fun q h=>by have:=s0 _ h;omega
     have t2:∀ q,Value.ownBlock (.slice (some ⟨g,0,none⟩) (accL ys va).length c)=some q→¬u8.ownBlock=some q:=fun q h1 h2=>by
      have:=s0 _ h2
      simp [Value.ownBlock] at h1
      omega
     have f2:Hid (ys.length=(accL ys va).length):=Lib.hid (by rw [accL_len2 HY.out.1 HA.out,cacheOk_len HY.out.1])
     have l2:=Nat.le_trans (Nat.succ_le_of_lt u1) a1.size
     go_region_law (first | (refine step_aps tBools rfl (.tmp 47) (.tmp 55) rfl (w2.heap.size+1) u8 c0.length (bools c0) (by simp [Act.eval]) (Ob (Ow v2 i0 ng) (bal (Bs wa) _)) (.slice (some ⟨wa.heap.size,0,none⟩) 1 1) 1 [.bool (accH ys va)] (by simp [Act.eval]) (reads_new wa [.bool (accH ys va)] 4 1 rfl) (one_bool1 _) s2 (Nat.le_trans l2 (Nat.le_trans i0.size (bal (Bs wa) _).size)) ?_;intro v' w' ho' hc' hn' _;have r0:=(Chg.of_below (S:=fun q=>q=g∨u8.ownBlock=some q) a1).trans ((i0.mono (fun q _ h=>Or.inl h)).trans ((Chg.of_below (bal (Bs wa) _)).trans (hc'.mono (fun q _ h=>Or.inr h))));have b7w:=(r0.cell 0 u1 n7).trans hb7t;have g2:=(r0.cell 0 v1 nr).trans b0;have j2:=(r0.frozen 0 v1 nr).trans d0;have x2:=Ow (Ob oa (bal (Bs wa) _)) hc' t2;have m2:=a0.trans (r0.below w.heap.size a0.size nb);clear r0 hc' hn' i0 oa) | (go_simp;go_at_call 105;refine d2.out.mono ?_;rintro e wa ⟨rfl,oa,i0⟩))
     all_goals (go_wp2_with fail)
     all_goals
      go_roundw
      case rel=>exact ⟨k+1,accL ys va,c0++[accH ys va],g,c,by omega,by go_num,by rw [HT.out];unfold cstep;rw [if_pos x0.out,if_pos HA.out],by rw [← f2.out];exact b7w,s1,hg7',x2,by rw [bools_append,List.length_append];exact ho',g2,j2,m2⟩
      case measure=>simp [intOf];omega
    have h0:crun xs l=none:=by
     refine crun_none xs l (k+1) ?_
     rw [HT.out];unfold cstep;rw [if_pos x0.out,if_neg hadr]
    have f1:=Lib.hid (crunR_none h0)
    have hv:decide (va < 0)=true∨(decide (va < 0)=false∧decide (8≤va)=true):=by
     unfold isAddr at hadr
     simp at hadr ⊢
     omega
    clear hadr h0
    have e3:=a0.size
    have q0:=Lc b0
    rcases hv with q1 | ⟨q1,q2⟩
    all_goals
     go_wp2_with fail
     go_quiet ((go_at_call 104;exact l10Limit_q _ _))
     have hq:=below_drewN' wt nq
     replace d0:=Kf hq (Lc b0) d0
     replace b0:=Kc hq b0
     replace a0:=btr a0 hq
     clear hq q0 m0 v0 hb7t c1 c2 k0
     generalize wt.drewN nq=wz at *
     have p1:=Lc b0
     have j0:=Kc (bal (Bs (wz.setCell ⟨w.heap.size+1,0,none⟩ (.slice none 0 0))) (.cells #[] 4)) (Tc wz (w.heap.size+1) 0 (.slice none 0 0) b0)
     have ho:=own_nil_made (wz.setCell ⟨w.heap.size+1,0,none⟩ (.slice none 0 0)) 4
     simp only [Ss] at ho
     go_wp2_with fail
     refine bodyPost_ret (v:=.tuple #[.agg #[.slice none 0 0],.slice (some ⟨wz.heap.size,0,none⟩) 0 0,.bool false]) (by simp [results,Tryz.results68,go_sem,j0]) rfl ⟨_,_,by rw [f1.out],by rw [f1.out];exact World.ownsRow_nil _ _ _ _,by rw [f1.out];exact Om ho (by omega),bal (bst a0 _ _ (by omega) _) _⟩
   have hf:touches (kd,va)=false:=by simpa using ht
   rw [hf]
   have x0:=Lib.hid ht
   clear ht hf
   go_wp2_with fail
   go_roundw
   case rel=>exact ⟨k+1,ys,c0,g,c,by omega,by go_num,by rw [HT.out];unfold cstep;rw [if_neg x0.out],hb7t,s1,hg7',m0,v0,b0,d0,a0⟩
   case measure=>simp [intOf];omega
  have e:k=l.length:=by omega
  subst e
  rw [List.take_length] at l0
  have HS:=Lib.hid (crunR_ok d1.out l0)
  have j0:=Tc wr (w.heap.size+1) 0 (.slice (some ⟨g,0,none⟩) ys.length c) z0
  obtain ⟨k2,n2,rfl⟩:=Oh oh
  have y2:=Om (Oe oy (w.heap.size+1) 0 (fun h=>by have:=oy.lt _ h;omega) (.slice (some ⟨g,0,none⟩) ys.length c)) (base':=w.heap.size) (by omega)
  have u2:=Om (Oe oh (w.heap.size+1) 0 (fun h=>by have:=oh.lt _ h;omega) (.slice (some ⟨g,0,none⟩) ys.length c)) (base':=w.heap.size) (by omega)
  clear l0 HC ha
  go_wp2
  refine bodyPost_ret (v:=.tuple #[.agg #[.slice (some ⟨g,0,none⟩) ys.length c],.slice k2 c0.length n2,.bool true]) (by simp [results,Tryz.results68,go_sem,j0]) rfl ⟨_,_,by rw [HS.out],by rw [HS.out];exact y2,by rw [HS.out];exact u2,bst e0 _ _ (by omega) _⟩
end Go.Proofs.YtkjedgnepnbkpaaGreat
