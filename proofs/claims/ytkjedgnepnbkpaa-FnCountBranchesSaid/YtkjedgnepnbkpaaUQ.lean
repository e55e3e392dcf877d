/-
 Parts of the proofs of the laws FnCodeFenced,FnCountBranches.
-/
import Derived.Test.YtkjedgnepnbkpaaNL
import Derived.Test.YtkjedgnepnbkpaaXH
import Derived.Test.YtkjedgnepnbkpaaZF
set_option linter.all false
namespace Go.Proofs.Ytkjedgnepnbkpaa
open Go.RowKit
theorem cnt_of {c:Cd} {m:Mm} {N:Int} (h:cntR c m=(N,true)):∃ (k J:Nat),finN c m=some k∧N=J∧J=brN c (k+1) (ini m):=by
 cases hf:finN c m with
 | none=>rw [cntR_no hf] at h;cases congrArg Prod.snd h
 | some k =>
  rw [cntR_yes hf] at h
  exact ⟨k,_,rfl,(congrArg Prod.fst h).symm,rfl⟩
set_option maxHeartbeats 12800000 in
set_option maxRecDepth 100000 in
theorem FnCountBranches_walk (v:Value) (n:Nat) (vs:List Int) (w:World) (r0:Reads w 1 v n (vs.map (Value.int .u8))) (hv:∀ x ∈ vs,0≤x∧x < 256) :
  Calls Try.prog 10 #[v] w fun e w'=>e=.returned (.bool true)∧Below w.heap.size w w':=by
 obtain ⟨va,vc,rfl⟩:=reads_shape r0
 by_cases hn:n≤1048576
 case neg =>
  have aJ:(1048576:Int) < (n:Int):=by omega
  clear r0
  go_enter Try.func10,Try.ntmps10
  go_wp2
  go_ret
  exact ⟨rfl,Below.refl _ _⟩
 have aJ:¬(1048576:Int) < (n:Int):=by omega
 go_enter Try.func10,Try.ntmps10
 go_wp2_with fail
 refine (DrawCountBranches_any _ n vs _ (r0.below (Bs w)) hv hn).mono ?_
 rintro e w1 ⟨cK,dK,eK,s4,t4,vJ,tJ,uJ,m,rfl,aH,pD,hm,hb⟩
 clear r0 hv
 obtain ⟨c,h8⟩:=RdC.of aH pD.1 pD.2.1 pD.2.2
 clear aH pD
 obtain ⟨a0,c0,a1,c1,a2,c2,rfl,rfl,rfl⟩:=h8.r.shape
 obtain ⟨a3,c3,a4,c4,rfl,rfl⟩:=hm.reads.shape
 have rJ:c.vars.length≤1000∧c.arrays.length≤1000∧c.list.length≤1000:=⟨h8.l0,h8.l1,h8.l2⟩
 have u0:m.vals.length≤1048576∧m.arrs.length≤1048576∧pre2 m.arrs m.arrs.length≤1048576:=by have h2:=hm.l0;have h3:=hm.l1;have h4:=hm.pre;omega
 have bJ:=hb.size
 have b0:=btr (Bs w) hb
 clear hb
 have n3:=Bs w1
 have HC:=Lib.hid (fun W (hW:Below w1.heap.size w1 W)=>h8.r.below hW)
 have HM:=Lib.hid (fun W (hW:Below w1.heap.size w1 W)=>hm.reads.below hW)
 clear h8 hm
 obtain ⟨N,ok,yG⟩:∃ N ok,cntR c m=(N,ok):=⟨_,_,rfl⟩
 have rD:=Lib.hid yG;clear yG
 go_wp2_with fail
 have y4:=iCount_any _ _ _ _ _ c m _ (HC.out _ (bal (bal n3 (.cells #[.slice a0 c.vars.length c0,.slice a1 c.arrays.length c1,.slice a2 c.list.length c2] 26)) (.cells #[.slice a3 m.vals.length c3,.slice a4 m.arrs.length c4] 37))) (HM.out _ (bal (bal n3 (.cells #[.slice a0 c.vars.length c0,.slice a1 c.arrays.length c1,.slice a2 c.list.length c2] 26)) (.cells #[.slice a3 m.vals.length c3,.slice a4 m.arrs.length c4] 37))) u0.1 u0.2.1 u0.2.2
 rw [rD.out] at y4;dsimp only at y4
 refine (y4).mono ?_
 rintro e w2 ⟨rfl,hb⟩
 clear y4
 replace n3:=btr (bal (bal n3 _) _) hb
 have zE:=hb.size
 simp only [Sa] at zE
 have h5:Bk w2 (w1.heap.size) [.slice a0 c.vars.length c0,.slice a1 c.arrays.length c1,.slice a2 c.list.length c2]:=Bk.below (Bk.al (Bk.nw (by simp) rfl) (.cells #[.slice a3 m.vals.length c3,.slice a4 m.arrs.length c4] 37)) hb
 have l5:Bk w2 (w1.heap.size+1) [.slice a3 m.vals.length c3,.slice a4 m.arrs.length c4]:=Bk.below (Bk.nw (by simp) rfl) hb
 replace b0:=btr (bal (bal b0 _) _) hb
 clear hb
 have uI:=Bk.lz h5
 have vI:=Bk.lz l5
 obtain ⟨mJ,nJ,tF,fG,uF,gG⟩:=Bk.f3 h5 0 1 2 rfl rfl rfl
 obtain ⟨vF,hG,wF,iG⟩:=Bk.f2 l5 0 1 rfl rfl
 go_wp2_with fail
 have y4:=sCount_any _ _ _ _ _ c m _ (HC.out _ n3) (HM.out _ n3) u0.1 u0.2.1 u0.2.2
 rw [rD.out] at y4;dsimp only at y4
 refine (y4).mono ?_
 rintro e w3 ⟨rfl,hb⟩
 clear y4
 replace n3:=btr n3 hb
 have eH:=hb.size
 clear nJ mJ fG tF gG uF hG vF iG wF
 replace h5:=Bk.below h5 hb
 replace l5:=Bk.below l5 hb
 replace b0:=btr b0 hb
 clear hb
 replace uI:=Bk.lz h5
 replace vI:=Bk.lz l5
 cases ok with
 | false =>
  have tt:=b0
  go_wp2
  go_ret
  exact ⟨rfl,tt⟩
 | true =>
  obtain ⟨kf,J,tD,yI,zG⟩:=cnt_of rD.out
  subst yI
  obtain ⟨E,hE⟩:∃ E,runE c m=E:=⟨_,rfl⟩
  obtain ⟨ws,qD⟩:∃ ws,ws=List.replicate J false++[true,true]:=⟨_,rfl⟩
  have dH:srE c m ws=E:=by rw [qD,zG,← hE];exact law_count tD
  have pH:J+2=ws.length:=by rw [qD];simp
  have oJ:E.length≤40002:=by rw [← hE];have:=runE_len c m;omega
  have cH:=(run_yes tD).2.2
  have wI:=Lib.hid hE;have r4:=Lib.hid qD;have p4:=Lib.hid dH;have p1:=Lib.hid pH;have j4:=Lib.hid cH;clear hE qD dH pH cH tD zG
  by_cases hN:(1000:Int) < (J:Int)
  ·skip
   have tt:=b0
   go_wp2
   go_ret
   exact ⟨rfl,tt⟩
  have qJ:¬(1000:Int) < (J:Int):=hN;have pJ:J≤1000:=by omega
  go_upto_region 8 with (fail)
  have zI:=mk_boolF J (by omega)
  go_upto_region 9 with (fail)
  obtain ⟨w4,f0⟩:∃ X,X=World.alloc w3 (.cells (madeCells #[.bool false] J) 4):=⟨_,rfl⟩
  rw [← f0]
  have om:=own_made w3 (.bool false) J 4 (by unfold maxLen;omega)
  rw [← bools_replicate,← f0] at om
  have hb:Below w3.heap.size w3 w4:=by rw [f0];exact bal (Bs _) _
  have sJ:w3.heap.size+1≤w4.heap.size:=by rw [f0];simp
  clear f0 zI
  replace n3:=btr n3 hb
  have fH:=hb.size
  replace h5:=Bk.below h5 hb
  replace l5:=Bk.below l5 hb
  replace b0:=btr b0 hb
  clear hb
  replace uI:=Bk.lz h5
  replace vI:=Bk.lz l5
  have g8:=Bs w4
  have xI:=Lib.hid (fun W (hW:Below w4.heap.size w4 W)=>(Ro om (by omega)).below hW)
  clear om
  go_cut [11,12] (fun a b wx=>∃ (pe:Option Addr) (qe:Nat),a=.slice pe E.length qe∧b=.bool true∧Reads wx 2 (.slice pe E.length qe) E.length (evs E)∧Bk wx (w1.heap.size) [.slice a0 c.vars.length c0,.slice a1 c.arrays.length c1,.slice a2 c.list.length c2]∧Bk wx (w1.heap.size+1) [.slice a3 m.vals.length c3,.slice a4 m.arrs.length c4]∧Below w.heap.size w wx∧Below w1.heap.size w1 wx)
  case first =>
   have l4:=Lib.hid (fun W (hW:Below w4.heap.size w4 W)=>(HC.out _ n3).below hW)
   have o4:=Lib.hid (fun W (hW:Below w4.heap.size w4 W)=>(HM.out _ n3).below hW)
   have p5:=Lib.hid (fun W (hW:Below w4.heap.size w4 W)=>(xI.out _ g8).below hW)
   have m4:=Lib.hid (fun W (hW:Below w4.heap.size w4 W)=>h5.below hW)
   have n4:=Lib.hid (fun W (hW:Below w4.heap.size w4 W)=>l5.below hW)
   have q4:=Lib.hid (fun W (hW:Below w4.heap.size w4 W)=>And.intro (btr b0 hW) (btr n3 hW))
   have tG:=Bk.cell h5 0 (v:=.slice a0 c.vars.length c0) rfl
   have uG:=Bk.cell h5 1 (v:=.slice a1 c.arrays.length c1) rfl
   have vG:=Bk.cell h5 2 (v:=.slice a2 c.list.length c2) rfl
   have wG:=Bk.cell l5 0 (v:=.slice a3 m.vals.length c3) rfl
   have xG:=Bk.cell l5 1 (v:=.slice a4 m.arrs.length c4) rfl
   clear b0 n3 h5 l5 g8
   have j0:Hid (∀ W',Below w4.heap.size w4 W'→W'.cell? ⟨w1.heap.size,0,none⟩=some (.slice a0 c.vars.length c0)∧W'.cell? ⟨w1.heap.size,1,none⟩=some (.slice a1 c.arrays.length c1)∧W'.cell? ⟨w1.heap.size,2,none⟩=some (.slice a2 c.list.length c2)∧W'.cell? ⟨w1.heap.size+1,0,none⟩=some (.slice a3 m.vals.length c3)∧W'.cell? ⟨w1.heap.size+1,1,none⟩=some (.slice a4 m.arrs.length c4)):=Lib.hid (fun W' hW=>⟨Kc hW tG,Kc hW uG,Kc hW vG,Kc hW wG,Kc hW xG⟩)
   refine wp_region_noPanic ?_
   refine wp_region_held_drew (S:=(fun W'=>W'.cell? ⟨w1.heap.size,0,none⟩=some (.slice a0 c.vars.length c0)∧W'.cell? ⟨w1.heap.size,1,none⟩=some (.slice a1 c.arrays.length c1)∧W'.cell? ⟨w1.heap.size,2,none⟩=some (.slice a2 c.list.length c2)∧W'.cell? ⟨w1.heap.size+1,0,none⟩=some (.slice a3 m.vals.length c3)∧W'.cell? ⟨w1.heap.size+1,1,none⟩=some (.slice a4 m.arrs.length c4))) (by kernel_rfl) (j0.out _ (Below.drew (Bs w4))) (fun hHeld=>?_)
   obtain ⟨wd,hF⟩:∃ X,X=World.drew w4:=⟨_,rfl⟩
   rw [← hF] at hHeld ⊢
   have b0:Below w4.heap.size w4 wd:=by rw [hF];exact Below.drew (Bs _)
   have cJ:=b0.size
   clear hF
   refine (tq 0 63 rfl rfl ?_ ?_ (tq 1 64 rfl rfl ?_ ?_ (tq 3 66 rfl rfl ?_ ?_ ?_)))
   iterate 3 (rotate_left;intro W' hSw;(try dsimp only at hSw);go_simp;try with_reducible rfl)
   try simp only [Ep]
   refine Rdy3 2 5 12 rfl rfl rfl (fun K hK=>?_) (fun K hK=>?_) (fun K hK=>?_)
   ·go_simp
    obtain ⟨w5,f0,hb⟩:=nmw (World.alloc wd (.cells #[] 4))
    have f1:=Ob (World.ownsRow_lit (base:=(wd).heap.size) (e:=4) (size:=1) (wd) #[] 0 (Nat.le_refl _) (by unfold maxLen;omega) (by simp)) hb
    try simp only [Sa,Ss] at f1
    replace b0:=btr (bal b0 _) hb
    have j8:=hb.size
    simp only [Sa] at j8
    clear hb
    have b2:=f1.lt
    try simp only [Sa] at b2
    rw [← f0]
    clear f0
    refine hK.out _ _ (j0.out _ b0) (fun hHeld=>?_)
    clear hK K
    try simp only [Ep]
    refine Rdy3 4 5 12 rfl rfl rfl (fun K hK=>?_) (fun K hK=>?_) (fun K hK=>?_)
    ·refine step_aps tBools rfl _ _ rfl (wd.heap.size) _ 0 ([]) rfl f1 _ J (bools (List.replicate J false)) rfl ((p5.out _ b0)) (one_bools (List.replicate J false)) (by omega) (by first | omega | (simp only [Sa,Ss];omega)) ?_
     intro vA w6 o1 hc v0 _
     try simp only [Nat.zero_add,List.nil_append] at o1
     obtain ⟨jF,pF,rfl⟩:=Oh o1
     replace b0:=b0.trans (hc.below w4.heap.size (by have:=b0.size;omega) (fun gq hgq h=>by have:=b2 gq h;omega))
     have gH:=hc.size
     clear hc
     have dJ:=o1.lt
     have y0:∀ q,(Value.slice jF J pF).ownBlock=some q→(q=wd.heap.size∨w5.heap.size≤q)∧q < w6.heap.size:=fun q h=>⟨by rcases v0 with e1 | ⟨g1,e1,e2⟩;(rw [h] at e1;exact Or.inl (Option.some.inj e1));(rw [h] at e1;have:=Option.some.inj e1;exact Or.inr (by omega)),(o1.lt q h).2⟩
     clear v0 f1
     refine hK.out _ _ (j0.out _ b0) (fun hHeld=>?_)
     clear hK K
     try simp only [Ep]
     refine Rdy2 5 12 rfl rfl (fun K hK=>?_) (fun K hK=>?_)
     ·go_simp
      obtain ⟨w7,f0,hb⟩:=nmw (World.alloc w6 (.cells #[.bool true,.bool true] 4))
      have d1:=Ob (World.ownsRow_lit (base:=(w6).heap.size) (e:=4) (size:=1) (w6) #[.bool true,.bool true] 2 (Nat.le_refl _) (by unfold maxLen;omega) (by simp)) hb
      try simp only [Sa,Ss] at d1
      replace b0:=btr (bal b0 _) hb
      have k8:=hb.size
      simp only [Sa] at k8
      replace o1:=Ob (Ob o1 (bal (Bs _) _)) hb
      have w0:Bk w7 (w6.heap.size) [.bool true,.bool true]:=Bk.below (Bk.nw (by simp) rfl) hb
      clear hb
      have d8:=d1.lt
      try simp only [Sa] at d8
      rw [← f0]
      clear f0
      have v5:=Bk.lz w0
      refine hK.out _ _ (j0.out _ b0) (fun hHeld=>?_)
      clear hK K
      try simp only [Ep]
      refine Rdy2 6 12 rfl rfl (fun K hK=>?_) (fun K hK=>?_)
      ·refine step_aps tBools rfl _ _ rfl (wd.heap.size) _ J (bools (List.replicate J false)) rfl o1 _ 2 (bools [true,true]) rfl ((Ro d1 (by simp))) (one_bools [true,true]) (by omega) (by first | omega | (simp only [Sa,Ss];omega)) ?_
       intro vA w8 v2 hc v0 _
       obtain ⟨dA,zA,rfl⟩:=Oh v2
       replace b0:=b0.trans (hc.below w4.heap.size (by have:=b0.size;omega) (fun gq hgq h=>by have:=y0 gq h;omega))
       have hH:=hc.size
       replace d1:=Ow d1 hc (fun gq h h2=>by have:=d8 gq h;have:=y0 gq h2;omega)
       replace w0:=Bk.keep w0 hc (fun h=>by have:=y0 _ h;omega)
       clear hc
       have eJ:=v2.lt
       clear v0 o1
       replace v5:=Bk.lz w0
       refine hK.out _ _ (j0.out _ b0) (fun hHeld=>?_)
       clear hK K
       try simp only [Ep]
       refine Rdy2 7 12 rfl rfl (fun K hK=>?_) (fun K hK=>?_)
       ·go_simp
        have s0:=iSpecRun_any _ _ _ _ _ c m _ (l4.out _ b0) (o4.out _ b0) u0.1 u0.2.1 u0.2.2 dA zA ws (by have h9:=Ro v2 (by omega);rw [← p1.out,r4.out];simpa [bools] using h9)
        rw [p4.out,j4.out] at s0
        rw [p1.out]
        refine (s0).mono ?_
        rintro e w9 ⟨s4,t4,d5,e5,rfl,x0,h0,hb⟩
        clear s0
        obtain ⟨n0,p0,o0,q0,rfl,rfl⟩:=x0.shape
        clear x0
        obtain ⟨pT,qT,rfl⟩:=Oh h0
        replace b0:=btr b0 hb
        have iH:=hb.size
        replace d1:=Ob d1 hb
        replace v2:=Ob v2 hb
        replace w0:=Bk.below w0 hb
        clear hb
        have x8:=h0.lt
        clear d1 v2
        replace v5:=Bk.lz w0
        refine hK.out _ _ (j0.out _ b0) (fun hHeld=>?_)
        clear hK K
        try simp only [Ep]
        refine (tq 8 62 rfl rfl ?_ ?_ (tq 9 71 rfl rfl ?_ ?_ (tq 10 72 rfl rfl ?_ ?_ (tq 11 73 rfl rfl ?_ ?_ ?_))))
        iterate 4 (rotate_left;intro W' hSw;(try dsimp only at hSw);go_simp;try with_reducible rfl)
        try simp only [Ep]
        refine Rdy 12 rfl (fun K hK=>?_)
        go_simp
        obtain ⟨n1,f0,hb⟩:=nmw (World.alloc w9 (.cells #[.slice none 0 0,.slice none 0 0] 37))
        replace b0:=btr (bal b0 _) hb
        have l8:=hb.size
        simp only [Sa] at l8
        replace h0:=Ob (Ob h0 (bal (Bs _) _)) hb
        replace w0:=Bk.below (Bk.al w0 _) hb
        have q5:Bk n1 (w9.heap.size) [.slice none 0 0,.slice none 0 0]:=Bk.below (Bk.nw (by simp) rfl) hb
        clear hb
        rw [← f0]
        clear f0
        have iJ:=Bk.lz q5
        refine hK.out _ _ (j0.out _ b0) (fun hHeld=>?_)
        clear hK K
        try simp only [Ep]
        refine Rdy 13 rfl (fun K hK=>?_)
        obtain ⟨xF,jG,yF,kG⟩:=Bk.f2 q5 0 1 rfl rfl
        go_simp
        obtain ⟨u1,f0,hb⟩:=nmw (World.setCell (World.setCell n1 ⟨w9.heap.size,0,none⟩ (.slice n0 ((runM c m).vals.length) p0)) ⟨w9.heap.size,1,none⟩ (.slice o0 ((runM c m).arrs.length) q0))
        replace b0:=btr (bst (bst b0 (w9.heap.size) (0) (by omega) (.slice n0 ((runM c m).vals.length) p0)) (w9.heap.size) (1) (by omega) (.slice o0 ((runM c m).arrs.length) q0)) hb
        have m8:=hb.size
        simp only [Ss] at m8
        clear jG xF kG yF
        replace h0:=Ob (Oe (Oe h0 _ _ (fun h=>by have:=x8 _ h;omega) _) _ _ (fun h=>by have:=x8 _ h;omega) _) hb
        replace w0:=Bk.below (Bk.nn (Bk.nn w0 _) _) hb
        replace q5:Bk u1 (w9.heap.size) [.slice n0 ((runM c m).vals.length) p0,.slice o0 ((runM c m).arrs.length) q0]:=Bk.below (Bk.at (Bk.at q5 0 (.slice n0 ((runM c m).vals.length) p0)) 1 (.slice o0 ((runM c m).arrs.length) q0)) hb
        clear hb
        rw [← f0]
        clear f0
        refine hK.out _ _ (j0.out _ b0) (fun hHeld=>?_)
        clear hK K
        try simp only [Ep]
        refine (tq 14 11 rfl rfl ?_ ?_ (tq 15 12 rfl rfl ?_ ?_ ?_))
        iterate 2 (rotate_left;intro W' hSw;(try dsimp only at hSw);go_simp;try with_reducible rfl)
        try simp only [Ep]
        refine Dn ?_
        clear hHeld
        have q1:=Lib.hid (Ro h0 (by omega));have k0:=Lib.hid (And.intro (m4.out _ b0) (And.intro (n4.out _ b0) (q4.out _ b0)))
        clear b0 w0 h0 q5
        go_wp2_with fail
        go_meet
        exact ⟨_,_,rfl,rfl,q1.out,k0.out.1,k0.out.2.1,k0.out.2.2.1,k0.out.2.2.2⟩
       go_simp
       obtain ⟨w9,f0,hb⟩:=nmw (World.alloc w8 (.cells #[.slice none 0 0,.slice none 0 0] 37))
       replace b0:=btr (bal b0 _) hb
       have n8:=hb.size
       simp only [Sa] at n8
       replace d1:=Ob (Ob d1 (bal (Bs _) _)) hb
       replace v2:=Ob (Ob v2 (bal (Bs _) _)) hb
       replace w0:=Bk.below (Bk.al w0 _) hb
       have f5:Bk w9 (w8.heap.size) [.slice none 0 0,.slice none 0 0]:=Bk.below (Bk.nw (by simp) rfl) hb
       clear hb
       rw [← f0]
       clear f0
       replace v5:=Bk.lz w0
       have jJ:=Bk.lz f5
       refine hK.out _ _ (j0.out _ b0) (fun hHeld=>?_)
       clear hK K
       try simp only [Ep]
       refine Rdy 7 rfl (fun K hK=>?_)
       go_simp
       have s0:=iSpecRun_any _ _ _ _ _ c m _ (l4.out _ b0) (o4.out _ b0) u0.1 u0.2.1 u0.2.2 dA zA ws (by have h9:=Ro v2 (by omega);rw [← p1.out,r4.out];simpa [bools] using h9)
       rw [p4.out,j4.out] at s0
       rw [p1.out]
       refine (s0).mono ?_
       rintro e n1 ⟨s4,t4,d5,e5,rfl,x0,h0,hb⟩
       clear s0
       obtain ⟨n0,p0,o0,q0,rfl,rfl⟩:=x0.shape
       clear x0
       obtain ⟨pT,qT,rfl⟩:=Oh h0
       replace b0:=btr b0 hb
       have jH:=hb.size
       replace d1:=Ob d1 hb
       replace v2:=Ob v2 hb
       replace w0:=Bk.below w0 hb
       replace f5:=Bk.below f5 hb
       clear hb
       have y8:=h0.lt
       clear d1 v2
       refine hK.out _ _ (j0.out _ b0) (fun hHeld=>?_)
       clear hK K
       try simp only [Ep]
       refine (tq 8 62 rfl rfl ?_ ?_ (tq 9 71 rfl rfl ?_ ?_ (tq 10 72 rfl rfl ?_ ?_ (tq 11 73 rfl rfl ?_ ?_ ?_))))
       iterate 4 (rotate_left;intro W' hSw;(try dsimp only at hSw);go_simp;try with_reducible rfl)
       try simp only [Ep]
       refine Rdy 13 rfl (fun K hK=>?_)
       obtain ⟨zF,lG,aG,mG⟩:=Bk.f2 f5 0 1 rfl rfl
       go_simp
       obtain ⟨u1,f0,hb⟩:=nmw (World.setCell (World.setCell n1 ⟨w8.heap.size,0,none⟩ (.slice n0 ((runM c m).vals.length) p0)) ⟨w8.heap.size,1,none⟩ (.slice o0 ((runM c m).arrs.length) q0))
       replace b0:=btr (bst (bst b0 (w8.heap.size) (0) (by omega) (.slice n0 ((runM c m).vals.length) p0)) (w8.heap.size) (1) (by omega) (.slice o0 ((runM c m).arrs.length) q0)) hb
       have o8:=hb.size
       simp only [Ss] at o8
       clear lG zF mG aG
       replace h0:=Ob (Oe (Oe h0 _ _ (fun h=>by have:=y8 _ h;omega) _) _ _ (fun h=>by have:=y8 _ h;omega) _) hb
       replace w0:=Bk.below (Bk.nn (Bk.nn w0 _) _) hb
       replace f5:Bk u1 (w8.heap.size) [.slice n0 ((runM c m).vals.length) p0,.slice o0 ((runM c m).arrs.length) q0]:=Bk.below (Bk.at (Bk.at f5 0 (.slice n0 ((runM c m).vals.length) p0)) 1 (.slice o0 ((runM c m).arrs.length) q0)) hb
       clear hb
       rw [← f0]
       clear f0
       refine hK.out _ _ (j0.out _ b0) (fun hHeld=>?_)
       clear hK K
       try simp only [Ep]
       refine (tq 14 11 rfl rfl ?_ ?_ (tq 15 12 rfl rfl ?_ ?_ ?_))
       iterate 2 (rotate_left;intro W' hSw;(try dsimp only at hSw);go_simp;try with_reducible rfl)
       try simp only [Ep]
       refine Dn ?_
       clear hHeld
       have q1:=Lib.hid (Ro h0 (by omega));have k0:=Lib.hid (And.intro (m4.out _ b0) (And.intro (n4.out _ b0) (q4.out _ b0)))
       clear b0 w0 f5 h0
       go_wp2_with fail
       go_meet
       exact ⟨_,_,rfl,rfl,q1.out,k0.out.1,k0.out.2.1,k0.out.2.2.1,k0.out.2.2.2⟩
      go_simp
      obtain ⟨w8,f0,hb⟩:=nmw (World.alloc w7 (.cells #[.slice none 0 0,.slice none 0 0] 37))
      replace b0:=btr (bal b0 _) hb
      have p8:=hb.size
      simp only [Sa] at p8
      replace o1:=Ob (Ob o1 (bal (Bs _) _)) hb
      replace d1:=Ob (Ob d1 (bal (Bs _) _)) hb
      replace w0:=Bk.below (Bk.al w0 _) hb
      have k4:Bk w8 (w7.heap.size) [.slice none 0 0,.slice none 0 0]:=Bk.below (Bk.nw (by simp) rfl) hb
      clear hb
      rw [← f0]
      clear f0
      replace v5:=Bk.lz w0
      have kJ:=Bk.lz k4
      refine hK.out _ _ (j0.out _ b0) (fun hHeld=>?_)
      clear hK K
      try simp only [Ep]
      refine Rdy 6 rfl (fun K hK=>?_)
      refine step_aps tBools rfl _ _ rfl (wd.heap.size) _ J (bools (List.replicate J false)) rfl o1 _ 2 (bools [true,true]) rfl ((Ro d1 (by simp))) (one_bools [true,true]) (by omega) (by first | omega | (simp only [Sa,Ss];omega)) ?_
      intro vA w9 n5 hc v0 _
      obtain ⟨kF,qF,rfl⟩:=Oh n5
      replace b0:=b0.trans (hc.below w4.heap.size (by have:=b0.size;omega) (fun gq hgq h=>by have:=y0 gq h;omega))
      have kH:=hc.size
      replace d1:=Ow d1 hc (fun gq h h2=>by have:=d8 gq h;have:=y0 gq h2;omega)
      replace w0:=Bk.keep w0 hc (fun h=>by have:=y0 _ h;omega)
      replace k4:=Bk.keep k4 hc (fun h=>by have:=y0 _ h;omega)
      clear hc
      have fJ:=n5.lt
      clear v0 o1
      refine hK.out _ _ (j0.out _ b0) (fun hHeld=>?_)
      clear hK K
      try simp only [Ep]
      refine Rdy 7 rfl (fun K hK=>?_)
      go_simp
      have s0:=iSpecRun_any _ _ _ _ _ c m _ (l4.out _ b0) (o4.out _ b0) u0.1 u0.2.1 u0.2.2 kF qF ws (by have h9:=Ro n5 (by omega);rw [← p1.out,r4.out];simpa [bools] using h9)
      rw [p4.out,j4.out] at s0
      rw [p1.out]
      refine (s0).mono ?_
      rintro e n1 ⟨s4,t4,d5,e5,rfl,x0,h0,hb⟩
      clear s0
      obtain ⟨n0,p0,o0,q0,rfl,rfl⟩:=x0.shape
      clear x0
      obtain ⟨pT,qT,rfl⟩:=Oh h0
      replace b0:=btr b0 hb
      have lH:=hb.size
      replace d1:=Ob d1 hb
      replace n5:=Ob n5 hb
      replace w0:=Bk.below w0 hb
      replace k4:=Bk.below k4 hb
      clear hb
      have z8:=h0.lt
      clear d1 n5
      refine hK.out _ _ (j0.out _ b0) (fun hHeld=>?_)
      clear hK K
      try simp only [Ep]
      refine (tq 8 62 rfl rfl ?_ ?_ (tq 9 71 rfl rfl ?_ ?_ (tq 10 72 rfl rfl ?_ ?_ (tq 11 73 rfl rfl ?_ ?_ ?_))))
      iterate 4 (rotate_left;intro W' hSw;(try dsimp only at hSw);go_simp;try with_reducible rfl)
      try simp only [Ep]
      refine Rdy 13 rfl (fun K hK=>?_)
      obtain ⟨bG,nG,cG,oG⟩:=Bk.f2 k4 0 1 rfl rfl
      go_simp
      obtain ⟨u1,f0,hb⟩:=nmw (World.setCell (World.setCell n1 ⟨w7.heap.size,0,none⟩ (.slice n0 ((runM c m).vals.length) p0)) ⟨w7.heap.size,1,none⟩ (.slice o0 ((runM c m).arrs.length) q0))
      replace b0:=btr (bst (bst b0 (w7.heap.size) (0) (by omega) (.slice n0 ((runM c m).vals.length) p0)) (w7.heap.size) (1) (by omega) (.slice o0 ((runM c m).arrs.length) q0)) hb
      have q8:=hb.size
      simp only [Ss] at q8
      clear nG bG oG cG
      replace h0:=Ob (Oe (Oe h0 _ _ (fun h=>by have:=z8 _ h;omega) _) _ _ (fun h=>by have:=z8 _ h;omega) _) hb
      replace w0:=Bk.below (Bk.nn (Bk.nn w0 _) _) hb
      replace k4:Bk u1 (w7.heap.size) [.slice n0 ((runM c m).vals.length) p0,.slice o0 ((runM c m).arrs.length) q0]:=Bk.below (Bk.at (Bk.at k4 0 (.slice n0 ((runM c m).vals.length) p0)) 1 (.slice o0 ((runM c m).arrs.length) q0)) hb
      clear hb
      rw [← f0]
      clear f0
      refine hK.out _ _ (j0.out _ b0) (fun hHeld=>?_)
      clear hK K
      try simp only [Ep]
      refine (tq 14 11 rfl rfl ?_ ?_ (tq 15 12 rfl rfl ?_ ?_ ?_))
      iterate 2 (rotate_left;intro W' hSw;(try dsimp only at hSw);go_simp;try with_reducible rfl)
      try simp only [Ep]
      refine Dn ?_
      clear hHeld
      have q1:=Lib.hid (Ro h0 (by omega));have k0:=Lib.hid (And.intro (m4.out _ b0) (And.intro (n4.out _ b0) (q4.out _ b0)))
      clear b0 w0 k4 h0
      go_wp2_with fail
      go_meet
      exact ⟨_,_,rfl,rfl,q1.out,k0.out.1,k0.out.2.1,k0.out.2.2.1,k0.out.2.2.2⟩
     go_simp
     obtain ⟨w7,f0,hb⟩:=nmw (World.alloc w6 (.cells #[.slice none 0 0,.slice none 0 0] 37))
     replace b0:=btr (bal b0 _) hb
     have r8:=hb.size
     simp only [Sa] at r8
     replace o1:=Ob (Ob o1 (bal (Bs _) _)) hb
     have u2:Bk w7 (w6.heap.size) [.slice none 0 0,.slice none 0 0]:=Bk.below (Bk.nw (by simp) rfl) hb
     clear hb
     rw [← f0]
     clear f0
     have iF:=Bk.lz u2
     refine hK.out _ _ (j0.out _ b0) (fun hHeld=>?_)
     clear hK K
     try simp only [Ep]
     refine Rdy 5 rfl (fun K hK=>?_)
     go_simp
     obtain ⟨w8,f0,hb⟩:=nmw (World.alloc w7 (.cells #[.bool true,.bool true] 4))
     have b5:=Ob (World.ownsRow_lit (base:=(w7).heap.size) (e:=4) (size:=1) (w7) #[.bool true,.bool true] 2 (Nat.le_refl _) (by unfold maxLen;omega) (by simp)) hb
     try simp only [Sa,Ss] at b5
     replace b0:=btr (bal b0 _) hb
     have s8:=hb.size
     simp only [Sa] at s8
     replace o1:=Ob (Ob o1 (bal (Bs _) _)) hb
     replace u2:=Bk.below (Bk.al u2 _) hb
     have x4:Bk w8 (w7.heap.size) [.bool true,.bool true]:=Bk.below (Bk.nw (by simp) rfl) hb
     clear hb
     have a9:=b5.lt
     try simp only [Sa] at a9
     rw [← f0]
     clear f0
     replace iF:=Bk.lz u2
     have lJ:=Bk.lz x4
     refine hK.out _ _ (j0.out _ b0) (fun hHeld=>?_)
     clear hK K
     try simp only [Ep]
     refine Rdy 6 rfl (fun K hK=>?_)
     refine step_aps tBools rfl _ _ rfl (wd.heap.size) _ J (bools (List.replicate J false)) rfl o1 _ 2 (bools [true,true]) rfl ((Ro b5 (by simp))) (one_bools [true,true]) (by omega) (by first | omega | (simp only [Sa,Ss];omega)) ?_
     intro vA w9 o5 hc v0 _
     obtain ⟨lF,rF,rfl⟩:=Oh o5
     replace b0:=b0.trans (hc.below w4.heap.size (by have:=b0.size;omega) (fun gq hgq h=>by have:=y0 gq h;omega))
     have mH:=hc.size
     replace b5:=Ow b5 hc (fun gq h h2=>by have:=a9 gq h;have:=y0 gq h2;omega)
     replace u2:=Bk.keep u2 hc (fun h=>by have:=y0 _ h;omega)
     replace x4:=Bk.keep x4 hc (fun h=>by have:=y0 _ h;omega)
     clear hc
     have gJ:=o5.lt
     clear v0 o1
     refine hK.out _ _ (j0.out _ b0) (fun hHeld=>?_)
     clear hK K
     try simp only [Ep]
     refine Rdy 7 rfl (fun K hK=>?_)
     go_simp
     have s0:=iSpecRun_any _ _ _ _ _ c m _ (l4.out _ b0) (o4.out _ b0) u0.1 u0.2.1 u0.2.2 lF rF ws (by have h9:=Ro o5 (by omega);rw [← p1.out,r4.out];simpa [bools] using h9)
     rw [p4.out,j4.out] at s0
     rw [p1.out]
     refine (s0).mono ?_
     rintro e n1 ⟨s4,t4,d5,e5,rfl,x0,h0,hb⟩
     clear s0
     obtain ⟨n0,p0,o0,q0,rfl,rfl⟩:=x0.shape
     clear x0
     obtain ⟨pT,qT,rfl⟩:=Oh h0
     replace b0:=btr b0 hb
     have nH:=hb.size
     replace b5:=Ob b5 hb
     replace o5:=Ob o5 hb
     replace u2:=Bk.below u2 hb
     replace x4:=Bk.below x4 hb
     clear hb
     have b9:=h0.lt
     clear b5 o5
     refine hK.out _ _ (j0.out _ b0) (fun hHeld=>?_)
     clear hK K
     try simp only [Ep]
     refine (tq 8 62 rfl rfl ?_ ?_ (tq 9 71 rfl rfl ?_ ?_ (tq 10 72 rfl rfl ?_ ?_ (tq 11 73 rfl rfl ?_ ?_ ?_))))
     iterate 4 (rotate_left;intro W' hSw;(try dsimp only at hSw);go_simp;try with_reducible rfl)
     try simp only [Ep]
     refine Rdy 13 rfl (fun K hK=>?_)
     obtain ⟨dG,pG,eG,qG⟩:=Bk.f2 u2 0 1 rfl rfl
     go_simp
     obtain ⟨u1,f0,hb⟩:=nmw (World.setCell (World.setCell n1 ⟨w6.heap.size,0,none⟩ (.slice n0 ((runM c m).vals.length) p0)) ⟨w6.heap.size,1,none⟩ (.slice o0 ((runM c m).arrs.length) q0))
     replace b0:=btr (bst (bst b0 (w6.heap.size) (0) (by omega) (.slice n0 ((runM c m).vals.length) p0)) (w6.heap.size) (1) (by omega) (.slice o0 ((runM c m).arrs.length) q0)) hb
     have t8:=hb.size
     simp only [Ss] at t8
     clear pG dG qG eG
     replace h0:=Ob (Oe (Oe h0 _ _ (fun h=>by have:=b9 _ h;omega) _) _ _ (fun h=>by have:=b9 _ h;omega) _) hb
     replace u2:Bk u1 (w6.heap.size) [.slice n0 ((runM c m).vals.length) p0,.slice o0 ((runM c m).arrs.length) q0]:=Bk.below (Bk.at (Bk.at u2 0 (.slice n0 ((runM c m).vals.length) p0)) 1 (.slice o0 ((runM c m).arrs.length) q0)) hb
     replace x4:=Bk.below (Bk.nn (Bk.nn x4 _) _) hb
     clear hb
     rw [← f0]
     clear f0
     refine hK.out _ _ (j0.out _ b0) (fun hHeld=>?_)
     clear hK K
     try simp only [Ep]
     refine (tq 14 11 rfl rfl ?_ ?_ (tq 15 12 rfl rfl ?_ ?_ ?_))
     iterate 2 (rotate_left;intro W' hSw;(try dsimp only at hSw);go_simp;try with_reducible rfl)
     try simp only [Ep]
     refine Dn ?_
     clear hHeld
     have q1:=Lib.hid (Ro h0 (by omega));have k0:=Lib.hid (And.intro (m4.out _ b0) (And.intro (n4.out _ b0) (q4.out _ b0)))
     clear b0 u2 x4 h0
     go_wp2_with fail
     go_meet
     exact ⟨_,_,rfl,rfl,q1.out,k0.out.1,k0.out.2.1,k0.out.2.2.1,k0.out.2.2.2⟩
    ·go_simp
     obtain ⟨w6,f0,hb⟩:=nmw (World.alloc w5 (.cells #[.bool true,.bool true] 4))
     have t0:=Ob (World.ownsRow_lit (base:=(w5).heap.size) (e:=4) (size:=1) (w5) #[.bool true,.bool true] 2 (Nat.le_refl _) (by unfold maxLen;omega) (by simp)) hb
     try simp only [Sa,Ss] at t0
     replace b0:=btr (bal b0 _) hb
     have v8:=hb.size
     simp only [Sa] at v8
     replace f1:=Ob (Ob f1 (bal (Bs _) _)) hb
     have i0:Bk w6 (w5.heap.size) [.bool true,.bool true]:=Bk.below (Bk.nw (by simp) rfl) hb
     clear hb
     have m5:=t0.lt
     try simp only [Sa] at m5
     rw [← f0]
     clear f0
     have g5:=Bk.lz i0
     refine hK.out _ _ (j0.out _ b0) (fun hHeld=>?_)
     clear hK K
     try simp only [Ep]
     refine Rdy2 4 12 rfl rfl (fun K hK=>?_) (fun K hK=>?_)
     ·refine step_aps tBools rfl _ _ rfl (wd.heap.size) _ 0 ([]) rfl f1 _ J (bools (List.replicate J false)) rfl ((p5.out _ b0)) (one_bools (List.replicate J false)) (by omega) (by first | omega | (simp only [Sa,Ss];omega)) ?_
      intro vA w7 o3 hc v0 _
      try simp only [Nat.zero_add,List.nil_append] at o3
      obtain ⟨mF,sF,rfl⟩:=Oh o3
      replace b0:=b0.trans (hc.below w4.heap.size (by have:=b0.size;omega) (fun gq hgq h=>by have:=b2 gq h;omega))
      have oH:=hc.size
      replace t0:=Ow t0 hc (fun gq h h2=>by have:=m5 gq h;have:=b2 gq h2;omega)
      replace i0:=Bk.keep i0 hc (fun h=>by have:=b2 _ h;omega)
      clear hc
      have hJ:=o3.lt
      have z1:∀ q,(Value.slice mF J sF).ownBlock=some q→(q=wd.heap.size∨w6.heap.size≤q)∧q < w7.heap.size:=fun q h=>⟨by rcases v0 with e1 | ⟨g1,e1,e2⟩;(rw [h] at e1;exact Or.inl (Option.some.inj e1));(rw [h] at e1;have:=Option.some.inj e1;exact Or.inr (by omega)),(o3.lt q h).2⟩
      clear v0 f1
      replace g5:=Bk.lz i0
      refine hK.out _ _ (j0.out _ b0) (fun hHeld=>?_)
      clear hK K
      try simp only [Ep]
      refine Rdy2 6 12 rfl rfl (fun K hK=>?_) (fun K hK=>?_)
      ·refine step_aps tBools rfl _ _ rfl (wd.heap.size) _ J (bools (List.replicate J false)) rfl o3 _ 2 (bools [true,true]) rfl ((Ro t0 (by simp))) (one_bools [true,true]) (by omega) (by first | omega | (simp only [Sa,Ss];omega)) ?_
       intro vA w8 x2 hc v0 _
       obtain ⟨eA,aB,rfl⟩:=Oh x2
       replace b0:=b0.trans (hc.below w4.heap.size (by have:=b0.size;omega) (fun gq hgq h=>by have:=z1 gq h;omega))
       have uD:=hc.size
       replace t0:=Ow t0 hc (fun gq h h2=>by have:=m5 gq h;have:=z1 gq h2;omega)
       replace i0:=Bk.keep i0 hc (fun h=>by have:=z1 _ h;omega)
       clear hc
       have qH:=x2.lt
       clear v0 o3
       replace g5:=Bk.lz i0
       refine hK.out _ _ (j0.out _ b0) (fun hHeld=>?_)
       clear hK K
       try simp only [Ep]
       refine Rdy2 7 12 rfl rfl (fun K hK=>?_) (fun K hK=>?_)
       ·go_simp
        have s0:=iSpecRun_any _ _ _ _ _ c m _ (l4.out _ b0) (o4.out _ b0) u0.1 u0.2.1 u0.2.2 eA aB ws (by have h9:=Ro x2 (by omega);rw [← p1.out,r4.out];simpa [bools] using h9)
        rw [p4.out,j4.out] at s0
        rw [p1.out]
        refine (s0).mono ?_
        rintro e w9 ⟨s4,t4,d5,e5,rfl,x0,h0,hb⟩
        clear s0
        obtain ⟨n0,p0,o0,q0,rfl,rfl⟩:=x0.shape
        clear x0
        obtain ⟨pT,qT,rfl⟩:=Oh h0
        replace b0:=btr b0 hb
        have vD:=hb.size
        replace t0:=Ob t0 hb
        replace x2:=Ob x2 hb
        replace i0:=Bk.below i0 hb
        clear hb
        have x5:=h0.lt
        clear t0 x2
        replace g5:=Bk.lz i0
        refine hK.out _ _ (j0.out _ b0) (fun hHeld=>?_)
        clear hK K
        try simp only [Ep]
        refine (tq 8 62 rfl rfl ?_ ?_ (tq 9 71 rfl rfl ?_ ?_ (tq 10 72 rfl rfl ?_ ?_ (tq 11 73 rfl rfl ?_ ?_ ?_))))
        iterate 4 (rotate_left;intro W' hSw;(try dsimp only at hSw);go_simp;try with_reducible rfl)
        try simp only [Ep]
        refine Rdy 12 rfl (fun K hK=>?_)
        go_simp
        obtain ⟨n1,f0,hb⟩:=nmw (World.alloc w9 (.cells #[.slice none 0 0,.slice none 0 0] 37))
        replace b0:=btr (bal b0 _) hb
        have r6:=hb.size
        simp only [Sa] at r6
        replace h0:=Ob (Ob h0 (bal (Bs _) _)) hb
        replace i0:=Bk.below (Bk.al i0 _) hb
        have u4:Bk n1 (w9.heap.size) [.slice none 0 0,.slice none 0 0]:=Bk.below (Bk.nw (by simp) rfl) hb
        clear hb
        rw [← f0]
        clear f0
        have lI:=Bk.lz u4
        refine hK.out _ _ (j0.out _ b0) (fun hHeld=>?_)
        clear hK K
        try simp only [Ep]
        refine Rdy 13 rfl (fun K hK=>?_)
        obtain ⟨bB,iC,cB,jC⟩:=Bk.f2 u4 0 1 rfl rfl
        go_simp
        obtain ⟨u1,f0,hb⟩:=nmw (World.setCell (World.setCell n1 ⟨w9.heap.size,0,none⟩ (.slice n0 ((runM c m).vals.length) p0)) ⟨w9.heap.size,1,none⟩ (.slice o0 ((runM c m).arrs.length) q0))
        replace b0:=btr (bst (bst b0 (w9.heap.size) (0) (by omega) (.slice n0 ((runM c m).vals.length) p0)) (w9.heap.size) (1) (by omega) (.slice o0 ((runM c m).arrs.length) q0)) hb
        have s6:=hb.size
        simp only [Ss] at s6
        clear iC bB jC cB
        replace h0:=Ob (Oe (Oe h0 _ _ (fun h=>by have:=x5 _ h;omega) _) _ _ (fun h=>by have:=x5 _ h;omega) _) hb
        replace i0:=Bk.below (Bk.nn (Bk.nn i0 _) _) hb
        replace u4:Bk u1 (w9.heap.size) [.slice n0 ((runM c m).vals.length) p0,.slice o0 ((runM c m).arrs.length) q0]:=Bk.below (Bk.at (Bk.at u4 0 (.slice n0 ((runM c m).vals.length) p0)) 1 (.slice o0 ((runM c m).arrs.length) q0)) hb
        clear hb
        rw [← f0]
        clear f0
        refine hK.out _ _ (j0.out _ b0) (fun hHeld=>?_)
        clear hK K
        try simp only [Ep]
        refine (tq 14 11 rfl rfl ?_ ?_ (tq 15 12 rfl rfl ?_ ?_ ?_))
        iterate 2 (rotate_left;intro W' hSw;(try dsimp only at hSw);go_simp;try with_reducible rfl)
        try simp only [Ep]
        refine Dn ?_
        clear hHeld
        have q1:=Lib.hid (Ro h0 (by omega));have k0:=Lib.hid (And.intro (m4.out _ b0) (And.intro (n4.out _ b0) (q4.out _ b0)))
        clear b0 i0 h0 u4
        go_wp2_with fail
        go_meet
        exact ⟨_,_,rfl,rfl,q1.out,k0.out.1,k0.out.2.1,k0.out.2.2.1,k0.out.2.2.2⟩
       go_simp
       obtain ⟨w9,f0,hb⟩:=nmw (World.alloc w8 (.cells #[.slice none 0 0,.slice none 0 0] 37))
       replace b0:=btr (bal b0 _) hb
       have t6:=hb.size
       simp only [Sa] at t6
       replace t0:=Ob (Ob t0 (bal (Bs _) _)) hb
       replace x2:=Ob (Ob x2 (bal (Bs _) _)) hb
       replace i0:=Bk.below (Bk.al i0 _) hb
       have k3:Bk w9 (w8.heap.size) [.slice none 0 0,.slice none 0 0]:=Bk.below (Bk.nw (by simp) rfl) hb
       clear hb
       rw [← f0]
       clear f0
       replace g5:=Bk.lz i0
       have mI:=Bk.lz k3
       refine hK.out _ _ (j0.out _ b0) (fun hHeld=>?_)
       clear hK K
       try simp only [Ep]
       refine Rdy 7 rfl (fun K hK=>?_)
       go_simp
       have s0:=iSpecRun_any _ _ _ _ _ c m _ (l4.out _ b0) (o4.out _ b0) u0.1 u0.2.1 u0.2.2 eA aB ws (by have h9:=Ro x2 (by omega);rw [← p1.out,r4.out];simpa [bools] using h9)
       rw [p4.out,j4.out] at s0
       rw [p1.out]
       refine (s0).mono ?_
       rintro e n1 ⟨s4,t4,d5,e5,rfl,x0,h0,hb⟩
       clear s0
       obtain ⟨n0,p0,o0,q0,rfl,rfl⟩:=x0.shape
       clear x0
       obtain ⟨pT,qT,rfl⟩:=Oh h0
       replace b0:=btr b0 hb
       have wD:=hb.size
       replace t0:=Ob t0 hb
       replace x2:=Ob x2 hb
       replace i0:=Bk.below i0 hb
       replace k3:=Bk.below k3 hb
       clear hb
       have y5:=h0.lt
       clear t0 x2
       refine hK.out _ _ (j0.out _ b0) (fun hHeld=>?_)
       clear hK K
       try simp only [Ep]
       refine (tq 8 62 rfl rfl ?_ ?_ (tq 9 71 rfl rfl ?_ ?_ (tq 10 72 rfl rfl ?_ ?_ (tq 11 73 rfl rfl ?_ ?_ ?_))))
       iterate 4 (rotate_left;intro W' hSw;(try dsimp only at hSw);go_simp;try with_reducible rfl)
       try simp only [Ep]
       refine Rdy 13 rfl (fun K hK=>?_)
       obtain ⟨dB,kC,eB,lC⟩:=Bk.f2 k3 0 1 rfl rfl
       go_simp
       obtain ⟨u1,f0,hb⟩:=nmw (World.setCell (World.setCell n1 ⟨w8.heap.size,0,none⟩ (.slice n0 ((runM c m).vals.length) p0)) ⟨w8.heap.size,1,none⟩ (.slice o0 ((runM c m).arrs.length) q0))
       replace b0:=btr (bst (bst b0 (w8.heap.size) (0) (by omega) (.slice n0 ((runM c m).vals.length) p0)) (w8.heap.size) (1) (by omega) (.slice o0 ((runM c m).arrs.length) q0)) hb
       have u6:=hb.size
       simp only [Ss] at u6
       clear kC dB lC eB
       replace h0:=Ob (Oe (Oe h0 _ _ (fun h=>by have:=y5 _ h;omega) _) _ _ (fun h=>by have:=y5 _ h;omega) _) hb
       replace i0:=Bk.below (Bk.nn (Bk.nn i0 _) _) hb
       replace k3:Bk u1 (w8.heap.size) [.slice n0 ((runM c m).vals.length) p0,.slice o0 ((runM c m).arrs.length) q0]:=Bk.below (Bk.at (Bk.at k3 0 (.slice n0 ((runM c m).vals.length) p0)) 1 (.slice o0 ((runM c m).arrs.length) q0)) hb
       clear hb
       rw [← f0]
       clear f0
       refine hK.out _ _ (j0.out _ b0) (fun hHeld=>?_)
       clear hK K
       try simp only [Ep]
       refine (tq 14 11 rfl rfl ?_ ?_ (tq 15 12 rfl rfl ?_ ?_ ?_))
       iterate 2 (rotate_left;intro W' hSw;(try dsimp only at hSw);go_simp;try with_reducible rfl)
       try simp only [Ep]
       refine Dn ?_
       clear hHeld
       have q1:=Lib.hid (Ro h0 (by omega));have k0:=Lib.hid (And.intro (m4.out _ b0) (And.intro (n4.out _ b0) (q4.out _ b0)))
       clear b0 i0 k3 h0
       go_wp2_with fail
       go_meet
       exact ⟨_,_,rfl,rfl,q1.out,k0.out.1,k0.out.2.1,k0.out.2.2.1,k0.out.2.2.2⟩
      go_simp
      obtain ⟨w8,f0,hb⟩:=nmw (World.alloc w7 (.cells #[.slice none 0 0,.slice none 0 0] 37))
      replace b0:=btr (bal b0 _) hb
      have v6:=hb.size
      simp only [Sa] at v6
      replace t0:=Ob (Ob t0 (bal (Bs _) _)) hb
      replace o3:=Ob (Ob o3 (bal (Bs _) _)) hb
      replace i0:=Bk.below (Bk.al i0 _) hb
      have d2:Bk w8 (w7.heap.size) [.slice none 0 0,.slice none 0 0]:=Bk.below (Bk.nw (by simp) rfl) hb
      clear hb
      rw [← f0]
      clear f0
      replace g5:=Bk.lz i0
      have nI:=Bk.lz d2
      refine hK.out _ _ (j0.out _ b0) (fun hHeld=>?_)
      clear hK K
      try simp only [Ep]
      refine Rdy 6 rfl (fun K hK=>?_)
      refine step_aps tBools rfl _ _ rfl (wd.heap.size) _ J (bools (List.replicate J false)) rfl o3 _ 2 (bools [true,true]) rfl ((Ro t0 (by simp))) (one_bools [true,true]) (by omega) (by first | omega | (simp only [Sa,Ss];omega)) ?_
      intro vA w9 p3 hc v0 _
      obtain ⟨j9,fA,rfl⟩:=Oh p3
      replace b0:=b0.trans (hc.below w4.heap.size (by have:=b0.size;omega) (fun gq hgq h=>by have:=z1 gq h;omega))
      have xD:=hc.size
      replace t0:=Ow t0 hc (fun gq h h2=>by have:=m5 gq h;have:=z1 gq h2;omega)
      replace i0:=Bk.keep i0 hc (fun h=>by have:=z1 _ h;omega)
      replace d2:=Bk.keep d2 hc (fun h=>by have:=z1 _ h;omega)
      clear hc
      have rH:=p3.lt
      clear v0 o3
      refine hK.out _ _ (j0.out _ b0) (fun hHeld=>?_)
      clear hK K
      try simp only [Ep]
      refine Rdy 7 rfl (fun K hK=>?_)
      go_simp
      have s0:=iSpecRun_any _ _ _ _ _ c m _ (l4.out _ b0) (o4.out _ b0) u0.1 u0.2.1 u0.2.2 j9 fA ws (by have h9:=Ro p3 (by omega);rw [← p1.out,r4.out];simpa [bools] using h9)
      rw [p4.out,j4.out] at s0
      rw [p1.out]
      refine (s0).mono ?_
      rintro e n1 ⟨s4,t4,d5,e5,rfl,x0,h0,hb⟩
      clear s0
      obtain ⟨n0,p0,o0,q0,rfl,rfl⟩:=x0.shape
      clear x0
      obtain ⟨pT,qT,rfl⟩:=Oh h0
      replace b0:=btr b0 hb
      have yD:=hb.size
      replace t0:=Ob t0 hb
      replace p3:=Ob p3 hb
      replace i0:=Bk.below i0 hb
      replace d2:=Bk.below d2 hb
      clear hb
      have z5:=h0.lt
      clear t0 p3
      refine hK.out _ _ (j0.out _ b0) (fun hHeld=>?_)
      clear hK K
      try simp only [Ep]
      refine (tq 8 62 rfl rfl ?_ ?_ (tq 9 71 rfl rfl ?_ ?_ (tq 10 72 rfl rfl ?_ ?_ (tq 11 73 rfl rfl ?_ ?_ ?_))))
      iterate 4 (rotate_left;intro W' hSw;(try dsimp only at hSw);go_simp;try with_reducible rfl)
      try simp only [Ep]
      refine Rdy 13 rfl (fun K hK=>?_)
      obtain ⟨fB,mC,gB,nC⟩:=Bk.f2 d2 0 1 rfl rfl
      go_simp
      obtain ⟨u1,f0,hb⟩:=nmw (World.setCell (World.setCell n1 ⟨w7.heap.size,0,none⟩ (.slice n0 ((runM c m).vals.length) p0)) ⟨w7.heap.size,1,none⟩ (.slice o0 ((runM c m).arrs.length) q0))
      replace b0:=btr (bst (bst b0 (w7.heap.size) (0) (by omega) (.slice n0 ((runM c m).vals.length) p0)) (w7.heap.size) (1) (by omega) (.slice o0 ((runM c m).arrs.length) q0)) hb
      have x6:=hb.size
      simp only [Ss] at x6
      clear mC fB nC gB
      replace h0:=Ob (Oe (Oe h0 _ _ (fun h=>by have:=z5 _ h;omega) _) _ _ (fun h=>by have:=z5 _ h;omega) _) hb
      replace i0:=Bk.below (Bk.nn (Bk.nn i0 _) _) hb
      replace d2:Bk u1 (w7.heap.size) [.slice n0 ((runM c m).vals.length) p0,.slice o0 ((runM c m).arrs.length) q0]:=Bk.below (Bk.at (Bk.at d2 0 (.slice n0 ((runM c m).vals.length) p0)) 1 (.slice o0 ((runM c m).arrs.length) q0)) hb
      clear hb
      rw [← f0]
      clear f0
      refine hK.out _ _ (j0.out _ b0) (fun hHeld=>?_)
      clear hK K
      try simp only [Ep]
      refine (tq 14 11 rfl rfl ?_ ?_ (tq 15 12 rfl rfl ?_ ?_ ?_))
      iterate 2 (rotate_left;intro W' hSw;(try dsimp only at hSw);go_simp;try with_reducible rfl)
      try simp only [Ep]
      refine Dn ?_
      clear hHeld
      have q1:=Lib.hid (Ro h0 (by omega));have k0:=Lib.hid (And.intro (m4.out _ b0) (And.intro (n4.out _ b0) (q4.out _ b0)))
      clear b0 i0 d2 h0
      go_wp2_with fail
      go_meet
      exact ⟨_,_,rfl,rfl,q1.out,k0.out.1,k0.out.2.1,k0.out.2.2.1,k0.out.2.2.2⟩
     go_simp
     obtain ⟨w7,f0,hb⟩:=nmw (World.alloc w6 (.cells #[.slice none 0 0,.slice none 0 0] 37))
     replace b0:=btr (bal b0 _) hb
     have y6:=hb.size
     simp only [Sa] at y6
     replace f1:=Ob (Ob f1 (bal (Bs _) _)) hb
     replace t0:=Ob (Ob t0 (bal (Bs _) _)) hb
     replace i0:=Bk.below (Bk.al i0 _) hb
     have i1:Bk w7 (w6.heap.size) [.slice none 0 0,.slice none 0 0]:=Bk.below (Bk.nw (by simp) rfl) hb
     clear hb
     rw [← f0]
     clear f0
     replace g5:=Bk.lz i0
     have c9:=Bk.lz i1
     refine hK.out _ _ (j0.out _ b0) (fun hHeld=>?_)
     clear hK K
     try simp only [Ep]
     refine Rdy 4 rfl (fun K hK=>?_)
     refine step_aps tBools rfl _ _ rfl (wd.heap.size) _ 0 ([]) rfl f1 _ J (bools (List.replicate J false)) rfl ((p5.out _ b0)) (one_bools (List.replicate J false)) (by omega) (by first | omega | (simp only [Sa,Ss];omega)) ?_
     intro vA w8 q3 hc v0 _
     try simp only [Nat.zero_add,List.nil_append] at q3
     obtain ⟨k9,gA,rfl⟩:=Oh q3
     replace b0:=b0.trans (hc.below w4.heap.size (by have:=b0.size;omega) (fun gq hgq h=>by have:=b2 gq h;omega))
     have zD:=hc.size
     replace t0:=Ow t0 hc (fun gq h h2=>by have:=m5 gq h;have:=b2 gq h2;omega)
     replace i0:=Bk.keep i0 hc (fun h=>by have:=b2 _ h;omega)
     replace i1:=Bk.keep i1 hc (fun h=>by have:=b2 _ h;omega)
     clear hc
     have sH:=q3.lt
     have y2:∀ q,(Value.slice k9 J gA).ownBlock=some q→(q=wd.heap.size∨w7.heap.size≤q)∧q < w8.heap.size:=fun q h=>⟨by rcases v0 with e1 | ⟨g1,e1,e2⟩;(rw [h] at e1;exact Or.inl (Option.some.inj e1));(rw [h] at e1;have:=Option.some.inj e1;exact Or.inr (by omega)),(q3.lt q h).2⟩
     clear v0 f1
     replace g5:=Bk.lz i0
     replace c9:=Bk.lz i1
     refine hK.out _ _ (j0.out _ b0) (fun hHeld=>?_)
     clear hK K
     try simp only [Ep]
     refine Rdy 6 rfl (fun K hK=>?_)
     refine step_aps tBools rfl _ _ rfl (wd.heap.size) _ J (bools (List.replicate J false)) rfl q3 _ 2 (bools [true,true]) rfl ((Ro t0 (by simp))) (one_bools [true,true]) (by omega) (by first | omega | (simp only [Sa,Ss];omega)) ?_
     intro vA w9 r3 hc v0 _
     obtain ⟨l9,hA,rfl⟩:=Oh r3
     replace b0:=b0.trans (hc.below w4.heap.size (by have:=b0.size;omega) (fun gq hgq h=>by have:=y2 gq h;omega))
     have aE:=hc.size
     replace t0:=Ow t0 hc (fun gq h h2=>by have:=m5 gq h;have:=y2 gq h2;omega)
     replace i0:=Bk.keep i0 hc (fun h=>by have:=y2 _ h;omega)
     replace i1:=Bk.keep i1 hc (fun h=>by have:=y2 _ h;omega)
     clear hc
     have tH:=r3.lt
     clear v0 q3
     refine hK.out _ _ (j0.out _ b0) (fun hHeld=>?_)
     clear hK K
     try simp only [Ep]
     refine Rdy 7 rfl (fun K hK=>?_)
     go_simp
     have s0:=iSpecRun_any _ _ _ _ _ c m _ (l4.out _ b0) (o4.out _ b0) u0.1 u0.2.1 u0.2.2 l9 hA ws (by have h9:=Ro r3 (by omega);rw [← p1.out,r4.out];simpa [bools] using h9)
     rw [p4.out,j4.out] at s0
     rw [p1.out]
     refine (s0).mono ?_
     rintro e n1 ⟨s4,t4,d5,e5,rfl,x0,h0,hb⟩
     clear s0
     obtain ⟨n0,p0,o0,q0,rfl,rfl⟩:=x0.shape
     clear x0
     obtain ⟨pT,qT,rfl⟩:=Oh h0
     replace b0:=btr b0 hb
     have bE:=hb.size
     replace t0:=Ob t0 hb
     replace r3:=Ob r3 hb
     replace i0:=Bk.below i0 hb
     replace i1:=Bk.below i1 hb
     clear hb
     have a6:=h0.lt
     clear t0 r3
     refine hK.out _ _ (j0.out _ b0) (fun hHeld=>?_)
     clear hK K
     try simp only [Ep]
     refine (tq 8 62 rfl rfl ?_ ?_ (tq 9 71 rfl rfl ?_ ?_ (tq 10 72 rfl rfl ?_ ?_ (tq 11 73 rfl rfl ?_ ?_ ?_))))
     iterate 4 (rotate_left;intro W' hSw;(try dsimp only at hSw);go_simp;try with_reducible rfl)
     try simp only [Ep]
     refine Rdy 13 rfl (fun K hK=>?_)
     obtain ⟨hB,oC,iB,pC⟩:=Bk.f2 i1 0 1 rfl rfl
     go_simp
     obtain ⟨u1,f0,hb⟩:=nmw (World.setCell (World.setCell n1 ⟨w6.heap.size,0,none⟩ (.slice n0 ((runM c m).vals.length) p0)) ⟨w6.heap.size,1,none⟩ (.slice o0 ((runM c m).arrs.length) q0))
     replace b0:=btr (bst (bst b0 (w6.heap.size) (0) (by omega) (.slice n0 ((runM c m).vals.length) p0)) (w6.heap.size) (1) (by omega) (.slice o0 ((runM c m).arrs.length) q0)) hb
     have z6:=hb.size
     simp only [Ss] at z6
     clear oC hB pC iB
     replace h0:=Ob (Oe (Oe h0 _ _ (fun h=>by have:=a6 _ h;omega) _) _ _ (fun h=>by have:=a6 _ h;omega) _) hb
     replace i0:=Bk.below (Bk.nn (Bk.nn i0 _) _) hb
     replace i1:Bk u1 (w6.heap.size) [.slice n0 ((runM c m).vals.length) p0,.slice o0 ((runM c m).arrs.length) q0]:=Bk.below (Bk.at (Bk.at i1 0 (.slice n0 ((runM c m).vals.length) p0)) 1 (.slice o0 ((runM c m).arrs.length) q0)) hb
     clear hb
     rw [← f0]
     clear f0
     refine hK.out _ _ (j0.out _ b0) (fun hHeld=>?_)
     clear hK K
     try simp only [Ep]
     refine (tq 14 11 rfl rfl ?_ ?_ (tq 15 12 rfl rfl ?_ ?_ ?_))
     iterate 2 (rotate_left;intro W' hSw;(try dsimp only at hSw);go_simp;try with_reducible rfl)
     try simp only [Ep]
     refine Dn ?_
     clear hHeld
     have q1:=Lib.hid (Ro h0 (by omega));have k0:=Lib.hid (And.intro (m4.out _ b0) (And.intro (n4.out _ b0) (q4.out _ b0)))
     clear b0 i0 i1 h0
     go_wp2_with fail
     go_meet
     exact ⟨_,_,rfl,rfl,q1.out,k0.out.1,k0.out.2.1,k0.out.2.2.1,k0.out.2.2.2⟩
    go_simp
    obtain ⟨w6,f0,hb⟩:=nmw (World.alloc w5 (.cells #[.slice none 0 0,.slice none 0 0] 37))
    replace b0:=btr (bal b0 _) hb
    have a7:=hb.size
    simp only [Sa] at a7
    replace f1:=Ob (Ob f1 (bal (Bs _) _)) hb
    have m0:Bk w6 (w5.heap.size) [.slice none 0 0,.slice none 0 0]:=Bk.below (Bk.nw (by simp) rfl) hb
    clear hb
    rw [← f0]
    clear f0
    have i5:=Bk.lz m0
    refine hK.out _ _ (j0.out _ b0) (fun hHeld=>?_)
    clear hK K
    try simp only [Ep]
    refine Rdy2 4 5 rfl rfl (fun K hK=>?_) (fun K hK=>?_)
    ·refine step_aps tBools rfl _ _ rfl (wd.heap.size) _ 0 ([]) rfl f1 _ J (bools (List.replicate J false)) rfl ((p5.out _ b0)) (one_bools (List.replicate J false)) (by omega) (by first | omega | (simp only [Sa,Ss];omega)) ?_
     intro vA w7 o2 hc v0 _
     try simp only [Nat.zero_add,List.nil_append] at o2
     obtain ⟨m9,iA,rfl⟩:=Oh o2
     replace b0:=b0.trans (hc.below w4.heap.size (by have:=b0.size;omega) (fun gq hgq h=>by have:=b2 gq h;omega))
     have cE:=hc.size
     replace m0:=Bk.keep m0 hc (fun h=>by have:=b2 _ h;omega)
     clear hc
     have uH:=o2.lt
     have z2:∀ q,(Value.slice m9 J iA).ownBlock=some q→(q=wd.heap.size∨w6.heap.size≤q)∧q < w7.heap.size:=fun q h=>⟨by rcases v0 with e1 | ⟨g1,e1,e2⟩;(rw [h] at e1;exact Or.inl (Option.some.inj e1));(rw [h] at e1;have:=Option.some.inj e1;exact Or.inr (by omega)),(o2.lt q h).2⟩
     clear v0 f1
     replace i5:=Bk.lz m0
     refine hK.out _ _ (j0.out _ b0) (fun hHeld=>?_)
     clear hK K
     try simp only [Ep]
     refine Rdy 5 rfl (fun K hK=>?_)
     go_simp
     obtain ⟨w8,f0,hb⟩:=nmw (World.alloc w7 (.cells #[.bool true,.bool true] 4))
     have q2:=Ob (World.ownsRow_lit (base:=(w7).heap.size) (e:=4) (size:=1) (w7) #[.bool true,.bool true] 2 (Nat.le_refl _) (by unfold maxLen;omega) (by simp)) hb
     try simp only [Sa,Ss] at q2
     replace b0:=btr (bal b0 _) hb
     have b7:=hb.size
     simp only [Sa] at b7
     replace o2:=Ob (Ob o2 (bal (Bs _) _)) hb
     replace m0:=Bk.below (Bk.al m0 _) hb
     have i2:Bk w8 (w7.heap.size) [.bool true,.bool true]:=Bk.below (Bk.nw (by simp) rfl) hb
     clear hb
     have b6:=q2.lt
     try simp only [Sa] at b6
     rw [← f0]
     clear f0
     replace i5:=Bk.lz m0
     have oI:=Bk.lz i2
     refine hK.out _ _ (j0.out _ b0) (fun hHeld=>?_)
     clear hK K
     try simp only [Ep]
     refine Rdy 6 rfl (fun K hK=>?_)
     refine step_aps tBools rfl _ _ rfl (wd.heap.size) _ J (bools (List.replicate J false)) rfl o2 _ 2 (bools [true,true]) rfl ((Ro q2 (by simp))) (one_bools [true,true]) (by omega) (by first | omega | (simp only [Sa,Ss];omega)) ?_
     intro vA w9 s3 hc v0 _
     obtain ⟨n9,jA,rfl⟩:=Oh s3
     replace b0:=b0.trans (hc.below w4.heap.size (by have:=b0.size;omega) (fun gq hgq h=>by have:=z2 gq h;omega))
     have dE:=hc.size
     replace q2:=Ow q2 hc (fun gq h h2=>by have:=b6 gq h;have:=z2 gq h2;omega)
     replace m0:=Bk.keep m0 hc (fun h=>by have:=z2 _ h;omega)
     replace i2:=Bk.keep i2 hc (fun h=>by have:=z2 _ h;omega)
     clear hc
     have vH:=s3.lt
     clear v0 o2
     refine hK.out _ _ (j0.out _ b0) (fun hHeld=>?_)
     clear hK K
     try simp only [Ep]
     refine Rdy 7 rfl (fun K hK=>?_)
     go_simp
     have s0:=iSpecRun_any _ _ _ _ _ c m _ (l4.out _ b0) (o4.out _ b0) u0.1 u0.2.1 u0.2.2 n9 jA ws (by have h9:=Ro s3 (by omega);rw [← p1.out,r4.out];simpa [bools] using h9)
     rw [p4.out,j4.out] at s0
     rw [p1.out]
     refine (s0).mono ?_
     rintro e n1 ⟨s4,t4,d5,e5,rfl,x0,h0,hb⟩
     clear s0
     obtain ⟨n0,p0,o0,q0,rfl,rfl⟩:=x0.shape
     clear x0
     obtain ⟨pT,qT,rfl⟩:=Oh h0
     replace b0:=btr b0 hb
     have eE:=hb.size
     replace q2:=Ob q2 hb
     replace s3:=Ob s3 hb
     replace m0:=Bk.below m0 hb
     replace i2:=Bk.below i2 hb
     clear hb
     have c6:=h0.lt
     clear q2 s3
     refine hK.out _ _ (j0.out _ b0) (fun hHeld=>?_)
     clear hK K
     try simp only [Ep]
     refine (tq 8 62 rfl rfl ?_ ?_ (tq 9 71 rfl rfl ?_ ?_ (tq 10 72 rfl rfl ?_ ?_ (tq 11 73 rfl rfl ?_ ?_ ?_))))
     iterate 4 (rotate_left;intro W' hSw;(try dsimp only at hSw);go_simp;try with_reducible rfl)
     try simp only [Ep]
     refine Rdy 13 rfl (fun K hK=>?_)
     obtain ⟨jB,qC,kB,rC⟩:=Bk.f2 m0 0 1 rfl rfl
     go_simp
     obtain ⟨u1,f0,hb⟩:=nmw (World.setCell (World.setCell n1 ⟨w5.heap.size,0,none⟩ (.slice n0 ((runM c m).vals.length) p0)) ⟨w5.heap.size,1,none⟩ (.slice o0 ((runM c m).arrs.length) q0))
     replace b0:=btr (bst (bst b0 (w5.heap.size) (0) (by omega) (.slice n0 ((runM c m).vals.length) p0)) (w5.heap.size) (1) (by omega) (.slice o0 ((runM c m).arrs.length) q0)) hb
     have c7:=hb.size
     simp only [Ss] at c7
     clear qC jB rC kB
     replace h0:=Ob (Oe (Oe h0 _ _ (fun h=>by have:=c6 _ h;omega) _) _ _ (fun h=>by have:=c6 _ h;omega) _) hb
     replace m0:Bk u1 (w5.heap.size) [.slice n0 ((runM c m).vals.length) p0,.slice o0 ((runM c m).arrs.length) q0]:=Bk.below (Bk.at (Bk.at m0 0 (.slice n0 ((runM c m).vals.length) p0)) 1 (.slice o0 ((runM c m).arrs.length) q0)) hb
     replace i2:=Bk.below (Bk.nn (Bk.nn i2 _) _) hb
     clear hb
     rw [← f0]
     clear f0
     refine hK.out _ _ (j0.out _ b0) (fun hHeld=>?_)
     clear hK K
     try simp only [Ep]
     refine (tq 14 11 rfl rfl ?_ ?_ (tq 15 12 rfl rfl ?_ ?_ ?_))
     iterate 2 (rotate_left;intro W' hSw;(try dsimp only at hSw);go_simp;try with_reducible rfl)
     try simp only [Ep]
     refine Dn ?_
     clear hHeld
     have q1:=Lib.hid (Ro h0 (by omega));have k0:=Lib.hid (And.intro (m4.out _ b0) (And.intro (n4.out _ b0) (q4.out _ b0)))
     clear b0 m0 i2 h0
     go_wp2_with fail
     go_meet
     exact ⟨_,_,rfl,rfl,q1.out,k0.out.1,k0.out.2.1,k0.out.2.2.1,k0.out.2.2.2⟩
    go_simp
    obtain ⟨w7,f0,hb⟩:=nmw (World.alloc w6 (.cells #[.bool true,.bool true] 4))
    have x1:=Ob (World.ownsRow_lit (base:=(w6).heap.size) (e:=4) (size:=1) (w6) #[.bool true,.bool true] 2 (Nat.le_refl _) (by unfold maxLen;omega) (by simp)) hb
    try simp only [Sa,Ss] at x1
    replace b0:=btr (bal b0 _) hb
    have d7:=hb.size
    simp only [Sa] at d7
    replace f1:=Ob (Ob f1 (bal (Bs _) _)) hb
    replace m0:=Bk.below (Bk.al m0 _) hb
    have r1:Bk w7 (w6.heap.size) [.bool true,.bool true]:=Bk.below (Bk.nw (by simp) rfl) hb
    clear hb
    have r5:=x1.lt
    try simp only [Sa] at r5
    rw [← f0]
    clear f0
    replace i5:=Bk.lz m0
    have d9:=Bk.lz r1
    refine hK.out _ _ (j0.out _ b0) (fun hHeld=>?_)
    clear hK K
    try simp only [Ep]
    refine Rdy 4 rfl (fun K hK=>?_)
    refine step_aps tBools rfl _ _ rfl (wd.heap.size) _ 0 ([]) rfl f1 _ J (bools (List.replicate J false)) rfl ((p5.out _ b0)) (one_bools (List.replicate J false)) (by omega) (by first | omega | (simp only [Sa,Ss];omega)) ?_
    intro vA w8 t3 hc v0 _
    try simp only [Nat.zero_add,List.nil_append] at t3
    obtain ⟨o9,kA,rfl⟩:=Oh t3
    replace b0:=b0.trans (hc.below w4.heap.size (by have:=b0.size;omega) (fun gq hgq h=>by have:=b2 gq h;omega))
    have fE:=hc.size
    replace x1:=Ow x1 hc (fun gq h h2=>by have:=r5 gq h;have:=b2 gq h2;omega)
    replace m0:=Bk.keep m0 hc (fun h=>by have:=b2 _ h;omega)
    replace r1:=Bk.keep r1 hc (fun h=>by have:=b2 _ h;omega)
    clear hc
    have wH:=t3.lt
    have b3:∀ q,(Value.slice o9 J kA).ownBlock=some q→(q=wd.heap.size∨w7.heap.size≤q)∧q < w8.heap.size:=fun q h=>⟨by rcases v0 with e1 | ⟨g1,e1,e2⟩;(rw [h] at e1;exact Or.inl (Option.some.inj e1));(rw [h] at e1;have:=Option.some.inj e1;exact Or.inr (by omega)),(t3.lt q h).2⟩
    clear v0 f1
    replace i5:=Bk.lz m0
    replace d9:=Bk.lz r1
    refine hK.out _ _ (j0.out _ b0) (fun hHeld=>?_)
    clear hK K
    try simp only [Ep]
    refine Rdy 6 rfl (fun K hK=>?_)
    refine step_aps tBools rfl _ _ rfl (wd.heap.size) _ J (bools (List.replicate J false)) rfl t3 _ 2 (bools [true,true]) rfl ((Ro x1 (by simp))) (one_bools [true,true]) (by omega) (by first | omega | (simp only [Sa,Ss];omega)) ?_
    intro vA w9 u3 hc v0 _
    obtain ⟨p9,lA,rfl⟩:=Oh u3
    replace b0:=b0.trans (hc.below w4.heap.size (by have:=b0.size;omega) (fun gq hgq h=>by have:=b3 gq h;omega))
    have gE:=hc.size
    replace x1:=Ow x1 hc (fun gq h h2=>by have:=r5 gq h;have:=b3 gq h2;omega)
    replace m0:=Bk.keep m0 hc (fun h=>by have:=b3 _ h;omega)
    replace r1:=Bk.keep r1 hc (fun h=>by have:=b3 _ h;omega)
    clear hc
    have xH:=u3.lt
    clear v0 t3
    refine hK.out _ _ (j0.out _ b0) (fun hHeld=>?_)
    clear hK K
    try simp only [Ep]
    refine Rdy 7 rfl (fun K hK=>?_)
    go_simp
    have s0:=iSpecRun_any _ _ _ _ _ c m _ (l4.out _ b0) (o4.out _ b0) u0.1 u0.2.1 u0.2.2 p9 lA ws (by have h9:=Ro u3 (by omega);rw [← p1.out,r4.out];simpa [bools] using h9)
    rw [p4.out,j4.out] at s0
    rw [p1.out]
    refine (s0).mono ?_
    rintro e n1 ⟨s4,t4,d5,e5,rfl,x0,h0,hb⟩
    clear s0
    obtain ⟨n0,p0,o0,q0,rfl,rfl⟩:=x0.shape
    clear x0
    obtain ⟨pT,qT,rfl⟩:=Oh h0
    replace b0:=btr b0 hb
    have iE:=hb.size
    replace x1:=Ob x1 hb
    replace u3:=Ob u3 hb
    replace m0:=Bk.below m0 hb
    replace r1:=Bk.below r1 hb
    clear hb
    have d6:=h0.lt
    clear x1 u3
    refine hK.out _ _ (j0.out _ b0) (fun hHeld=>?_)
    clear hK K
    try simp only [Ep]
    refine (tq 8 62 rfl rfl ?_ ?_ (tq 9 71 rfl rfl ?_ ?_ (tq 10 72 rfl rfl ?_ ?_ (tq 11 73 rfl rfl ?_ ?_ ?_))))
    iterate 4 (rotate_left;intro W' hSw;(try dsimp only at hSw);go_simp;try with_reducible rfl)
    try simp only [Ep]
    refine Rdy 13 rfl (fun K hK=>?_)
    obtain ⟨lB,sC,mB,tC⟩:=Bk.f2 m0 0 1 rfl rfl
    go_simp
    obtain ⟨u1,f0,hb⟩:=nmw (World.setCell (World.setCell n1 ⟨w5.heap.size,0,none⟩ (.slice n0 ((runM c m).vals.length) p0)) ⟨w5.heap.size,1,none⟩ (.slice o0 ((runM c m).arrs.length) q0))
    replace b0:=btr (bst (bst b0 (w5.heap.size) (0) (by omega) (.slice n0 ((runM c m).vals.length) p0)) (w5.heap.size) (1) (by omega) (.slice o0 ((runM c m).arrs.length) q0)) hb
    have e7:=hb.size
    simp only [Ss] at e7
    clear sC lB tC mB
    replace h0:=Ob (Oe (Oe h0 _ _ (fun h=>by have:=d6 _ h;omega) _) _ _ (fun h=>by have:=d6 _ h;omega) _) hb
    replace m0:Bk u1 (w5.heap.size) [.slice n0 ((runM c m).vals.length) p0,.slice o0 ((runM c m).arrs.length) q0]:=Bk.below (Bk.at (Bk.at m0 0 (.slice n0 ((runM c m).vals.length) p0)) 1 (.slice o0 ((runM c m).arrs.length) q0)) hb
    replace r1:=Bk.below (Bk.nn (Bk.nn r1 _) _) hb
    clear hb
    rw [← f0]
    clear f0
    refine hK.out _ _ (j0.out _ b0) (fun hHeld=>?_)
    clear hK K
    try simp only [Ep]
    refine (tq 14 11 rfl rfl ?_ ?_ (tq 15 12 rfl rfl ?_ ?_ ?_))
    iterate 2 (rotate_left;intro W' hSw;(try dsimp only at hSw);go_simp;try with_reducible rfl)
    try simp only [Ep]
    refine Dn ?_
    clear hHeld
    have q1:=Lib.hid (Ro h0 (by omega));have k0:=Lib.hid (And.intro (m4.out _ b0) (And.intro (n4.out _ b0) (q4.out _ b0)))
    clear b0 m0 r1 h0
    go_wp2_with fail
    go_meet
    exact ⟨_,_,rfl,rfl,q1.out,k0.out.1,k0.out.2.1,k0.out.2.2.1,k0.out.2.2.2⟩
   ·go_simp
    obtain ⟨w5,f0,hb⟩:=nmw (World.alloc wd (.cells #[.bool true,.bool true] 4))
    have g0:=Ob (World.ownsRow_lit (base:=(wd).heap.size) (e:=4) (size:=1) (wd) #[.bool true,.bool true] 2 (Nat.le_refl _) (by unfold maxLen;omega) (by simp)) hb
    try simp only [Sa,Ss] at g0
    replace b0:=btr (bal b0 _) hb
    have f7:=hb.size
    simp only [Sa] at f7
    have d0:Bk w5 (wd.heap.size) [.bool true,.bool true]:=Bk.below (Bk.nw (by simp) rfl) hb
    clear hb
    have k2:=g0.lt
    try simp only [Sa] at k2
    rw [← f0]
    clear f0
    have t1:=Bk.lz d0
    refine hK.out _ _ (j0.out _ b0) (fun hHeld=>?_)
    clear hK K
    try simp only [Ep]
    refine Rdy2 2 12 rfl rfl (fun K hK=>?_) (fun K hK=>?_)
    ·go_simp
     obtain ⟨w6,f0,hb⟩:=nmw (World.alloc w5 (.cells #[] 4))
     have r2:=Ob (World.ownsRow_lit (base:=(w5).heap.size) (e:=4) (size:=1) (w5) #[] 0 (Nat.le_refl _) (by unfold maxLen;omega) (by simp)) hb
     try simp only [Sa,Ss] at r2
     replace b0:=btr (bal b0 _) hb
     have g7:=hb.size
     simp only [Sa] at g7
     replace g0:=Ob (Ob g0 (bal (Bs _) _)) hb
     replace d0:=Bk.below (Bk.al d0 _) hb
     clear hb
     have m2:=r2.lt
     try simp only [Sa] at m2
     rw [← f0]
     clear f0
     replace t1:=Bk.lz d0
     refine hK.out _ _ (j0.out _ b0) (fun hHeld=>?_)
     clear hK K
     try simp only [Ep]
     refine Rdy2 4 12 rfl rfl (fun K hK=>?_) (fun K hK=>?_)
     ·refine step_aps tBools rfl _ _ rfl (w5.heap.size) _ 0 ([]) rfl r2 _ J (bools (List.replicate J false)) rfl ((p5.out _ b0)) (one_bools (List.replicate J false)) (by omega) (by first | omega | (simp only [Sa,Ss];omega)) ?_
      intro vA w7 v1 hc v0 _
      try simp only [Nat.zero_add,List.nil_append] at v1
      obtain ⟨q9,mA,rfl⟩:=Oh v1
      replace b0:=b0.trans (hc.below w4.heap.size (by have:=b0.size;omega) (fun gq hgq h=>by have:=m2 gq h;omega))
      have jE:=hc.size
      replace g0:=Ow g0 hc (fun gq h h2=>by have:=k2 gq h;have:=m2 gq h2;omega)
      replace d0:=Bk.keep d0 hc (fun h=>by have:=m2 _ h;omega)
      clear hc
      have yH:=v1.lt
      have h1:∀ q,(Value.slice q9 J mA).ownBlock=some q→(q=w5.heap.size∨w6.heap.size≤q)∧q < w7.heap.size:=fun q h=>⟨by rcases v0 with e1 | ⟨g1,e1,e2⟩;(rw [h] at e1;exact Or.inl (Option.some.inj e1));(rw [h] at e1;have:=Option.some.inj e1;exact Or.inr (by omega)),(v1.lt q h).2⟩
      clear v0 r2
      replace t1:=Bk.lz d0
      refine hK.out _ _ (j0.out _ b0) (fun hHeld=>?_)
      clear hK K
      try simp only [Ep]
      refine Rdy2 6 12 rfl rfl (fun K hK=>?_) (fun K hK=>?_)
      ·refine step_aps tBools rfl _ _ rfl (w5.heap.size) _ J (bools (List.replicate J false)) rfl v1 _ 2 (bools [true,true]) rfl ((Ro g0 (by simp))) (one_bools [true,true]) (by omega) (by first | omega | (simp only [Sa,Ss];omega)) ?_
       intro vA w8 k1 hc v0 _
       obtain ⟨p6,q6,rfl⟩:=Oh k1
       replace b0:=b0.trans (hc.below w4.heap.size (by have:=b0.size;omega) (fun gq hgq h=>by have:=h1 gq h;omega))
       have kE:=hc.size
       replace g0:=Ow g0 hc (fun gq h h2=>by have:=k2 gq h;have:=h1 gq h2;omega)
       replace d0:=Bk.keep d0 hc (fun h=>by have:=h1 _ h;omega)
       clear hc
       have zH:=k1.lt
       clear v0 v1
       replace t1:=Bk.lz d0
       refine hK.out _ _ (j0.out _ b0) (fun hHeld=>?_)
       clear hK K
       try simp only [Ep]
       refine Rdy2 7 12 rfl rfl (fun K hK=>?_) (fun K hK=>?_)
       ·go_simp
        have s0:=iSpecRun_any _ _ _ _ _ c m _ (l4.out _ b0) (o4.out _ b0) u0.1 u0.2.1 u0.2.2 p6 q6 ws (by have h9:=Ro k1 (by omega);rw [← p1.out,r4.out];simpa [bools] using h9)
        rw [p4.out,j4.out] at s0
        rw [p1.out]
        refine (s0).mono ?_
        rintro e w9 ⟨s4,t4,d5,e5,rfl,x0,h0,hb⟩
        clear s0
        obtain ⟨n0,p0,o0,q0,rfl,rfl⟩:=x0.shape
        clear x0
        obtain ⟨pT,qT,rfl⟩:=Oh h0
        replace b0:=btr b0 hb
        have lE:=hb.size
        replace g0:=Ob g0 hb
        replace k1:=Ob k1 hb
        replace d0:=Bk.below d0 hb
        clear hb
        have e6:=h0.lt
        clear g0 k1
        replace t1:=Bk.lz d0
        refine hK.out _ _ (j0.out _ b0) (fun hHeld=>?_)
        clear hK K
        try simp only [Ep]
        refine (tq 8 62 rfl rfl ?_ ?_ (tq 9 71 rfl rfl ?_ ?_ (tq 10 72 rfl rfl ?_ ?_ (tq 11 73 rfl rfl ?_ ?_ ?_))))
        iterate 4 (rotate_left;intro W' hSw;(try dsimp only at hSw);go_simp;try with_reducible rfl)
        try simp only [Ep]
        refine Rdy 12 rfl (fun K hK=>?_)
        go_simp
        obtain ⟨n1,f0,hb⟩:=nmw (World.alloc w9 (.cells #[.slice none 0 0,.slice none 0 0] 37))
        replace b0:=btr (bal b0 _) hb
        have h7:=hb.size
        simp only [Sa] at h7
        replace h0:=Ob (Ob h0 (bal (Bs _) _)) hb
        replace d0:=Bk.below (Bk.al d0 _) hb
        have v4:Bk n1 (w9.heap.size) [.slice none 0 0,.slice none 0 0]:=Bk.below (Bk.nw (by simp) rfl) hb
        clear hb
        rw [← f0]
        clear f0
        have pI:=Bk.lz v4
        refine hK.out _ _ (j0.out _ b0) (fun hHeld=>?_)
        clear hK K
        try simp only [Ep]
        refine Rdy 13 rfl (fun K hK=>?_)
        obtain ⟨nB,uC,oB,vC⟩:=Bk.f2 v4 0 1 rfl rfl
        go_simp
        obtain ⟨u1,f0,hb⟩:=nmw (World.setCell (World.setCell n1 ⟨w9.heap.size,0,none⟩ (.slice n0 ((runM c m).vals.length) p0)) ⟨w9.heap.size,1,none⟩ (.slice o0 ((runM c m).arrs.length) q0))
        replace b0:=btr (bst (bst b0 (w9.heap.size) (0) (by omega) (.slice n0 ((runM c m).vals.length) p0)) (w9.heap.size) (1) (by omega) (.slice o0 ((runM c m).arrs.length) q0)) hb
        have i7:=hb.size
        simp only [Ss] at i7
        clear uC nB vC oB
        replace h0:=Ob (Oe (Oe h0 _ _ (fun h=>by have:=e6 _ h;omega) _) _ _ (fun h=>by have:=e6 _ h;omega) _) hb
        replace d0:=Bk.below (Bk.nn (Bk.nn d0 _) _) hb
        replace v4:Bk u1 (w9.heap.size) [.slice n0 ((runM c m).vals.length) p0,.slice o0 ((runM c m).arrs.length) q0]:=Bk.below (Bk.at (Bk.at v4 0 (.slice n0 ((runM c m).vals.length) p0)) 1 (.slice o0 ((runM c m).arrs.length) q0)) hb
        clear hb
        rw [← f0]
        clear f0
        refine hK.out _ _ (j0.out _ b0) (fun hHeld=>?_)
        clear hK K
        try simp only [Ep]
        refine (tq 14 11 rfl rfl ?_ ?_ (tq 15 12 rfl rfl ?_ ?_ ?_))
        iterate 2 (rotate_left;intro W' hSw;(try dsimp only at hSw);go_simp;try with_reducible rfl)
        try simp only [Ep]
        refine Dn ?_
        clear hHeld
        have q1:=Lib.hid (Ro h0 (by omega));have k0:=Lib.hid (And.intro (m4.out _ b0) (And.intro (n4.out _ b0) (q4.out _ b0)))
        clear b0 d0 h0 v4
        go_wp2_with fail
        go_meet
        exact ⟨_,_,rfl,rfl,q1.out,k0.out.1,k0.out.2.1,k0.out.2.2.1,k0.out.2.2.2⟩
       go_simp
       obtain ⟨w9,f0,hb⟩:=nmw (World.alloc w8 (.cells #[.slice none 0 0,.slice none 0 0] 37))
       replace b0:=btr (bal b0 _) hb
       have j7:=hb.size
       simp only [Sa] at j7
       replace g0:=Ob (Ob g0 (bal (Bs _) _)) hb
       replace k1:=Ob (Ob k1 (bal (Bs _) _)) hb
       replace d0:=Bk.below (Bk.al d0 _) hb
       have l3:Bk w9 (w8.heap.size) [.slice none 0 0,.slice none 0 0]:=Bk.below (Bk.nw (by simp) rfl) hb
       clear hb
       rw [← f0]
       clear f0
       replace t1:=Bk.lz d0
       have qI:=Bk.lz l3
       refine hK.out _ _ (j0.out _ b0) (fun hHeld=>?_)
       clear hK K
       try simp only [Ep]
       refine Rdy 7 rfl (fun K hK=>?_)
       go_simp
       have s0:=iSpecRun_any _ _ _ _ _ c m _ (l4.out _ b0) (o4.out _ b0) u0.1 u0.2.1 u0.2.2 p6 q6 ws (by have h9:=Ro k1 (by omega);rw [← p1.out,r4.out];simpa [bools] using h9)
       rw [p4.out,j4.out] at s0
       rw [p1.out]
       refine (s0).mono ?_
       rintro e n1 ⟨s4,t4,d5,e5,rfl,x0,h0,hb⟩
       clear s0
       obtain ⟨n0,p0,o0,q0,rfl,rfl⟩:=x0.shape
       clear x0
       obtain ⟨pT,qT,rfl⟩:=Oh h0
       replace b0:=btr b0 hb
       have mE:=hb.size
       replace g0:=Ob g0 hb
       replace k1:=Ob k1 hb
       replace d0:=Bk.below d0 hb
       replace l3:=Bk.below l3 hb
       clear hb
       have f6:=h0.lt
       clear g0 k1
       refine hK.out _ _ (j0.out _ b0) (fun hHeld=>?_)
       clear hK K
       try simp only [Ep]
       refine (tq 8 62 rfl rfl ?_ ?_ (tq 9 71 rfl rfl ?_ ?_ (tq 10 72 rfl rfl ?_ ?_ (tq 11 73 rfl rfl ?_ ?_ ?_))))
       iterate 4 (rotate_left;intro W' hSw;(try dsimp only at hSw);go_simp;try with_reducible rfl)
       try simp only [Ep]
       refine Rdy 13 rfl (fun K hK=>?_)
       obtain ⟨pB,wC,qB,xC⟩:=Bk.f2 l3 0 1 rfl rfl
       go_simp
       obtain ⟨u1,f0,hb⟩:=nmw (World.setCell (World.setCell n1 ⟨w8.heap.size,0,none⟩ (.slice n0 ((runM c m).vals.length) p0)) ⟨w8.heap.size,1,none⟩ (.slice o0 ((runM c m).arrs.length) q0))
       replace b0:=btr (bst (bst b0 (w8.heap.size) (0) (by omega) (.slice n0 ((runM c m).vals.length) p0)) (w8.heap.size) (1) (by omega) (.slice o0 ((runM c m).arrs.length) q0)) hb
       have k7:=hb.size
       simp only [Ss] at k7
       clear wC pB xC qB
       replace h0:=Ob (Oe (Oe h0 _ _ (fun h=>by have:=f6 _ h;omega) _) _ _ (fun h=>by have:=f6 _ h;omega) _) hb
       replace d0:=Bk.below (Bk.nn (Bk.nn d0 _) _) hb
       replace l3:Bk u1 (w8.heap.size) [.slice n0 ((runM c m).vals.length) p0,.slice o0 ((runM c m).arrs.length) q0]:=Bk.below (Bk.at (Bk.at l3 0 (.slice n0 ((runM c m).vals.length) p0)) 1 (.slice o0 ((runM c m).arrs.length) q0)) hb
       clear hb
       rw [← f0]
       clear f0
       refine hK.out _ _ (j0.out _ b0) (fun hHeld=>?_)
       clear hK K
       try simp only [Ep]
       refine (tq 14 11 rfl rfl ?_ ?_ (tq 15 12 rfl rfl ?_ ?_ ?_))
       iterate 2 (rotate_left;intro W' hSw;(try dsimp only at hSw);go_simp;try with_reducible rfl)
       try simp only [Ep]
       refine Dn ?_
       clear hHeld
       have q1:=Lib.hid (Ro h0 (by omega));have k0:=Lib.hid (And.intro (m4.out _ b0) (And.intro (n4.out _ b0) (q4.out _ b0)))
       clear b0 d0 l3 h0
       go_wp2_with fail
       go_meet
       exact ⟨_,_,rfl,rfl,q1.out,k0.out.1,k0.out.2.1,k0.out.2.2.1,k0.out.2.2.2⟩
      go_simp
      obtain ⟨w8,f0,hb⟩:=nmw (World.alloc w7 (.cells #[.slice none 0 0,.slice none 0 0] 37))
      replace b0:=btr (bal b0 _) hb
      have l7:=hb.size
      simp only [Sa] at l7
      replace g0:=Ob (Ob g0 (bal (Bs _) _)) hb
      replace v1:=Ob (Ob v1 (bal (Bs _) _)) hb
      replace d0:=Bk.below (Bk.al d0 _) hb
      have g2:Bk w8 (w7.heap.size) [.slice none 0 0,.slice none 0 0]:=Bk.below (Bk.nw (by simp) rfl) hb
      clear hb
      rw [← f0]
      clear f0
      replace t1:=Bk.lz d0
      have rI:=Bk.lz g2
      refine hK.out _ _ (j0.out _ b0) (fun hHeld=>?_)
      clear hK K
      try simp only [Ep]
      refine Rdy 6 rfl (fun K hK=>?_)
      refine step_aps tBools rfl _ _ rfl (w5.heap.size) _ J (bools (List.replicate J false)) rfl v1 _ 2 (bools [true,true]) rfl ((Ro g0 (by simp))) (one_bools [true,true]) (by omega) (by first | omega | (simp only [Sa,Ss];omega)) ?_
      intro vA w9 v3 hc v0 _
      obtain ⟨r9,nA,rfl⟩:=Oh v3
      replace b0:=b0.trans (hc.below w4.heap.size (by have:=b0.size;omega) (fun gq hgq h=>by have:=h1 gq h;omega))
      have nE:=hc.size
      replace g0:=Ow g0 hc (fun gq h h2=>by have:=k2 gq h;have:=h1 gq h2;omega)
      replace d0:=Bk.keep d0 hc (fun h=>by have:=h1 _ h;omega)
      replace g2:=Bk.keep g2 hc (fun h=>by have:=h1 _ h;omega)
      clear hc
      have aI:=v3.lt
      clear v0 v1
      refine hK.out _ _ (j0.out _ b0) (fun hHeld=>?_)
      clear hK K
      try simp only [Ep]
      refine Rdy 7 rfl (fun K hK=>?_)
      go_simp
      have s0:=iSpecRun_any _ _ _ _ _ c m _ (l4.out _ b0) (o4.out _ b0) u0.1 u0.2.1 u0.2.2 r9 nA ws (by have h9:=Ro v3 (by omega);rw [← p1.out,r4.out];simpa [bools] using h9)
      rw [p4.out,j4.out] at s0
      rw [p1.out]
      refine (s0).mono ?_
      rintro e n1 ⟨s4,t4,d5,e5,rfl,x0,h0,hb⟩
      clear s0
      obtain ⟨n0,p0,o0,q0,rfl,rfl⟩:=x0.shape
      clear x0
      obtain ⟨pT,qT,rfl⟩:=Oh h0
      replace b0:=btr b0 hb
      have pE:=hb.size
      replace g0:=Ob g0 hb
      replace v3:=Ob v3 hb
      replace d0:=Bk.below d0 hb
      replace g2:=Bk.below g2 hb
      clear hb
      have g6:=h0.lt
      clear g0 v3
      refine hK.out _ _ (j0.out _ b0) (fun hHeld=>?_)
      clear hK K
      try simp only [Ep]
      refine (tq 8 62 rfl rfl ?_ ?_ (tq 9 71 rfl rfl ?_ ?_ (tq 10 72 rfl rfl ?_ ?_ (tq 11 73 rfl rfl ?_ ?_ ?_))))
      iterate 4 (rotate_left;intro W' hSw;(try dsimp only at hSw);go_simp;try with_reducible rfl)
      try simp only [Ep]
      refine Rdy 13 rfl (fun K hK=>?_)
      obtain ⟨rB,yC,sB,zC⟩:=Bk.f2 g2 0 1 rfl rfl
      go_simp
      obtain ⟨u1,f0,hb⟩:=nmw (World.setCell (World.setCell n1 ⟨w7.heap.size,0,none⟩ (.slice n0 ((runM c m).vals.length) p0)) ⟨w7.heap.size,1,none⟩ (.slice o0 ((runM c m).arrs.length) q0))
      replace b0:=btr (bst (bst b0 (w7.heap.size) (0) (by omega) (.slice n0 ((runM c m).vals.length) p0)) (w7.heap.size) (1) (by omega) (.slice o0 ((runM c m).arrs.length) q0)) hb
      have m7:=hb.size
      simp only [Ss] at m7
      clear yC rB zC sB
      replace h0:=Ob (Oe (Oe h0 _ _ (fun h=>by have:=g6 _ h;omega) _) _ _ (fun h=>by have:=g6 _ h;omega) _) hb
      replace d0:=Bk.below (Bk.nn (Bk.nn d0 _) _) hb
      replace g2:Bk u1 (w7.heap.size) [.slice n0 ((runM c m).vals.length) p0,.slice o0 ((runM c m).arrs.length) q0]:=Bk.below (Bk.at (Bk.at g2 0 (.slice n0 ((runM c m).vals.length) p0)) 1 (.slice o0 ((runM c m).arrs.length) q0)) hb
      clear hb
      rw [← f0]
      clear f0
      refine hK.out _ _ (j0.out _ b0) (fun hHeld=>?_)
      clear hK K
      try simp only [Ep]
      refine (tq 14 11 rfl rfl ?_ ?_ (tq 15 12 rfl rfl ?_ ?_ ?_))
      iterate 2 (rotate_left;intro W' hSw;(try dsimp only at hSw);go_simp;try with_reducible rfl)
      try simp only [Ep]
      refine Dn ?_
      clear hHeld
      have q1:=Lib.hid (Ro h0 (by omega));have k0:=Lib.hid (And.intro (m4.out _ b0) (And.intro (n4.out _ b0) (q4.out _ b0)))
      clear b0 d0 g2 h0
      go_wp2_with fail
      go_meet
      exact ⟨_,_,rfl,rfl,q1.out,k0.out.1,k0.out.2.1,k0.out.2.2.1,k0.out.2.2.2⟩
     go_simp
     obtain ⟨w7,f0,hb⟩:=nmw (World.alloc w6 (.cells #[.slice none 0 0,.slice none 0 0] 37))
     replace b0:=btr (bal b0 _) hb
     have n7:=hb.size
     simp only [Sa] at n7
     replace g0:=Ob (Ob g0 (bal (Bs _) _)) hb
     replace r2:=Ob (Ob r2 (bal (Bs _) _)) hb
     replace d0:=Bk.below (Bk.al d0 _) hb
     have j1:Bk w7 (w6.heap.size) [.slice none 0 0,.slice none 0 0]:=Bk.below (Bk.nw (by simp) rfl) hb
     clear hb
     rw [← f0]
     clear f0
     replace t1:=Bk.lz d0
     have e9:=Bk.lz j1
     refine hK.out _ _ (j0.out _ b0) (fun hHeld=>?_)
     clear hK K
     try simp only [Ep]
     refine Rdy 4 rfl (fun K hK=>?_)
     refine step_aps tBools rfl _ _ rfl (w5.heap.size) _ 0 ([]) rfl r2 _ J (bools (List.replicate J false)) rfl ((p5.out _ b0)) (one_bools (List.replicate J false)) (by omega) (by first | omega | (simp only [Sa,Ss];omega)) ?_
     intro vA w8 x3 hc v0 _
     try simp only [Nat.zero_add,List.nil_append] at x3
     obtain ⟨s9,oA,rfl⟩:=Oh x3
     replace b0:=b0.trans (hc.below w4.heap.size (by have:=b0.size;omega) (fun gq hgq h=>by have:=m2 gq h;omega))
     have qE:=hc.size
     replace g0:=Ow g0 hc (fun gq h h2=>by have:=k2 gq h;have:=m2 gq h2;omega)
     replace d0:=Bk.keep d0 hc (fun h=>by have:=m2 _ h;omega)
     replace j1:=Bk.keep j1 hc (fun h=>by have:=m2 _ h;omega)
     clear hc
     have bI:=x3.lt
     have d3:∀ q,(Value.slice s9 J oA).ownBlock=some q→(q=w5.heap.size∨w7.heap.size≤q)∧q < w8.heap.size:=fun q h=>⟨by rcases v0 with e1 | ⟨g1,e1,e2⟩;(rw [h] at e1;exact Or.inl (Option.some.inj e1));(rw [h] at e1;have:=Option.some.inj e1;exact Or.inr (by omega)),(x3.lt q h).2⟩
     clear v0 r2
     replace t1:=Bk.lz d0
     replace e9:=Bk.lz j1
     refine hK.out _ _ (j0.out _ b0) (fun hHeld=>?_)
     clear hK K
     try simp only [Ep]
     refine Rdy 6 rfl (fun K hK=>?_)
     refine step_aps tBools rfl _ _ rfl (w5.heap.size) _ J (bools (List.replicate J false)) rfl x3 _ 2 (bools [true,true]) rfl ((Ro g0 (by simp))) (one_bools [true,true]) (by omega) (by first | omega | (simp only [Sa,Ss];omega)) ?_
     intro vA w9 y3 hc v0 _
     obtain ⟨t9,pA,rfl⟩:=Oh y3
     replace b0:=b0.trans (hc.below w4.heap.size (by have:=b0.size;omega) (fun gq hgq h=>by have:=d3 gq h;omega))
     have rE:=hc.size
     replace g0:=Ow g0 hc (fun gq h h2=>by have:=k2 gq h;have:=d3 gq h2;omega)
     replace d0:=Bk.keep d0 hc (fun h=>by have:=d3 _ h;omega)
     replace j1:=Bk.keep j1 hc (fun h=>by have:=d3 _ h;omega)
     clear hc
     have cI:=y3.lt
     clear v0 x3
     refine hK.out _ _ (j0.out _ b0) (fun hHeld=>?_)
     clear hK K
     try simp only [Ep]
     refine Rdy 7 rfl (fun K hK=>?_)
     go_simp
     have s0:=iSpecRun_any _ _ _ _ _ c m _ (l4.out _ b0) (o4.out _ b0) u0.1 u0.2.1 u0.2.2 t9 pA ws (by have h9:=Ro y3 (by omega);rw [← p1.out,r4.out];simpa [bools] using h9)
     rw [p4.out,j4.out] at s0
     rw [p1.out]
     refine (s0).mono ?_
     rintro e n1 ⟨s4,t4,d5,e5,rfl,x0,h0,hb⟩
     clear s0
     obtain ⟨n0,p0,o0,q0,rfl,rfl⟩:=x0.shape
     clear x0
     obtain ⟨pT,qT,rfl⟩:=Oh h0
     replace b0:=btr b0 hb
     have sE:=hb.size
     replace g0:=Ob g0 hb
     replace y3:=Ob y3 hb
     replace d0:=Bk.below d0 hb
     replace j1:=Bk.below j1 hb
     clear hb
     have h6:=h0.lt
     clear g0 y3
     refine hK.out _ _ (j0.out _ b0) (fun hHeld=>?_)
     clear hK K
     try simp only [Ep]
     refine (tq 8 62 rfl rfl ?_ ?_ (tq 9 71 rfl rfl ?_ ?_ (tq 10 72 rfl rfl ?_ ?_ (tq 11 73 rfl rfl ?_ ?_ ?_))))
     iterate 4 (rotate_left;intro W' hSw;(try dsimp only at hSw);go_simp;try with_reducible rfl)
     try simp only [Ep]
     refine Rdy 13 rfl (fun K hK=>?_)
     obtain ⟨tB,aD,uB,bD⟩:=Bk.f2 j1 0 1 rfl rfl
     go_simp
     obtain ⟨u1,f0,hb⟩:=nmw (World.setCell (World.setCell n1 ⟨w6.heap.size,0,none⟩ (.slice n0 ((runM c m).vals.length) p0)) ⟨w6.heap.size,1,none⟩ (.slice o0 ((runM c m).arrs.length) q0))
     replace b0:=btr (bst (bst b0 (w6.heap.size) (0) (by omega) (.slice n0 ((runM c m).vals.length) p0)) (w6.heap.size) (1) (by omega) (.slice o0 ((runM c m).arrs.length) q0)) hb
     have o7:=hb.size
     simp only [Ss] at o7
     clear aD tB bD uB
     replace h0:=Ob (Oe (Oe h0 _ _ (fun h=>by have:=h6 _ h;omega) _) _ _ (fun h=>by have:=h6 _ h;omega) _) hb
     replace d0:=Bk.below (Bk.nn (Bk.nn d0 _) _) hb
     replace j1:Bk u1 (w6.heap.size) [.slice n0 ((runM c m).vals.length) p0,.slice o0 ((runM c m).arrs.length) q0]:=Bk.below (Bk.at (Bk.at j1 0 (.slice n0 ((runM c m).vals.length) p0)) 1 (.slice o0 ((runM c m).arrs.length) q0)) hb
     clear hb
     rw [← f0]
     clear f0
     refine hK.out _ _ (j0.out _ b0) (fun hHeld=>?_)
     clear hK K
     try simp only [Ep]
     refine (tq 14 11 rfl rfl ?_ ?_ (tq 15 12 rfl rfl ?_ ?_ ?_))
     iterate 2 (rotate_left;intro W' hSw;(try dsimp only at hSw);go_simp;try with_reducible rfl)
     try simp only [Ep]
     refine Dn ?_
     clear hHeld
     have q1:=Lib.hid (Ro h0 (by omega));have k0:=Lib.hid (And.intro (m4.out _ b0) (And.intro (n4.out _ b0) (q4.out _ b0)))
     clear b0 d0 j1 h0
     go_wp2_with fail
     go_meet
     exact ⟨_,_,rfl,rfl,q1.out,k0.out.1,k0.out.2.1,k0.out.2.2.1,k0.out.2.2.2⟩
    go_simp
    obtain ⟨w6,f0,hb⟩:=nmw (World.alloc w5 (.cells #[.slice none 0 0,.slice none 0 0] 37))
    replace b0:=btr (bal b0 _) hb
    have p7:=hb.size
    simp only [Sa] at p7
    replace g0:=Ob (Ob g0 (bal (Bs _) _)) hb
    replace d0:=Bk.below (Bk.al d0 _) hb
    have z0:Bk w6 (w5.heap.size) [.slice none 0 0,.slice none 0 0]:=Bk.below (Bk.nw (by simp) rfl) hb
    clear hb
    rw [← f0]
    clear f0
    replace t1:=Bk.lz d0
    have n6:=Bk.lz z0
    refine hK.out _ _ (j0.out _ b0) (fun hHeld=>?_)
    clear hK K
    try simp only [Ep]
    refine Rdy 2 rfl (fun K hK=>?_)
    go_simp
    obtain ⟨w7,f0,hb⟩:=nmw (World.alloc w6 (.cells #[] 4))
    have j5:=Ob (World.ownsRow_lit (base:=(w6).heap.size) (e:=4) (size:=1) (w6) #[] 0 (Nat.le_refl _) (by unfold maxLen;omega) (by simp)) hb
    try simp only [Sa,Ss] at j5
    replace b0:=btr (bal b0 _) hb
    have q7:=hb.size
    simp only [Sa] at q7
    replace g0:=Ob (Ob g0 (bal (Bs _) _)) hb
    replace d0:=Bk.below (Bk.al d0 _) hb
    replace z0:=Bk.below (Bk.al z0 _) hb
    clear hb
    have z4:=j5.lt
    try simp only [Sa] at z4
    rw [← f0]
    clear f0
    replace t1:=Bk.lz d0
    replace n6:=Bk.lz z0
    refine hK.out _ _ (j0.out _ b0) (fun hHeld=>?_)
    clear hK K
    try simp only [Ep]
    refine Rdy 4 rfl (fun K hK=>?_)
    refine step_aps tBools rfl _ _ rfl (w6.heap.size) _ 0 ([]) rfl j5 _ J (bools (List.replicate J false)) rfl ((p5.out _ b0)) (one_bools (List.replicate J false)) (by omega) (by first | omega | (simp only [Sa,Ss];omega)) ?_
    intro vA w8 z3 hc v0 _
    try simp only [Nat.zero_add,List.nil_append] at z3
    obtain ⟨u9,qA,rfl⟩:=Oh z3
    replace b0:=b0.trans (hc.below w4.heap.size (by have:=b0.size;omega) (fun gq hgq h=>by have:=z4 gq h;omega))
    have tE:=hc.size
    replace g0:=Ow g0 hc (fun gq h h2=>by have:=k2 gq h;have:=z4 gq h2;omega)
    replace d0:=Bk.keep d0 hc (fun h=>by have:=z4 _ h;omega)
    replace z0:=Bk.keep z0 hc (fun h=>by have:=z4 _ h;omega)
    clear hc
    have dI:=z3.lt
    have e3:∀ q,(Value.slice u9 J qA).ownBlock=some q→(q=w6.heap.size∨w7.heap.size≤q)∧q < w8.heap.size:=fun q h=>⟨by rcases v0 with e1 | ⟨g1,e1,e2⟩;(rw [h] at e1;exact Or.inl (Option.some.inj e1));(rw [h] at e1;have:=Option.some.inj e1;exact Or.inr (by omega)),(z3.lt q h).2⟩
    clear v0 j5
    replace t1:=Bk.lz d0
    replace n6:=Bk.lz z0
    refine hK.out _ _ (j0.out _ b0) (fun hHeld=>?_)
    clear hK K
    try simp only [Ep]
    refine Rdy 6 rfl (fun K hK=>?_)
    refine step_aps tBools rfl _ _ rfl (w6.heap.size) _ J (bools (List.replicate J false)) rfl z3 _ 2 (bools [true,true]) rfl ((Ro g0 (by simp))) (one_bools [true,true]) (by omega) (by first | omega | (simp only [Sa,Ss];omega)) ?_
    intro vA w9 b4 hc v0 _
    obtain ⟨v9,rA,rfl⟩:=Oh b4
    replace b0:=b0.trans (hc.below w4.heap.size (by have:=b0.size;omega) (fun gq hgq h=>by have:=e3 gq h;omega))
    have uE:=hc.size
    replace g0:=Ow g0 hc (fun gq h h2=>by have:=k2 gq h;have:=e3 gq h2;omega)
    replace d0:=Bk.keep d0 hc (fun h=>by have:=e3 _ h;omega)
    replace z0:=Bk.keep z0 hc (fun h=>by have:=e3 _ h;omega)
    clear hc
    have eI:=b4.lt
    clear v0 z3
    refine hK.out _ _ (j0.out _ b0) (fun hHeld=>?_)
    clear hK K
    try simp only [Ep]
    refine Rdy 7 rfl (fun K hK=>?_)
    go_simp
    have s0:=iSpecRun_any _ _ _ _ _ c m _ (l4.out _ b0) (o4.out _ b0) u0.1 u0.2.1 u0.2.2 v9 rA ws (by have h9:=Ro b4 (by omega);rw [← p1.out,r4.out];simpa [bools] using h9)
    rw [p4.out,j4.out] at s0
    rw [p1.out]
    refine (s0).mono ?_
    rintro e n1 ⟨s4,t4,d5,e5,rfl,x0,h0,hb⟩
    clear s0
    obtain ⟨n0,p0,o0,q0,rfl,rfl⟩:=x0.shape
    clear x0
    obtain ⟨pT,qT,rfl⟩:=Oh h0
    replace b0:=btr b0 hb
    have vE:=hb.size
    replace g0:=Ob g0 hb
    replace b4:=Ob b4 hb
    replace d0:=Bk.below d0 hb
    replace z0:=Bk.below z0 hb
    clear hb
    have i6:=h0.lt
    clear g0 b4
    refine hK.out _ _ (j0.out _ b0) (fun hHeld=>?_)
    clear hK K
    try simp only [Ep]
    refine (tq 8 62 rfl rfl ?_ ?_ (tq 9 71 rfl rfl ?_ ?_ (tq 10 72 rfl rfl ?_ ?_ (tq 11 73 rfl rfl ?_ ?_ ?_))))
    iterate 4 (rotate_left;intro W' hSw;(try dsimp only at hSw);go_simp;try with_reducible rfl)
    try simp only [Ep]
    refine Rdy 13 rfl (fun K hK=>?_)
    obtain ⟨vB,cD,wB,dD⟩:=Bk.f2 z0 0 1 rfl rfl
    go_simp
    obtain ⟨u1,f0,hb⟩:=nmw (World.setCell (World.setCell n1 ⟨w5.heap.size,0,none⟩ (.slice n0 ((runM c m).vals.length) p0)) ⟨w5.heap.size,1,none⟩ (.slice o0 ((runM c m).arrs.length) q0))
    replace b0:=btr (bst (bst b0 (w5.heap.size) (0) (by omega) (.slice n0 ((runM c m).vals.length) p0)) (w5.heap.size) (1) (by omega) (.slice o0 ((runM c m).arrs.length) q0)) hb
    have r7:=hb.size
    simp only [Ss] at r7
    clear cD vB dD wB
    replace h0:=Ob (Oe (Oe h0 _ _ (fun h=>by have:=i6 _ h;omega) _) _ _ (fun h=>by have:=i6 _ h;omega) _) hb
    replace d0:=Bk.below (Bk.nn (Bk.nn d0 _) _) hb
    replace z0:Bk u1 (w5.heap.size) [.slice n0 ((runM c m).vals.length) p0,.slice o0 ((runM c m).arrs.length) q0]:=Bk.below (Bk.at (Bk.at z0 0 (.slice n0 ((runM c m).vals.length) p0)) 1 (.slice o0 ((runM c m).arrs.length) q0)) hb
    clear hb
    rw [← f0]
    clear f0
    refine hK.out _ _ (j0.out _ b0) (fun hHeld=>?_)
    clear hK K
    try simp only [Ep]
    refine (tq 14 11 rfl rfl ?_ ?_ (tq 15 12 rfl rfl ?_ ?_ ?_))
    iterate 2 (rotate_left;intro W' hSw;(try dsimp only at hSw);go_simp;try with_reducible rfl)
    try simp only [Ep]
    refine Dn ?_
    clear hHeld
    have q1:=Lib.hid (Ro h0 (by omega));have k0:=Lib.hid (And.intro (m4.out _ b0) (And.intro (n4.out _ b0) (q4.out _ b0)))
    clear b0 d0 z0 h0
    go_wp2_with fail
    go_meet
    exact ⟨_,_,rfl,rfl,q1.out,k0.out.1,k0.out.2.1,k0.out.2.2.1,k0.out.2.2.2⟩
   go_simp
   obtain ⟨w5,f0,hb⟩:=nmw (World.alloc wd (.cells #[.slice none 0 0,.slice none 0 0] 37))
   replace b0:=btr (bal b0 _) hb
   have s7:=hb.size
   simp only [Sa] at s7
   have e0:Bk w5 (wd.heap.size) [.slice none 0 0,.slice none 0 0]:=Bk.below (Bk.nw (by simp) rfl) hb
   clear hb
   rw [← f0]
   clear f0
   have n2:=Bk.lz e0
   refine hK.out _ _ (j0.out _ b0) (fun hHeld=>?_)
   clear hK K
   try simp only [Ep]
   refine Rdy2 2 5 rfl rfl (fun K hK=>?_) (fun K hK=>?_)
   ·go_simp
    obtain ⟨w6,f0,hb⟩:=nmw (World.alloc w5 (.cells #[] 4))
    have s2:=Ob (World.ownsRow_lit (base:=(w5).heap.size) (e:=4) (size:=1) (w5) #[] 0 (Nat.le_refl _) (by unfold maxLen;omega) (by simp)) hb
    try simp only [Sa,Ss] at s2
    replace b0:=btr (bal b0 _) hb
    have t7:=hb.size
    simp only [Sa] at t7
    replace e0:=Bk.below (Bk.al e0 _) hb
    clear hb
    have m3:=s2.lt
    try simp only [Sa] at m3
    rw [← f0]
    clear f0
    replace n2:=Bk.lz e0
    refine hK.out _ _ (j0.out _ b0) (fun hHeld=>?_)
    clear hK K
    try simp only [Ep]
    refine Rdy2 4 5 rfl rfl (fun K hK=>?_) (fun K hK=>?_)
    ·refine step_aps tBools rfl _ _ rfl (w5.heap.size) _ 0 ([]) rfl s2 _ J (bools (List.replicate J false)) rfl ((p5.out _ b0)) (one_bools (List.replicate J false)) (by omega) (by first | omega | (simp only [Sa,Ss];omega)) ?_
     intro vA w7 p2 hc v0 _
     try simp only [Nat.zero_add,List.nil_append] at p2
     obtain ⟨x9,sA,rfl⟩:=Oh p2
     replace b0:=b0.trans (hc.below w4.heap.size (by have:=b0.size;omega) (fun gq hgq h=>by have:=m3 gq h;omega))
     have wE:=hc.size
     replace e0:=Bk.keep e0 hc (fun h=>by have:=m3 _ h;omega)
     clear hc
     have fI:=p2.lt
     have g3:∀ q,(Value.slice x9 J sA).ownBlock=some q→(q=w5.heap.size∨w6.heap.size≤q)∧q < w7.heap.size:=fun q h=>⟨by rcases v0 with e1 | ⟨g1,e1,e2⟩;(rw [h] at e1;exact Or.inl (Option.some.inj e1));(rw [h] at e1;have:=Option.some.inj e1;exact Or.inr (by omega)),(p2.lt q h).2⟩
     clear v0 s2
     replace n2:=Bk.lz e0
     refine hK.out _ _ (j0.out _ b0) (fun hHeld=>?_)
     clear hK K
     try simp only [Ep]
     refine Rdy 5 rfl (fun K hK=>?_)
     go_simp
     obtain ⟨w8,f0,hb⟩:=nmw (World.alloc w7 (.cells #[.bool true,.bool true] 4))
     have t2:=Ob (World.ownsRow_lit (base:=(w7).heap.size) (e:=4) (size:=1) (w7) #[.bool true,.bool true] 2 (Nat.le_refl _) (by unfold maxLen;omega) (by simp)) hb
     try simp only [Sa,Ss] at t2
     replace b0:=btr (bal b0 _) hb
     have u7:=hb.size
     simp only [Sa] at u7
     replace p2:=Ob (Ob p2 (bal (Bs _) _)) hb
     replace e0:=Bk.below (Bk.al e0 _) hb
     have j2:Bk w8 (w7.heap.size) [.bool true,.bool true]:=Bk.below (Bk.nw (by simp) rfl) hb
     clear hb
     have j6:=t2.lt
     try simp only [Sa] at j6
     rw [← f0]
     clear f0
     replace n2:=Bk.lz e0
     have sI:=Bk.lz j2
     refine hK.out _ _ (j0.out _ b0) (fun hHeld=>?_)
     clear hK K
     try simp only [Ep]
     refine Rdy 6 rfl (fun K hK=>?_)
     refine step_aps tBools rfl _ _ rfl (w5.heap.size) _ J (bools (List.replicate J false)) rfl p2 _ 2 (bools [true,true]) rfl ((Ro t2 (by simp))) (one_bools [true,true]) (by omega) (by first | omega | (simp only [Sa,Ss];omega)) ?_
     intro vA w9 d4 hc v0 _
     obtain ⟨y9,tA,rfl⟩:=Oh d4
     replace b0:=b0.trans (hc.below w4.heap.size (by have:=b0.size;omega) (fun gq hgq h=>by have:=g3 gq h;omega))
     have xE:=hc.size
     replace t2:=Ow t2 hc (fun gq h h2=>by have:=j6 gq h;have:=g3 gq h2;omega)
     replace e0:=Bk.keep e0 hc (fun h=>by have:=g3 _ h;omega)
     replace j2:=Bk.keep j2 hc (fun h=>by have:=g3 _ h;omega)
     clear hc
     have gI:=d4.lt
     clear v0 p2
     refine hK.out _ _ (j0.out _ b0) (fun hHeld=>?_)
     clear hK K
     try simp only [Ep]
     refine Rdy 7 rfl (fun K hK=>?_)
     go_simp
     have s0:=iSpecRun_any _ _ _ _ _ c m _ (l4.out _ b0) (o4.out _ b0) u0.1 u0.2.1 u0.2.2 y9 tA ws (by have h9:=Ro d4 (by omega);rw [← p1.out,r4.out];simpa [bools] using h9)
     rw [p4.out,j4.out] at s0
     rw [p1.out]
     refine (s0).mono ?_
     rintro e n1 ⟨s4,t4,d5,e5,rfl,x0,h0,hb⟩
     clear s0
     obtain ⟨n0,p0,o0,q0,rfl,rfl⟩:=x0.shape
     clear x0
     obtain ⟨pT,qT,rfl⟩:=Oh h0
     replace b0:=btr b0 hb
     have yE:=hb.size
     replace t2:=Ob t2 hb
     replace d4:=Ob d4 hb
     replace e0:=Bk.below e0 hb
     replace j2:=Bk.below j2 hb
     clear hb
     have k6:=h0.lt
     clear t2 d4
     refine hK.out _ _ (j0.out _ b0) (fun hHeld=>?_)
     clear hK K
     try simp only [Ep]
     refine (tq 8 62 rfl rfl ?_ ?_ (tq 9 71 rfl rfl ?_ ?_ (tq 10 72 rfl rfl ?_ ?_ (tq 11 73 rfl rfl ?_ ?_ ?_))))
     iterate 4 (rotate_left;intro W' hSw;(try dsimp only at hSw);go_simp;try with_reducible rfl)
     try simp only [Ep]
     refine Rdy 13 rfl (fun K hK=>?_)
     obtain ⟨xB,eD,yB,fD⟩:=Bk.f2 e0 0 1 rfl rfl
     go_simp
     obtain ⟨u1,f0,hb⟩:=nmw (World.setCell (World.setCell n1 ⟨wd.heap.size,0,none⟩ (.slice n0 ((runM c m).vals.length) p0)) ⟨wd.heap.size,1,none⟩ (.slice o0 ((runM c m).arrs.length) q0))
     replace b0:=btr (bst (bst b0 (wd.heap.size) (0) (by omega) (.slice n0 ((runM c m).vals.length) p0)) (wd.heap.size) (1) (by omega) (.slice o0 ((runM c m).arrs.length) q0)) hb
     have v7:=hb.size
     simp only [Ss] at v7
     clear eD xB fD yB
     replace h0:=Ob (Oe (Oe h0 _ _ (fun h=>by have:=k6 _ h;omega) _) _ _ (fun h=>by have:=k6 _ h;omega) _) hb
     replace e0:Bk u1 (wd.heap.size) [.slice n0 ((runM c m).vals.length) p0,.slice o0 ((runM c m).arrs.length) q0]:=Bk.below (Bk.at (Bk.at e0 0 (.slice n0 ((runM c m).vals.length) p0)) 1 (.slice o0 ((runM c m).arrs.length) q0)) hb
     replace j2:=Bk.below (Bk.nn (Bk.nn j2 _) _) hb
     clear hb
     rw [← f0]
     clear f0
     refine hK.out _ _ (j0.out _ b0) (fun hHeld=>?_)
     clear hK K
     try simp only [Ep]
     refine (tq 14 11 rfl rfl ?_ ?_ (tq 15 12 rfl rfl ?_ ?_ ?_))
     iterate 2 (rotate_left;intro W' hSw;(try dsimp only at hSw);go_simp;try with_reducible rfl)
     try simp only [Ep]
     refine Dn ?_
     clear hHeld
     have q1:=Lib.hid (Ro h0 (by omega));have k0:=Lib.hid (And.intro (m4.out _ b0) (And.intro (n4.out _ b0) (q4.out _ b0)))
     clear b0 e0 j2 h0
     go_wp2_with fail
     go_meet
     exact ⟨_,_,rfl,rfl,q1.out,k0.out.1,k0.out.2.1,k0.out.2.2.1,k0.out.2.2.2⟩
    go_simp
    obtain ⟨w7,f0,hb⟩:=nmw (World.alloc w6 (.cells #[.bool true,.bool true] 4))
    have y1:=Ob (World.ownsRow_lit (base:=(w6).heap.size) (e:=4) (size:=1) (w6) #[.bool true,.bool true] 2 (Nat.le_refl _) (by unfold maxLen;omega) (by simp)) hb
    try simp only [Sa,Ss] at y1
    replace b0:=btr (bal b0 _) hb
    have x7:=hb.size
    simp only [Sa] at x7
    replace s2:=Ob (Ob s2 (bal (Bs _) _)) hb
    replace e0:=Bk.below (Bk.al e0 _) hb
    have s1:Bk w7 (w6.heap.size) [.bool true,.bool true]:=Bk.below (Bk.nw (by simp) rfl) hb
    clear hb
    have s5:=y1.lt
    try simp only [Sa] at s5
    rw [← f0]
    clear f0
    replace n2:=Bk.lz e0
    have f9:=Bk.lz s1
    refine hK.out _ _ (j0.out _ b0) (fun hHeld=>?_)
    clear hK K
    try simp only [Ep]
    refine Rdy 4 rfl (fun K hK=>?_)
    refine step_aps tBools rfl _ _ rfl (w5.heap.size) _ 0 ([]) rfl s2 _ J (bools (List.replicate J false)) rfl ((p5.out _ b0)) (one_bools (List.replicate J false)) (by omega) (by first | omega | (simp only [Sa,Ss];omega)) ?_
    intro vA w8 e4 hc v0 _
    try simp only [Nat.zero_add,List.nil_append] at e4
    obtain ⟨z9,uA,rfl⟩:=Oh e4
    replace b0:=b0.trans (hc.below w4.heap.size (by have:=b0.size;omega) (fun gq hgq h=>by have:=m3 gq h;omega))
    have aF:=hc.size
    replace y1:=Ow y1 hc (fun gq h h2=>by have:=s5 gq h;have:=m3 gq h2;omega)
    replace e0:=Bk.keep e0 hc (fun h=>by have:=m3 _ h;omega)
    replace s1:=Bk.keep s1 hc (fun h=>by have:=m3 _ h;omega)
    clear hc
    have hI:=e4.lt
    have i3:∀ q,(Value.slice z9 J uA).ownBlock=some q→(q=w5.heap.size∨w7.heap.size≤q)∧q < w8.heap.size:=fun q h=>⟨by rcases v0 with e1 | ⟨g1,e1,e2⟩;(rw [h] at e1;exact Or.inl (Option.some.inj e1));(rw [h] at e1;have:=Option.some.inj e1;exact Or.inr (by omega)),(e4.lt q h).2⟩
    clear v0 s2
    replace n2:=Bk.lz e0
    replace f9:=Bk.lz s1
    refine hK.out _ _ (j0.out _ b0) (fun hHeld=>?_)
    clear hK K
    try simp only [Ep]
    refine Rdy 6 rfl (fun K hK=>?_)
    refine step_aps tBools rfl _ _ rfl (w5.heap.size) _ J (bools (List.replicate J false)) rfl e4 _ 2 (bools [true,true]) rfl ((Ro y1 (by simp))) (one_bools [true,true]) (by omega) (by first | omega | (simp only [Sa,Ss];omega)) ?_
    intro vA w9 f4 hc v0 _
    obtain ⟨aA,wA,rfl⟩:=Oh f4
    replace b0:=b0.trans (hc.below w4.heap.size (by have:=b0.size;omega) (fun gq hgq h=>by have:=i3 gq h;omega))
    have bF:=hc.size
    replace y1:=Ow y1 hc (fun gq h h2=>by have:=s5 gq h;have:=i3 gq h2;omega)
    replace e0:=Bk.keep e0 hc (fun h=>by have:=i3 _ h;omega)
    replace s1:=Bk.keep s1 hc (fun h=>by have:=i3 _ h;omega)
    clear hc
    have iI:=f4.lt
    clear v0 e4
    refine hK.out _ _ (j0.out _ b0) (fun hHeld=>?_)
    clear hK K
    try simp only [Ep]
    refine Rdy 7 rfl (fun K hK=>?_)
    go_simp
    have s0:=iSpecRun_any _ _ _ _ _ c m _ (l4.out _ b0) (o4.out _ b0) u0.1 u0.2.1 u0.2.2 aA wA ws (by have h9:=Ro f4 (by omega);rw [← p1.out,r4.out];simpa [bools] using h9)
    rw [p4.out,j4.out] at s0
    rw [p1.out]
    refine (s0).mono ?_
    rintro e n1 ⟨s4,t4,d5,e5,rfl,x0,h0,hb⟩
    clear s0
    obtain ⟨n0,p0,o0,q0,rfl,rfl⟩:=x0.shape
    clear x0
    obtain ⟨pT,qT,rfl⟩:=Oh h0
    replace b0:=btr b0 hb
    have cF:=hb.size
    replace y1:=Ob y1 hb
    replace f4:=Ob f4 hb
    replace e0:=Bk.below e0 hb
    replace s1:=Bk.below s1 hb
    clear hb
    have l6:=h0.lt
    clear y1 f4
    refine hK.out _ _ (j0.out _ b0) (fun hHeld=>?_)
    clear hK K
    try simp only [Ep]
    refine (tq 8 62 rfl rfl ?_ ?_ (tq 9 71 rfl rfl ?_ ?_ (tq 10 72 rfl rfl ?_ ?_ (tq 11 73 rfl rfl ?_ ?_ ?_))))
    iterate 4 (rotate_left;intro W' hSw;(try dsimp only at hSw);go_simp;try with_reducible rfl)
    try simp only [Ep]
    refine Rdy 13 rfl (fun K hK=>?_)
    obtain ⟨zB,gD,aC,hD⟩:=Bk.f2 e0 0 1 rfl rfl
    go_simp
    obtain ⟨u1,f0,hb⟩:=nmw (World.setCell (World.setCell n1 ⟨wd.heap.size,0,none⟩ (.slice n0 ((runM c m).vals.length) p0)) ⟨wd.heap.size,1,none⟩ (.slice o0 ((runM c m).arrs.length) q0))
    replace b0:=btr (bst (bst b0 (wd.heap.size) (0) (by omega) (.slice n0 ((runM c m).vals.length) p0)) (wd.heap.size) (1) (by omega) (.slice o0 ((runM c m).arrs.length) q0)) hb
    have y7:=hb.size
    simp only [Ss] at y7
    clear gD zB hD aC
    replace h0:=Ob (Oe (Oe h0 _ _ (fun h=>by have:=l6 _ h;omega) _) _ _ (fun h=>by have:=l6 _ h;omega) _) hb
    replace e0:Bk u1 (wd.heap.size) [.slice n0 ((runM c m).vals.length) p0,.slice o0 ((runM c m).arrs.length) q0]:=Bk.below (Bk.at (Bk.at e0 0 (.slice n0 ((runM c m).vals.length) p0)) 1 (.slice o0 ((runM c m).arrs.length) q0)) hb
    replace s1:=Bk.below (Bk.nn (Bk.nn s1 _) _) hb
    clear hb
    rw [← f0]
    clear f0
    refine hK.out _ _ (j0.out _ b0) (fun hHeld=>?_)
    clear hK K
    try simp only [Ep]
    refine (tq 14 11 rfl rfl ?_ ?_ (tq 15 12 rfl rfl ?_ ?_ ?_))
    iterate 2 (rotate_left;intro W' hSw;(try dsimp only at hSw);go_simp;try with_reducible rfl)
    try simp only [Ep]
    refine Dn ?_
    clear hHeld
    have q1:=Lib.hid (Ro h0 (by omega));have k0:=Lib.hid (And.intro (m4.out _ b0) (And.intro (n4.out _ b0) (q4.out _ b0)))
    clear b0 e0 s1 h0
    go_wp2_with fail
    go_meet
    exact ⟨_,_,rfl,rfl,q1.out,k0.out.1,k0.out.2.1,k0.out.2.2.1,k0.out.2.2.2⟩
   go_simp
   obtain ⟨w6,f0,hb⟩:=nmw (World.alloc w5 (.cells #[.bool true,.bool true] 4))
   have m1:=Ob (World.ownsRow_lit (base:=(w5).heap.size) (e:=4) (size:=1) (w5) #[.bool true,.bool true] 2 (Nat.le_refl _) (by unfold maxLen;omega) (by simp)) hb
   try simp only [Sa,Ss] at m1
   replace b0:=btr (bal b0 _) hb
   have z7:=hb.size
   simp only [Sa] at z7
   replace e0:=Bk.below (Bk.al e0 _) hb
   have b1:Bk w6 (w5.heap.size) [.bool true,.bool true]:=Bk.below (Bk.nw (by simp) rfl) hb
   clear hb
   have t5:=m1.lt
   try simp only [Sa] at t5
   rw [← f0]
   clear f0
   replace n2:=Bk.lz e0
   have o6:=Bk.lz b1
   refine hK.out _ _ (j0.out _ b0) (fun hHeld=>?_)
   clear hK K
   try simp only [Ep]
   refine Rdy 2 rfl (fun K hK=>?_)
   go_simp
   obtain ⟨w7,f0,hb⟩:=nmw (World.alloc w6 (.cells #[] 4))
   have k5:=Ob (World.ownsRow_lit (base:=(w6).heap.size) (e:=4) (size:=1) (w6) #[] 0 (Nat.le_refl _) (by unfold maxLen;omega) (by simp)) hb
   try simp only [Sa,Ss] at k5
   replace b0:=btr (bal b0 _) hb
   have a8:=hb.size
   simp only [Sa] at a8
   replace m1:=Ob (Ob m1 (bal (Bs _) _)) hb
   replace e0:=Bk.below (Bk.al e0 _) hb
   replace b1:=Bk.below (Bk.al b1 _) hb
   clear hb
   have a5:=k5.lt
   try simp only [Sa] at a5
   rw [← f0]
   clear f0
   replace n2:=Bk.lz e0
   replace o6:=Bk.lz b1
   refine hK.out _ _ (j0.out _ b0) (fun hHeld=>?_)
   clear hK K
   try simp only [Ep]
   refine Rdy 4 rfl (fun K hK=>?_)
   refine step_aps tBools rfl _ _ rfl (w6.heap.size) _ 0 ([]) rfl k5 _ J (bools (List.replicate J false)) rfl ((p5.out _ b0)) (one_bools (List.replicate J false)) (by omega) (by first | omega | (simp only [Sa,Ss];omega)) ?_
   intro vA w8 g4 hc v0 _
   try simp only [Nat.zero_add,List.nil_append] at g4
   obtain ⟨bA,xA,rfl⟩:=Oh g4
   replace b0:=b0.trans (hc.below w4.heap.size (by have:=b0.size;omega) (fun gq hgq h=>by have:=a5 gq h;omega))
   have dF:=hc.size
   replace m1:=Ow m1 hc (fun gq h h2=>by have:=t5 gq h;have:=a5 gq h2;omega)
   replace e0:=Bk.keep e0 hc (fun h=>by have:=a5 _ h;omega)
   replace b1:=Bk.keep b1 hc (fun h=>by have:=a5 _ h;omega)
   clear hc
   have jI:=g4.lt
   have j3:∀ q,(Value.slice bA J xA).ownBlock=some q→(q=w6.heap.size∨w7.heap.size≤q)∧q < w8.heap.size:=fun q h=>⟨by rcases v0 with e1 | ⟨g1,e1,e2⟩;(rw [h] at e1;exact Or.inl (Option.some.inj e1));(rw [h] at e1;have:=Option.some.inj e1;exact Or.inr (by omega)),(g4.lt q h).2⟩
   clear v0 k5
   replace n2:=Bk.lz e0
   replace o6:=Bk.lz b1
   refine hK.out _ _ (j0.out _ b0) (fun hHeld=>?_)
   clear hK K
   try simp only [Ep]
   refine Rdy 6 rfl (fun K hK=>?_)
   refine step_aps tBools rfl _ _ rfl (w6.heap.size) _ J (bools (List.replicate J false)) rfl g4 _ 2 (bools [true,true]) rfl ((Ro m1 (by simp))) (one_bools [true,true]) (by omega) (by first | omega | (simp only [Sa,Ss];omega)) ?_
   intro vA w9 i4 hc v0 _
   obtain ⟨cA,yA,rfl⟩:=Oh i4
   replace b0:=b0.trans (hc.below w4.heap.size (by have:=b0.size;omega) (fun gq hgq h=>by have:=j3 gq h;omega))
   have eF:=hc.size
   replace m1:=Ow m1 hc (fun gq h h2=>by have:=t5 gq h;have:=j3 gq h2;omega)
   replace e0:=Bk.keep e0 hc (fun h=>by have:=j3 _ h;omega)
   replace b1:=Bk.keep b1 hc (fun h=>by have:=j3 _ h;omega)
   clear hc
   have kI:=i4.lt
   clear v0 g4
   refine hK.out _ _ (j0.out _ b0) (fun hHeld=>?_)
   clear hK K
   try simp only [Ep]
   refine Rdy 7 rfl (fun K hK=>?_)
   go_simp
   have s0:=iSpecRun_any _ _ _ _ _ c m _ (l4.out _ b0) (o4.out _ b0) u0.1 u0.2.1 u0.2.2 cA yA ws (by have h9:=Ro i4 (by omega);rw [← p1.out,r4.out];simpa [bools] using h9)
   rw [p4.out,j4.out] at s0
   rw [p1.out]
   refine (s0).mono ?_
   rintro e n1 ⟨s4,t4,d5,e5,rfl,x0,h0,hb⟩
   clear s0
   obtain ⟨n0,p0,o0,q0,rfl,rfl⟩:=x0.shape
   clear x0
   obtain ⟨pT,qT,rfl⟩:=Oh h0
   replace b0:=btr b0 hb
   have fF:=hb.size
   replace m1:=Ob m1 hb
   replace i4:=Ob i4 hb
   replace e0:=Bk.below e0 hb
   replace b1:=Bk.below b1 hb
   clear hb
   have m6:=h0.lt
   clear m1 i4
   refine hK.out _ _ (j0.out _ b0) (fun hHeld=>?_)
   clear hK K
   try simp only [Ep]
   refine (tq 8 62 rfl rfl ?_ ?_ (tq 9 71 rfl rfl ?_ ?_ (tq 10 72 rfl rfl ?_ ?_ (tq 11 73 rfl rfl ?_ ?_ ?_))))
   iterate 4 (rotate_left;intro W' hSw;(try dsimp only at hSw);go_simp;try with_reducible rfl)
   try simp only [Ep]
   refine Rdy 13 rfl (fun K hK=>?_)
   obtain ⟨bC,iD,cC,jD⟩:=Bk.f2 e0 0 1 rfl rfl
   go_simp
   obtain ⟨u1,f0,hb⟩:=nmw (World.setCell (World.setCell n1 ⟨wd.heap.size,0,none⟩ (.slice n0 ((runM c m).vals.length) p0)) ⟨wd.heap.size,1,none⟩ (.slice o0 ((runM c m).arrs.length) q0))
   replace b0:=btr (bst (bst b0 (wd.heap.size) (0) (by omega) (.slice n0 ((runM c m).vals.length) p0)) (wd.heap.size) (1) (by omega) (.slice o0 ((runM c m).arrs.length) q0)) hb
   have b8:=hb.size
   simp only [Ss] at b8
   clear iD bC jD cC
   replace h0:=Ob (Oe (Oe h0 _ _ (fun h=>by have:=m6 _ h;omega) _) _ _ (fun h=>by have:=m6 _ h;omega) _) hb
   replace e0:Bk u1 (wd.heap.size) [.slice n0 ((runM c m).vals.length) p0,.slice o0 ((runM c m).arrs.length) q0]:=Bk.below (Bk.at (Bk.at e0 0 (.slice n0 ((runM c m).vals.length) p0)) 1 (.slice o0 ((runM c m).arrs.length) q0)) hb
   replace b1:=Bk.below (Bk.nn (Bk.nn b1 _) _) hb
   clear hb
   rw [← f0]
   clear f0
   refine hK.out _ _ (j0.out _ b0) (fun hHeld=>?_)
   clear hK K
   try simp only [Ep]
   refine (tq 14 11 rfl rfl ?_ ?_ (tq 15 12 rfl rfl ?_ ?_ ?_))
   iterate 2 (rotate_left;intro W' hSw;(try dsimp only at hSw);go_simp;try with_reducible rfl)
   try simp only [Ep]
   refine Dn ?_
   clear hHeld
   have q1:=Lib.hid (Ro h0 (by omega));have k0:=Lib.hid (And.intro (m4.out _ b0) (And.intro (n4.out _ b0) (q4.out _ b0)))
   clear b0 e0 b1 h0
   go_wp2_with fail
   go_meet
   exact ⟨_,_,rfl,rfl,q1.out,k0.out.1,k0.out.2.1,k0.out.2.2.1,k0.out.2.2.2⟩
  obtain ⟨w5,rfl⟩:∃ W,W=wc:=⟨_,rfl⟩
  clear b0 n3 h5 l5 g8
  obtain ⟨pe,qe,rfl,rfl,bH,e8,f8,b0,n3⟩:=hcut
  have g9:=Bk.lz e8
  have i9:=Bk.lz f8
  have c5:=Bs w5
  have sD:=Lib.hid (fun W (hW:Below w5.heap.size w5 W)=>bH.below hW)
  clear bH
  obtain ⟨dC,kD,eC,lD,fC,mD⟩:=Bk.f3 e8 0 1 2 rfl rfl rfl
  obtain ⟨gC,nD,hC,oD⟩:=Bk.f2 f8 0 1 rfl rfl
  go_wp2_with fail
  have y4:=iRunCode_any _ _ _ _ _ c m _ (HC.out _ n3) (HM.out _ n3) u0.1 u0.2.1 u0.2.2
  rw [j4.out,wI.out] at y4
  refine (y4).mono ?_
  rintro e w6 ⟨aK,bK,zJ,yJ,rfl,oM,oE,hb⟩
  obtain ⟨nF,rG,oF,sG,rfl,rfl⟩:=oM.shape
  obtain ⟨wJ,xJ,rfl⟩:=Oh oE
  clear y4
  replace n3:=btr n3 hb
  replace c5:=btr c5 hb
  have gF:=hb.size
  clear kD dC lD eC mD fC nD gC oD hC
  replace e8:=Bk.below e8 hb
  replace f8:=Bk.below f8 hb
  replace b0:=btr b0 hb
  clear hb
  have u5:=Bs w6
  have HE:=Lib.hid (fun W (hW:Below w6.heap.size w6 W)=>(Ro oE (by omega)).below hW)
  replace g9:=Bk.lz e8
  replace i9:=Bk.lz f8
  clear oM oE
  go_wp2_with fail
  have y4:=TraceSame_any _ _ E E _ (sD.out _ (bal c5 (.cells #[.slice nF ((runM c m).vals.length) rG,.slice oF ((runM c m).arrs.length) sG] 37))) (HE.out _ (bal u5 (.cells #[.slice nF ((runM c m).vals.length) rG,.slice oF ((runM c m).arrs.length) sG] 37)))
  rw [decide_eq_true (Eq.refl E)] at y4
  refine (y4).mono ?_
  rintro e w7 ⟨rfl,hb⟩
  clear y4
  replace n3:=btr (bal n3 _) hb
  replace c5:=btr (bal c5 _) hb
  replace u5:=btr (bal u5 _) hb
  have c8:=hb.size
  simp only [Sa] at c8
  replace e8:=Bk.below (Bk.al e8 _) hb
  replace f8:=Bk.below (Bk.al f8 _) hb
  have i8:Bk w7 (w6.heap.size) [.slice nF ((runM c m).vals.length) rG,.slice oF ((runM c m).arrs.length) sG]:=Bk.below (Bk.nw (by simp) rfl) hb
  replace b0:=btr (bal b0 _) hb
  clear hb
  have tI:=Bk.lz i8
  have tt:=b0
  go_wp2
  go_ret
  exact ⟨rfl,tt⟩
end Go.Proofs.Ytkjedgnepnbkpaa
