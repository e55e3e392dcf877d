/-
 Parts of the proofs of the laws FnCompactRegs,FnFenceCode,FnRunTimeSteps.
-/
import Derived.Test.YtkjedgnepnbkpaaGreatMX
set_option linter.all false
namespace Go.Proofs.YtkjedgnepnbkpaaGreat
open Go.RowKit
def trN (c:Cd) (s:Ms):List Ev:=match runR c s with | some n=>evN c (n+1) s | none=>[]
theorem trN_some {c:Cd} {s:Ms} {n:Nat} (h:runR c s=some n):trN c s=evN c (n+1) s:=by unfold trN;rw [h]
def mrN (c:Cd) (s:Ms):Mm:=match runR c s with | some n=>(stN c (n+1) s).mem | none=>⟨[],[]⟩
theorem mrN_some {c:Cd} {s:Ms} {n:Nat} (h:runR c s=some n):mrN c s=(stN c (n+1) s).mem:=by unfold mrN;rw [h]
theorem mrN_none {c:Cd} {s:Ms} (h:runR c s=none):mrN c s=⟨[],[]⟩:=by unfold mrN;rw [h]
theorem trN_none {c:Cd} {s:Ms} (h:runR c s=none):trN c s=[]:=by unfold trN;rw [h]
structure L6 (c:Cd) (s:Ms) (w4 W:World) (b1 b2 bb:Nat) (vr vx vy:Value) (us:List Value) (tr:Value) (n:Nat):Prop where
 d0:W.cell? ⟨bb,0,none⟩=some (.int .i64 (stN c n s).pc)
 d1:W.cell? ⟨bb,1,none⟩=some vr
 d2:W.cell? ⟨bb,2,none⟩=some vx
 d3:W.cell? ⟨bb,3,none⟩=some vy
 f0:W.frozen? ⟨bb,0,none⟩=false
 f1:W.frozen? ⟨bb,1,none⟩=false
 f2:W.frozen? ⟨bb,2,none⟩=false
 f3:W.frozen? ⟨bb,3,none⟩=false
 own:OwnMv W b1 vr vx vy us (stN c n s).regs (stN c n s).mem
 ev:W.ownsRow b2 38 2 tr (evN c n s).length (evs (evN c n s))
 ed:∀ q,tr.ownBlock=some q→¬OwnMB vr vx vy us q∧¬q=bb
 no:∀ j,j < n→¬opAt c s j=13
 chg:Chg (fun q=>q=bb∨OwnMB vr vx vy us q∨b2≤q) w4 W
set_option maxHeartbeats 12800000 in
set_option maxRecDepth 100000 in
theorem l6Run_any (va vb vc vx vy:Value) (c:Cd) (m:Mm) (w:World) (hr:ReadsC w va vb vc c) (hm:ReadsM w vx vy m) (hl:m.vals.length≤1048576) (hn:m.arrs.length≤1048576) (hp:pre2 m.arrs m.arrs.length≤1048576) (hg:goOk c m=true) :
  Calls Tryz.prog 67 #[.agg #[va,vb,vc],.agg #[vx,vy],.int .i64 20000] w fun e w'=>∃ ux uy us u,e=.returned (.tuple #[.agg #[ux,uy],u,.bool (runR c (ini m)).isSome])∧w'.ownsRow w.heap.size 38 2 u (trN c (ini m)).length (evs (trN c (ini m)))∧OwnM w' w.heap.size ux uy us (mrN c (ini m))∧Below w.heap.size w w':=by
 obtain ⟨a0,c0,a1,c1,a2,c2,rfl,rfl,rfl⟩:=hr.shape
 obtain ⟨a3,c3,a4,c4,rfl,rfl⟩:=hm.shape
 have f8:=hr.lt
 have a8:=fun u=>mk_int14 u
 have y5:=ini_ok hg
 have c5:=goOk_code hg
 obtain ⟨l1,l2⟩:=codeOk_len c5
 have h7:=Lib.hid (fun n=>stN_ok c5 y5 n)
 have e7:=Lib.hid c5
 have g7:=Lib.hid (fun n h1 h2 h3=>runR_some (c:=c) (s:=ini m) (n:=n) h1 h2 h3)
 have f7:=Lib.hid (fun h=>runR_none (c:=c) (s:=ini m) h)
 have j7:=Lib.hid (fun n (h:runR c (ini m)=some n)=>trN_some h)
 have i7:=Lib.hid (fun (h:runR c (ini m)=none)=>trN_none h)
 have e5:Hid ((ini m).regs=reg0∧(ini m).mem=m∧(ini m).pc=0):=Lib.hid ⟨rfl,rfl,rfl⟩
 have j4:=Lib.hid (fun W (hW:Below w.heap.size w W)=>l3Copy_any _ _ m W (hm.below hW).x (hm.below hW).y hl hn hp)
 have HR:=Lib.hid (fun W (hW:Below w.heap.size w W)=>hr.below hW)
 clear hl hn hp hr hm hg y5 c5
 have HMS':=Lib.hid (fun n (h:runR c (ini m)=some n)=>mrN_some h)
 have d7:=Lib.hid (fun (h:runR c (ini m)=none)=>mrN_none h)
 generalize trN c (ini m)=T at *
 generalize mrN c (ini m)=TM at *
 generalize runR c (ini m)=R at *
 generalize ini m=s at *
 go_enter Tryz.func67,Tryz.ntmps67
 go_upto_region 1 with (fail)
 obtain ⟨w1,j0,hb⟩:=nmw (World.alloc (World.alloc (World.alloc w (.cells #[.slice a0 c.vars.length c0,.slice a1 c.arrays.length c1,.slice a2 c.list.length c2] 26)) (.cells #[.slice a3 m.vals.length c3,.slice a4 m.arrs.length c4] 29)) (.cells #[.slice none 0 0,.slice none 0 0] 29))
 have i5:=hb.size
 simp only [Sa] at i5
 have z2:w1.cell? ⟨w.heap.size,0,none⟩=some (.slice a0 c.vars.length c0):=Kc hb (Ac (Ac (Wc (by simp) (by rfl)) _) _)
 have o3:w1.cell? ⟨w.heap.size,1,none⟩=some (.slice a1 c.arrays.length c1):=Kc hb (Ac (Ac (Wc (by simp) (by rfl)) _) _)
 have p3:w1.cell? ⟨w.heap.size,2,none⟩=some (.slice a2 c.list.length c2):=Kc hb (Ac (Ac (Wc (by simp) (by rfl)) _) _)
 have g0:w1.cell? ⟨w.heap.size+1,0,none⟩=some (.slice a3 m.vals.length c3):=Kc hb (Ac (Wc (by simp) (by rfl)) _)
 have i0:w1.cell? ⟨w.heap.size+1,1,none⟩=some (.slice a4 m.arrs.length c4):=Kc hb (Ac (Wc (by simp) (by rfl)) _)
 have j1:w1.cell? ⟨w.heap.size+1+1,0,none⟩=some (.slice none 0 0):=Kc hb (Wc (by simp) (by rfl))
 have t2:w1.frozen? ⟨w.heap.size+1+1,0,none⟩=false:=Kf hb (by simp) (Fn (by simp))
 have n1:w1.cell? ⟨w.heap.size+1+1,1,none⟩=some (.slice none 0 0):=Kc hb (Wc (by simp) (by rfl))
 have y0:w1.frozen? ⟨w.heap.size+1+1,1,none⟩=false:=Kf hb (by simp) (Fn (by simp))
 have k0:=btr (bal (bal (bal (Bs w) (.cells #[.slice a0 c.vars.length c0,.slice a1 c.arrays.length c1,.slice a2 c.list.length c2] 26)) (.cells #[.slice a3 m.vals.length c3,.slice a4 m.arrs.length c4] 29)) (.cells #[.slice none 0 0,.slice none 0 0] 29)) hb
 clear hb
 rw [← j0]
 clear j0
 have n7:=Lc z2
 have o1:=Lc g0
 have o7:=Lc j1
 go_cut [9] (fun s wx=>∃ (bb gr:Nat) (px:Option Addr) (tx:Nat) (py:Option Addr) (ty:Nat) (us:List Value),s=.pointer (some ⟨bb,0,none⟩)∧wx.cell? ⟨bb,0,none⟩=some (.int .i64 0)∧wx.cell? ⟨bb,1,none⟩=some (.slice (some ⟨gr,0,none⟩) 14 14)∧wx.cell? ⟨bb,2,none⟩=some (.slice px m.vals.length tx)∧wx.cell? ⟨bb,3,none⟩=some (.slice py m.arrs.length ty)∧wx.frozen? ⟨bb,0,none⟩=false∧wx.frozen? ⟨bb,1,none⟩=false∧wx.frozen? ⟨bb,2,none⟩=false∧wx.frozen? ⟨bb,3,none⟩=false∧OwnMv wx w1.heap.size (.slice (some ⟨gr,0,none⟩) 14 14) (.slice px m.vals.length tx) (.slice py m.arrs.length ty) us reg0 m∧w1.heap.size≤bb∧bb < wx.heap.size∧(∀ q,OwnMB (.slice (some ⟨gr,0,none⟩) 14 14) (.slice px m.vals.length tx) (.slice py m.arrs.length ty) us q→¬q=bb)∧Below w1.heap.size w1 wx)
 case first =>
  have k4:=Lib.hid k0;clear k0
  clear z2 o3 p3 j1 t2 n1 y0
  refine wp_region_noPanic ?_
  refine wp_region_held_drew (S:=(fun W'=>W'.cell? ⟨w.heap.size+1,0,none⟩=some (.slice a3 m.vals.length c3)∧W'.cell? ⟨w.heap.size+1,1,none⟩=some (.slice a4 m.arrs.length c4))) (by kernel_rfl) ⟨Kc (Below.drew (Bs w1)) g0,Kc (Below.drew (Bs w1)) i0⟩ (fun hHeld=>?_)
  obtain ⟨w2,o5⟩:∃ X,X=World.drew w1:=⟨_,rfl⟩
  rw [← o5] at hHeld ⊢
  have hb:Below w1.heap.size w1 w2:=by rw [o5];exact Below.drew (Bs _)
  clear o5
  have h6:=hb.size
  replace g0:=Kc hb g0
  replace i0:=Kc hb i0
  have k0:=btr (Bs w1) hb
  clear hb
  replace o1:=Lc g0
  refine tq 1 14 rfl rfl ?_ ?_ ?_
  rotate_left
  ·intro W' hSw;obtain ⟨s0,s1⟩:=hSw;go_simp;try with_reducible rfl
  try simp only [Ep]
  refine Rdy3 0 2 4 rfl rfl rfl (fun K hK=>?_) (fun K hK=>?_) (fun K hK=>?_)
  ·go_simp
   obtain ⟨w3,j0⟩:∃ X,X=World.alloc w2 (.cells (madeCells #[.int .i64 0] 14) 3):=⟨_,rfl⟩
   try rw [← j0]
   have u0:=own_made w2 (.int .i64 0) 14 3 (by unfold maxLen;omega)
   rw [← ints_replicate,← j0] at u0
   have hb:Below w2.heap.size w2 w3:=by rw [j0];exact bal (Bs _) _
   have p6:w2.heap.size+1≤w3.heap.size:=by rw [j0];simp
   clear j0
   have i6:=hb.size
   replace g0:=Kc hb g0
   replace i0:=Kc hb i0
   replace k0:=btr k0 hb
   clear hb
   have v0:=u0.lt
   replace o1:=Lc g0
   refine hK.out _ _ ⟨g0,i0⟩ (fun hHeld=>?_)
   clear hK K
   try simp only [Ep]
   refine Rdy2 2 4 rfl rfl (fun K hK=>?_) (fun K hK=>?_)
   ·go_simp
    refine (j4.out _ (btr k4.out k0)).mono ?_
    rintro e w4 ⟨ux,uy,us,rfl,ox,oy,k2,hb⟩
    obtain ⟨px,tx,rfl⟩:=Oh ox
    obtain ⟨py,ty,rfl⟩:=Oh oy.out
    have oM:OwnM w4 _ _ _ _ m:=⟨ox,oy,k2⟩
    clear ox oy k2
    have j6:=hb.size
    replace g0:=Kc hb g0
    replace i0:=Kc hb i0
    replace u0:=Ob u0 hb
    replace k0:=btr k0 hb
    clear hb
    have p1:=oM.lt
    replace o1:=Lc g0
    refine hK.out _ _ ⟨g0,i0⟩ (fun hHeld=>?_)
    clear hK K
    try simp only [Ep]
    refine tq 3 16 rfl rfl ?_ ?_ ?_
    rotate_left
    ·intro W' hSw;obtain ⟨s0,s1⟩:=hSw;go_simp;try with_reducible rfl
    try simp only [Ep]
    refine Rdy 4 rfl (fun K hK=>?_)
    go_simp
    obtain ⟨w5,j0,hb⟩:=nmw (World.alloc w4 (.cells #[.int .i64 0,.slice none 0 0,.slice none 0 0,.slice none 0 0] 62))
    have o4:=hb.size
    simp only [Sa] at o4
    replace g0:=Kc hb (Ac g0 _)
    replace i0:=Kc hb (Ac i0 _)
    replace u0:=Ob (Ob u0 (bal (Bs _) _)) hb
    replace oM:=(oM.below (bal (Bs _) _)).below hb
    have n2:w5.cell? ⟨w4.heap.size,0,none⟩=some (.int .i64 0):=Kc hb (Wc (by simp) (by rfl))
    have r3:w5.frozen? ⟨w4.heap.size,0,none⟩=false:=Kf hb (by simp) (Fn (by simp))
    have g3:w5.cell? ⟨w4.heap.size,1,none⟩=some (.slice none 0 0):=Kc hb (Wc (by simp) (by rfl))
    have s3:w5.frozen? ⟨w4.heap.size,1,none⟩=false:=Kf hb (by simp) (Fn (by simp))
    have i3:w5.cell? ⟨w4.heap.size,2,none⟩=some (.slice none 0 0):=Kc hb (Wc (by simp) (by rfl))
    have t3:w5.frozen? ⟨w4.heap.size,2,none⟩=false:=Kf hb (by simp) (Fn (by simp))
    have j3:w5.cell? ⟨w4.heap.size,3,none⟩=some (.slice none 0 0):=Kc hb (Wc (by simp) (by rfl))
    have u3:w5.frozen? ⟨w4.heap.size,3,none⟩=false:=Kf hb (by simp) (Fn (by simp))
    replace k0:=btr (bal k0 _) hb
    clear hb
    rw [← j0]
    clear j0
    have p7:=Lc n2
    refine hK.out _ _ ⟨g0,i0⟩ (fun hHeld=>?_)
    clear hK K
    try simp only [Ep]
    refine Rdy 5 rfl (fun K hK=>?_)
    go_simp
    obtain ⟨w6,j0,hb⟩:=nmw (World.setCell (World.setCell (World.setCell (World.setCell w5 ⟨w4.heap.size,0,none⟩ (.int .i64 0)) ⟨w4.heap.size,1,none⟩ (.slice (some ⟨w2.heap.size,0,none⟩) 14 14)) ⟨w4.heap.size,2,none⟩ (.slice px m.vals.length tx)) ⟨w4.heap.size,3,none⟩ (.slice py m.arrs.length ty))
    have p4:=hb.size
    simp only [Ss] at p4
    replace r3:=Kf hb (Lc (Nn (Nn (Nn (Tc _ (w4.heap.size) 0 (.int .i64 0) n2) _) _) _)) (Fs (Fs (Fs (Fs r3 _) _) _) _)
    replace s3:=Kf hb (Lc (Nn (Nn (Tc _ (w4.heap.size) 1 (.slice (some ⟨w2.heap.size,0,none⟩) 14 14) (Nn g3 _)) _) _)) (Fs (Fs (Fs (Fs s3 _) _) _) _)
    replace t3:=Kf hb (Lc (Nn (Tc _ (w4.heap.size) 2 (.slice px m.vals.length tx) (Nn (Nn i3 _) _)) _)) (Fs (Fs (Fs (Fs t3 _) _) _) _)
    replace u3:=Kf hb (Lc (Tc _ (w4.heap.size) 3 (.slice py m.arrs.length ty) (Nn (Nn (Nn j3 _) _) _))) (Fs (Fs (Fs (Fs u3 _) _) _) _)
    replace g0:=Kc hb (Nn (Nn (Nn (Nn g0 _) _) _) _)
    replace i0:=Kc hb (Nn (Nn (Nn (Nn i0 _) _) _) _)
    replace u0:=Ob (Oe (Oe (Oe (Oe u0 _ _ (fun h=>by have:=v0 _ h;omega) _) _ _ (fun h=>by have:=v0 _ h;omega) _) _ _ (fun h=>by have:=v0 _ h;omega) _) _ _ (fun h=>by have:=v0 _ h;omega) _) hb
    replace oM:=((((oM.keep (C1 _ _ _) (fun gq h h2=>by have:=p1 gq h;omega)).keep (C1 _ _ _) (fun gq h h2=>by have:=p1 gq h;omega)).keep (C1 _ _ _) (fun gq h h2=>by have:=p1 gq h;omega)).keep (C1 _ _ _) (fun gq h h2=>by have:=p1 gq h;omega)).below hb
    replace n2:w6.cell? ⟨w4.heap.size,0,none⟩=some (.int .i64 0):=Kc hb (Nn (Nn (Nn (Tc _ (w4.heap.size) 0 (.int .i64 0) n2) _) _) _)
    replace g3:w6.cell? ⟨w4.heap.size,1,none⟩=some (.slice (some ⟨w2.heap.size,0,none⟩) 14 14):=Kc hb (Nn (Nn (Tc _ (w4.heap.size) 1 (.slice (some ⟨w2.heap.size,0,none⟩) 14 14) (Nn g3 _)) _) _)
    replace i3:w6.cell? ⟨w4.heap.size,2,none⟩=some (.slice px m.vals.length tx):=Kc hb (Nn (Tc _ (w4.heap.size) 2 (.slice px m.vals.length tx) (Nn (Nn i3 _) _)) _)
    replace j3:w6.cell? ⟨w4.heap.size,3,none⟩=some (.slice py m.arrs.length ty):=Kc hb (Tc _ (w4.heap.size) 3 (.slice py m.arrs.length ty) (Nn (Nn (Nn j3 _) _) _))
    replace k0:=btr (bst (bst (bst (bst k0 (w4.heap.size) 0 (by omega) (.int .i64 0)) (w4.heap.size) 1 (by omega) (.slice (some ⟨w2.heap.size,0,none⟩) 14 14)) (w4.heap.size) 2 (by omega) (.slice px m.vals.length tx)) (w4.heap.size) 3 (by omega) (.slice py m.arrs.length ty)) hb
    clear hb
    rw [← j0]
    clear j0
    refine hK.out _ _ ⟨g0,i0⟩ (fun hHeld=>?_)
    clear hK K
    try simp only [Ep]
    refine Dn ?_
    clear hHeld
    go_wp2_with fail
    go_meet
    have OM:OwnMv _ w1.heap.size _ (.slice px m.vals.length tx) (.slice py m.arrs.length ty) us reg0 m:=⟨Om u0 (by omega),Om oM.x (by omega),oM.y.mono (by omega),fun q h h2=>by have:=v0 q h;have:=p1 q (Or.inl h2);omega,fun q h h2=>by have:=v0 q h;have:=p1 q (Or.inr h2);omega,oM.ap⟩
    have t7:=Lc n2
    exact ⟨_,_,_,_,_,_,us,rfl,n2,g3,i3,j3,r3,s3,t3,u3,OM,by omega,by omega,(fun q h hq=>by rcases h with h | h | h;(have:=v0 q h;omega);(have:=p1 q (Or.inl h);omega);(have:=p1 q (Or.inr h);omega)),k0⟩
   go_simp
   obtain ⟨w4,j0,hb⟩:=nmw (World.alloc w3 (.cells #[.int .i64 0,.slice none 0 0,.slice none 0 0,.slice none 0 0] 62))
   have q4:=hb.size
   simp only [Sa] at q4
   replace g0:=Kc hb (Ac g0 _)
   replace i0:=Kc hb (Ac i0 _)
   replace u0:=Ob (Ob u0 (bal (Bs _) _)) hb
   have k1:w4.cell? ⟨w3.heap.size,0,none⟩=some (.int .i64 0):=Kc hb (Wc (by simp) (by rfl))
   have p2:w4.frozen? ⟨w3.heap.size,0,none⟩=false:=Kf hb (by simp) (Fn (by simp))
   have t1:w4.cell? ⟨w3.heap.size,1,none⟩=some (.slice none 0 0):=Kc hb (Wc (by simp) (by rfl))
   have q2:w4.frozen? ⟨w3.heap.size,1,none⟩=false:=Kf hb (by simp) (Fn (by simp))
   have u1:w4.cell? ⟨w3.heap.size,2,none⟩=some (.slice none 0 0):=Kc hb (Wc (by simp) (by rfl))
   have r2:w4.frozen? ⟨w3.heap.size,2,none⟩=false:=Kf hb (by simp) (Fn (by simp))
   have v1:w4.cell? ⟨w3.heap.size,3,none⟩=some (.slice none 0 0):=Kc hb (Wc (by simp) (by rfl))
   have s2:w4.frozen? ⟨w3.heap.size,3,none⟩=false:=Kf hb (by simp) (Fn (by simp))
   replace k0:=btr (bal k0 _) hb
   clear hb
   rw [← j0]
   clear j0
   have q7:=Lc k1
   refine hK.out _ _ ⟨g0,i0⟩ (fun hHeld=>?_)
   clear hK K
   try simp only [Ep]
   refine Rdy 2 rfl (fun K hK=>?_)
   go_simp
   refine (j4.out _ (btr k4.out k0)).mono ?_
   rintro e w5 ⟨ux,uy,us,rfl,ox,oy,k2,hb⟩
   obtain ⟨px,tx,rfl⟩:=Oh ox
   obtain ⟨py,ty,rfl⟩:=Oh oy.out
   have oM:OwnM w5 _ _ _ _ m:=⟨ox,oy,k2⟩
   clear ox oy k2
   have k6:=hb.size
   replace p2:=Kf hb (Lc k1) p2
   replace q2:=Kf hb (Lc t1) q2
   replace r2:=Kf hb (Lc u1) r2
   replace s2:=Kf hb (Lc v1) s2
   replace g0:=Kc hb g0
   replace i0:=Kc hb i0
   replace u0:=Ob u0 hb
   replace k1:=Kc hb k1
   replace t1:=Kc hb t1
   replace u1:=Kc hb u1
   replace v1:=Kc hb v1
   replace k0:=btr k0 hb
   clear hb
   have q1:=oM.lt
   refine hK.out _ _ ⟨g0,i0⟩ (fun hHeld=>?_)
   clear hK K
   try simp only [Ep]
   refine tq 3 16 rfl rfl ?_ ?_ ?_
   rotate_left
   ·intro W' hSw;obtain ⟨s0,s1⟩:=hSw;go_simp;try with_reducible rfl
   try simp only [Ep]
   refine Rdy 5 rfl (fun K hK=>?_)
   go_simp
   obtain ⟨w6,j0,hb⟩:=nmw (World.setCell (World.setCell (World.setCell (World.setCell w5 ⟨w3.heap.size,0,none⟩ (.int .i64 0)) ⟨w3.heap.size,1,none⟩ (.slice (some ⟨w2.heap.size,0,none⟩) 14 14)) ⟨w3.heap.size,2,none⟩ (.slice px m.vals.length tx)) ⟨w3.heap.size,3,none⟩ (.slice py m.arrs.length ty))
   have r4:=hb.size
   simp only [Ss] at r4
   replace p2:=Kf hb (Lc (Nn (Nn (Nn (Tc _ (w3.heap.size) 0 (.int .i64 0) k1) _) _) _)) (Fs (Fs (Fs (Fs p2 _) _) _) _)
   replace q2:=Kf hb (Lc (Nn (Nn (Tc _ (w3.heap.size) 1 (.slice (some ⟨w2.heap.size,0,none⟩) 14 14) (Nn t1 _)) _) _)) (Fs (Fs (Fs (Fs q2 _) _) _) _)
   replace r2:=Kf hb (Lc (Nn (Tc _ (w3.heap.size) 2 (.slice px m.vals.length tx) (Nn (Nn u1 _) _)) _)) (Fs (Fs (Fs (Fs r2 _) _) _) _)
   replace s2:=Kf hb (Lc (Tc _ (w3.heap.size) 3 (.slice py m.arrs.length ty) (Nn (Nn (Nn v1 _) _) _))) (Fs (Fs (Fs (Fs s2 _) _) _) _)
   replace g0:=Kc hb (Nn (Nn (Nn (Nn g0 _) _) _) _)
   replace i0:=Kc hb (Nn (Nn (Nn (Nn i0 _) _) _) _)
   replace u0:=Ob (Oe (Oe (Oe (Oe u0 _ _ (fun h=>by have:=v0 _ h;omega) _) _ _ (fun h=>by have:=v0 _ h;omega) _) _ _ (fun h=>by have:=v0 _ h;omega) _) _ _ (fun h=>by have:=v0 _ h;omega) _) hb
   replace k1:w6.cell? ⟨w3.heap.size,0,none⟩=some (.int .i64 0):=Kc hb (Nn (Nn (Nn (Tc _ (w3.heap.size) 0 (.int .i64 0) k1) _) _) _)
   replace t1:w6.cell? ⟨w3.heap.size,1,none⟩=some (.slice (some ⟨w2.heap.size,0,none⟩) 14 14):=Kc hb (Nn (Nn (Tc _ (w3.heap.size) 1 (.slice (some ⟨w2.heap.size,0,none⟩) 14 14) (Nn t1 _)) _) _)
   replace u1:w6.cell? ⟨w3.heap.size,2,none⟩=some (.slice px m.vals.length tx):=Kc hb (Nn (Tc _ (w3.heap.size) 2 (.slice px m.vals.length tx) (Nn (Nn u1 _) _)) _)
   replace v1:w6.cell? ⟨w3.heap.size,3,none⟩=some (.slice py m.arrs.length ty):=Kc hb (Tc _ (w3.heap.size) 3 (.slice py m.arrs.length ty) (Nn (Nn (Nn v1 _) _) _))
   replace oM:=((((oM.keep (C1 _ _ _) (fun gq h h2=>by have:=q1 gq h;omega)).keep (C1 _ _ _) (fun gq h h2=>by have:=q1 gq h;omega)).keep (C1 _ _ _) (fun gq h h2=>by have:=q1 gq h;omega)).keep (C1 _ _ _) (fun gq h h2=>by have:=q1 gq h;omega)).below hb
   replace k0:=btr (bst (bst (bst (bst k0 (w3.heap.size) 0 (by omega) (.int .i64 0)) (w3.heap.size) 1 (by omega) (.slice (some ⟨w2.heap.size,0,none⟩) 14 14)) (w3.heap.size) 2 (by omega) (.slice px m.vals.length tx)) (w3.heap.size) 3 (by omega) (.slice py m.arrs.length ty)) hb
   clear hb
   rw [← j0]
   clear j0
   refine hK.out _ _ ⟨g0,i0⟩ (fun hHeld=>?_)
   clear hK K
   try simp only [Ep]
   refine Dn ?_
   clear hHeld
   go_wp2_with fail
   go_meet
   have OM:OwnMv _ w1.heap.size _ (.slice px m.vals.length tx) (.slice py m.arrs.length ty) us reg0 m:=⟨Om u0 (by omega),Om oM.x (by omega),oM.y.mono (by omega),fun q h h2=>by have:=v0 q h;have:=q1 q (Or.inl h2);omega,fun q h h2=>by have:=v0 q h;have:=q1 q (Or.inr h2);omega,oM.ap⟩
   have u7:=Lc k1
   exact ⟨_,_,_,_,_,_,us,rfl,k1,t1,u1,v1,p2,q2,r2,s2,OM,by omega,by omega,(fun q h hq=>by rcases h with h | h | h;(have:=v0 q h;omega);(have:=q1 q (Or.inl h);omega);(have:=q1 q (Or.inr h);omega)),k0⟩
  ·go_simp
   refine (j4.out _ (btr k4.out k0)).mono ?_
   rintro e w3 ⟨ux,uy,us,rfl,ox,oy,k2,hb⟩
   obtain ⟨px,tx,rfl⟩:=Oh ox
   obtain ⟨py,ty,rfl⟩:=Oh oy.out
   have oM:OwnM w3 _ _ _ _ m:=⟨ox,oy,k2⟩
   clear ox oy k2
   have l6:=hb.size
   replace g0:=Kc hb g0
   replace i0:=Kc hb i0
   replace k0:=btr k0 hb
   clear hb
   have t0:=oM.lt
   replace o1:=Lc g0
   refine hK.out _ _ ⟨g0,i0⟩ (fun hHeld=>?_)
   clear hK K
   try simp only [Ep]
   refine Rdy2 0 4 rfl rfl (fun K hK=>?_) (fun K hK=>?_)
   ·go_simp
    obtain ⟨w4,j0⟩:∃ X,X=World.alloc w3 (.cells (madeCells #[.int .i64 0] 14) 3):=⟨_,rfl⟩
    try rw [← j0]
    have j2:=own_made w3 (.int .i64 0) 14 3 (by unfold maxLen;omega)
    rw [← ints_replicate,← j0] at j2
    have hb:Below w3.heap.size w3 w4:=by rw [j0];exact bal (Bs _) _
    have q6:w3.heap.size+1≤w4.heap.size:=by rw [j0];simp
    clear j0
    have m6:=hb.size
    replace g0:=Kc hb g0
    replace i0:=Kc hb i0
    replace oM:=oM.below hb
    replace k0:=btr k0 hb
    clear hb
    have g2:=j2.lt
    replace o1:=Lc g0
    refine hK.out _ _ ⟨g0,i0⟩ (fun hHeld=>?_)
    clear hK K
    try simp only [Ep]
    refine tq 3 16 rfl rfl ?_ ?_ ?_
    rotate_left
    ·intro W' hSw;obtain ⟨s0,s1⟩:=hSw;go_simp;try with_reducible rfl
    try simp only [Ep]
    refine Rdy 4 rfl (fun K hK=>?_)
    go_simp
    obtain ⟨w5,j0,hb⟩:=nmw (World.alloc w4 (.cells #[.int .i64 0,.slice none 0 0,.slice none 0 0,.slice none 0 0] 62))
    have s4:=hb.size
    simp only [Sa] at s4
    replace g0:=Kc hb (Ac g0 _)
    replace i0:=Kc hb (Ac i0 _)
    replace oM:=(oM.below (bal (Bs _) _)).below hb
    replace j2:=Ob (Ob j2 (bal (Bs _) _)) hb
    have o2:w5.cell? ⟨w4.heap.size,0,none⟩=some (.int .i64 0):=Kc hb (Wc (by simp) (by rfl))
    have v3:w5.frozen? ⟨w4.heap.size,0,none⟩=false:=Kf hb (by simp) (Fn (by simp))
    have k3:w5.cell? ⟨w4.heap.size,1,none⟩=some (.slice none 0 0):=Kc hb (Wc (by simp) (by rfl))
    have x3:w5.frozen? ⟨w4.heap.size,1,none⟩=false:=Kf hb (by simp) (Fn (by simp))
    have l3:w5.cell? ⟨w4.heap.size,2,none⟩=some (.slice none 0 0):=Kc hb (Wc (by simp) (by rfl))
    have y3:w5.frozen? ⟨w4.heap.size,2,none⟩=false:=Kf hb (by simp) (Fn (by simp))
    have m3:w5.cell? ⟨w4.heap.size,3,none⟩=some (.slice none 0 0):=Kc hb (Wc (by simp) (by rfl))
    have z3:w5.frozen? ⟨w4.heap.size,3,none⟩=false:=Kf hb (by simp) (Fn (by simp))
    replace k0:=btr (bal k0 _) hb
    clear hb
    rw [← j0]
    clear j0
    have r7:=Lc o2
    refine hK.out _ _ ⟨g0,i0⟩ (fun hHeld=>?_)
    clear hK K
    try simp only [Ep]
    refine Rdy 5 rfl (fun K hK=>?_)
    go_simp
    obtain ⟨w6,j0,hb⟩:=nmw (World.setCell (World.setCell (World.setCell (World.setCell w5 ⟨w4.heap.size,0,none⟩ (.int .i64 0)) ⟨w4.heap.size,1,none⟩ (.slice (some ⟨w3.heap.size,0,none⟩) 14 14)) ⟨w4.heap.size,2,none⟩ (.slice px m.vals.length tx)) ⟨w4.heap.size,3,none⟩ (.slice py m.arrs.length ty))
    have t4:=hb.size
    simp only [Ss] at t4
    replace v3:=Kf hb (Lc (Nn (Nn (Nn (Tc _ (w4.heap.size) 0 (.int .i64 0) o2) _) _) _)) (Fs (Fs (Fs (Fs v3 _) _) _) _)
    replace x3:=Kf hb (Lc (Nn (Nn (Tc _ (w4.heap.size) 1 (.slice (some ⟨w3.heap.size,0,none⟩) 14 14) (Nn k3 _)) _) _)) (Fs (Fs (Fs (Fs x3 _) _) _) _)
    replace y3:=Kf hb (Lc (Nn (Tc _ (w4.heap.size) 2 (.slice px m.vals.length tx) (Nn (Nn l3 _) _)) _)) (Fs (Fs (Fs (Fs y3 _) _) _) _)
    replace z3:=Kf hb (Lc (Tc _ (w4.heap.size) 3 (.slice py m.arrs.length ty) (Nn (Nn (Nn m3 _) _) _))) (Fs (Fs (Fs (Fs z3 _) _) _) _)
    replace g0:=Kc hb (Nn (Nn (Nn (Nn g0 _) _) _) _)
    replace i0:=Kc hb (Nn (Nn (Nn (Nn i0 _) _) _) _)
    replace oM:=((((oM.keep (C1 _ _ _) (fun gq h h2=>by have:=t0 gq h;omega)).keep (C1 _ _ _) (fun gq h h2=>by have:=t0 gq h;omega)).keep (C1 _ _ _) (fun gq h h2=>by have:=t0 gq h;omega)).keep (C1 _ _ _) (fun gq h h2=>by have:=t0 gq h;omega)).below hb
    replace j2:=Ob (Oe (Oe (Oe (Oe j2 _ _ (fun h=>by have:=g2 _ h;omega) _) _ _ (fun h=>by have:=g2 _ h;omega) _) _ _ (fun h=>by have:=g2 _ h;omega) _) _ _ (fun h=>by have:=g2 _ h;omega) _) hb
    replace o2:w6.cell? ⟨w4.heap.size,0,none⟩=some (.int .i64 0):=Kc hb (Nn (Nn (Nn (Tc _ (w4.heap.size) 0 (.int .i64 0) o2) _) _) _)
    replace k3:w6.cell? ⟨w4.heap.size,1,none⟩=some (.slice (some ⟨w3.heap.size,0,none⟩) 14 14):=Kc hb (Nn (Nn (Tc _ (w4.heap.size) 1 (.slice (some ⟨w3.heap.size,0,none⟩) 14 14) (Nn k3 _)) _) _)
    replace l3:w6.cell? ⟨w4.heap.size,2,none⟩=some (.slice px m.vals.length tx):=Kc hb (Nn (Tc _ (w4.heap.size) 2 (.slice px m.vals.length tx) (Nn (Nn l3 _) _)) _)
    replace m3:w6.cell? ⟨w4.heap.size,3,none⟩=some (.slice py m.arrs.length ty):=Kc hb (Tc _ (w4.heap.size) 3 (.slice py m.arrs.length ty) (Nn (Nn (Nn m3 _) _) _))
    replace k0:=btr (bst (bst (bst (bst k0 (w4.heap.size) 0 (by omega) (.int .i64 0)) (w4.heap.size) 1 (by omega) (.slice (some ⟨w3.heap.size,0,none⟩) 14 14)) (w4.heap.size) 2 (by omega) (.slice px m.vals.length tx)) (w4.heap.size) 3 (by omega) (.slice py m.arrs.length ty)) hb
    clear hb
    rw [← j0]
    clear j0
    refine hK.out _ _ ⟨g0,i0⟩ (fun hHeld=>?_)
    clear hK K
    try simp only [Ep]
    refine Dn ?_
    clear hHeld
    go_wp2_with fail
    go_meet
    have OM:OwnMv _ w1.heap.size _ (.slice px m.vals.length tx) (.slice py m.arrs.length ty) us reg0 m:=⟨Om j2 (by omega),Om oM.x (by omega),oM.y.mono (by omega),fun q h h2=>by have:=g2 q h;have:=t0 q (Or.inl h2);omega,fun q h h2=>by have:=g2 q h;have:=t0 q (Or.inr h2);omega,oM.ap⟩
    have v7:=Lc o2
    exact ⟨_,_,_,_,_,_,us,rfl,o2,k3,l3,m3,v3,x3,y3,z3,OM,by omega,by omega,(fun q h hq=>by rcases h with h | h | h;(have:=g2 q h;omega);(have:=t0 q (Or.inl h);omega);(have:=t0 q (Or.inr h);omega)),k0⟩
   go_simp
   obtain ⟨w4,j0,hb⟩:=nmw (World.alloc w3 (.cells #[.int .i64 0,.slice none 0 0,.slice none 0 0,.slice none 0 0] 62))
   have u4:=hb.size
   simp only [Sa] at u4
   replace g0:=Kc hb (Ac g0 _)
   replace i0:=Kc hb (Ac i0 _)
   replace oM:=(oM.below (bal (Bs _) _)).below hb
   have m1:w4.cell? ⟨w3.heap.size,0,none⟩=some (.int .i64 0):=Kc hb (Wc (by simp) (by rfl))
   have u2:w4.frozen? ⟨w3.heap.size,0,none⟩=false:=Kf hb (by simp) (Fn (by simp))
   have x1:w4.cell? ⟨w3.heap.size,1,none⟩=some (.slice none 0 0):=Kc hb (Wc (by simp) (by rfl))
   have v2:w4.frozen? ⟨w3.heap.size,1,none⟩=false:=Kf hb (by simp) (Fn (by simp))
   have y1:w4.cell? ⟨w3.heap.size,2,none⟩=some (.slice none 0 0):=Kc hb (Wc (by simp) (by rfl))
   have x2:w4.frozen? ⟨w3.heap.size,2,none⟩=false:=Kf hb (by simp) (Fn (by simp))
   have z1:w4.cell? ⟨w3.heap.size,3,none⟩=some (.slice none 0 0):=Kc hb (Wc (by simp) (by rfl))
   have y2:w4.frozen? ⟨w3.heap.size,3,none⟩=false:=Kf hb (by simp) (Fn (by simp))
   replace k0:=btr (bal k0 _) hb
   clear hb
   rw [← j0]
   clear j0
   replace o1:=Lc g0
   have s7:=Lc m1
   refine hK.out _ _ ⟨g0,i0⟩ (fun hHeld=>?_)
   clear hK K
   try simp only [Ep]
   refine Rdy 0 rfl (fun K hK=>?_)
   go_simp
   obtain ⟨w5,j0⟩:∃ X,X=World.alloc w4 (.cells (madeCells #[.int .i64 0] 14) 3):=⟨_,rfl⟩
   try rw [← j0]
   have b3:=own_made w4 (.int .i64 0) 14 3 (by unfold maxLen;omega)
   rw [← ints_replicate,← j0] at b3
   have hb:Below w4.heap.size w4 w5:=by rw [j0];exact bal (Bs _) _
   have r6:w4.heap.size+1≤w5.heap.size:=by rw [j0];simp
   clear j0
   have n6:=hb.size
   replace u2:=Kf hb (Lc m1) u2
   replace v2:=Kf hb (Lc x1) v2
   replace x2:=Kf hb (Lc y1) x2
   replace y2:=Kf hb (Lc z1) y2
   replace g0:=Kc hb g0
   replace i0:=Kc hb i0
   replace oM:=oM.below hb
   replace m1:=Kc hb m1
   replace x1:=Kc hb x1
   replace y1:=Kc hb y1
   replace z1:=Kc hb z1
   replace k0:=btr k0 hb
   clear hb
   have i2:=b3.lt
   refine hK.out _ _ ⟨g0,i0⟩ (fun hHeld=>?_)
   clear hK K
   try simp only [Ep]
   refine tq 3 16 rfl rfl ?_ ?_ ?_
   rotate_left
   ·intro W' hSw;obtain ⟨s0,s1⟩:=hSw;go_simp;try with_reducible rfl
   try simp only [Ep]
   refine Rdy 5 rfl (fun K hK=>?_)
   go_simp
   obtain ⟨w6,j0,hb⟩:=nmw (World.setCell (World.setCell (World.setCell (World.setCell w5 ⟨w3.heap.size,0,none⟩ (.int .i64 0)) ⟨w3.heap.size,1,none⟩ (.slice (some ⟨w4.heap.size,0,none⟩) 14 14)) ⟨w3.heap.size,2,none⟩ (.slice px m.vals.length tx)) ⟨w3.heap.size,3,none⟩ (.slice py m.arrs.length ty))
   have b4:=hb.size
   simp only [Ss] at b4
   replace u2:=Kf hb (Lc (Nn (Nn (Nn (Tc _ (w3.heap.size) 0 (.int .i64 0) m1) _) _) _)) (Fs (Fs (Fs (Fs u2 _) _) _) _)
   replace v2:=Kf hb (Lc (Nn (Nn (Tc _ (w3.heap.size) 1 (.slice (some ⟨w4.heap.size,0,none⟩) 14 14) (Nn x1 _)) _) _)) (Fs (Fs (Fs (Fs v2 _) _) _) _)
   replace x2:=Kf hb (Lc (Nn (Tc _ (w3.heap.size) 2 (.slice px m.vals.length tx) (Nn (Nn y1 _) _)) _)) (Fs (Fs (Fs (Fs x2 _) _) _) _)
   replace y2:=Kf hb (Lc (Tc _ (w3.heap.size) 3 (.slice py m.arrs.length ty) (Nn (Nn (Nn z1 _) _) _))) (Fs (Fs (Fs (Fs y2 _) _) _) _)
   replace g0:=Kc hb (Nn (Nn (Nn (Nn g0 _) _) _) _)
   replace i0:=Kc hb (Nn (Nn (Nn (Nn i0 _) _) _) _)
   replace oM:=((((oM.keep (C1 _ _ _) (fun gq h h2=>by have:=t0 gq h;omega)).keep (C1 _ _ _) (fun gq h h2=>by have:=t0 gq h;omega)).keep (C1 _ _ _) (fun gq h h2=>by have:=t0 gq h;omega)).keep (C1 _ _ _) (fun gq h h2=>by have:=t0 gq h;omega)).below hb
   replace m1:w6.cell? ⟨w3.heap.size,0,none⟩=some (.int .i64 0):=Kc hb (Nn (Nn (Nn (Tc _ (w3.heap.size) 0 (.int .i64 0) m1) _) _) _)
   replace x1:w6.cell? ⟨w3.heap.size,1,none⟩=some (.slice (some ⟨w4.heap.size,0,none⟩) 14 14):=Kc hb (Nn (Nn (Tc _ (w3.heap.size) 1 (.slice (some ⟨w4.heap.size,0,none⟩) 14 14) (Nn x1 _)) _) _)
   replace y1:w6.cell? ⟨w3.heap.size,2,none⟩=some (.slice px m.vals.length tx):=Kc hb (Nn (Tc _ (w3.heap.size) 2 (.slice px m.vals.length tx) (Nn (Nn y1 _) _)) _)
   replace z1:w6.cell? ⟨w3.heap.size,3,none⟩=some (.slice py m.arrs.length ty):=Kc hb (Tc _ (w3.heap.size) 3 (.slice py m.arrs.length ty) (Nn (Nn (Nn z1 _) _) _))
   replace b3:=Ob (Oe (Oe (Oe (Oe b3 _ _ (fun h=>by have:=i2 _ h;omega) _) _ _ (fun h=>by have:=i2 _ h;omega) _) _ _ (fun h=>by have:=i2 _ h;omega) _) _ _ (fun h=>by have:=i2 _ h;omega) _) hb
   replace k0:=btr (bst (bst (bst (bst k0 (w3.heap.size) 0 (by omega) (.int .i64 0)) (w3.heap.size) 1 (by omega) (.slice (some ⟨w4.heap.size,0,none⟩) 14 14)) (w3.heap.size) 2 (by omega) (.slice px m.vals.length tx)) (w3.heap.size) 3 (by omega) (.slice py m.arrs.length ty)) hb
   clear hb
   rw [← j0]
   clear j0
   refine hK.out _ _ ⟨g0,i0⟩ (fun hHeld=>?_)
   clear hK K
   try simp only [Ep]
   refine Dn ?_
   clear hHeld
   go_wp2_with fail
   go_meet
   have OM:OwnMv _ w1.heap.size _ (.slice px m.vals.length tx) (.slice py m.arrs.length ty) us reg0 m:=⟨Om b3 (by omega),Om oM.x (by omega),oM.y.mono (by omega),fun q h h2=>by have:=i2 q h;have:=t0 q (Or.inl h2);omega,fun q h h2=>by have:=i2 q h;have:=t0 q (Or.inr h2);omega,oM.ap⟩
   have z6:=Lc m1
   exact ⟨_,_,_,_,_,_,us,rfl,m1,x1,y1,z1,u2,v2,x2,y2,OM,by omega,by omega,(fun q h hq=>by rcases h with h | h | h;(have:=i2 q h;omega);(have:=t0 q (Or.inl h);omega);(have:=t0 q (Or.inr h);omega)),k0⟩
  go_simp
  obtain ⟨w3,j0,hb⟩:=nmw (World.alloc w2 (.cells #[.int .i64 0,.slice none 0 0,.slice none 0 0,.slice none 0 0] 62))
  have d4:=hb.size
  simp only [Sa] at d4
  replace g0:=Kc hb (Ac g0 _)
  replace i0:=Kc hb (Ac i0 _)
  have h0:w3.cell? ⟨w2.heap.size,0,none⟩=some (.int .i64 0):=Kc hb (Wc (by simp) (by rfl))
  have o0:w3.frozen? ⟨w2.heap.size,0,none⟩=false:=Kf hb (by simp) (Fn (by simp))
  have l0:w3.cell? ⟨w2.heap.size,1,none⟩=some (.slice none 0 0):=Kc hb (Wc (by simp) (by rfl))
  have p0:w3.frozen? ⟨w2.heap.size,1,none⟩=false:=Kf hb (by simp) (Fn (by simp))
  have m0:w3.cell? ⟨w2.heap.size,2,none⟩=some (.slice none 0 0):=Kc hb (Wc (by simp) (by rfl))
  have q0:w3.frozen? ⟨w2.heap.size,2,none⟩=false:=Kf hb (by simp) (Fn (by simp))
  have n0:w3.cell? ⟨w2.heap.size,3,none⟩=some (.slice none 0 0):=Kc hb (Wc (by simp) (by rfl))
  have r0:w3.frozen? ⟨w2.heap.size,3,none⟩=false:=Kf hb (by simp) (Fn (by simp))
  replace k0:=btr (bal k0 _) hb
  clear hb
  rw [← j0]
  clear j0
  replace o1:=Lc g0
  have y4:=Lc h0
  refine hK.out _ _ ⟨g0,i0⟩ (fun hHeld=>?_)
  clear hK K
  try simp only [Ep]
  refine Rdy2 0 2 rfl rfl (fun K hK=>?_) (fun K hK=>?_)
  ·go_simp
   obtain ⟨w4,j0⟩:∃ X,X=World.alloc w3 (.cells (madeCells #[.int .i64 0] 14) 3):=⟨_,rfl⟩
   try rw [← j0]
   have i1:=own_made w3 (.int .i64 0) 14 3 (by unfold maxLen;omega)
   rw [← ints_replicate,← j0] at i1
   have hb:Below w3.heap.size w3 w4:=by rw [j0];exact bal (Bs _) _
   have q5:w3.heap.size+1≤w4.heap.size:=by rw [j0];simp
   clear j0
   have j5:=hb.size
   replace o0:=Kf hb (Lc h0) o0
   replace p0:=Kf hb (Lc l0) p0
   replace q0:=Kf hb (Lc m0) q0
   replace r0:=Kf hb (Lc n0) r0
   replace g0:=Kc hb g0
   replace i0:=Kc hb i0
   replace h0:=Kc hb h0
   replace l0:=Kc hb l0
   replace m0:=Kc hb m0
   replace n0:=Kc hb n0
   replace k0:=btr k0 hb
   clear hb
   have z0:=i1.lt
   refine hK.out _ _ ⟨g0,i0⟩ (fun hHeld=>?_)
   clear hK K
   try simp only [Ep]
   refine Rdy 2 rfl (fun K hK=>?_)
   go_simp
   refine (j4.out _ (btr k4.out k0)).mono ?_
   rintro e w5 ⟨ux,uy,us,rfl,ox,oy,k2,hb⟩
   obtain ⟨px,tx,rfl⟩:=Oh ox
   obtain ⟨py,ty,rfl⟩:=Oh oy.out
   have oM:OwnM w5 _ _ _ _ m:=⟨ox,oy,k2⟩
   clear ox oy k2
   have k5:=hb.size
   replace o0:=Kf hb (Lc h0) o0
   replace p0:=Kf hb (Lc l0) p0
   replace q0:=Kf hb (Lc m0) q0
   replace r0:=Kf hb (Lc n0) r0
   replace g0:=Kc hb g0
   replace i0:=Kc hb i0
   replace h0:=Kc hb h0
   replace l0:=Kc hb l0
   replace m0:=Kc hb m0
   replace n0:=Kc hb n0
   replace i1:=Ob i1 hb
   replace k0:=btr k0 hb
   clear hb
   have w0:=oM.lt
   refine hK.out _ _ ⟨g0,i0⟩ (fun hHeld=>?_)
   clear hK K
   try simp only [Ep]
   refine tq 3 16 rfl rfl ?_ ?_ ?_
   rotate_left
   ·intro W' hSw;obtain ⟨s0,s1⟩:=hSw;go_simp;try with_reducible rfl
   try simp only [Ep]
   refine Rdy 5 rfl (fun K hK=>?_)
   go_simp
   obtain ⟨w6,j0,hb⟩:=nmw (World.setCell (World.setCell (World.setCell (World.setCell w5 ⟨w2.heap.size,0,none⟩ (.int .i64 0)) ⟨w2.heap.size,1,none⟩ (.slice (some ⟨w3.heap.size,0,none⟩) 14 14)) ⟨w2.heap.size,2,none⟩ (.slice px m.vals.length tx)) ⟨w2.heap.size,3,none⟩ (.slice py m.arrs.length ty))
   have e4:=hb.size
   simp only [Ss] at e4
   replace o0:=Kf hb (Lc (Nn (Nn (Nn (Tc _ (w2.heap.size) 0 (.int .i64 0) h0) _) _) _)) (Fs (Fs (Fs (Fs o0 _) _) _) _)
   replace p0:=Kf hb (Lc (Nn (Nn (Tc _ (w2.heap.size) 1 (.slice (some ⟨w3.heap.size,0,none⟩) 14 14) (Nn l0 _)) _) _)) (Fs (Fs (Fs (Fs p0 _) _) _) _)
   replace q0:=Kf hb (Lc (Nn (Tc _ (w2.heap.size) 2 (.slice px m.vals.length tx) (Nn (Nn m0 _) _)) _)) (Fs (Fs (Fs (Fs q0 _) _) _) _)
   replace r0:=Kf hb (Lc (Tc _ (w2.heap.size) 3 (.slice py m.arrs.length ty) (Nn (Nn (Nn n0 _) _) _))) (Fs (Fs (Fs (Fs r0 _) _) _) _)
   replace g0:=Kc hb (Nn (Nn (Nn (Nn g0 _) _) _) _)
   replace i0:=Kc hb (Nn (Nn (Nn (Nn i0 _) _) _) _)
   replace h0:w6.cell? ⟨w2.heap.size,0,none⟩=some (.int .i64 0):=Kc hb (Nn (Nn (Nn (Tc _ (w2.heap.size) 0 (.int .i64 0) h0) _) _) _)
   replace l0:w6.cell? ⟨w2.heap.size,1,none⟩=some (.slice (some ⟨w3.heap.size,0,none⟩) 14 14):=Kc hb (Nn (Nn (Tc _ (w2.heap.size) 1 (.slice (some ⟨w3.heap.size,0,none⟩) 14 14) (Nn l0 _)) _) _)
   replace m0:w6.cell? ⟨w2.heap.size,2,none⟩=some (.slice px m.vals.length tx):=Kc hb (Nn (Tc _ (w2.heap.size) 2 (.slice px m.vals.length tx) (Nn (Nn m0 _) _)) _)
   replace n0:w6.cell? ⟨w2.heap.size,3,none⟩=some (.slice py m.arrs.length ty):=Kc hb (Tc _ (w2.heap.size) 3 (.slice py m.arrs.length ty) (Nn (Nn (Nn n0 _) _) _))
   replace i1:=Ob (Oe (Oe (Oe (Oe i1 _ _ (fun h=>by have:=z0 _ h;omega) _) _ _ (fun h=>by have:=z0 _ h;omega) _) _ _ (fun h=>by have:=z0 _ h;omega) _) _ _ (fun h=>by have:=z0 _ h;omega) _) hb
   replace oM:=((((oM.keep (C1 _ _ _) (fun gq h h2=>by have:=w0 gq h;omega)).keep (C1 _ _ _) (fun gq h h2=>by have:=w0 gq h;omega)).keep (C1 _ _ _) (fun gq h h2=>by have:=w0 gq h;omega)).keep (C1 _ _ _) (fun gq h h2=>by have:=w0 gq h;omega)).below hb
   replace k0:=btr (bst (bst (bst (bst k0 (w2.heap.size) 0 (by omega) (.int .i64 0)) (w2.heap.size) 1 (by omega) (.slice (some ⟨w3.heap.size,0,none⟩) 14 14)) (w2.heap.size) 2 (by omega) (.slice px m.vals.length tx)) (w2.heap.size) 3 (by omega) (.slice py m.arrs.length ty)) hb
   clear hb
   rw [← j0]
   clear j0
   refine hK.out _ _ ⟨g0,i0⟩ (fun hHeld=>?_)
   clear hK K
   try simp only [Ep]
   refine Dn ?_
   clear hHeld
   go_wp2_with fail
   go_meet
   have OM:OwnMv _ w1.heap.size _ (.slice px m.vals.length tx) (.slice py m.arrs.length ty) us reg0 m:=⟨Om i1 (by omega),Om oM.x (by omega),oM.y.mono (by omega),fun q h h2=>by have:=z0 q h;have:=w0 q (Or.inl h2);omega,fun q h h2=>by have:=z0 q h;have:=w0 q (Or.inr h2);omega,oM.ap⟩
   have a7:=Lc h0
   exact ⟨_,_,_,_,_,_,us,rfl,h0,l0,m0,n0,o0,p0,q0,r0,OM,by omega,by omega,(fun q h hq=>by rcases h with h | h | h;(have:=z0 q h;omega);(have:=w0 q (Or.inl h);omega);(have:=w0 q (Or.inr h);omega)),k0⟩
  go_simp
  refine (j4.out _ (btr k4.out k0)).mono ?_
  rintro e w4 ⟨ux,uy,us,rfl,ox,oy,k2,hb⟩
  obtain ⟨px,tx,rfl⟩:=Oh ox
  obtain ⟨py,ty,rfl⟩:=Oh oy.out
  have oM:OwnM w4 _ _ _ _ m:=⟨ox,oy,k2⟩
  clear ox oy k2
  have l5:=hb.size
  replace o0:=Kf hb (Lc h0) o0
  replace p0:=Kf hb (Lc l0) p0
  replace q0:=Kf hb (Lc m0) q0
  replace r0:=Kf hb (Lc n0) r0
  replace g0:=Kc hb g0
  replace i0:=Kc hb i0
  replace h0:=Kc hb h0
  replace l0:=Kc hb l0
  replace m0:=Kc hb m0
  replace n0:=Kc hb n0
  replace k0:=btr k0 hb
  clear hb
  have x0:=oM.lt
  replace o1:=Lc g0
  replace y4:=Lc h0
  refine hK.out _ _ ⟨g0,i0⟩ (fun hHeld=>?_)
  clear hK K
  try simp only [Ep]
  refine Rdy 0 rfl (fun K hK=>?_)
  go_simp
  obtain ⟨w5,j0⟩:∃ X,X=World.alloc w4 (.cells (madeCells #[.int .i64 0] 14) 3):=⟨_,rfl⟩
  try rw [← j0]
  have r1:=own_made w4 (.int .i64 0) 14 3 (by unfold maxLen;omega)
  rw [← ints_replicate,← j0] at r1
  have hb:Below w4.heap.size w4 w5:=by rw [j0];exact bal (Bs _) _
  have r5:w4.heap.size+1≤w5.heap.size:=by rw [j0];simp
  clear j0
  have m5:=hb.size
  replace o0:=Kf hb (Lc h0) o0
  replace p0:=Kf hb (Lc l0) p0
  replace q0:=Kf hb (Lc m0) q0
  replace r0:=Kf hb (Lc n0) r0
  replace g0:=Kc hb g0
  replace i0:=Kc hb i0
  replace h0:=Kc hb h0
  replace l0:=Kc hb l0
  replace m0:=Kc hb m0
  replace n0:=Kc hb n0
  replace oM:=oM.below hb
  replace k0:=btr k0 hb
  clear hb
  have g1:=r1.lt
  refine hK.out _ _ ⟨g0,i0⟩ (fun hHeld=>?_)
  clear hK K
  try simp only [Ep]
  refine tq 3 16 rfl rfl ?_ ?_ ?_
  rotate_left
  ·intro W' hSw;obtain ⟨s0,s1⟩:=hSw;go_simp;try with_reducible rfl
  try simp only [Ep]
  refine Rdy 5 rfl (fun K hK=>?_)
  go_simp
  obtain ⟨w6,j0,hb⟩:=nmw (World.setCell (World.setCell (World.setCell (World.setCell w5 ⟨w2.heap.size,0,none⟩ (.int .i64 0)) ⟨w2.heap.size,1,none⟩ (.slice (some ⟨w4.heap.size,0,none⟩) 14 14)) ⟨w2.heap.size,2,none⟩ (.slice px m.vals.length tx)) ⟨w2.heap.size,3,none⟩ (.slice py m.arrs.length ty))
  have f4:=hb.size
  simp only [Ss] at f4
  replace o0:=Kf hb (Lc (Nn (Nn (Nn (Tc _ (w2.heap.size) 0 (.int .i64 0) h0) _) _) _)) (Fs (Fs (Fs (Fs o0 _) _) _) _)
  replace p0:=Kf hb (Lc (Nn (Nn (Tc _ (w2.heap.size) 1 (.slice (some ⟨w4.heap.size,0,none⟩) 14 14) (Nn l0 _)) _) _)) (Fs (Fs (Fs (Fs p0 _) _) _) _)
  replace q0:=Kf hb (Lc (Nn (Tc _ (w2.heap.size) 2 (.slice px m.vals.length tx) (Nn (Nn m0 _) _)) _)) (Fs (Fs (Fs (Fs q0 _) _) _) _)
  replace r0:=Kf hb (Lc (Tc _ (w2.heap.size) 3 (.slice py m.arrs.length ty) (Nn (Nn (Nn n0 _) _) _))) (Fs (Fs (Fs (Fs r0 _) _) _) _)
  replace g0:=Kc hb (Nn (Nn (Nn (Nn g0 _) _) _) _)
  replace i0:=Kc hb (Nn (Nn (Nn (Nn i0 _) _) _) _)
  replace h0:w6.cell? ⟨w2.heap.size,0,none⟩=some (.int .i64 0):=Kc hb (Nn (Nn (Nn (Tc _ (w2.heap.size) 0 (.int .i64 0) h0) _) _) _)
  replace l0:w6.cell? ⟨w2.heap.size,1,none⟩=some (.slice (some ⟨w4.heap.size,0,none⟩) 14 14):=Kc hb (Nn (Nn (Tc _ (w2.heap.size) 1 (.slice (some ⟨w4.heap.size,0,none⟩) 14 14) (Nn l0 _)) _) _)
  replace m0:w6.cell? ⟨w2.heap.size,2,none⟩=some (.slice px m.vals.length tx):=Kc hb (Nn (Tc _ (w2.heap.size) 2 (.slice px m.vals.length tx) (Nn (Nn m0 _) _)) _)
  replace n0:w6.cell? ⟨w2.heap.size,3,none⟩=some (.slice py m.arrs.length ty):=Kc hb (Tc _ (w2.heap.size) 3 (.slice py m.arrs.length ty) (Nn (Nn (Nn n0 _) _) _))
  replace oM:=((((oM.keep (C1 _ _ _) (fun gq h h2=>by have:=x0 gq h;omega)).keep (C1 _ _ _) (fun gq h h2=>by have:=x0 gq h;omega)).keep (C1 _ _ _) (fun gq h h2=>by have:=x0 gq h;omega)).keep (C1 _ _ _) (fun gq h h2=>by have:=x0 gq h;omega)).below hb
  replace r1:=Ob (Oe (Oe (Oe (Oe r1 _ _ (fun h=>by have:=g1 _ h;omega) _) _ _ (fun h=>by have:=g1 _ h;omega) _) _ _ (fun h=>by have:=g1 _ h;omega) _) _ _ (fun h=>by have:=g1 _ h;omega) _) hb
  replace k0:=btr (bst (bst (bst (bst k0 (w2.heap.size) 0 (by omega) (.int .i64 0)) (w2.heap.size) 1 (by omega) (.slice (some ⟨w4.heap.size,0,none⟩) 14 14)) (w2.heap.size) 2 (by omega) (.slice px m.vals.length tx)) (w2.heap.size) 3 (by omega) (.slice py m.arrs.length ty)) hb
  clear hb
  rw [← j0]
  clear j0
  refine hK.out _ _ ⟨g0,i0⟩ (fun hHeld=>?_)
  clear hK K
  try simp only [Ep]
  refine Dn ?_
  clear hHeld
  go_wp2_with fail
  go_meet
  have OM:OwnMv _ w1.heap.size _ (.slice px m.vals.length tx) (.slice py m.arrs.length ty) us reg0 m:=⟨Om r1 (by omega),Om oM.x (by omega),oM.y.mono (by omega),fun q h h2=>by have:=g1 q h;have:=x0 q (Or.inl h2);omega,fun q h h2=>by have:=g1 q h;have:=x0 q (Or.inr h2);omega,oM.ap⟩
  have b7:=Lc h0
  exact ⟨_,_,_,_,_,_,us,rfl,h0,l0,m0,n0,o0,p0,q0,r0,OM,by omega,by omega,(fun q h hq=>by rcases h with h | h | h;(have:=g1 q h;omega);(have:=x0 q (Or.inl h);omega);(have:=x0 q (Or.inr h);omega)),k0⟩
 obtain ⟨w3,rfl⟩:∃ W,W=wc:=⟨_,rfl⟩
 obtain ⟨bb,gr,px,tx,py,ty,us,rfl,d0,d1,d2,d3,f0,f1,f2,f3,OM,x7,y7,nM,hb⟩:=hcut
 have iM:=OM.lt
 have n5:=hb.size
 replace t2:=Kf hb (Lc j1) t2
 replace y0:=Kf hb (Lc n1) y0
 replace z2:=Kc hb z2
 replace o3:=Kc hb o3
 replace p3:=Kc hb p3
 replace g0:=Kc hb g0
 replace i0:=Kc hb i0
 replace j1:=Kc hb j1
 replace n1:=Kc hb n1
 replace k0:=btr k0 hb
 clear hb
 have u6:=Lc z2
 replace o1:=Lc g0
 have z4:=Lc j1
 have v6:=Lc d0
 go_upto_region 3 with (fail)
 obtain ⟨w4,j0,hb⟩:=nmw (World.alloc w3 (.cells #[] 38))
 have m2:=Ob (World.ownsRow_lit (base:=(w3).heap.size) (e:=38) (size:=2) (w3) #[] 0 (Nat.le_refl _) (by unfold maxLen;omega) (by simp)) hb
 try simp only [Sa,Ss] at m2
 have g4:=hb.size
 simp only [Sa] at g4
 replace t2:=Kf hb (Lc (Ac j1 _)) (Fa (Lc j1) t2 _)
 replace y0:=Kf hb (Lc (Ac n1 _)) (Fa (Lc n1) y0 _)
 replace f0:=Kf hb (Lc (Ac d0 _)) (Fa (Lc d0) f0 _)
 replace f1:=Kf hb (Lc (Ac d1 _)) (Fa (Lc d1) f1 _)
 replace f2:=Kf hb (Lc (Ac d2 _)) (Fa (Lc d2) f2 _)
 replace f3:=Kf hb (Lc (Ac d3 _)) (Fa (Lc d3) f3 _)
 replace z2:=Kc hb (Ac z2 _)
 replace o3:=Kc hb (Ac o3 _)
 replace p3:=Kc hb (Ac p3 _)
 replace g0:=Kc hb (Ac g0 _)
 replace i0:=Kc hb (Ac i0 _)
 replace j1:=Kc hb (Ac j1 _)
 replace n1:=Kc hb (Ac n1 _)
 replace d0:=Kc hb (Ac d0 _)
 replace d1:=Kc hb (Ac d1 _)
 replace d2:=Kc hb (Ac d2 _)
 replace d3:=Kc hb (Ac d3 _)
 replace OM:=(OM.below (bal (Bs _) _)).below hb
 replace k0:=btr (bal k0 _) hb
 clear hb
 have x4:=m2.lt
 try simp only [Sa] at x4
 rw [← j0]
 clear j0
 clear g0 i0
 have tot4h:=Lib.hid k0
 have c6:OwnMv w4 w1.heap.size (.slice (some ⟨gr,0,none⟩) 14 14) (.slice px m.vals.length tx) (.slice py m.arrs.length ty) us (stN c 0 s).regs (stN c 0 s).mem:=by show OwnMv _ _ _ _ _ _ s.regs s.mem;rw [e5.out.1,e5.out.2.1];exact OM
 have L0:L6 c s w4 w4 w1.heap.size w3.heap.size bb (.slice (some ⟨gr,0,none⟩) 14 14) (.slice px m.vals.length tx) (.slice py m.arrs.length ty) us (.slice (some ⟨w3.heap.size,0,none⟩) 0 0) 0:=⟨by show _=some (Value.int .i64 s.pc);rw [e5.out.2.2];exact d0,d1,d2,d3,f0,f1,f2,f3,c6,m2,fun q h=>by have e1:w3.heap.size=q:=Option.some.inj h;exact ⟨fun h2=>by have:=iM _ h2;omega,by omega⟩,fun j h=>by omega,Chg.refl _ _⟩
 have b5:∀ q,q < w1.heap.size→¬(q=bb∨OwnMB (.slice (some ⟨gr,0,none⟩) 14 14) (.slice px m.vals.length tx) (.slice py m.arrs.length ty) us q∨w3.heap.size≤q):=fun q hq h=>by rcases h with h | h | h;omega;(have:=iM _ h;omega);omega
 have p5:=b5 w.heap.size (by omega);have d5:=b5 (w.heap.size+1+1) (by omega)
 have z5:=Lib.hid b5;have c7:=Lib.hid iM;have a6:=Lib.hid nM;have x5:=Lib.hid L0
 clear b5 iM nM L0 c6 OM m2 d0 d1 d2 d3 f0 f1 f2 f3
 go_wp2_with fail
 go_loopw [10,11] (fun tr t wr=>∃ n:Nat,n≤20000∧t=.int .i64 n∧L6 c s w4 wr w1.heap.size w3.heap.size bb (.slice (some ⟨gr,0,none⟩) 14 14) (.slice px m.vals.length tx) (.slice py m.arrs.length ty) us tr n) (fun _ t _=>20000-(intOf t).toNat)
 case atStart=>exact ⟨0,by omega,rfl,x5.out⟩
 case round =>
  obtain ⟨n,b8,rfl,hL⟩:=hrel
  have HL:=Lib.hid hL;clear hL x5
  obtain ⟨pu,tu,rfl⟩:=Oh HL.out.ev
  have e8:=HL.out.chg.size
  have e3:=k0.trans (HL.out.chg.below w.heap.size k0.size (fun q hq h=>z5.out q (by omega) h))
  replace z2:=Gc HL.out.chg z2 p5;replace o3:=Gc HL.out.chg o3 p5;replace p3:=Gc HL.out.chg p3 p5
  replace t2:=Gf HL.out.chg (Lc j1) t2 d5;replace y0:=Gf HL.out.chg (Lc n1) y0 d5
  replace j1:=Gc HL.out.chg j1 d5;replace n1:=Gc HL.out.chg n1 d5
  clear k0
  by_cases hlt:n < 20000
  ·have a5:=h7.out n
   obtain ⟨k,hk⟩:∃ k:Nat,(stN c n s).pc=k:=⟨(stN c n s).pc.toNat,by have:=a5.pc0;omega⟩
   have g6:k < c.list.length:=by have:=a5.pc1;omega
   have g5:Hid (opAt c s n=c.list[k].op):=Lib.hid (by unfold opAt insAt;rw [hk,Int.toNat_natCast,List.getElem?_eq_getElem g6];rfl)
   have m7:=(HR.out wr e3).l
   obtain ⟨_,hn,aa,w7,b0,g8,hv,l7,ha,e6⟩:=m7
   simp only [Value.slice.injEq,true_and] at hv
   obtain ⟨rfl,rfl⟩:=hv
   obtain ⟨rfl,k7⟩:=ha (by omega)
   obtain ⟨e0,_⟩:=reads_Instr e6 k g6
   have ke:=Lc e0
   have c8:(k:Int) < (c.list.length:Int):=by omega
   have z7:=evN_len c s n
   clear e6 ha k7
   have o6:(Value.int .i64 (stN c n s).pc)=.int .i64 (k:Int):=by rw [hk]
   have b6:=Lib.hid (exec_any w3.heap.size w1.heap.size _ _ _ _ _ _ _ us c (stN c n s) (evN c n s) wr (HR.out wr e3) HL.out.own HL.out.ev (fun q h=>(HL.out.ed q h).1) (by omega) (by omega) a5 e7.out)
   have l4:=Lib.hid (by have h:=b6.out;rw [o6] at h;exact h)
   clear b6 o6 a5
   have d0:wr.cell? ⟨bb,0,none⟩=some (.int .i64 (k:Int)):=by rw [← hk];exact HL.out.d0
   have d1:=HL.out.d1;have d2:=HL.out.d2;have d3:=HL.out.d3
   clear hk
   obtain ⟨x,HX⟩:∃ x:Ins,Hid (x=c.list[k]):=⟨c.list[k],Lib.hid rfl⟩
   rw [← HX.out] at e0 g5
   have x6:=Lc d0
   go_upto_region 7 with (fail)
   go_wp2_with fail
   refine l4.out.mono ?_
   rintro e w5 ⟨u',rfl,O5,E5,f6,e2⟩
   obtain ⟨pu',tu',rfl⟩:=Oh E5
   have d8:=e2.size
   have n3:¬(OwnMB (.slice (some ⟨gr,0,none⟩) 14 14) (.slice px m.vals.length tx) (.slice py m.arrs.length ty) us bb∨(Value.slice pu (evN c n s).length tu).ownBlock=some bb):=by rintro (h | h);exact a6.out _ h rfl;exact (HL.out.ed bb h).2 rfl
   have n4:∀ q,q < w1.heap.size→¬(OwnMB (.slice (some ⟨gr,0,none⟩) 14 14) (.slice px m.vals.length tx) (.slice py m.arrs.length ty) us q∨(Value.slice pu (evN c n s).length tu).ownBlock=some q):=fun q hq h=>by rcases h with h | h;(have:=c7.out _ h;omega);(have:=(HL.out.ev.lt _ h).1;omega)
   have f0:=Gf e2 (Lc HL.out.d0) HL.out.f0 n3;replace d0:=Gc e2 HL.out.d0 n3
   have f1:=Gf e2 (Lc HL.out.d1) HL.out.f1 n3;replace d1:=Gc e2 HL.out.d1 n3
   have f2:=Gf e2 (Lc HL.out.d2) HL.out.f2 n3;replace d2:=Gc e2 HL.out.d2 n3
   have f3:=Gf e2 (Lc HL.out.d3) HL.out.f3 n3;replace d3:=Gc e2 HL.out.d3 n3
   replace t2:=Gf e2 (Lc j1) t2 (n4 _ (by omega));replace j1:=Gc e2 j1 (n4 _ (by omega))
   replace y0:=Gf e2 (Lc n1) y0 (n4 _ (by omega));replace n1:=Gc e2 n1 (n4 _ (by omega))
   clear z2 o3 p3 e0
   have v4:∀ q,OwnMB (.slice (some ⟨gr,0,none⟩) 14 14) (.slice px m.vals.length tx) (.slice py m.arrs.length ty) us q→w1.heap.size≤q∧q < w5.heap.size∧¬q=bb:=fun q h=>⟨(O5.lt q h).1,(O5.lt q h).2,a6.out q h⟩
   have i4:∀ q,(Value.slice pu' (evN c n s++stEvs (insAt c (stN c n s).pc) (stN c n s)).length tu').ownBlock=some q→w3.heap.size≤q∧q < w5.heap.size∧¬q=bb:=fun q h=>⟨(E5.lt q h).1,(E5.lt q h).2,fun e1=>by rcases (f6 q h).2 with h2 | h2;exact (HL.out.ed q h2).2 e1;(have:=Lc HL.out.d0;omega)⟩
   have m4:Chg (fun q=>q=bb∨OwnMB (.slice (some ⟨gr,0,none⟩) 14 14) (.slice px m.vals.length tx) (.slice py m.arrs.length ty) us q∨w3.heap.size≤q) w4 w5:=HL.out.chg.trans (e2.mono (fun q _ h=>by rcases h with h | h;exact Or.inr (Or.inl h);exact Or.inr (Or.inr (HL.out.ev.lt _ h).1)))
   have d6:=fun q h=>(f6 q h).1
   clear e2 n3 n4 l4
   have e3:=tot4h.out.trans (m4.below w.heap.size tot4h.out.size (fun q hq h=>z5.out q (by omega) h))
   go_upto_region 8 with (fail)
   obtain ⟨w6,j0,hb⟩:=nmw (World.setCell (World.setCell (World.setCell (World.setCell w5 ⟨bb,0,none⟩ (.int .i64 (stPc (insAt c (stN c n s).pc) (stN c n s)))) ⟨bb,1,none⟩ (.slice (some ⟨gr,0,none⟩) 14 14)) ⟨bb,2,none⟩ (.slice px m.vals.length tx)) ⟨bb,3,none⟩ (.slice py m.arrs.length ty))
   have h4:=hb.size
   simp only [Ss] at h4
   replace t2:=Kf hb (Lc (Nn (Nn (Nn (Nn j1 _) _) _) _)) (Fs (Fs (Fs (Fs t2 _) _) _) _)
   replace y0:=Kf hb (Lc (Nn (Nn (Nn (Nn n1 _) _) _) _)) (Fs (Fs (Fs (Fs y0 _) _) _) _)
   replace f0:=Kf hb (Lc (Nn (Nn (Nn (Tc _ (bb) 0 (.int .i64 (stPc (insAt c (stN c n s).pc) (stN c n s))) d0) _) _) _)) (Fs (Fs (Fs (Fs f0 _) _) _) _)
   replace f1:=Kf hb (Lc (Nn (Nn (Tc _ (bb) 1 (.slice (some ⟨gr,0,none⟩) 14 14) (Nn d1 _)) _) _)) (Fs (Fs (Fs (Fs f1 _) _) _) _)
   replace f2:=Kf hb (Lc (Nn (Tc _ (bb) 2 (.slice px m.vals.length tx) (Nn (Nn d2 _) _)) _)) (Fs (Fs (Fs (Fs f2 _) _) _) _)
   replace f3:=Kf hb (Lc (Tc _ (bb) 3 (.slice py m.arrs.length ty) (Nn (Nn (Nn d3 _) _) _))) (Fs (Fs (Fs (Fs f3 _) _) _) _)
   replace j1:=Kc hb (Nn (Nn (Nn (Nn j1 _) _) _) _)
   replace n1:=Kc hb (Nn (Nn (Nn (Nn n1 _) _) _) _)
   replace d0:w6.cell? ⟨bb,0,none⟩=some (.int .i64 (stPc (insAt c (stN c n s).pc) (stN c n s))):=Kc hb (Nn (Nn (Nn (Tc _ (bb) 0 (.int .i64 (stPc (insAt c (stN c n s).pc) (stN c n s))) d0) _) _) _)
   replace d1:w6.cell? ⟨bb,1,none⟩=some (.slice (some ⟨gr,0,none⟩) 14 14):=Kc hb (Nn (Nn (Tc _ (bb) 1 (.slice (some ⟨gr,0,none⟩) 14 14) (Nn d1 _)) _) _)
   replace d2:w6.cell? ⟨bb,2,none⟩=some (.slice px m.vals.length tx):=Kc hb (Nn (Tc _ (bb) 2 (.slice px m.vals.length tx) (Nn (Nn d2 _) _)) _)
   replace d3:w6.cell? ⟨bb,3,none⟩=some (.slice py m.arrs.length ty):=Kc hb (Tc _ (bb) 3 (.slice py m.arrs.length ty) (Nn (Nn (Nn d3 _) _) _))
   replace O5:=((((O5.keep (C1 _ _ _) (fun gq h h2=>by have:=v4 gq h;omega)).keep (C1 _ _ _) (fun gq h h2=>by have:=v4 gq h;omega)).keep (C1 _ _ _) (fun gq h h2=>by have:=v4 gq h;omega)).keep (C1 _ _ _) (fun gq h h2=>by have:=v4 gq h;omega)).below hb
   replace E5:=Ob (Oe (Oe (Oe (Oe E5 _ _ (fun h=>by have:=i4 _ h;omega) _) _ _ (fun h=>by have:=i4 _ h;omega) _) _ _ (fun h=>by have:=i4 _ h;omega) _) _ _ (fun h=>by have:=i4 _ h;omega) _) hb
   replace m4:=((((m4.setCell (bb) 0 (.int .i64 (stPc (insAt c (stN c n s).pc) (stN c n s))) (fun _=>Or.inl rfl)).setCell (bb) 1 (.slice (some ⟨gr,0,none⟩) 14 14) (fun _=>Or.inl rfl)).setCell (bb) 2 (.slice px m.vals.length tx) (fun _=>Or.inl rfl)).setCell (bb) 3 (.slice py m.arrs.length ty) (fun _=>Or.inl rfl)).trans (Chg.of_below hb)
   replace k0:=btr (bst (bst (bst (bst e3 (bb) 0 (by omega) (.int .i64 (stPc (insAt c (stN c n s).pc) (stN c n s)))) (bb) 1 (by omega) (.slice (some ⟨gr,0,none⟩) 14 14)) (bb) 2 (by omega) (.slice px m.vals.length tx)) (bb) 3 (by omega) (.slice py m.arrs.length ty)) hb
   clear hb
   rw [← j0]
   clear j0
   have L1:Hid (¬x.op=13→L6 c s w4 w6 w1.heap.size w3.heap.size bb (.slice (some ⟨gr,0,none⟩) 14 14) (.slice px m.vals.length tx) (.slice py m.arrs.length ty) us (.slice pu' (evN c n s++stEvs (insAt c (stN c n s).pc) (stN c n s)).length tu') (n+1)):=Lib.hid (fun h13=>⟨d0,d1,d2,d3,f0,f1,f2,f3,O5,E5,fun q h=>⟨d6 q h,(i4 q h).2.2⟩,fun j hj=>by (by_cases e:j=n);(subst e;rw [g5.out];exact h13);exact HL.out.no j (by omega),m4⟩)
   have HF:=Lib.hid (And.intro O5 E5)
   clear O5 E5 m4 d6 f0 f1 f2 f3
   by_cases h13:x.op=13
   ·have hx:(x.op == 13)=true:=by simp [h13]
    have q3:=Lib.hid (g7.out n hlt HL.out.no (by rw [g5.out];exact h13))
    have h5:=Lib.hid (j7.out n q3.out)
    have f5:=Lib.hid (HMS'.out n q3.out)
    clear L1 h13
    have t6:=v4;have s6:=i4
    have O6:=HF.out.1;have E6:=HF.out.2
    have OF:=Lib.hid ((O6.keep (C1 (w.heap.size+1+1) 0 (.slice px m.vals.length tx)) (fun gq h h2=>by have:=t6 gq h;omega)).keep (C1 (w.heap.size+1+1) 1 (.slice py m.arrs.length ty)) (fun gq h h2=>by have:=t6 gq h;omega));have EF:=Lib.hid (Oe (Oe E6 (w.heap.size+1+1) 0 (fun h=>by have:=s6 _ h;omega) (.slice px m.vals.length tx)) (w.heap.size+1+1) 1 (fun h=>by have:=s6 _ h;omega) (.slice py m.arrs.length ty))
    clear O6 E6
    have s5:=(Nn (b:=(w.heap.size+1+1)) (j:=1) (Tc _ (w.heap.size+1+1) 0 (.slice px m.vals.length tx) j1) (.slice py m.arrs.length ty))
    have t5:=(Tc _ (w.heap.size+1+1) 1 (.slice py m.arrs.length ty) (Nn (b:=(w.heap.size+1+1)) (j:=0) n1 (.slice px m.vals.length tx)))
    have tt:=(bst (bst k0 (w.heap.size+1+1) 0 (by omega) (.slice px m.vals.length tx)) (w.heap.size+1+1) 1 (by omega) (.slice py m.arrs.length ty))
    go_wp2
    exact bodyPost_ret (v:=.tuple #[.agg #[.slice px m.vals.length tx,.slice py m.arrs.length ty],(.slice pu' (evN c n s++stEvs (insAt c (stN c n s).pc) (stN c n s)).length tu'),.bool true]) (by simp [results,Tryz.results67,go_sem,s5,t5]) rfl (by exact by rw [q3.out,h5.out,f5.out];exact ⟨_,_,_,_,rfl,Om EF.out (by omega),OF.out.toM.mono (by omega),tt⟩)
   have hx:(x.op == 13)=false:=by simp [h13]
   have L2:=Lib.hid (L1.out h13)
   clear L1 h13 HF
   go_wp2
   go_roundw
   case rel=>exact ⟨n+1,by omega,by go_num,by have h:=L2.out;rw [List.length_append] at h;exact h⟩
   case measure=>simp [intOf];omega
  have en:n=20000:=by omega
  subst en
  have q3:=Lib.hid (f7.out HL.out.no);have h5:=Lib.hid (i7.out q3.out);have f5:=Lib.hid (d7.out q3.out)
  clear HL
  have y6:=Lc z2
  replace z4:=Lc j1
  have ef:=(World.ownsRow_lit (base:=((World.setCell (World.setCell wr ⟨w.heap.size+1+1,0,none⟩ (.slice none 0 0)) ⟨w.heap.size+1+1,1,none⟩ (.slice none 0 0))).heap.size) (e:=38) (size:=2) ((World.setCell (World.setCell wr ⟨w.heap.size+1+1,0,none⟩ (.slice none 0 0)) ⟨w.heap.size+1+1,1,none⟩ (.slice none 0 0))) #[] 0 (Nat.le_refl _) (by unfold maxLen;omega) (by simp))
  try simp only [Sa,Ss] at ef
  have EF:=Lib.hid ef;clear ef
  have u5:=(Ac (Nn (b:=(w.heap.size+1+1)) (j:=1) (Tc _ (w.heap.size+1+1) 0 (.slice none 0 0) j1) (.slice none 0 0)) (.cells #[] 38))
  have v5:=(Ac (Tc _ (w.heap.size+1+1) 1 (.slice none 0 0) (Nn (b:=(w.heap.size+1+1)) (j:=0) n1 (.slice none 0 0))) (.cells #[] 38))
  have tt:=(bal (bst (bst e3 (w.heap.size+1+1) 0 (by omega) (.slice none 0 0)) (w.heap.size+1+1) 1 (by omega) (.slice none 0 0)) (.cells #[] 38))
  go_wp2
  exact bodyPost_ret (v:=.tuple #[.agg #[.slice none 0 0,.slice none 0 0],.slice (some ⟨wr.heap.size,0,none⟩) 0 0,.bool false]) (by simp [results,Tryz.results67,go_sem,u5,v5]) rfl (by exact by rw [q3.out,h5.out,f5.out];exact ⟨_,_,[],_,rfl,Om EF.out (by omega),noMem_own _ _,tt⟩)
end Go.Proofs.YtkjedgnepnbkpaaGreat
