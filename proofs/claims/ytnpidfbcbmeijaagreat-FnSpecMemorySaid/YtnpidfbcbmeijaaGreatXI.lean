/-
 Parts of the proofs of the laws FnRemoveDead,FnRemoveDeadLeak,FnSpecFenced,FnSpecMemory.
-/
import Derived.Test.YtnpidfbcbmeijaaGreatXG
set_option linter.all false
namespace Go.Proofs.YtnpidfbcbmeijaaGreat
open Go.RowKit
set_option maxHeartbeats 6400000 in
set_option maxRecDepth 100000 in
theorem sSpecRun_any (va vb vc vx vy:Value) (c:Cd) (m:Mm) (w:World) (hr:ReadsC w va vb vc c) (hm:ReadsM w vx vy m) (hl:m.vals.length≤1048576) (hn:m.arrs.length≤1048576) (hp:pre2 m.arrs m.arrs.length≤1048576) (aw:Option Addr) (cw:Nat) (ws:List Bool) (hws:Reads w 1 (.slice aw ws.length cw) ws.length (bools ws)) :
  Calls Tryz.prog 16 #[.agg #[va,vb,vc],.agg #[vx,vy],.slice aw ws.length cw] w fun e w'=>∃ ux uy us u,e=.returned (.tuple #[.agg #[ux,uy],u,.bool (runB c m)])∧OwnM w' w.heap.size ux uy us (runM c m)∧w'.ownsRow w.heap.size 84 2 u (srE c m ws).length (evs (srE c m ws))∧Below w.heap.size w w':=by
 obtain ⟨a0,c0,a1,c1,a2,c2,rfl,rfl,rfl⟩:=hr.shape;obtain ⟨a3,c3,a4,c4,rfl,rfl⟩:=hm.shape;have n0:=hr.a.2.1;have n1:=hr.b.2.1;have HR:=Hi (fun W (hW:Below w.heap.size w W)=>hr.below hW);have HM:=Hi (fun W (hW:Below w.heap.size w W)=>hm.below hW);have x1:=Hi (fun W (hW:Below w.heap.size w W)=>sCodeValid_any _ _ _ c W (HR.out W hW));have b2:=Hi (fun W (hW:Below w.heap.size w W)=>l3Fits_any a0 a1 c.vars.length c.arrays.length c0 c1 _ _ m W (by omega) (by omega) (HM.out W hW).x (HM.out W hW).y);have o2:=Hi (fun hg W (hW:Below w.heap.size w W)=>l11Run_any _ _ _ _ _ c m W (HR.out W hW) (HM.out W hW) hl hn hp hg aw cw ws (hws.below hW));have d2:=Hi (fun h=>sr_no (ws:=ws) (finN_no (c:=c) (m:=m) h));have y1:Hid (goOk c m=(codeOk c&&memOk c.vars.length c.arrays.length m)):=Hi rfl;have q2:=Hi (fun (h:goOk c m=true) (h2:runR c (ini m)=none)=>sr_no (ws:=ws) ((finN_yes h).trans h2));have r2:=Hi (fun n (h:goOk c m=true) (h2:runR c (ini m)=some n)=>sr_yes (ws:=ws) ((finN_yes h).trans h2));clear hr hm hl hn hp n0 n1 hws;generalize srE c m ws=RE at *;generalize runM c m=RM at *;generalize runB c m=RB at *
 have i1:codeOk c=false∨(codeOk c=true∧memOk c.vars.length c.arrays.length m=false)∨(codeOk c=true∧memOk c.vars.length c.arrays.length m=true):=by cases codeOk c <;> cases memOk c.vars.length c.arrays.length m <;> simp
 generalize goOk c m=G at *
 generalize codeOk c=CO at *
 generalize memOk c.vars.length c.arrays.length m=MO at *
 rcases i1 with rfl | ⟨rfl,rfl⟩ | ⟨rfl,rfl⟩
 ·skip
  go_enter Tryz.func16,Tryz.ntmps16
  go_upto_region 1 with (fail)
  obtain ⟨w1,f1,hb⟩:=nmw (World.alloc (World.alloc (World.alloc w (.cells #[.slice a0 c.vars.length c0,.slice a1 c.arrays.length c1,.slice a2 c.list.length c2] 26)) (.cells #[.slice a3 m.vals.length c3,.slice a4 m.arrs.length c4] 29)) (.cells #[.slice none 0 0,.slice none 0 0] 29));have g2:=hb.size;simp only [Sa] at g2;have b1:w1.cell? ⟨w.heap.size,0,none⟩=some (.slice a0 c.vars.length c0):=Kc hb (Ac (Ac (Wc (by simp) (by rfl)) _) _);have j1:w1.cell? ⟨w.heap.size,1,none⟩=some (.slice a1 c.arrays.length c1):=Kc hb (Ac (Ac (Wc (by simp) (by rfl)) _) _);have k1:w1.cell? ⟨w.heap.size,2,none⟩=some (.slice a2 c.list.length c2):=Kc hb (Ac (Ac (Wc (by simp) (by rfl)) _) _);have d1:w1.cell? ⟨w.heap.size+1,0,none⟩=some (.slice a3 m.vals.length c3):=Kc hb (Ac (Wc (by simp) (by rfl)) _);have l1:w1.cell? ⟨w.heap.size+1,1,none⟩=some (.slice a4 m.arrs.length c4):=Kc hb (Ac (Wc (by simp) (by rfl)) _);have z0:w1.cell? ⟨w.heap.size+1+1,0,none⟩=some (.slice none 0 0):=Kc hb (Wc (by simp) (by rfl));have z1:w1.frozen? ⟨w.heap.size+1+1,0,none⟩=false:=Kf hb (by simp <;> omega) (Fn (by simp));have g1:w1.cell? ⟨w.heap.size+1+1,1,none⟩=some (.slice none 0 0):=Kc hb (Wc (by simp) (by rfl));have y0:w1.frozen? ⟨w.heap.size+1+1,1,none⟩=false:=Kf hb (by simp <;> omega) (Fn (by simp));have g0:=btr (bal (bal (bal (Bs w) (.cells #[.slice a0 c.vars.length c0,.slice a1 c.arrays.length c1,.slice a2 c.list.length c2] 26)) (.cells #[.slice a3 m.vals.length c3,.slice a4 m.arrs.length c4] 29)) (.cells #[.slice none 0 0,.slice none 0 0] 29)) hb;clear hb;rw [← f1];clear f1;have i2:=Lc b1;have j2:=Lc d1;have k2:=Lc z0;refine wp_region_noPanic ?_;refine wp_region_held_drew (S:=(fun W'=>W'.cell? ⟨w.heap.size,0,none⟩=some (.slice a0 c.vars.length c0)∧W'.cell? ⟨w.heap.size,1,none⟩=some (.slice a1 c.arrays.length c1)∧W'.cell? ⟨w.heap.size,2,none⟩=some (.slice a2 c.list.length c2)∧W'.cell? ⟨w.heap.size+1,0,none⟩=some (.slice a3 m.vals.length c3)∧W'.cell? ⟨w.heap.size+1,1,none⟩=some (.slice a4 m.arrs.length c4))) (by kernel_rfl) ⟨Kc (Bd (Bs w1)) b1,Kc (Bd (Bs w1)) j1,Kc (Bd (Bs w1)) k1,Kc (Bd (Bs w1)) d1,Kc (Bd (Bs w1)) l1⟩ (fun hHeld=>?_);obtain ⟨w2,x0⟩:∃ X,X=World.drew w1:=⟨_,rfl⟩;rw [← x0] at hHeld ⊢;have hb:Below w1.heap.size w1 w2:=by rw [x0];exact Bd (Bs _)
  clear x0;have u2:=hb.size;replace z1:=Kf hb (Lc z0) z1;replace y0:=Kf hb (Lc g1) y0;replace b1:=Kc hb b1;replace j1:=Kc hb j1;replace k1:=Kc hb k1;replace d1:=Kc hb d1;replace l1:=Kc hb l1;replace z0:=Kc hb z0;replace g1:=Kc hb g1;replace g0:=btr g0 hb;clear hb;refine tq 0 9 rfl rfl ?_ ?_ ?_;rotate_left
  ·intro W' hSw;obtain ⟨s0,s1,s2,s3,s4⟩:=hSw;go_simp;try with_reducible rfl
  try simp only [Ep]
  refine Rdy 1 rfl (fun K hK=>?_);go_simp
  refine (x1.out _ g0).mono ?_;rintro e w3 ⟨rfl,hb⟩;have v2:=hb.size;replace z1:=Kf hb (Lc z0) z1;replace y0:=Kf hb (Lc g1) y0;replace b1:=Kc hb b1;replace j1:=Kc hb j1;replace k1:=Kc hb k1;replace d1:=Kc hb d1;replace l1:=Kc hb l1;replace z0:=Kc hb z0;replace g1:=Kc hb g1;replace g0:=btr g0 hb;clear hb;replace i2:=Lc b1;replace j2:=Lc d1;replace k2:=Lc z0;refine hK.out _ _ ⟨b1,j1,k1,d1,l1⟩ (fun hHeld=>?_);clear hK K;try simp only [Ep]
  refine tq 2 11 rfl rfl ?_ ?_ ?_;rotate_left
  ·intro W' hSw;obtain ⟨s0,s1,s2,s3,s4⟩:=hSw;go_simp;try with_reducible rfl
  try simp only [Ep]
  refine tq 3 12 rfl rfl ?_ ?_ ?_;rotate_left
  ·intro W' hSw;obtain ⟨s0,s1,s2,s3,s4⟩:=hSw;go_simp;try with_reducible rfl
  try simp only [Ep]
  refine tu 4 13 rfl rfl ?_;try simp only [Ep]
  refine tu 5 14 rfl rfl ?_;try simp only [Ep]
  refine tu 6 15 rfl rfl ?_;try simp only [Ep]
  refine tu 7 16 rfl rfl ?_;try simp only [Ep]
  refine tu 8 17 rfl rfl ?_;try simp only [Ep]
  refine tq 9 18 rfl rfl ?_ ?_ ?_;rotate_left
  ·intro W' hSw;obtain ⟨s0,s1,s2,s3,s4⟩:=hSw;go_simp;try with_reducible rfl
  try simp only [Ep]
  refine Dn ?_;clear hHeld;have HE:=Hi (d2.out (by rw [y1.out];rfl));have ef:=(World.ownsRow_lit (base:=((World.setCell (World.setCell w3 ⟨w.heap.size+1+1,0,none⟩ (.slice none 0 0)) ⟨w.heap.size+1+1,1,none⟩ (.slice none 0 0))).heap.size) (e:=84) (size:=2) ((World.setCell (World.setCell w3 ⟨w.heap.size+1+1,0,none⟩ (.slice none 0 0)) ⟨w.heap.size+1+1,1,none⟩ (.slice none 0 0))) #[] 0 Lr (by unfold maxLen;omega) (by simp));try simp only [Sa,Ss] at ef
  have n3:=(Ac (Nn (b:=(w.heap.size+1+1)) (j:=1) (Tc _ (w.heap.size+1+1) 0 (.slice none 0 0) z0) (.slice none 0 0)) (.cells #[] 84));have o3:=(Ac (Tc _ (w.heap.size+1+1) 1 (.slice none 0 0) (Nn (b:=(w.heap.size+1+1)) (j:=0) g1 (.slice none 0 0))) (.cells #[] 84));have tt:=(bal (bst (bst g0 (w.heap.size+1+1) 0 (by omega) (.slice none 0 0)) (w.heap.size+1+1) 1 (by omega) (.slice none 0 0)) (.cells #[] 84));go_wp2
  exact bodyPost_ret (v:=.tuple #[.agg #[.slice none 0 0,.slice none 0 0],.slice (some ⟨w3.heap.size,0,none⟩) 0 0,.bool false]) (by simp [results,Tryz.results16,go_sem,n3,o3]) rfl (by exact by rw [HE.out.1,HE.out.2.1,HE.out.2.2];exact ⟨_,_,[],_,rfl,noMem_own _ _,Om ef (by omega),tt⟩)
 ·skip
  go_enter Tryz.func16,Tryz.ntmps16
  go_upto_region 1 with (fail)
  obtain ⟨w1,f1,hb⟩:=nmw (World.alloc (World.alloc (World.alloc w (.cells #[.slice a0 c.vars.length c0,.slice a1 c.arrays.length c1,.slice a2 c.list.length c2] 26)) (.cells #[.slice a3 m.vals.length c3,.slice a4 m.arrs.length c4] 29)) (.cells #[.slice none 0 0,.slice none 0 0] 29));have q1:=hb.size;simp only [Sa] at q1;have l0:w1.cell? ⟨w.heap.size,0,none⟩=some (.slice a0 c.vars.length c0):=Kc hb (Ac (Ac (Wc (by simp) (by rfl)) _) _);have p0:w1.cell? ⟨w.heap.size,1,none⟩=some (.slice a1 c.arrays.length c1):=Kc hb (Ac (Ac (Wc (by simp) (by rfl)) _) _);have q0:w1.cell? ⟨w.heap.size,2,none⟩=some (.slice a2 c.list.length c2):=Kc hb (Ac (Ac (Wc (by simp) (by rfl)) _) _);have m0:w1.cell? ⟨w.heap.size+1,0,none⟩=some (.slice a3 m.vals.length c3):=Kc hb (Ac (Wc (by simp) (by rfl)) _);have r0:w1.cell? ⟨w.heap.size+1,1,none⟩=some (.slice a4 m.arrs.length c4):=Kc hb (Ac (Wc (by simp) (by rfl)) _);have h0:w1.cell? ⟨w.heap.size+1+1,0,none⟩=some (.slice none 0 0):=Kc hb (Wc (by simp) (by rfl));have v0:w1.frozen? ⟨w.heap.size+1+1,0,none⟩=false:=Kf hb (by simp <;> omega) (Fn (by simp));have o0:w1.cell? ⟨w.heap.size+1+1,1,none⟩=some (.slice none 0 0):=Kc hb (Wc (by simp) (by rfl));have w0:w1.frozen? ⟨w.heap.size+1+1,1,none⟩=false:=Kf hb (by simp <;> omega) (Fn (by simp));have g0:=btr (bal (bal (bal (Bs w) (.cells #[.slice a0 c.vars.length c0,.slice a1 c.arrays.length c1,.slice a2 c.list.length c2] 26)) (.cells #[.slice a3 m.vals.length c3,.slice a4 m.arrs.length c4] 29)) (.cells #[.slice none 0 0,.slice none 0 0] 29)) hb;clear hb;rw [← f1];clear f1;have l2:=Lc l0;have m2:=Lc m0;have n2:=Lc h0;refine wp_region_noPanic ?_;refine wp_region_held_drew (S:=(fun W'=>W'.cell? ⟨w.heap.size,0,none⟩=some (.slice a0 c.vars.length c0)∧W'.cell? ⟨w.heap.size,1,none⟩=some (.slice a1 c.arrays.length c1)∧W'.cell? ⟨w.heap.size,2,none⟩=some (.slice a2 c.list.length c2)∧W'.cell? ⟨w.heap.size+1,0,none⟩=some (.slice a3 m.vals.length c3)∧W'.cell? ⟨w.heap.size+1,1,none⟩=some (.slice a4 m.arrs.length c4))) (by kernel_rfl) ⟨Kc (Bd (Bs w1)) l0,Kc (Bd (Bs w1)) p0,Kc (Bd (Bs w1)) q0,Kc (Bd (Bs w1)) m0,Kc (Bd (Bs w1)) r0⟩ (fun hHeld=>?_);obtain ⟨w2,x0⟩:∃ X,X=World.drew w1:=⟨_,rfl⟩;rw [← x0] at hHeld ⊢;have hb:Below w1.heap.size w1 w2:=by rw [x0];exact Bd (Bs _)
  clear x0;have x2:=hb.size;replace v0:=Kf hb (Lc h0) v0;replace w0:=Kf hb (Lc o0) w0;replace l0:=Kc hb l0;replace p0:=Kc hb p0;replace q0:=Kc hb q0;replace m0:=Kc hb m0;replace r0:=Kc hb r0;replace h0:=Kc hb h0;replace o0:=Kc hb o0;replace g0:=btr g0 hb;clear hb;refine tq 0 9 rfl rfl ?_ ?_ ?_;rotate_left
  ·intro W' hSw;obtain ⟨s0,s1,s2,s3,s4⟩:=hSw;go_simp;try with_reducible rfl
  try simp only [Ep]
  refine Rdy 1 rfl (fun K hK=>?_);go_simp
  refine (x1.out _ g0).mono ?_;rintro e w3 ⟨rfl,hb⟩;have y2:=hb.size;replace v0:=Kf hb (Lc h0) v0;replace w0:=Kf hb (Lc o0) w0;replace l0:=Kc hb l0;replace p0:=Kc hb p0;replace q0:=Kc hb q0;replace m0:=Kc hb m0;replace r0:=Kc hb r0;replace h0:=Kc hb h0;replace o0:=Kc hb o0;replace g0:=btr g0 hb;clear hb;refine hK.out _ _ ⟨l0,p0,q0,m0,r0⟩ (fun hHeld=>?_);clear hK K;try simp only [Ep]
  refine tq 2 11 rfl rfl ?_ ?_ ?_;rotate_left
  ·intro W' hSw;obtain ⟨s0,s1,s2,s3,s4⟩:=hSw;go_simp;try with_reducible rfl
  try simp only [Ep]
  refine tq 3 12 rfl rfl ?_ ?_ ?_;rotate_left
  ·intro W' hSw;obtain ⟨s0,s1,s2,s3,s4⟩:=hSw;go_simp;try with_reducible rfl
  try simp only [Ep]
  refine tq 4 13 rfl rfl ?_ ?_ ?_;rotate_left
  ·intro W' hSw;obtain ⟨s0,s1,s2,s3,s4⟩:=hSw;go_simp;try with_reducible rfl
  try simp only [Ep]
  refine tq 6 15 rfl rfl ?_ ?_ ?_;rotate_left
  ·intro W' hSw;obtain ⟨s0,s1,s2,s3,s4⟩:=hSw;go_simp;try with_reducible rfl
  try simp only [Ep]
  refine Rdy 5 rfl (fun K hK=>?_);go_simp
  refine (l6Heads_any a0 a1 a2 c.vars.length c.arrays.length c.list.length c0 c1 c2 _).mono ?_;rintro e w4 ⟨rfl,hb⟩;have z2:=hb.size;replace v0:=Kf hb (Lc h0) v0;replace w0:=Kf hb (Lc o0) w0;replace l0:=Kc hb l0;replace p0:=Kc hb p0;replace q0:=Kc hb q0;replace m0:=Kc hb m0;replace r0:=Kc hb r0;replace h0:=Kc hb h0;replace o0:=Kc hb o0;replace g0:=btr g0 hb;clear hb;refine hK.out _ _ ⟨l0,p0,q0,m0,r0⟩ (fun hHeld=>?_);clear hK K;try simp only [Ep]
  refine Rdy 7 rfl (fun K hK=>?_);go_simp
  refine (b2.out _ g0).mono ?_;rintro e w5 ⟨rfl,hb⟩;have b3:=hb.size;replace v0:=Kf hb (Lc h0) v0;replace w0:=Kf hb (Lc o0) w0;replace l0:=Kc hb l0;replace p0:=Kc hb p0;replace q0:=Kc hb q0;replace m0:=Kc hb m0;replace r0:=Kc hb r0;replace h0:=Kc hb h0;replace o0:=Kc hb o0;replace g0:=btr g0 hb;clear hb;replace l2:=Lc l0;replace m2:=Lc m0;replace n2:=Lc h0;refine hK.out _ _ ⟨l0,p0,q0,m0,r0⟩ (fun hHeld=>?_);clear hK K;try simp only [Ep]
  refine tq 8 17 rfl rfl ?_ ?_ ?_;rotate_left
  ·intro W' hSw;obtain ⟨s0,s1,s2,s3,s4⟩:=hSw;go_simp;try with_reducible rfl
  try simp only [Ep]
  refine tq 9 18 rfl rfl ?_ ?_ ?_;rotate_left
  ·intro W' hSw;obtain ⟨s0,s1,s2,s3,s4⟩:=hSw;go_simp;try with_reducible rfl
  try simp only [Ep]
  refine Dn ?_;clear hHeld;have HE:=Hi (d2.out (by rw [y1.out];rfl));have ef:=(World.ownsRow_lit (base:=((World.setCell (World.setCell w5 ⟨w.heap.size+1+1,0,none⟩ (.slice none 0 0)) ⟨w.heap.size+1+1,1,none⟩ (.slice none 0 0))).heap.size) (e:=84) (size:=2) ((World.setCell (World.setCell w5 ⟨w.heap.size+1+1,0,none⟩ (.slice none 0 0)) ⟨w.heap.size+1+1,1,none⟩ (.slice none 0 0))) #[] 0 Lr (by unfold maxLen;omega) (by simp));try simp only [Sa,Ss] at ef
  have p3:=(Ac (Nn (b:=(w.heap.size+1+1)) (j:=1) (Tc _ (w.heap.size+1+1) 0 (.slice none 0 0) h0) (.slice none 0 0)) (.cells #[] 84));have q3:=(Ac (Tc _ (w.heap.size+1+1) 1 (.slice none 0 0) (Nn (b:=(w.heap.size+1+1)) (j:=0) o0 (.slice none 0 0))) (.cells #[] 84));have tt:=(bal (bst (bst g0 (w.heap.size+1+1) 0 (by omega) (.slice none 0 0)) (w.heap.size+1+1) 1 (by omega) (.slice none 0 0)) (.cells #[] 84));go_wp2
  exact bodyPost_ret (v:=.tuple #[.agg #[.slice none 0 0,.slice none 0 0],.slice (some ⟨w5.heap.size,0,none⟩) 0 0,.bool false]) (by simp [results,Tryz.results16,go_sem,p3,q3]) rfl (by exact by rw [HE.out.1,HE.out.2.1,HE.out.2.2];exact ⟨_,_,[],_,rfl,noMem_own _ _,Om ef (by omega),tt⟩)
 skip
 go_enter Tryz.func16,Tryz.ntmps16
 go_upto_region 1 with (fail)
 obtain ⟨w1,f1,hb⟩:=nmw (World.alloc (World.alloc (World.alloc w (.cells #[.slice a0 c.vars.length c0,.slice a1 c.arrays.length c1,.slice a2 c.list.length c2] 26)) (.cells #[.slice a3 m.vals.length c3,.slice a4 m.arrs.length c4] 29)) (.cells #[.slice none 0 0,.slice none 0 0] 29));have r1:=hb.size;simp only [Sa] at r1;have d0:w1.cell? ⟨w.heap.size,0,none⟩=some (.slice a0 c.vars.length c0):=Kc hb (Ac (Ac (Wc (by simp) (by rfl)) _) _);have i0:w1.cell? ⟨w.heap.size,1,none⟩=some (.slice a1 c.arrays.length c1):=Kc hb (Ac (Ac (Wc (by simp) (by rfl)) _) _);have j0:w1.cell? ⟨w.heap.size,2,none⟩=some (.slice a2 c.list.length c2):=Kc hb (Ac (Ac (Wc (by simp) (by rfl)) _) _);have e0:w1.cell? ⟨w.heap.size+1,0,none⟩=some (.slice a3 m.vals.length c3):=Kc hb (Ac (Wc (by simp) (by rfl)) _);have k0:w1.cell? ⟨w.heap.size+1,1,none⟩=some (.slice a4 m.arrs.length c4):=Kc hb (Ac (Wc (by simp) (by rfl)) _);have b0:w1.cell? ⟨w.heap.size+1+1,0,none⟩=some (.slice none 0 0):=Kc hb (Wc (by simp) (by rfl));have t0:w1.frozen? ⟨w.heap.size+1+1,0,none⟩=false:=Kf hb (by simp <;> omega) (Fn (by simp));have f0:w1.cell? ⟨w.heap.size+1+1,1,none⟩=some (.slice none 0 0):=Kc hb (Wc (by simp) (by rfl));have u0:w1.frozen? ⟨w.heap.size+1+1,1,none⟩=false:=Kf hb (by simp <;> omega) (Fn (by simp));have g0:=btr (bal (bal (bal (Bs w) (.cells #[.slice a0 c.vars.length c0,.slice a1 c.arrays.length c1,.slice a2 c.list.length c2] 26)) (.cells #[.slice a3 m.vals.length c3,.slice a4 m.arrs.length c4] 29)) (.cells #[.slice none 0 0,.slice none 0 0] 29)) hb;clear hb;rw [← f1];clear f1;have k3:=Lc d0;have l3:=Lc e0;have m3:=Lc b0;refine wp_region_noPanic ?_;refine wp_region_held_drew (S:=(fun W'=>W'.cell? ⟨w.heap.size,0,none⟩=some (.slice a0 c.vars.length c0)∧W'.cell? ⟨w.heap.size,1,none⟩=some (.slice a1 c.arrays.length c1)∧W'.cell? ⟨w.heap.size,2,none⟩=some (.slice a2 c.list.length c2)∧W'.cell? ⟨w.heap.size+1,0,none⟩=some (.slice a3 m.vals.length c3)∧W'.cell? ⟨w.heap.size+1,1,none⟩=some (.slice a4 m.arrs.length c4))) (by kernel_rfl) ⟨Kc (Bd (Bs w1)) d0,Kc (Bd (Bs w1)) i0,Kc (Bd (Bs w1)) j0,Kc (Bd (Bs w1)) e0,Kc (Bd (Bs w1)) k0⟩ (fun hHeld=>?_);obtain ⟨w2,x0⟩:∃ X,X=World.drew w1:=⟨_,rfl⟩;rw [← x0] at hHeld ⊢;have hb:Below w1.heap.size w1 w2:=by rw [x0];exact Bd (Bs _)
 clear x0;have d3:=hb.size;replace t0:=Kf hb (Lc b0) t0;replace u0:=Kf hb (Lc f0) u0;replace d0:=Kc hb d0;replace i0:=Kc hb i0;replace j0:=Kc hb j0;replace e0:=Kc hb e0;replace k0:=Kc hb k0;replace b0:=Kc hb b0;replace f0:=Kc hb f0;replace g0:=btr g0 hb;clear hb;refine tq 0 9 rfl rfl ?_ ?_ ?_;rotate_left
 ·intro W' hSw;obtain ⟨s0,s1,s2,s3,s4⟩:=hSw;go_simp;try with_reducible rfl
 try simp only [Ep]
 refine Rdy 1 rfl (fun K hK=>?_);go_simp
 refine (x1.out _ g0).mono ?_;rintro e w3 ⟨rfl,hb⟩;have f3:=hb.size;replace t0:=Kf hb (Lc b0) t0;replace u0:=Kf hb (Lc f0) u0;replace d0:=Kc hb d0;replace i0:=Kc hb i0;replace j0:=Kc hb j0;replace e0:=Kc hb e0;replace k0:=Kc hb k0;replace b0:=Kc hb b0;replace f0:=Kc hb f0;replace g0:=btr g0 hb;clear hb;refine hK.out _ _ ⟨d0,i0,j0,e0,k0⟩ (fun hHeld=>?_);clear hK K;try simp only [Ep]
 refine tq 2 11 rfl rfl ?_ ?_ ?_;rotate_left
 ·intro W' hSw;obtain ⟨s0,s1,s2,s3,s4⟩:=hSw;go_simp;try with_reducible rfl
 try simp only [Ep]
 refine tq 3 12 rfl rfl ?_ ?_ ?_;rotate_left
 ·intro W' hSw;obtain ⟨s0,s1,s2,s3,s4⟩:=hSw;go_simp;try with_reducible rfl
 try simp only [Ep]
 refine tq 4 13 rfl rfl ?_ ?_ ?_;rotate_left
 ·intro W' hSw;obtain ⟨s0,s1,s2,s3,s4⟩:=hSw;go_simp;try with_reducible rfl
 try simp only [Ep]
 refine tq 6 15 rfl rfl ?_ ?_ ?_;rotate_left
 ·intro W' hSw;obtain ⟨s0,s1,s2,s3,s4⟩:=hSw;go_simp;try with_reducible rfl
 try simp only [Ep]
 refine Rdy 5 rfl (fun K hK=>?_);go_simp
 refine (l6Heads_any a0 a1 a2 c.vars.length c.arrays.length c.list.length c0 c1 c2 _).mono ?_;rintro e w4 ⟨rfl,hb⟩;have g3:=hb.size;replace t0:=Kf hb (Lc b0) t0;replace u0:=Kf hb (Lc f0) u0;replace d0:=Kc hb d0;replace i0:=Kc hb i0;replace j0:=Kc hb j0;replace e0:=Kc hb e0;replace k0:=Kc hb k0;replace b0:=Kc hb b0;replace f0:=Kc hb f0;replace g0:=btr g0 hb;clear hb;refine hK.out _ _ ⟨d0,i0,j0,e0,k0⟩ (fun hHeld=>?_);clear hK K;try simp only [Ep]
 refine Rdy 7 rfl (fun K hK=>?_);go_simp
 refine (b2.out _ g0).mono ?_;rintro e w5 ⟨rfl,hb⟩;have i3:=hb.size;replace t0:=Kf hb (Lc b0) t0;replace u0:=Kf hb (Lc f0) u0;replace d0:=Kc hb d0;replace i0:=Kc hb i0;replace j0:=Kc hb j0;replace e0:=Kc hb e0;replace k0:=Kc hb k0;replace b0:=Kc hb b0;replace f0:=Kc hb f0;replace g0:=btr g0 hb;clear hb;refine hK.out _ _ ⟨d0,i0,j0,e0,k0⟩ (fun hHeld=>?_);clear hK K;try simp only [Ep]
 refine tq 8 17 rfl rfl ?_ ?_ ?_;rotate_left
 ·intro W' hSw;obtain ⟨s0,s1,s2,s3,s4⟩:=hSw;go_simp;try with_reducible rfl
 try simp only [Ep]
 refine tq 9 18 rfl rfl ?_ ?_ ?_;rotate_left
 ·intro W' hSw;obtain ⟨s0,s1,s2,s3,s4⟩:=hSw;go_simp;try with_reducible rfl
 try simp only [Ep]
 refine Dn ?_;clear hHeld;have HG:=Hi (show G=true by rw [y1.out];rfl);have m1:=Hi (q2.out HG.out);have o1:=Hi (fun n=>r2.out n HG.out);have f2:=Hi (o2.out HG.out);clear q2 r2 o2 d2 x1 b2 y1;have hR:(runR c (ini m)=none∧srT c ws (ini m)=[]∧mrN c (ini m)=⟨[],[]⟩)∨∃ n,runR c (ini m)=some n∧srT c ws (ini m)=spN c ws (n+1) (ini m)∧mrN c (ini m)=(stN c (n+1) (ini m)).mem:=by cases h:runR c (ini m) with | none=>exact Or.inl ⟨rfl,srT_none h,mrN_none h⟩ | some n=>exact Or.inr ⟨n,rfl,srT_some h,mrN_some h⟩
 have HE:Hid (RE=srT c ws (ini m)∧RM=mrN c (ini m)∧RB=(runR c (ini m)).isSome):=Hi (by rcases hR with ⟨h1,h2,h3⟩ | ⟨n,h1,h2,h3⟩;(obtain ⟨e1,e2,e3⟩:=m1.out h1;rw [e1,e2,e3,h1,h2,h3];exact ⟨rfl,rfl,rfl⟩);(obtain ⟨e1,e2,e3⟩:=o1.out n h1;rw [e1,e2,e3,h1,h2,h3];exact ⟨rfl,rfl,rfl⟩));clear hR m1 o1;generalize srT c ws (ini m)=T at *;generalize mrN c (ini m)=TM at *;generalize runR c (ini m)=RR at *
 go_wp2_with fail
 refine (f2.out _ g0).mono ?_;rintro e w6 ⟨ux,uy,us,u,rfl,hE,hO,hb⟩;obtain ⟨pu,tu,rfl⟩:=Oh hE;obtain ⟨p1,t1,p2,t2,rfl,rfl⟩:=hO.shape;have j3:=hb.size;replace t0:=Kf hb (Lc b0) t0;replace u0:=Kf hb (Lc f0) u0;replace d0:=Kc hb d0;replace i0:=Kc hb i0;replace j0:=Kc hb j0;replace e0:=Kc hb e0;replace k0:=Kc hb k0;replace b0:=Kc hb b0;replace f0:=Kc hb f0;replace g0:=btr g0 hb;clear hb;clear d0 i0 j0 e0 k0;have u1:=hE.lt;have v1:=hO.lt;have oE:=Hi (Oe (Oe hE (w.heap.size+1+1) 0 (fun h=>by have:=u1 _ h;omega) (.slice p1 TM.vals.length t1)) (w.heap.size+1+1) 1 (fun h=>by have:=u1 _ h;omega) (.slice p2 TM.arrs.length t2));have oM:=Hi ((hO.keep (C1 (w.heap.size+1+1) 0 (.slice p1 TM.vals.length t1)) (fun gq h h2=>by have:=v1 gq h;omega)).keep (C1 (w.heap.size+1+1) 1 (.slice p2 TM.arrs.length t2)) (fun gq h h2=>by have:=v1 gq h;omega));clear hE hO;have r3:=(Nn (b:=(w.heap.size+1+1)) (j:=1) (Tc _ (w.heap.size+1+1) 0 (.slice p1 TM.vals.length t1) b0) (.slice p2 TM.arrs.length t2));have t3:=(Tc _ (w.heap.size+1+1) 1 (.slice p2 TM.arrs.length t2) (Nn (b:=(w.heap.size+1+1)) (j:=0) f0 (.slice p1 TM.vals.length t1)));have tt:=(bst (bst g0 (w.heap.size+1+1) 0 (by omega) (.slice p1 TM.vals.length t1)) (w.heap.size+1+1) 1 (by omega) (.slice p2 TM.arrs.length t2));go_wp2
 exact bodyPost_ret (v:=.tuple #[.agg #[.slice p1 TM.vals.length t1,.slice p2 TM.arrs.length t2],.slice pu T.length tu,.bool RR.isSome]) (by simp [results,Tryz.results16,go_sem,r3,t3]) rfl (by exact by rw [HE.out.1,HE.out.2.1,HE.out.2.2];exact ⟨_,_,us,_,rfl,oM.out.mono (by omega),Om oE.out (by omega),tt⟩)
end Go.Proofs.YtnpidfbcbmeijaaGreat
