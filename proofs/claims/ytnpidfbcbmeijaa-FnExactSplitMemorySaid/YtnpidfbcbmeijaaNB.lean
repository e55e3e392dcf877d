/-
 Parts of the proofs of the laws FnExactSplitMemory.
-/
import Derived.Test.YtnpidfbcbmeijaaID
import Derived.Test.YtnpidfbcbmeijaaRI
set_option linter.all false
namespace Go.Proofs.Ytnpidfbcbmeijaa
open Go.RowKit
structure ReadsM (w:World) (vx vy:Value) (m:Mm):Prop where
 x:Reads w 1 vx m.vals.length (ints m.vals)
 y:Reads2 ints w vy m.arrs
theorem ReadsM.below {w w':World} {vx vy:Value} {m:Mm} (h:ReadsM w vx vy m) (hb:Below w.heap.size w w'):ReadsM w' vx vy m:=⟨h.x.below hb,h.y.below hb⟩
theorem ReadsM.shape {w:World} {vx vy:Value} {m:Mm} (h:ReadsM w vx vy m):∃ a0 c0 a1 c1,vx=.slice a0 m.vals.length c0∧vy=.slice a1 m.arrs.length c1:=by
 obtain ⟨a0,c0,h0⟩:=reads_shape h.x;obtain ⟨a1,c1,h1⟩:=h.y.shape;exact ⟨a0,c0,a1,c1,h0,h1⟩
structure OwnM (w:World) (base:Nat) (vx vy:Value) (us:List Value) (m:Mm):Prop where
 x:w.ownsRow base 3 1 vx m.vals.length (ints m.vals)
 y:Own2I w base vy us m.arrs
 ap:∀ q,vx.ownBlock=some q→¬OwnB2 vy us q
def OwnBM (vx vy:Value) (us:List Value) (q:Nat):Prop:=vx.ownBlock=some q∨OwnB2 vy us q
section
variable {w w':World} {base base':Nat} {vx vy:Value} {us:List Value} {m:Mm}
theorem OwnM.lt (h:OwnM w base vx vy us m):∀ q,OwnBM vx vy us q→base≤q∧q < w.heap.size:=by
 rintro q (hq | hq)
 ·exact h.x.lt q hq
 exact h.y.lt q hq
theorem OwnM.keep (h:OwnM w base vx vy us m) {S:Nat→Prop} (hc:Chg S w w') (hs:∀ q,OwnBM vx vy us q→¬S q):OwnM w' base vx vy us m:=
 ⟨Ow h.x hc (fun q hq=>hs q (Or.inl hq)),h.y.keep hc (fun q hq=>hs q (Or.inr hq)),h.ap⟩
theorem OwnM.below (h:OwnM w base vx vy us m) (hb:Below w.heap.size w w'):OwnM w' base vx vy us m:=h.keep (S:=fun _=>False) (Cb hb) (fun _ _=>id)
theorem OwnM.mono (h:OwnM w base vx vy us m) (hb:base'≤base):OwnM w base' vx vy us m:=⟨Om h.x hb,h.y.mono hb,h.ap⟩
theorem OwnM.reads (h:OwnM w base vx vy us m) (h0:m.vals.length≤1048576) (h1:m.arrs.length≤1048576) (h2:pre2 m.arrs m.arrs.length≤1048576):ReadsM w vx vy m:=
 ⟨Ro h.x (by omega),h.y.reads (by omega) (fun k r hr=>by
  obtain ⟨hk,rfl⟩:=List.getElem?_eq_some_iff.1 hr;have:=pre2_all m.arrs k hk m.arrs.length hk
  omega)⟩
theorem OwnM.shape (h:OwnM w base vx vy us m):∃ a0 c0 a1 c1,vx=.slice a0 m.vals.length c0∧vy=.slice a1 m.arrs.length c1:=by
 obtain ⟨a0,c0,h0⟩:=Oh h.x;obtain ⟨a1,c1,h1⟩:=h.y.shape;exact ⟨a0,c0,a1,c1,h0,h1⟩
end
theorem szMemory_any (vx vy:Value) (m:Mm) (left:Int) (w:World) (hr:ReadsM w vx vy m) (h0:0≤left) (h1:left≤1073741824) :
  Calls Try.prog 14 #[.agg #[vx,vy],.int .i64 left] w fun e w'=>∃ r:Int,e=.returned (.int .i64 r)∧(r=-1∨(0≤r∧r=left-m.vals.length-m.arrs.length-pre2 m.arrs m.arrs.length))∧Below w.heap.size w w':=by
 obtain ⟨a0,c0,a1,c1,rfl,rfl⟩:=hr.shape;have l1:=bal (Bs w) (.cells #[.slice a0 m.vals.length c0,.slice a1 m.arrs.length c1] 38);have HR:=Hi (fun W (hW:Below w.heap.size w W)=>hr.below hW);clear hr;go_enter Try.func14,Try.ntmps14
 go_wp2_with fail
 refine (szIntS_b _ m.vals.length _ left _ (HR.out _ l1).x h0 h1).mono ?_;rintro e w1 ⟨rfl,m0⟩;have b0:w1.cell? ⟨w.heap.size,1,none⟩=some (.slice a1 m.arrs.length c1):=Kc m0 (Wc rfl rfl);have k0:=Lc b0;have hB:=btr l1 m0;clear m0;by_cases hl:left < m.vals.length
 ·rw [if_pos hl];clear hl b0;go_wp2
  go_ret
  exact ⟨_,rfl,Or.inl rfl,hB⟩
 rw [if_neg hl];have y1:¬left-(m.vals.length:Int) < 0:=by omega
 go_wp2_with fail
 refine (szIntSS_any _ m.arrs (left-m.vals.length) _ (HR.out _ hB).y (by omega) (by omega)).mono ?_;rintro e w2 ⟨r,rfl,o1,i0⟩;have i1:=btr hB i0;clear i0 b0;rcases o1 with rfl | ⟨h2,h3⟩
 ·go_wp2
  go_ret
  exact ⟨_,rfl,Or.inl rfl,i1⟩
 have v1:¬r < 0:=by omega
 have H3:=Hi h3;clear h3;go_wp2
 go_ret
 exact ⟨_,rfl,Or.inr ⟨h2,by have:=H3.out;omega⟩,i1⟩
set_option maxHeartbeats 3200000 in
theorem toMemory_any (vx vy:Value) (m:Mm) (w:World) (hr:ReadsM w vx vy m) (h0:m.vals.length≤1048576) (h1:m.arrs.length≤1048576) (h2:pre2 m.arrs m.arrs.length≤1048576) :
  Calls Try.prog 16 #[.agg #[vx,vy]] w fun e w'=>∃ ux uy us,e=.returned (.agg #[ux,uy])∧OwnM w' w.heap.size ux uy us m∧Below w.heap.size w w':=by
 obtain ⟨a0,c0,a1,c1,rfl,rfl⟩:=hr.shape;obtain ⟨w1,j0⟩:∃ X,X=((w.alloc (.cells #[.slice a0 m.vals.length c0,.slice a1 m.arrs.length c1] 38)).alloc (.cells #[.slice none 0 0,.slice none 0 0] 40)).alloc (.cells #[.slice none 0 0,.slice none 0 0] 40):=⟨_,rfl⟩;have m0:Below w.heap.size w w1:=by rw [j0];exact bal (bal (bal (Bs w) _) _) _
 have z1:w.heap.size+3≤w1.heap.size:=by rw [j0];simp
 have b0:w1.cell? ⟨w.heap.size,0,none⟩=some (.slice a0 m.vals.length c0):=by rw [j0];exact Ac (Ac (Wc rfl rfl) _) _
 have b1:w1.cell? ⟨w.heap.size,1,none⟩=some (.slice a1 m.arrs.length c1):=by rw [j0];exact Ac (Ac (Wc rfl rfl) _) _
 have r0:w1.cell? ⟨w.heap.size+1,0,none⟩=some (.slice none 0 0):=by rw [j0];exact Ac (Wc (by simp) rfl) _
 have r1:w1.cell? ⟨w.heap.size+1,1,none⟩=some (.slice none 0 0):=by rw [j0];exact Ac (Wc (by simp) rfl) _
 have q0:w1.frozen? ⟨w.heap.size+1,0,none⟩=false:=by rw [j0];exact Fa (by simp) (Fn (by simp)) _
 have q1:w1.frozen? ⟨w.heap.size+1,1,none⟩=false:=by rw [j0];exact Fa (by simp) (Fn (by simp)) _
 have d0:w1.cell? ⟨w.heap.size+1+1,0,none⟩=some (.slice none 0 0):=by rw [j0];exact Wc (by simp) rfl
 have d1:w1.cell? ⟨w.heap.size+1+1,1,none⟩=some (.slice none 0 0):=by rw [j0];exact Wc (by simp) rfl
 have f0:w1.frozen? ⟨w.heap.size+1+1,0,none⟩=false:=by rw [j0];exact Fn (by simp)
 have f1:w1.frozen? ⟨w.heap.size+1+1,1,none⟩=false:=by rw [j0];exact Fn (by simp)
 have HW:=Hi j0;have HR:=Hi (fun W (hW:Below w.heap.size w W)=>hr.below hW);have k0:=Lc b0;clear j0 hr;go_enter Try.func16,Try.ntmps16
 go_upto_region 2 with (fail)
 rw [← HW.out];clear HW;go_wp2_with fail
 refine (toIntS_any _ m.vals _ (HR.out _ m0).x (by omega)).mono ?_;rintro e w2 ⟨ux,rfl,ox,i0⟩;obtain ⟨px,tx,rfl⟩:=Oh ox;have a2:=i0.size;have ix:=ox.lt;replace b1:=Kc i0 b1;replace q0:=Kf i0 (Lc r0) q0;replace r0:=Kc i0 r0;replace q1:=Kf i0 (Lc r1) q1;replace r1:=Kc i0 r1;replace f0:=Kf i0 (Lc d0) f0;replace d0:=Kc i0 d0;replace f1:=Kf i0 (Lc d1) f1;replace d1:=Kc i0 d1;have kd:=Lc d0;have hB:=bst (btr m0 i0) (w.heap.size+1+1) 0 (by omega) (.slice px m.vals.length tx);have n0:=Oe ox (w.heap.size+1+1) 0 (fun h=>by have:=ix _ h;omega) (.slice px m.vals.length tx);have e0:=Tc w2 (w.heap.size+1+1) 0 (.slice px m.vals.length tx) d0;have e1:=Nn (b:=w.heap.size+1+1) (j:=0) d1 (.slice px m.vals.length tx);have u0:=Fs (b:=⟨w.heap.size+1+1,0,none⟩) f1 (.slice px m.vals.length tx);have z0:=Nn (b:=w.heap.size+1+1) (j:=0) b1 (.slice px m.vals.length tx);have o0:=Nn (b:=w.heap.size+1+1) (j:=0) r0 (.slice px m.vals.length tx);have p0:=Nn (b:=w.heap.size+1+1) (j:=0) r1 (.slice px m.vals.length tx);have w0:=Fs (b:=⟨w.heap.size+1+1,0,none⟩) q0 (.slice px m.vals.length tx);have y0:=Fs (b:=⟨w.heap.size+1+1,0,none⟩) q1 (.slice px m.vals.length tx);obtain ⟨w3,v0⟩:∃ X,X=World.setCell w2 ⟨w.heap.size+1+1,0,none⟩ (.slice px m.vals.length tx):=⟨_,rfl⟩;go_upto_region 3 with (fail)
 rw [← v0] at hB n0 e0 e1 u0 z0 o0 p0 w0 y0 ⊢;have b2:w2.heap.size≤w3.heap.size:=by rw [v0];simp
 clear v0 ox b1 r0 r1 q0 q1 d0 d1 f0 f1 kd b0;have kd:=Lc e0;go_wp2_with fail
 refine (toIntSS_any _ m.arrs _ (HR.out _ hB).y (by omega) (by omega)).mono ?_;rintro e w4 ⟨uy,us,rfl,oy,l0⟩;obtain ⟨py,ty,rfl⟩:=oy.shape;have c2:=l0.size;have iy:=oy.lt;have d2:=n0.lt;have g0:=Kc l0 e0;have g1:=Kc l0 e1;have gf:=Kf l0 (Lc e1) u0;have s0:=Kc l0 o0;have s1:=Kc l0 p0;have p1:=Kf l0 (Lc o0) w0;have u1:=Kf l0 (Lc p0) y0;have OM:OwnM w4 w.heap.size (.slice px m.vals.length tx) (.slice py m.arrs.length ty) us m:=⟨Om (Ob n0 l0) (by omega),oy.mono (by have:=hB.size;omega),fun q h h2=>by have:=ix q h;have:=iy q h2;omega⟩;have iM:=OM.lt;have j1:=btr hB l0
 have n1:∀ q,OwnBM (.slice px m.vals.length tx) (.slice py m.arrs.length ty) us q→¬q=w.heap.size+1+1∧¬q=w.heap.size+1:=by
  rintro q (h | h)
  ·have:=ix q h;omega
  have:=iy q h;omega
 have hC:=((Chg.refl (fun q=>q=w.heap.size+1+1∨q=w.heap.size+1) w4).setCell (w.heap.size+1+1) 1 (.slice py m.arrs.length ty) (fun _=>Or.inl rfl));have k1:=(hC.setCell (w.heap.size+1) 0 (.slice px m.vals.length tx) (fun _=>Or.inr rfl)).setCell (w.heap.size+1) 1 (.slice py m.arrs.length ty) (fun _=>Or.inr rfl);have m1:=OM.keep k1 (fun q hq h=>by have:=n1 q hq;rcases h with h | h;exact this.1 h;exact this.2 h);have zB:=bst (bst (bst j1 (w.heap.size+1+1) 1 (by omega) (.slice py m.arrs.length ty)) (w.heap.size+1) 0 (by omega) (.slice px m.vals.length tx)) (w.heap.size+1) 1 (by omega) (.slice py m.arrs.length ty);have h0':=Nn (b:=w.heap.size+1+1) (j:=1) g0 (.slice py m.arrs.length ty);have h1':=Tc w4 (w.heap.size+1+1) 1 (.slice py m.arrs.length ty) g1;have t0:=Nn (b:=w.heap.size+1+1) (j:=1) s0 (.slice py m.arrs.length ty);have t1:=Nn (b:=w.heap.size+1+1) (j:=1) s1 (.slice py m.arrs.length ty);have e2:=Fs (b:=⟨w.heap.size+1+1,1,none⟩) p1 (.slice py m.arrs.length ty);have f2:=Fs (b:=⟨w.heap.size+1+1,1,none⟩) u1 (.slice py m.arrs.length ty);have x0:=Nn (b:=w.heap.size+1) (j:=1) (Tc _ (w.heap.size+1) 0 (.slice px m.vals.length tx) t0) (.slice py m.arrs.length ty);have x1:=Tc _ (w.heap.size+1) 1 (.slice py m.arrs.length ty) (Nn (b:=w.heap.size+1) (j:=0) t1 (.slice px m.vals.length tx));have ks:=Lc s0;have kg:=Lc g0;clear OM oy n0 hC k1 hB j1 e0 e1 u0 z0 o0 p0 w0 y0 l0;go_wp2
 exact bodyPost_ret (v:=.agg #[.slice px m.vals.length tx,.slice py m.arrs.length ty]) (by simp [results,Try.results16,go_sem,x0,x1]) rfl (by exact ⟨_,_,us,rfl,m1,zB⟩)
theorem eqMemory_any (vx vy wx wy:Value) (m:Mm) (w:World) (h1:ReadsM w vx vy m) (h2:ReadsM w wx wy m) :
  Calls Try.prog 18 #[.agg #[vx,vy],.agg #[wx,wy]] w fun e w'=>e=.returned (.bool true)∧Below w.heap.size w w':=by
 obtain ⟨a0,c0,a1,c1,rfl,rfl⟩:=h1.shape;obtain ⟨a2,c2,a3,c3,rfl,rfl⟩:=h2.shape;have e0:=bal (bal (Bs w) (.cells #[.slice a0 m.vals.length c0,.slice a1 m.arrs.length c1] 40)) (.cells #[.slice a2 m.vals.length c2,.slice a3 m.arrs.length c3] 40);have H1:=Hi (fun W (hW:Below w.heap.size w W)=>h1.below hW);have H2:=Hi (fun W (hW:Below w.heap.size w W)=>h2.below hW);clear h1 h2;go_enter Try.func18,Try.ntmps18
 go_wp2_with fail
 refine (eqIntS_any _ _ m.vals m.vals _ (H1.out _ e0).x (H2.out _ e0).x).mono ?_;rintro e w1 ⟨rfl,k,rfl⟩;rw [decide_eq_true rfl];obtain ⟨w1,d0⟩:∃ X,X=World.drewN ((w.alloc (.cells #[.slice a0 m.vals.length c0,.slice a1 m.arrs.length c1] 40)).alloc (.cells #[.slice a2 m.vals.length c2,.slice a3 m.arrs.length c3] 40)) k:=⟨_,rfl⟩;have hB:Below w.heap.size w w1:=by rw [d0];exact btr e0 (below_drewN' _ _)
 have b0:w1.cell? ⟨w.heap.size,1,none⟩=some (.slice a1 m.arrs.length c1):=by rw [d0];exact Kc (below_drewN' _ _) (Ac (Wc rfl rfl) _)
 have b1:w1.cell? ⟨w.heap.size+1,1,none⟩=some (.slice a3 m.arrs.length c3):=by rw [d0];exact Kc (below_drewN' _ _) (Wc (by simp) rfl)
 have k0:=Lc b0;have k1:=Lc b1;rw [← d0];clear d0;go_wp2_with fail
 refine (eqIntSS_any _ _ m.arrs m.arrs _ (H1.out _ hB).y (H2.out _ hB).y).mono ?_;rintro e w2 ⟨rfl,f0⟩;rw [decide_eq_true rfl];have g0:=btr hB f0;clear f0 b0 b1;go_wp2
 go_ret
 exact ⟨rfl,g0⟩
theorem markMemory_any (vx vy:Value) (us:List Value) (m:Mm) (k:Int) (w:World) (base:Nat) (ho:OwnM w base vx vy us m) (h0:0≤k) (h1:k+m.vals.length+pre2 m.arrs m.arrs.length≤1073741824) (hv:m.vals.length≤1048576) (ha:m.arrs.length≤1048576) :
  Calls Try.prog 19 #[.agg #[vx,vy],.int .i64 k] w fun e w'=>e=.returned (.int .i64 (k+m.vals.length+pre2 m.arrs m.arrs.length))∧Chg (fun q=>OwnBM vx vy us q) w w':=by
 obtain ⟨a0,c0,a1,c1,rfl,rfl⟩:=ho.shape;have io:=ho.lt;have j0:=bal (Bs w) (.cells #[.slice a0 m.vals.length c0,.slice a1 m.arrs.length c1] 40);have e0:=ho.below j0;have i0:=ho.ap;go_enter Try.func19,Try.ntmps19
 go_wp2_with fail
 refine (markIntS_any _ m.vals k _ base e0.x (by omega) h0 (by omega)).mono ?_;rintro e w1 ⟨rfl,_,d0⟩;have m0:=d0.size;simp only [Sa] at m0;have b0:=Gc d0 (Wc (b:=w.heap.size) (j:=1) (w:=w) (cs:=#[.slice a0 m.vals.length c0,.slice a1 m.arrs.length c1]) (t:=40) rfl rfl) (fun h=>by have:=io _ (Or.inl h);omega);have k0:=Lc b0;have oy:=e0.y.keep d0 (fun q h h2=>i0 q h2 h)
 have g0:Chg (fun q=>OwnBM (.slice a0 m.vals.length c0) (.slice a1 m.arrs.length c1) us q) w w1:=by
  have h2:=Cb (S:=fun q=>OwnBM (.slice a0 m.vals.length c0) (.slice a1 m.arrs.length c1) us q) j0;exact h2.trans (d0.mono (fun _ _ h=>Or.inl h))
 clear ho e0 d0 i0;go_wp2_with fail
 refine (markIntSS_any _ us m.arrs (k+m.vals.length) _ base oy (by omega) (by omega) (by omega)).mono ?_;rintro e w2 ⟨rfl,_,f0⟩;have l0:=g0.trans (f0.mono (T:=fun q=>OwnBM (.slice a0 m.vals.length c0) (.slice a1 m.arrs.length c1) us q) (fun _ _ h=>Or.inr h));clear oy f0 g0 b0;go_wp2
 go_ret
 exact ⟨rfl,l0⟩
end Go.Proofs.Ytnpidfbcbmeijaa
