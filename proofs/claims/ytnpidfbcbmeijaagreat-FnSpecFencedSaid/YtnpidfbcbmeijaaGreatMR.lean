/-
 Parts of the proofs of the laws FnRemoveDead,FnRemoveDeadLeak,FnSpecFenced,FnSpecMemory.
-/
import Derived.Test.YtnpidfbcbmeijaaGreatML
set_option maxHeartbeats 12800000
set_option maxRecDepth 100000
set_option linter.all false
namespace Go.Proofs.YtnpidfbcbmeijaaGreat
open Go.RowKit
structure OwnMv (w:World) (base:Nat) (vr vv va:Value) (us:List Value) (rs:List Int) (m:Mm):Prop where
 r:w.ownsRow base 3 1 vr rs.length (ints rs)
 v:w.ownsRow base 3 1 vv m.vals.length (ints m.vals)
 a:Own2I w base va us m.arrs
 rv:∀ q,vr.ownBlock=some q→vv.ownBlock=some q→False
 ra:∀ q,vr.ownBlock=some q→¬OwnB2 va us q
 va:∀ q,vv.ownBlock=some q→¬OwnB2 va us q
def OwnMB (vr vv va:Value) (us:List Value) (q:Nat):Prop:=vr.ownBlock=some q∨vv.ownBlock=some q∨OwnB2 va us q
section
variable {w w':World} {base base':Nat} {vr vv va:Value} {us:List Value} {rs:List Int} {m:Mm}
theorem OwnMv.lt (h:OwnMv w base vr vv va us rs m):∀ q,OwnMB vr vv va us q→base≤q∧q < w.heap.size:=by
 rintro q (hq | hq | hq)
 ·exact h.r.lt q hq
 ·exact h.v.lt q hq
 exact h.a.lt q hq
theorem OwnMv.keep (h:OwnMv w base vr vv va us rs m) {S:Nat→Prop} (hc:Chg S w w') (hs:∀ q,OwnMB vr vv va us q→¬S q):OwnMv w' base vr vv va us rs m:=
 ⟨Ow h.r hc (fun q hq=>hs q (Or.inl hq)),Ow h.v hc (fun q hq=>hs q (Or.inr (Or.inl hq))),h.a.keep hc (fun q hq=>hs q (Or.inr (Or.inr hq))),h.rv,h.ra,h.va⟩
theorem OwnMv.below (h:OwnMv w base vr vv va us rs m) (hb:Below w.heap.size w w'):OwnMv w' base vr vv va us rs m:=h.keep (S:=fun _=>False) (Cb hb) (fun _ _=>id)
theorem OwnMv.mono (h:OwnMv w base vr vv va us rs m) (hb:base'≤base):OwnMv w base' vr vv va us rs m:=⟨Om h.r hb,Om h.v hb,h.a.mono hb,h.rv,h.ra,h.va⟩
theorem OwnMv.far (h:OwnMv w base vr vv va us rs m) (b j:Nat) (x:Value) (hb:¬OwnMB vr vv va us b):OwnMv (w.setCell ⟨b,j,none⟩ x) base vr vv va us rs m:=
 h.keep ((Chg.refl (fun q=>q=b) w).setCell b j x (fun _=>rfl)) (fun _ hq e=>hb (e ▸ hq))
theorem OwnMv.setReg {g n c:Nat} (h:OwnMv w base (.slice (some ⟨g,0,none⟩) n c) vv va us rs m) (k:Nat) (x:Int):OwnMv (w.setCell ⟨g,k,none⟩ (.int .i64 x)) base (.slice (some ⟨g,0,none⟩) n c) vv va us (rs.set k x) m:=by
 have hC:Chg (fun q=>q=g) w (w.setCell ⟨g,k,none⟩ (.int .i64 x)):=(Chg.refl _ _).setCell g k _ (fun _=>rfl)
 have hn:n=rs.length:=by
  obtain ⟨a,c',hs⟩:=Oh h.r;simp at hs;omega
 subst hn;refine ⟨?_,Ow h.v hC (fun q hq e=>h.rv q (by subst e;rfl) hq),h.a.keep hC (fun q hq e=>h.ra q (by subst e;rfl) hq),h.rv,h.ra,h.va⟩;have h1:=(h.r.stored k (.int .i64 x)).1;rw [ints_set] at h1;rw [List.length_set];exact h1
theorem OwnMv.setVal {g n c:Nat} (h:OwnMv w base vr (.slice (some ⟨g,0,none⟩) n c) va us rs m) (k:Nat) (x:Int):OwnMv (w.setCell ⟨g,k,none⟩ (.int .i64 x)) base vr (.slice (some ⟨g,0,none⟩) n c) va us rs ⟨m.vals.set k x,m.arrs⟩:=by
 have hC:Chg (fun q=>q=g) w (w.setCell ⟨g,k,none⟩ (.int .i64 x)):=(Chg.refl _ _).setCell g k _ (fun _=>rfl)
 have hn:n=m.vals.length:=by
  obtain ⟨a,c',hs⟩:=Oh h.v;simp at hs;omega
 subst hn;refine ⟨Ow h.r hC (fun q hq e=>h.rv q hq (by subst e;rfl)),?_,h.a.keep hC (fun q hq e=>h.va q (by subst e;rfl) hq),h.rv,h.ra,h.va⟩;have h1:=(h.v.stored k (.int .i64 x)).1;rw [ints_set] at h1;simp only [List.length_set];exact h1
theorem OwnMv.setArr {i g n c:Nat} (h:OwnMv w base vr vv va us rs m) (hu:us[i]? = some (.slice (some ⟨g,0,none⟩) n c)) (k:Nat) (x:Int):OwnMv (w.setCell ⟨g,k,none⟩ (.int .i64 x)) base vr vv va us rs ⟨m.vals,m.arrs.set i ((gr m.arrs i).set k x)⟩:=by
 have hC:Chg (fun q=>q=g) w (w.setCell ⟨g,k,none⟩ (.int .i64 x)):=(Chg.refl _ _).setCell g k _ (fun _=>rfl);have hi:i < m.arrs.length:=by rw [← h.a.len];exact (List.getElem?_eq_some_iff.1 hu).1
 have b0:gr m.arrs i=m.arrs[i]:=by unfold gr;rw [Int.toNat_natCast,List.getElem?_eq_getElem hi];rfl
 have a0:=h.a.row i _ _ hu (List.getElem?_eq_getElem hi)
 have hn:n=m.arrs[i].length:=by
  obtain ⟨a,c',hs⟩:=Oh a0;simp at hs;omega
 subst hn;have hg:OwnB2 va us g:=Or.inr ⟨i,_,hu,rfl⟩;have h1:=(a0.stored k (.int .i64 x)).1;rw [ints_set] at h1;refine ⟨Ow h.r hC (fun q hq e=>h.ra q hq (e ▸ hg)),Ow h.v hC (fun q hq e=>h.va q hq (e ▸ hg)),?_,h.rv,h.ra,h.va⟩;rw [b0];refine h.a.turn hu (r:=m.arrs[i].set k x) (by rw [List.length_set];exact h1) ?_ (by decide);exact (Chg.refl _ _).setCell g k _ (fun _=>rfl)
theorem OwnMv.regAt {g n c:Nat} (h:OwnMv w base (.slice (some ⟨g,0,none⟩) n c) vv va us rs m) (k:Nat) (hk:k < rs.length):w.cell? ⟨g,k,none⟩=some (.int .i64 (gi rs k)):=by
 have hn:n=rs.length:=by
  obtain ⟨a,c',hs⟩:=Oh h.r;simp at hs;omega
 subst hn;rw [h.r.cellAt k (by omega),ints_at _ _ hk];unfold gi;rw [Int.toNat_natCast,List.getElem?_eq_getElem hk];rfl
theorem OwnMv.valAt {g n c:Nat} (h:OwnMv w base vr (.slice (some ⟨g,0,none⟩) n c) va us rs m) (k:Nat) (hk:k < m.vals.length):w.cell? ⟨g,k,none⟩=some (.int .i64 (gi m.vals k)):=by
 have hn:n=m.vals.length:=by
  obtain ⟨a,c',hs⟩:=Oh h.v;simp at hs;omega
 subst hn;rw [h.v.cellAt k (by omega),ints_at _ _ hk];unfold gi;rw [Int.toNat_natCast,List.getElem?_eq_getElem hk];rfl
theorem OwnMv.arrAt {g n c:Nat} (h:OwnMv w base vr vv (.slice (some ⟨g,0,none⟩) n c) us rs m) (i:Nat) (hi:i < m.arrs.length) (hl:(gr m.arrs i).length=4) :
  ∃ ga ca,w.cell? ⟨g,i,none⟩=some (.slice (some ⟨ga,0,none⟩) 4 ca)∧us[i]? = some (.slice (some ⟨ga,0,none⟩) 4 ca)∧∀ k,k < 4→w.cell? ⟨ga,k,none⟩=some (.int .i64 (gi (gr m.arrs i) k))∧w.frozen? ⟨ga,k,none⟩=false:=by
 obtain ⟨u,hu,a0⟩:=h.a.rowAt i hi;have b0:gr m.arrs i=m.arrs[i]:=by unfold gr;rw [Int.toNat_natCast,List.getElem?_eq_getElem hi];rfl
 rw [b0] at hl ⊢;rw [hl] at a0;obtain ⟨ga,ca,rfl⟩:=own_pos a0 (by omega)
 have hn:n=m.arrs.length:=by
  obtain ⟨a,c',hs⟩:=Oh h.a.out;simp at hs;omega
 subst hn;refine ⟨ga,ca,?_,hu,fun k hk=>⟨?_,a0.frozenAt k⟩⟩
 ·rw [h.a.outAt.cellAt i (by omega)];exact hu
 rw [a0.cellAt k (by omega),ints_at _ _ (by omega)];unfold gi;rw [Int.toNat_natCast,List.getElem?_eq_getElem (by omega)];rfl
end
theorem gi_range {xs:List Int} (h:∀ n ∈ xs,0≤n∧n < 256) (i:Int):0≤gi xs i∧gi xs i≤255:=by
 unfold gi
 cases e:xs[i.toNat]? with
 | none=>simp
 | some n =>
  have:=h n (List.mem_of_getElem? e)
  simp only [Option.getD_some];omega
end Go.Proofs.YtnpidfbcbmeijaaGreat
namespace Go.Proofs.YtnpidfbcbmeijaaGreat
open Go.RowKit
def reg0:List Int:=List.replicate 14 0
def ini (m:Mm):Ms:=⟨0,reg0,m⟩
def goOk (c:Cd) (m:Mm):Bool:=codeOk c&&memOk c.vars.length c.arrays.length m
theorem goOk_code {c:Cd} {m:Mm} (h:goOk c m=true):codeOk c=true:=by unfold goOk at h;simp only [Bool.and_eq_true] at h;exact h.1
theorem goOk_mem {c:Cd} {m:Mm} (h:goOk c m=true):memOk c.vars.length c.arrays.length m=true:=by unfold goOk at h;simp only [Bool.and_eq_true] at h;exact h.2
theorem ini_ok {c:Cd} {m:Mm} (h:goOk c m=true):MsOk c (ini m):=by
 have h1:=codeOk_len (goOk_code h);refine ⟨by simp [ini],by simp only [ini];omega,by simp [ini,reg0],fun n hn=>?_,goOk_mem h⟩;simp only [ini,reg0] at hn;have:=List.eq_of_mem_replicate hn
 omega
theorem mk_int14 (u:World):(Instr.makeSlice 23 (.int .i64 14) (.int .i64 14)).run Tryz.prog u=.ok (.slice (some ⟨u.heap.size,0,none⟩) 14 14) (u.alloc (.cells (madeCells #[.int .i64 0] 14) 3)):=mk_int 14 (by omega) u
theorem started_any (vx vy:Value) (m:Mm) (w:World) (hx:Reads w 1 vx m.vals.length (ints m.vals)) (hy:Reads2 ints w vy m.arrs) (hl:m.vals.length≤1048576) (hn:m.arrs.length≤1048576) (hp:pre2 m.arrs m.arrs.length≤1048576) :
  Calls Tryz.prog 80 #[.agg #[vx,vy]] w fun e w'=>∃ vr vv va us,e=.returned (.agg #[.int .i64 0,vr,vv,va])∧OwnMv w' w.heap.size vr vv va us reg0 m∧Below w.heap.size w w':=by
 obtain ⟨a3,c3,rfl⟩:=reads_shape hx;obtain ⟨a4,c4,rfl⟩:=hy.shape;have l0:=fun u=>mk_int14 u
 obtain ⟨w1,a0⟩:∃ X,X=(w.alloc (.cells #[.slice a3 m.vals.length c3,.slice a4 m.arrs.length c4] 29)).alloc (.cells #[.int .i64 0,.slice none 0 0,.slice none 0 0,.slice none 0 0] 76):=⟨_,rfl⟩;have c0:Below w.heap.size w w1:=by rw [a0];exact bal (bal (Bs w) _) _
 have mx:w1.cell? ⟨w.heap.size,0,none⟩=some (.slice a3 m.vals.length c3):=by rw [a0];exact Ac (Wc rfl rfl) _
 have my:w1.cell? ⟨w.heap.size,1,none⟩=some (.slice a4 m.arrs.length c4):=by rw [a0];exact Ac (Wc rfl rfl) _
 have r0:w1.cell? ⟨w.heap.size+1,0,none⟩=some (.int .i64 0):=by rw [a0];exact Wc (by simp) rfl
 have q0:w1.frozen? ⟨w.heap.size+1,0,none⟩=false:=by rw [a0];exact Fn (by simp)
 have r1:w1.cell? ⟨w.heap.size+1,1,none⟩=some (.slice none 0 0):=by rw [a0];exact Wc (by simp) rfl
 have q1:w1.frozen? ⟨w.heap.size+1,1,none⟩=false:=by rw [a0];exact Fn (by simp)
 have r2:w1.cell? ⟨w.heap.size+1,2,none⟩=some (.slice none 0 0):=by rw [a0];exact Wc (by simp) rfl
 have q2:w1.frozen? ⟨w.heap.size+1,2,none⟩=false:=by rw [a0];exact Fn (by simp)
 have r3:w1.cell? ⟨w.heap.size+1,3,none⟩=some (.slice none 0 0):=by rw [a0];exact Wc (by simp) rfl
 have q3:w1.frozen? ⟨w.heap.size+1,3,none⟩=false:=by rw [a0];exact Fn (by simp)
 have HW:=Hi a0;have m0:w.heap.size+2≤w1.heap.size:=by rw [a0];simp
 have i0:=Hi (fun W (hW:Below w1.heap.size w1 W)=>memOwn_any _ _ m W (hx.below (btr c0 hW)) (hy.below (btr c0 hW)) hl hn hp);clear a0 hx hy hl hn hp;go_enter Tryz.func80,Tryz.ntmps80
 go_upto_region 1 with (fail)
 rw [← HW.out];clear HW;refine wp_region_noPanic ?_;refine wp_region_held_drew (S:=(fun W'=>W'.cell? ⟨w.heap.size,0,none⟩=some (.slice a3 m.vals.length c3)∧W'.cell? ⟨w.heap.size,1,none⟩=some (.slice a4 m.arrs.length c4))) (by kernel_rfl) ⟨Kc (Bd (Bs w1)) mx,Kc (Bd (Bs w1)) my⟩ (fun hHeld=>?_);obtain ⟨wd,d0⟩:∃ X,X=World.drew w1:=⟨_,rfl⟩;rw [← d0] at hHeld ⊢;have D:Below w1.heap.size w1 wd:=by rw [d0];exact Bd (Bs _)
 clear d0;have n0:=D.size;replace mx:=Kc D mx;replace my:=Kc D my;have o0:=Lc mx;refine tq 1 4 rfl rfl ?_ ?_ ?_;rotate_left
 ·intro W' hSw;obtain ⟨s0,s1⟩:=hSw;go_simp;try with_reducible rfl
 try simp only [Ep]
 refine Rdy2 0 2 rfl rfl (fun K hK=>?_) (fun K hK=>?_)
 ·go_simp
  obtain ⟨v1,hv⟩:∃ X,X=World.alloc wd (.cells (madeCells #[.int .i64 0] 14) 3):=⟨_,rfl⟩;try rw [← hv]
  have oR:=own_made wd (.int .i64 0) 14 3 (by unfold maxLen;omega);rw [← ints_replicate,← hv] at oR;have BM:Below wd.heap.size wd v1:=by rw [hv];exact bal (Bs _) _
  have k0:wd.heap.size+1≤v1.heap.size:=by rw [hv];simp
  clear hv;replace mx:=Kc BM mx;replace my:=Kc BM my;refine hK.out _ _ ⟨mx,my⟩ (fun hHeld=>?_);clear hK K;try simp only [Ep]
  refine Rdy 2 rfl (fun K hK=>?_);go_simp
  refine (i0.out _ (btr D BM)).mono ?_;rintro e v2 ⟨ux,uy,us,rfl,ox,oy,b0,BC⟩;obtain ⟨px,tx,rfl⟩:=Oh ox;obtain ⟨py,ty,rfl⟩:=Oh oy.out;have j0:=BC.size;have ix:=ox.lt;have iy:=oy.lt;replace mx:=Kc BC mx;replace my:=Kc BC my;replace oR:=Ob oR BC;have OM:OwnMv v2 w1.heap.size (.slice (some ⟨wd.heap.size,0,none⟩) 14 14) (.slice px m.vals.length tx) (.slice py m.arrs.length ty) us reg0 m:=⟨Om oR (by omega),Om ox (by omega),oy.mono (by omega),fun q h h2=>by have e1:wd.heap.size=q:=Si h;have:=ix q h2;omega,fun q h h2=>by have e1:wd.heap.size=q:=Si h;have:=iy q h2;omega,b0⟩;have BB:=btr D (btr BM BC);clear oR ox oy b0 ix iy BM BC D;refine hK.out _ _ ⟨mx,my⟩ (fun hHeld=>?_);clear hK K;try simp only [Ep]
  refine tq 3 6 rfl rfl ?_ ?_ ?_;rotate_left
  ·intro W' hSw;obtain ⟨s0,s1⟩:=hSw;go_simp;try with_reducible rfl
  try simp only [Ep]
  have s0:=Kc BB r0;have e0:=Kf BB (Lc r0) q0;have s1:=Kc BB r1;have f0:=Kf BB (Lc r1) q1;have s2:=Kc BB r2;have g0:=Kf BB (Lc r2) q2;have s3:=Kc BB r3;have h0:=Kf BB (Lc r3) q3;have iM:=OM.lt;have ks:=Lc s0;have x0:=(Nn (b:=(w.heap.size+1)) (j:=3) (Nn (b:=(w.heap.size+1)) (j:=2) (Nn (b:=(w.heap.size+1)) (j:=1) (Tc _ (w.heap.size+1) 0 (.int .i64 0) s0) (.slice (some ⟨wd.heap.size,0,none⟩) 14 14)) (.slice px m.vals.length tx)) (.slice py m.arrs.length ty));have x1:=(Nn (b:=(w.heap.size+1)) (j:=3) (Nn (b:=(w.heap.size+1)) (j:=2) (Tc _ (w.heap.size+1) 1 (.slice (some ⟨wd.heap.size,0,none⟩) 14 14) (Nn (b:=(w.heap.size+1)) (j:=0) s1 (.int .i64 0))) (.slice px m.vals.length tx)) (.slice py m.arrs.length ty));have x2:=(Nn (b:=(w.heap.size+1)) (j:=3) (Tc _ (w.heap.size+1) 2 (.slice px m.vals.length tx) (Nn (b:=(w.heap.size+1)) (j:=1) (Nn (b:=(w.heap.size+1)) (j:=0) s2 (.int .i64 0)) (.slice (some ⟨wd.heap.size,0,none⟩) 14 14))) (.slice py m.arrs.length ty));have x3:=(Tc _ (w.heap.size+1) 3 (.slice py m.arrs.length ty) (Nn (b:=(w.heap.size+1)) (j:=2) (Nn (b:=(w.heap.size+1)) (j:=1) (Nn (b:=(w.heap.size+1)) (j:=0) s3 (.int .i64 0)) (.slice (some ⟨wd.heap.size,0,none⟩) 14 14)) (.slice px m.vals.length tx)));have yM:=((((OM.far (w.heap.size+1) 0 (.int .i64 0) (fun h=>by have:=iM _ h;omega)).far (w.heap.size+1) 1 (.slice (some ⟨wd.heap.size,0,none⟩) 14 14) (fun h=>by have:=iM _ h;omega)).far (w.heap.size+1) 2 (.slice px m.vals.length tx) (fun h=>by have:=iM _ h;omega)).far (w.heap.size+1) 3 (.slice py m.arrs.length ty) (fun h=>by have:=iM _ h;omega));have zB:=(bst (bst (bst (bst (btr c0 BB) (w.heap.size+1) 0 (by omega) (.int .i64 0)) (w.heap.size+1) 1 (by omega) (.slice (some ⟨wd.heap.size,0,none⟩) 14 14)) (w.heap.size+1) 2 (by omega) (.slice px m.vals.length tx)) (w.heap.size+1) 3 (by omega) (.slice py m.arrs.length ty));refine Rdy 4 rfl (fun K hK=>?_);go_simp
  refine hK.out _ _ ⟨(Nn (b:=(w.heap.size+1)) (j:=3) (Nn (b:=(w.heap.size+1)) (j:=2) (Nn (b:=(w.heap.size+1)) (j:=1) (Nn (b:=(w.heap.size+1)) (j:=0) mx (.int .i64 0)) (.slice (some ⟨wd.heap.size,0,none⟩) 14 14)) (.slice px m.vals.length tx)) (.slice py m.arrs.length ty)),(Nn (b:=(w.heap.size+1)) (j:=3) (Nn (b:=(w.heap.size+1)) (j:=2) (Nn (b:=(w.heap.size+1)) (j:=1) (Nn (b:=(w.heap.size+1)) (j:=0) my (.int .i64 0)) (.slice (some ⟨wd.heap.size,0,none⟩) 14 14)) (.slice px m.vals.length tx)) (.slice py m.arrs.length ty))⟩ (fun hHeld=>?_);clear hK K;try simp only [Ep]
  refine Dn ?_;clear hHeld s0 s1 s2 s3 e0 f0 g0 h0 mx my OM BB;go_wp2
  exact bodyPost_ret (v:=.agg #[.int .i64 0,.slice (some ⟨wd.heap.size,0,none⟩) 14 14,.slice px m.vals.length tx,.slice py m.arrs.length ty]) (by simp [results,Tryz.results80,go_sem,x0,x1,x2,x3]) rfl (by exact ⟨_,_,_,_,rfl,yM.mono (by omega),zB⟩)
 go_simp
 refine (i0.out _ D).mono ?_;rintro e v1 ⟨ux,uy,us,rfl,ox,oy,b0,BC⟩;obtain ⟨px,tx,rfl⟩:=Oh ox;obtain ⟨py,ty,rfl⟩:=Oh oy.out;have j0:=BC.size;have ix:=ox.lt;have iy:=oy.lt;replace mx:=Kc BC mx;replace my:=Kc BC my;refine hK.out _ _ ⟨mx,my⟩ (fun hHeld=>?_);clear hK K;try simp only [Ep]
 refine Rdy 0 rfl (fun K hK=>?_);go_simp
 obtain ⟨v2,hv⟩:∃ X,X=World.alloc v1 (.cells (madeCells #[.int .i64 0] 14) 3):=⟨_,rfl⟩;try rw [← hv]
 have oR:=own_made v1 (.int .i64 0) 14 3 (by unfold maxLen;omega);rw [← ints_replicate,← hv] at oR;have BM:Below v1.heap.size v1 v2:=by rw [hv];exact bal (Bs _) _
 have k0:v1.heap.size+1≤v2.heap.size:=by rw [hv];simp
 clear hv;replace mx:=Kc BM mx;replace my:=Kc BM my;replace ox:=Ob ox BM;replace oy:=oy.below BM;have OM:OwnMv v2 w1.heap.size (.slice (some ⟨v1.heap.size,0,none⟩) 14 14) (.slice px m.vals.length tx) (.slice py m.arrs.length ty) us reg0 m:=⟨Om oR (by omega),Om ox (by omega),oy.mono (by omega),fun q h h2=>by have e1:v1.heap.size=q:=Si h;have:=ix q h2;omega,fun q h h2=>by have e1:v1.heap.size=q:=Si h;have:=iy q h2;omega,b0⟩;have BB:=btr D (btr BC BM);clear oR ox oy b0 ix iy BM BC D;refine hK.out _ _ ⟨mx,my⟩ (fun hHeld=>?_);clear hK K;try simp only [Ep]
 refine tq 3 6 rfl rfl ?_ ?_ ?_;rotate_left
 ·intro W' hSw;obtain ⟨s0,s1⟩:=hSw;go_simp;try with_reducible rfl
 try simp only [Ep]
 have s0:=Kc BB r0;have e0:=Kf BB (Lc r0) q0;have s1:=Kc BB r1;have f0:=Kf BB (Lc r1) q1;have s2:=Kc BB r2;have g0:=Kf BB (Lc r2) q2;have s3:=Kc BB r3;have h0:=Kf BB (Lc r3) q3;have iM:=OM.lt;have ks:=Lc s0;have x0:=(Nn (b:=(w.heap.size+1)) (j:=3) (Nn (b:=(w.heap.size+1)) (j:=2) (Nn (b:=(w.heap.size+1)) (j:=1) (Tc _ (w.heap.size+1) 0 (.int .i64 0) s0) (.slice (some ⟨v1.heap.size,0,none⟩) 14 14)) (.slice px m.vals.length tx)) (.slice py m.arrs.length ty));have x1:=(Nn (b:=(w.heap.size+1)) (j:=3) (Nn (b:=(w.heap.size+1)) (j:=2) (Tc _ (w.heap.size+1) 1 (.slice (some ⟨v1.heap.size,0,none⟩) 14 14) (Nn (b:=(w.heap.size+1)) (j:=0) s1 (.int .i64 0))) (.slice px m.vals.length tx)) (.slice py m.arrs.length ty));have x2:=(Nn (b:=(w.heap.size+1)) (j:=3) (Tc _ (w.heap.size+1) 2 (.slice px m.vals.length tx) (Nn (b:=(w.heap.size+1)) (j:=1) (Nn (b:=(w.heap.size+1)) (j:=0) s2 (.int .i64 0)) (.slice (some ⟨v1.heap.size,0,none⟩) 14 14))) (.slice py m.arrs.length ty));have x3:=(Tc _ (w.heap.size+1) 3 (.slice py m.arrs.length ty) (Nn (b:=(w.heap.size+1)) (j:=2) (Nn (b:=(w.heap.size+1)) (j:=1) (Nn (b:=(w.heap.size+1)) (j:=0) s3 (.int .i64 0)) (.slice (some ⟨v1.heap.size,0,none⟩) 14 14)) (.slice px m.vals.length tx)));have yM:=((((OM.far (w.heap.size+1) 0 (.int .i64 0) (fun h=>by have:=iM _ h;omega)).far (w.heap.size+1) 1 (.slice (some ⟨v1.heap.size,0,none⟩) 14 14) (fun h=>by have:=iM _ h;omega)).far (w.heap.size+1) 2 (.slice px m.vals.length tx) (fun h=>by have:=iM _ h;omega)).far (w.heap.size+1) 3 (.slice py m.arrs.length ty) (fun h=>by have:=iM _ h;omega));have zB:=(bst (bst (bst (bst (btr c0 BB) (w.heap.size+1) 0 (by omega) (.int .i64 0)) (w.heap.size+1) 1 (by omega) (.slice (some ⟨v1.heap.size,0,none⟩) 14 14)) (w.heap.size+1) 2 (by omega) (.slice px m.vals.length tx)) (w.heap.size+1) 3 (by omega) (.slice py m.arrs.length ty));refine Rdy 4 rfl (fun K hK=>?_);go_simp
 refine hK.out _ _ ⟨(Nn (b:=(w.heap.size+1)) (j:=3) (Nn (b:=(w.heap.size+1)) (j:=2) (Nn (b:=(w.heap.size+1)) (j:=1) (Nn (b:=(w.heap.size+1)) (j:=0) mx (.int .i64 0)) (.slice (some ⟨v1.heap.size,0,none⟩) 14 14)) (.slice px m.vals.length tx)) (.slice py m.arrs.length ty)),(Nn (b:=(w.heap.size+1)) (j:=3) (Nn (b:=(w.heap.size+1)) (j:=2) (Nn (b:=(w.heap.size+1)) (j:=1) (Nn (b:=(w.heap.size+1)) (j:=0) my (.int .i64 0)) (.slice (some ⟨v1.heap.size,0,none⟩) 14 14)) (.slice px m.vals.length tx)) (.slice py m.arrs.length ty))⟩ (fun hHeld=>?_);clear hK K;try simp only [Ep]
 refine Dn ?_;clear hHeld s0 s1 s2 s3 e0 f0 g0 h0 mx my OM BB;go_wp2
 exact bodyPost_ret (v:=.agg #[.int .i64 0,.slice (some ⟨v1.heap.size,0,none⟩) 14 14,.slice px m.vals.length tx,.slice py m.arrs.length ty]) (by simp [results,Tryz.results80,go_sem,x0,x1,x2,x3]) rfl (by exact ⟨_,_,_,_,rfl,yM.mono (by omega),zB⟩)
theorem iStart_any (va vb vc vx vy:Value) (c:Cd) (m:Mm) (w:World) (hr:ReadsC w va vb vc c) (hx:Reads w 1 vx m.vals.length (ints m.vals)) (hy:Reads2 ints w vy m.arrs) (hl:m.vals.length≤1048576) (hn:m.arrs.length≤1048576) (hp:pre2 m.arrs m.arrs.length≤1048576) :
  Calls Tryz.prog 41 #[.agg #[va,vb,vc],.agg #[vx,vy]] w fun e w'=>∃ p0 n0 t0 p1 n1 t1 p2 n2 t2,e=.returned (.tuple #[.agg #[.int .i64 0,.slice p0 n0 t0,.slice p1 n1 t1,.slice p2 n2 t2],.bool (goOk c m)])∧(goOk c m=true→∃ us,OwnMv w' w.heap.size (.slice p0 n0 t0) (.slice p1 n1 t1) (.slice p2 n2 t2) us reg0 m)∧Below w.heap.size w w':=by
 obtain ⟨a0,c0,a1,c1,a2,c2,rfl,rfl,rfl⟩:=hr.shape;obtain ⟨a3,c3,rfl⟩:=reads_shape hx;obtain ⟨a4,c4,rfl⟩:=hy.shape;have h0:Hid (goOk c m=(codeOk c&&memOk c.vars.length c.arrays.length m)):=Hi rfl;generalize goOk c m=G at *
 have h1:=hr.a.2.1;have i1:=hr.b.2.1;have y0:=fun u=>mk_int14 u
 obtain ⟨w1,e0⟩:∃ X,X=((w.alloc (.cells #[.slice a0 c.vars.length c0,.slice a1 c.arrays.length c1,.slice a2 c.list.length c2] 26)).alloc (.cells #[.slice a3 m.vals.length c3,.slice a4 m.arrs.length c4] 29)).alloc (.cells #[.int .i64 0,.slice none 0 0,.slice none 0 0,.slice none 0 0] 76):=⟨_,rfl⟩;have f0:Below w.heap.size w w1:=by rw [e0];exact bal (bal (bal (Bs w) _) _) _
 have n0:w1.cell? ⟨w.heap.size,0,none⟩=some (.slice a0 c.vars.length c0):=by rw [e0];exact Ac (Ac (Wc rfl rfl) _) _
 have n1:w1.cell? ⟨w.heap.size,1,none⟩=some (.slice a1 c.arrays.length c1):=by rw [e0];exact Ac (Ac (Wc rfl rfl) _) _
 have n2:w1.cell? ⟨w.heap.size,2,none⟩=some (.slice a2 c.list.length c2):=by rw [e0];exact Ac (Ac (Wc rfl rfl) _) _
 have mx:w1.cell? ⟨w.heap.size+1,0,none⟩=some (.slice a3 m.vals.length c3):=by rw [e0];exact Ac (Wc (by simp) rfl) _
 have my:w1.cell? ⟨w.heap.size+1,1,none⟩=some (.slice a4 m.arrs.length c4):=by rw [e0];exact Ac (Wc (by simp) rfl) _
 have r0:w1.cell? ⟨w.heap.size+1+1,0,none⟩=some (.int .i64 0):=by rw [e0];exact Wc (by simp) rfl
 have q0:w1.frozen? ⟨w.heap.size+1+1,0,none⟩=false:=by rw [e0];exact Fn (by simp)
 have r1:w1.cell? ⟨w.heap.size+1+1,1,none⟩=some (.slice none 0 0):=by rw [e0];exact Wc (by simp) rfl
 have q1:w1.frozen? ⟨w.heap.size+1+1,1,none⟩=false:=by rw [e0];exact Fn (by simp)
 have r2:w1.cell? ⟨w.heap.size+1+1,2,none⟩=some (.slice none 0 0):=by rw [e0];exact Wc (by simp) rfl
 have q2:w1.frozen? ⟨w.heap.size+1+1,2,none⟩=false:=by rw [e0];exact Fn (by simp)
 have r3:w1.cell? ⟨w.heap.size+1+1,3,none⟩=some (.slice none 0 0):=by rw [e0];exact Wc (by simp) rfl
 have q3:w1.frozen? ⟨w.heap.size+1+1,3,none⟩=false:=by rw [e0];exact Fn (by simp)
 have HW:=Hi e0;have z0:w.heap.size+3≤w1.heap.size:=by rw [e0];simp
 have o0:=Hi (fun W (hW:Below w1.heap.size w1 W)=>started_any _ _ m W (hx.below (btr f0 hW)) (hy.below (btr f0 hW)) hl hn hp);have v0:=Hi (fun W (hW:Below w1.heap.size w1 W)=>isMemory_any _ _ _ _ c.vars c.arrays m W (hr.a.below (btr f0 hW)) (hr.b.below (btr f0 hW)) (hx.below (btr f0 hW)) (hy.below (btr f0 hW)));have u0:=Hi (fun W (hW:Below w1.heap.size w1 W)=>iCodeValid_any _ _ _ c W (hr.below (btr f0 hW)));have km:=Lc mx;clear e0 hx hy hl hn hp hr;go_enter Tryz.func41,Tryz.ntmps41
 go_upto_region 1 with (fail)
 rw [← HW.out];clear HW;go_wp2_with fail
 refine (u0.out _ (Bs w1)).mono ?_;rintro e w2 ⟨rfl,d0⟩;replace n0:=Kc d0 n0;replace n1:=Kc d0 n1;replace n2:=Kc d0 n2;replace mx:=Kc d0 mx;replace my:=Kc d0 my;have f1:=Lc mx;have b1:=d0.size
 cases hok:codeOk c with
 | false =>
  have HO:=Hi hok;clear hok;have s0:=Kc d0 r0;have j0:=Kf d0 (Lc r0) q0;have s1:=Kc d0 r1;have k0:=Kf d0 (Lc r1) q1;have s2:=Kc d0 r2;have l0:=Kf d0 (Lc r2) q2;have s3:=Kc d0 r3;have m0:=Kf d0 (Lc r3) q3;have ks:=Lc s0;have w0:=(d0).size;have x0:=(Nn (b:=(w.heap.size+1+1)) (j:=3) (Nn (b:=(w.heap.size+1+1)) (j:=2) (Nn (b:=(w.heap.size+1+1)) (j:=1) (Tc _ (w.heap.size+1+1) 0 (.int .i64 0) s0) (.slice none 0 0)) (.slice none 0 0)) (.slice none 0 0));have x1:=(Nn (b:=(w.heap.size+1+1)) (j:=3) (Nn (b:=(w.heap.size+1+1)) (j:=2) (Tc _ (w.heap.size+1+1) 1 (.slice none 0 0) (Nn (b:=(w.heap.size+1+1)) (j:=0) s1 (.int .i64 0))) (.slice none 0 0)) (.slice none 0 0));have x2:=(Nn (b:=(w.heap.size+1+1)) (j:=3) (Tc _ (w.heap.size+1+1) 2 (.slice none 0 0) (Nn (b:=(w.heap.size+1+1)) (j:=1) (Nn (b:=(w.heap.size+1+1)) (j:=0) s2 (.int .i64 0)) (.slice none 0 0))) (.slice none 0 0));have x3:=(Tc _ (w.heap.size+1+1) 3 (.slice none 0 0) (Nn (b:=(w.heap.size+1+1)) (j:=2) (Nn (b:=(w.heap.size+1+1)) (j:=1) (Nn (b:=(w.heap.size+1+1)) (j:=0) s3 (.int .i64 0)) (.slice none 0 0)) (.slice none 0 0)));have zB:=(bst (bst (bst (bst (btr f0 d0) (w.heap.size+1+1) 0 (by omega) (.int .i64 0)) (w.heap.size+1+1) 1 (by omega) (.slice none 0 0)) (w.heap.size+1+1) 2 (by omega) (.slice none 0 0)) (w.heap.size+1+1) 3 (by omega) (.slice none 0 0));have HF:Hid (G=false):=Hi (by rw [h0.out,HO.out];rfl);go_wp2
  exact bodyPost_ret (v:=.tuple #[.agg #[.int .i64 0,.slice none 0 0,.slice none 0 0,.slice none 0 0],.bool false]) (by simp [results,Tryz.results41,go_sem,x0,x1,x2,x3]) rfl (by rw [HF.out];exact ⟨_,_,_,_,_,_,_,_,_,rfl,fun h=>(by cases h),zB⟩)
 | true =>
  have HO:=Hi hok;clear hok;go_wp2_with fail
  refine (v0.out _ d0).mono ?_;rintro e w3 ⟨rfl,g0⟩;have b0:=btr d0 g0;replace mx:=Kc g0 mx;replace my:=Kc g0 my;have g1:=Lc mx;have d1:=g0.size
  cases hmo:memOk c.vars.length c.arrays.length m with
  | false =>
   have HM:=Hi hmo;clear hmo;have s0:=Kc b0 r0;have j0:=Kf b0 (Lc r0) q0;have s1:=Kc b0 r1;have k0:=Kf b0 (Lc r1) q1;have s2:=Kc b0 r2;have l0:=Kf b0 (Lc r2) q2;have s3:=Kc b0 r3;have m0:=Kf b0 (Lc r3) q3;have ks:=Lc s0;have w0:=(b0).size;have x0:=(Nn (b:=(w.heap.size+1+1)) (j:=3) (Nn (b:=(w.heap.size+1+1)) (j:=2) (Nn (b:=(w.heap.size+1+1)) (j:=1) (Tc _ (w.heap.size+1+1) 0 (.int .i64 0) s0) (.slice none 0 0)) (.slice none 0 0)) (.slice none 0 0));have x1:=(Nn (b:=(w.heap.size+1+1)) (j:=3) (Nn (b:=(w.heap.size+1+1)) (j:=2) (Tc _ (w.heap.size+1+1) 1 (.slice none 0 0) (Nn (b:=(w.heap.size+1+1)) (j:=0) s1 (.int .i64 0))) (.slice none 0 0)) (.slice none 0 0));have x2:=(Nn (b:=(w.heap.size+1+1)) (j:=3) (Tc _ (w.heap.size+1+1) 2 (.slice none 0 0) (Nn (b:=(w.heap.size+1+1)) (j:=1) (Nn (b:=(w.heap.size+1+1)) (j:=0) s2 (.int .i64 0)) (.slice none 0 0))) (.slice none 0 0));have x3:=(Tc _ (w.heap.size+1+1) 3 (.slice none 0 0) (Nn (b:=(w.heap.size+1+1)) (j:=2) (Nn (b:=(w.heap.size+1+1)) (j:=1) (Nn (b:=(w.heap.size+1+1)) (j:=0) s3 (.int .i64 0)) (.slice none 0 0)) (.slice none 0 0)));have zB:=(bst (bst (bst (bst (btr f0 b0) (w.heap.size+1+1) 0 (by omega) (.int .i64 0)) (w.heap.size+1+1) 1 (by omega) (.slice none 0 0)) (w.heap.size+1+1) 2 (by omega) (.slice none 0 0)) (w.heap.size+1+1) 3 (by omega) (.slice none 0 0));have HF:Hid (G=false):=Hi (by rw [h0.out,HO.out,HM.out];rfl);go_wp2
   exact bodyPost_ret (v:=.tuple #[.agg #[.int .i64 0,.slice none 0 0,.slice none 0 0,.slice none 0 0],.bool false]) (by simp [results,Tryz.results41,go_sem,x0,x1,x2,x3]) rfl (by rw [HF.out];exact ⟨_,_,_,_,_,_,_,_,_,rfl,fun h=>(by cases h),zB⟩)
  | true =>
   have HM:=Hi hmo;clear hmo;have HG:Hid (G=true):=Hi (by rw [h0.out,HO.out,HM.out];rfl);go_wp2_with fail
   refine (o0.out _ b0).mono ?_;rintro e w4 ⟨vr,vv,vA,us,rfl,OM,i0⟩;obtain ⟨pr,tr,rfl⟩:=Oh OM.r;obtain ⟨px,tx,rfl⟩:=Oh OM.v;obtain ⟨py,ty,rfl⟩:=Oh OM.a.out;have BB:=btr b0 i0;have iM:=OM.lt;have e1:=i0.size;have s0:=Kc BB r0;have j0:=Kf BB (Lc r0) q0;have s1:=Kc BB r1;have k0:=Kf BB (Lc r1) q1;have s2:=Kc BB r2;have l0:=Kf BB (Lc r2) q2;have s3:=Kc BB r3;have m0:=Kf BB (Lc r3) q3;have ks:=Lc s0;have x0:=(Nn (b:=(w.heap.size+1+1)) (j:=3) (Nn (b:=(w.heap.size+1+1)) (j:=2) (Nn (b:=(w.heap.size+1+1)) (j:=1) (Tc _ (w.heap.size+1+1) 0 (.int .i64 0) s0) (.slice pr reg0.length tr)) (.slice px m.vals.length tx)) (.slice py m.arrs.length ty));have x1:=(Nn (b:=(w.heap.size+1+1)) (j:=3) (Nn (b:=(w.heap.size+1+1)) (j:=2) (Tc _ (w.heap.size+1+1) 1 (.slice pr reg0.length tr) (Nn (b:=(w.heap.size+1+1)) (j:=0) s1 (.int .i64 0))) (.slice px m.vals.length tx)) (.slice py m.arrs.length ty));have x2:=(Nn (b:=(w.heap.size+1+1)) (j:=3) (Tc _ (w.heap.size+1+1) 2 (.slice px m.vals.length tx) (Nn (b:=(w.heap.size+1+1)) (j:=1) (Nn (b:=(w.heap.size+1+1)) (j:=0) s2 (.int .i64 0)) (.slice pr reg0.length tr))) (.slice py m.arrs.length ty));have x3:=(Tc _ (w.heap.size+1+1) 3 (.slice py m.arrs.length ty) (Nn (b:=(w.heap.size+1+1)) (j:=2) (Nn (b:=(w.heap.size+1+1)) (j:=1) (Nn (b:=(w.heap.size+1+1)) (j:=0) s3 (.int .i64 0)) (.slice pr reg0.length tr)) (.slice px m.vals.length tx)));have yM:=((((OM.far (w.heap.size+1+1) 0 (.int .i64 0) (fun h=>by have:=iM _ h;omega)).far (w.heap.size+1+1) 1 (.slice pr reg0.length tr) (fun h=>by have:=iM _ h;omega)).far (w.heap.size+1+1) 2 (.slice px m.vals.length tx) (fun h=>by have:=iM _ h;omega)).far (w.heap.size+1+1) 3 (.slice py m.arrs.length ty) (fun h=>by have:=iM _ h;omega));have zB:=(bst (bst (bst (bst (btr f0 BB) (w.heap.size+1+1) 0 (by omega) (.int .i64 0)) (w.heap.size+1+1) 1 (by omega) (.slice pr reg0.length tr)) (w.heap.size+1+1) 2 (by omega) (.slice px m.vals.length tx)) (w.heap.size+1+1) 3 (by omega) (.slice py m.arrs.length ty));clear OM;go_wp2
   exact bodyPost_ret (v:=.tuple #[.agg #[.int .i64 0,.slice pr reg0.length tr,.slice px m.vals.length tx,.slice py m.arrs.length ty],.bool true]) (by simp [results,Tryz.results41,go_sem,x0,x1,x2,x3]) rfl (by rw [HG.out];exact ⟨_,_,_,_,_,_,_,_,_,rfl,fun _=>⟨us,yM.mono (by omega)⟩,zB⟩)
end Go.Proofs.YtnpidfbcbmeijaaGreat
