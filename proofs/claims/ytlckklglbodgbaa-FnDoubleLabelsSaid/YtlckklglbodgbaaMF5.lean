/-
 Parts of the proofs of the laws FnDoubleLabels.
-/
import Derived.Test.YtlckklglbodgbaaME5
set_option maxHeartbeats 12800000
set_option maxRecDepth 100000
set_option linter.all false
namespace Go.Proofs.Ytlckklglbodgbaa
open Go.RowKit
structure DrP (w:World) (base:Nat) (D:Nat) (va vb vu:Value) (zs us:List Int) (L:List St):Prop where
 r:ReadsP w (fun q=>base≤q) D va vb vu zs us L
 a:Abv base va
 b:Abv base vb
 n:zs.length≤13∧us.length≤2∧stNs L≤1048576
section
variable {w w':World} {base base':Nat} {D:Nat} {va vb vu:Value} {zs us:List Int} {L:List St}
theorem DrP.keep (h:DrP w base D va vb vu zs us L) {S:Nat→Prop} (hc:Chg S w w') (hs:∀ q,base≤q→¬S q):DrP w' base D va vb vu zs us L:=
 ⟨⟨h.r.a.keep hc (fun b o c _ hv=>hs b (h.a _ _ _ _ hv)),h.r.b.keep hc (fun b o c _ hv=>hs b (h.b _ _ _ _ hv)),h.r.t.keep hc (fun q hq _=>hs q hq) (fun q hq _=>hq) Lr⟩,h.a,h.b,h.n⟩
theorem DrP.below (h:DrP w base D va vb vu zs us L) (hb:Below w.heap.size w w'):DrP w' base D va vb vu zs us L:=⟨h.r.below hb,h.a,h.b,h.n⟩
theorem DrP.mono (h:DrP w base D va vb vu zs us L) (hb:base'≤base):DrP w base' D va vb vu zs us L:=⟨⟨h.r.a,h.r.b,blAt_mono h.r.t (fun q hq _=>Nat.le_trans hb hq)⟩,h.a.mono hb,h.b.mono hb,h.n⟩
end
def DrawPP (w:World) (r:Ending) (w':World):Prop:=∃ (va vb vu:Value) (zs us:List Int) (D:Nat) (L:List St),r=.returned (.agg #[va,vb,vu])∧DrP w' w.heap.size D va vb vu zs us L∧Below w.heap.size w w'
end Go.Proofs.Ytlckklglbodgbaa
namespace Go.Proofs.Ytlckklglbodgbaa
open Go.RowKit
theorem DrawProductProgram_any (v:Value) (n:Nat) (vs:List Int) (w:World) (hr:Reads w 1 v n (vs.map (Value.int .u8))) (hv:∀ x ∈ vs,0≤x∧x < 256) (hn:n≤1048576) :
  Calls Try.prog 18 #[v] w fun r w'=>DrawPP w r w':=by
 go_enter Try.func18,Try.ntmps18
 go_wp2_with fail
 refine (l17Open_any v n vs _ (hr.below (bal (Bs w) (.cells #[.slice none 0 0,.slice none 0 0,.slice none 0 0] 26))) hv hn).mono ?_;rintro e w1 ⟨g,rfl,hR,hb⟩;try simp only [Sa] at hR
 have h0:=hb.size;simp only [Sa] at h0;have b0:Bk w1 (w.heap.size) [.slice none 0 0,.slice none 0 0,.slice none 0 0]:=Bb (Bk.nw (by simp) rfl) hb;have l0:=btr (bal (Bs w) (.cells #[.slice none 0 0,.slice none 0 0,.slice none 0 0] 26)) hb;clear hb;have r0:=Bk.lz b0;obtain ⟨B,hB⟩:∃ B,w.heap.size+1=B:=⟨_,rfl⟩;rw [hB] at hR;have h1:w.heap.size+1≤B:=(by omega);clear hB hr hv;have hg:=hR.lt;have hC:Chg (fun k=>k=g) w w1:=Cb l0;have k0:∀ q,(fun k=>k=g) q→q=g:=fun q h=>h
 clear l0;have b1:w.heap.size≤g:=by omega
 go_wp2_with fail
 refine (l13Program_any B g (0) _ hR (by omega)).mono ?_;rintro e w2 ⟨a0,a1,a2,c0,c1,c2,n,m,hi,k1,j1,D0,L,p1,rfl,hP,f0,d0,g1,hc⟩;try simp only [Sa,Ss] at hP
 have m0:=Hi f0;have d1:n≤12∧m≤2:=⟨f0.1,f0.2.1⟩;clear f0;replace hC:=(hC).trans hc;replace hR:=d0;clear d0;have o0:=hc.size;replace b0:=Bk.kg b0 hc;clear hc;have q0:=hP.lt;replace r0:=Bk.lz b0;go_wp2_with fail
 refine (l2Mutate_any B g (p1) _ hP m0.out hR (by omega)).mono ?_;rintro e w3 ⟨va,vb,vu,zs,us,DD,LL,pm,rfl,hr,j0,g0,d0,f1,hc⟩;have hT:DrP w3 _ DD va vb vu zs us LL:=⟨hr,g0.1,g0.2,j0⟩;clear hr g0 j0;try simp only [Sa,Ss] at hT
 obtain ⟨t0,e0,t1,e1,t2,e2,rfl,rfl,rfl⟩:=hT.r.shape;replace hC:=(hC).trans hc;replace hR:=d0;clear d0;have p0:=hc.size;replace hP:=hP.keep hc (fun gq h h2=>by have:=q0 gq h;have:=k0 gq h2;omega);replace b0:=Bk.kg b0 hc;clear hc;clear hP;clear hR;have tC:=(((hC.sN (w.heap.size) (0) (.slice t0 zs.length e0)).sN (w.heap.size) (1) (.slice t1 us.length e1)).sN (w.heap.size) (2) (.slice t2 LL.length e2));have tb:=tC.below w.heap.size Lr (fun k hk h=>by have:=k0 k h;omega);have TB:=Hi tb;clear tC tb hC;have n0:=Hi (DrP.mono (((hT.keep (C1 (w.heap.size) 0 (.slice t0 zs.length e0)) (fun gq h h2=>by have:=(fun q (h:w2.heap.size≤q)=>h) gq h;omega)).keep (C1 (w.heap.size) 1 (.slice t1 us.length e1)) (fun gq h h2=>by have:=(fun q (h:w2.heap.size≤q)=>h) gq h;omega)).keep (C1 (w.heap.size) 2 (.slice t2 LL.length e2)) (fun gq h h2=>by have:=(fun q (h:w2.heap.size≤q)=>h) gq h;omega)) (show w.heap.size≤_ by omega));clear hT;obtain ⟨s0,i1,u0,v0,i0,w0⟩:=Bk.f3 b0 0 1 2 rfl rfl rfl;have x0:=(Nn (b:=(w.heap.size)) (j:=2) (Nn (b:=(w.heap.size)) (j:=1) (Tc _ (w.heap.size) 0 (.slice t0 zs.length e0) s0) (.slice t1 us.length e1)) (.slice t2 LL.length e2));have y0:=(Nn (b:=(w.heap.size)) (j:=2) (Tc _ (w.heap.size) 1 (.slice t1 us.length e1) (Nn (b:=(w.heap.size)) (j:=0) u0 (.slice t0 zs.length e0))) (.slice t2 LL.length e2));have z0:=(Tc _ (w.heap.size) 2 (.slice t2 LL.length e2) (Nn (b:=(w.heap.size)) (j:=1) (Nn (b:=(w.heap.size)) (j:=0) i0 (.slice t0 zs.length e0)) (.slice t1 us.length e1)));have tt:=True.intro;go_wp2
 exact bodyPost_ret (v:=.agg #[.slice t0 zs.length e0,.slice t1 us.length e1,.slice t2 LL.length e2]) (by simp [results,Try.results18,go_sem,x0,y0,z0]) rfl (by exact by unfold DrawPP;exact ⟨_,_,_,_,_,_,_,rfl,n0.out,TB.out⟩)
theorem DrawDoubleLabels_any (v:Value) (n:Nat) (vs:List Int) (w:World) (hr:Reads w 1 v n (vs.map (Value.int .u8))) (hv:∀ x ∈ vs,0≤x∧x < 256) (hn:n≤1048576) :
  Calls Try.prog 5 #[v] w fun r w'=>DrawPP w r w':=by
 go_enter Try.func5,Try.ntmps5
 go_wp2_with fail
 refine (DrawProductProgram_any v n vs _ (hr.below (bal (Bs w) (.cells #[.slice none 0 0,.slice none 0 0,.slice none 0 0] 26))) hv hn).mono ?_;rintro e w1 ⟨va,vb,vu,zs,us,DD,LL,rfl,hT,hb⟩;obtain ⟨t0,e0,t1,e1,t2,e2,rfl,rfl,rfl⟩:=hT.r.shape;simp only [Sa] at hT;clear hr hv;have a0:=hb.size;simp only [Sa] at a0;have b0:Bk w1 (w.heap.size) [.slice none 0 0,.slice none 0 0,.slice none 0 0]:=Bb (Bk.nw (by simp) rfl) hb;have h0:=btr (bal (Bs w) (.cells #[.slice none 0 0,.slice none 0 0,.slice none 0 0] 26)) hb;clear hb;have l0:=Bk.lz b0;have c0:=Hi (DrP.mono (((hT.keep (C1 (w.heap.size) 0 (.slice t0 zs.length e0)) (fun gq h h2=>by have:=(fun q (h:w.heap.size+1≤q)=>h) gq h;omega)).keep (C1 (w.heap.size) 1 (.slice t1 us.length e1)) (fun gq h h2=>by have:=(fun q (h:w.heap.size+1≤q)=>h) gq h;omega)).keep (C1 (w.heap.size) 2 (.slice t2 LL.length e2)) (fun gq h h2=>by have:=(fun q (h:w.heap.size+1≤q)=>h) gq h;omega)) (show w.heap.size≤w.heap.size+1 by omega));clear hT;obtain ⟨d0,m0,f0,n0,g0,o0⟩:=Bk.f3 b0 0 1 2 rfl rfl rfl;have i0:=(Nn (b:=(w.heap.size)) (j:=2) (Nn (b:=(w.heap.size)) (j:=1) (Tc _ (w.heap.size) 0 (.slice t0 zs.length e0) d0) (.slice t1 us.length e1)) (.slice t2 LL.length e2));have j0:=(Nn (b:=(w.heap.size)) (j:=2) (Tc _ (w.heap.size) 1 (.slice t1 us.length e1) (Nn (b:=(w.heap.size)) (j:=0) f0 (.slice t0 zs.length e0))) (.slice t2 LL.length e2));have k0:=(Tc _ (w.heap.size) 2 (.slice t2 LL.length e2) (Nn (b:=(w.heap.size)) (j:=1) (Nn (b:=(w.heap.size)) (j:=0) g0 (.slice t0 zs.length e0)) (.slice t1 us.length e1)));have tt:=(bst (bst (bst h0 (w.heap.size) 0 (by omega) (.slice t0 zs.length e0)) (w.heap.size) 1 (by omega) (.slice t1 us.length e1)) (w.heap.size) 2 (by omega) (.slice t2 LL.length e2));go_wp2
 exact bodyPost_ret (v:=.agg #[.slice t0 zs.length e0,.slice t1 us.length e1,.slice t2 LL.length e2]) (by simp [results,Try.results5,go_sem,i0,j0,k0]) rfl (by exact (by unfold DrawPP;exact ⟨_,_,_,_,_,_,_,rfl,c0.out,tt⟩))
theorem equalI_any (va vb:Value) (xs ys:List Int) (w:World) (ha:Reads w 1 va xs.length (ints xs)) (hb:Reads w 1 vb ys.length (ints ys)) :
  Calls Try.prog 21 #[va,vb] w fun e w'=>e=.returned (.bool (decide (xs=ys)))∧Below w.heap.size w w':=by
 obtain ⟨_,hn,a,g0,b,i0,rfl,f0,ha,a0⟩:=ha;obtain ⟨_,hn',a',cap',b',off',rfl,hcap',ha',b0⟩:=hb;by_cases hl:xs.length=ys.length
 ·have e0:((xs.length:Int) != (ys.length:Int))=false:=by simp [hl]
  have HL:=Hi hl;clear hl;go_enter Try.func21,Try.ntmps21
  go_wp2
  go_loopw [13] (fun i wr=>∃ k:Nat,k≤xs.length∧i=.int .i64 k∧xs.take k=ys.take k∧∃ d,wr=w.drewN d) (fun i _=>xs.length-(intOf i).toNat)
  case atStart=>exact ⟨0,Nat.zero_le _,rfl,rfl,0,rfl⟩
  case round =>
   obtain ⟨k,hk,rfl,he,d,rfl⟩:=hrel;have HE:=Hi he;clear he;by_cases hlt:k < xs.length
   ·obtain ⟨rfl,h0⟩:=ha (by omega);obtain ⟨rfl,hbs'⟩:=ha' (by have:=HL.out;omega);have hlt':k < ys.length:=by have:=HL.out;omega
    have c0:=a0 k (by simpa [ints] using hlt);have d0:=b0 k (by simpa [ints] using hlt');rw [ints_get] at c0 d0;clear a0 b0 ha ha';by_cases hxy:xs[k]=ys[k]
    ·have e1:(xs[k] != ys[k])=false:=by simp [hxy]
     clear hxy;go_wp2
     go_quiet (fail)
     go_wp2
     go_roundw
     case rel=>exact ⟨k+1,by omega,by go_num,take_succ_eq hlt hlt' HE.out (by simpa using e1),_,rfl⟩
     case measure=>simp [intOf];omega
    have e1:(xs[k] != ys[k])=true:=by simp [hxy]
    have HX:=Hi hxy;clear hxy;go_wp2
    go_quiet (fail)
    go_wp2
    go_ret
    exact ⟨ret_bool (decide_eq_false (fun h=>HX.out (by subst h;rfl))).symm,by rw [World.drewN_drewN];exact below_drewN' w _⟩
   go_wp2
   go_ret
   exact ⟨ret_bool (decide_eq_true (by have h:=HE.out;rwa [List.take_of_length_le (by omega),List.take_of_length_le (by have:=HL.out;omega)] at h)).symm,below_drewN' w _⟩
 have e0:((xs.length:Int) != (ys.length:Int))=true:=by simp;omega
 have HL:=Hi hl;clear hl;go_enter Try.func21,Try.ntmps21
 go_wp2
 go_ret
 exact ⟨ret_bool (decide_eq_false (fun h=>HL.out (by rw [h]))).symm,Bs w⟩
theorem equalS_nil (w:World):Calls Try.prog 49 #[.slice none 0 0,.slice none 0 0,.func (.func 50) #[] #[]] w fun r w'=>r=.returned (.bool true)∧Below w.heap.size w w':=by
 go_enter Try.func49,Try.ntmps49
 go_wp2_with fail
 go_loopw [17] (fun i wr=>i=.int .i64 0∧wr=w) (fun _ _=>0)
 case atStart=>exact ⟨rfl,rfl⟩
 case round =>
  obtain ⟨rfl,rfl⟩:=hrel;go_wp2
  exact bodyPost_ret (v:=.bool true) (by simp [results,Try.results49,go_sem]) rfl (by exact ⟨rfl,Bs _⟩)
theorem sameStmts_nil (w:World):Calls Try.prog 22 #[.slice none 0 0,.slice none 0 0] w fun r w'=>r=.returned (.bool true)∧Below w.heap.size w w':=by
 go_enter Try.func22,Try.ntmps22
 go_wp2_with fail
 refine (equalS_nil _).mono ?_;rintro e w1 ⟨rfl,hb⟩;go_wp2
 exact bodyPost_ret (v:=.bool true) (by simp [results,Try.results22,go_sem]) rfl (by exact ⟨rfl,hb⟩)
theorem ProgramSame_nil (va vb ua ub:Value) (xs ys:List Int) (w:World) (ha:Reads w 1 va xs.length (ints xs)) (hb:Reads w 1 vb ys.length (ints ys)) (ka:Reads w 1 ua xs.length (ints xs)) (kb:Reads w 1 ub ys.length (ints ys)) :
  Calls Try.prog 8 #[.agg #[va,vb,.slice none 0 0],.agg #[ua,ub,.slice none 0 0]] w fun r w'=>r=.returned (.bool true)∧Below w.heap.size w w':=by
 obtain ⟨p0,q0,rfl⟩:=reads_shape ha;obtain ⟨p1,q1,rfl⟩:=reads_shape hb;obtain ⟨p2,q2,rfl⟩:=reads_shape ka;obtain ⟨p3,q3,rfl⟩:=reads_shape kb;have HA:Hid (∀ W,Below w.heap.size w W→Calls Try.prog 21 #[.slice p0 xs.length q0,.slice p2 xs.length q2] W fun r W'=>r=.returned (.bool true)∧Below W.heap.size W W'):=Hi (fun W hW=>by have:=equalI_any _ _ xs xs W (ha.below hW) (ka.below hW);rw [decide_eq_true rfl] at this;exact this);have HB:Hid (∀ W,Below w.heap.size w W→Calls Try.prog 21 #[.slice p1 ys.length q1,.slice p3 ys.length q3] W fun r W'=>r=.returned (.bool true)∧Below W.heap.size W W'):=Hi (fun W hW=>by have:=equalI_any _ _ ys ys W (hb.below hW) (kb.below hW);rw [decide_eq_true rfl] at this;exact this);clear ha hb ka kb;go_enter Try.func8,Try.ntmps8
 go_wp2_with fail
 refine (HA.out _ (bal (bal (Bs w) (.cells #[.slice p0 xs.length q0,.slice p1 ys.length q1,.slice none 0 0] 26)) (.cells #[.slice p2 xs.length q2,.slice p3 ys.length q3,.slice none 0 0] 26))).mono ?_;rintro e w1 ⟨rfl,hb⟩;have d0:=hb.size;simp only [Sa] at d0;have a0:Bk w1 (w.heap.size) [.slice p0 xs.length q0,.slice p1 ys.length q1,.slice none 0 0]:=Bb (Bk.al (Bk.nw (by simp) rfl) (.cells #[.slice p2 xs.length q2,.slice p3 ys.length q3,.slice none 0 0] 26)) hb;have b0:Bk w1 (w.heap.size+1) [.slice p2 xs.length q2,.slice p3 ys.length q3,.slice none 0 0]:=Bb (Bk.nw (by simp) rfl) hb;have c0:=btr (bal (bal (Bs w) (.cells #[.slice p0 xs.length q0,.slice p1 ys.length q1,.slice none 0 0] 26)) (.cells #[.slice p2 xs.length q2,.slice p3 ys.length q3,.slice none 0 0] 26)) hb;clear hb;have o0:=Bk.lz a0;have r0:=Bk.lz b0;obtain ⟨k0,m0⟩:=Bk.cf a0 1 rfl;obtain ⟨l0,n0⟩:=Bk.cf b0 1 rfl;go_wp2_with fail
 refine (HB.out _ c0).mono ?_;rintro e w2 ⟨rfl,hb⟩;have i0:=hb.size;clear m0 k0 n0 l0;replace a0:=Bb a0 hb;replace b0:=Bb b0 hb;replace c0:=btr c0 hb;clear hb;obtain ⟨e0,g0⟩:=Bk.cf a0 2 rfl;obtain ⟨f0,h0⟩:=Bk.cf b0 2 rfl;go_wp2_with fail
 refine (sameStmts_nil _).mono ?_;rintro e w3 ⟨rfl,hb⟩;have j0:=hb.size;clear g0 e0 h0 f0;replace a0:=Bb a0 hb;replace b0:=Bb b0 hb;replace c0:=btr c0 hb;clear hb;have tt:=c0;go_wp2
 exact bodyPost_ret (v:=.bool true) (by simp [results,Try.results8,go_sem]) rfl (by exact ⟨rfl,tt⟩)
theorem each_nil (va vb:Value) (fv:Value) (c:Int) (w:World):Calls Try.prog 25 #[.agg #[va,vb,.slice none 0 0],.slice none 0 0,.int .i64 c,fv] w fun r w'=>r=.returned (.tuple #[])∧Below w.heap.size w w':=by
 go_enter Try.func25,Try.ntmps25
 go_wp2_with fail
 go_loopw [13] (fun i wr=>i=.int .i64 0∧Below w.heap.size w wr) (fun _ _=>0)
 case atStart=>exact ⟨rfl,bal (Bs _) _⟩
 case round =>
  obtain ⟨rfl,hb⟩:=hrel;go_wp2
  go_end0
  exact ⟨rfl,hb⟩
theorem CountStmts_nil (va vb:Value) (xs ys:List Int) (w:World) (ha:Reads w 1 va xs.length (ints xs)) (hb:Reads w 1 vb ys.length (ints ys)) (hn:xs.length≤1000000000∧ys.length≤1000000000) (hv:pvR xs ys []=true) :
  Calls Try.prog 10 #[.agg #[va,vb,.slice none 0 0]] w fun r w'=>r=.returned (.int .i64 0)∧Below w.heap.size w w':=by
 obtain ⟨p0,q0,rfl⟩:=reads_shape ha;obtain ⟨p1,q1,rfl⟩:=reads_shape hb;have f0:Hid (∀ W,Below w.heap.size w W→Calls Try.prog 9 #[.agg #[.slice p0 xs.length q0,.slice p1 ys.length q1,.slice none 0 0]] W fun r W'=>r=.returned (.bool true)∧Below W.heap.size W W'):=Hi (fun W hW=>by have:=iProgramValid_any _ _ xs ys (fun _=>True) 0 _ [] W (ha.below hW) (hb.below hW) RowOf.nil hn;rw [hv] at this;exact this);clear ha hb hv;go_enter Try.func10,Try.ntmps10
 go_wp2_with fail
 refine (f0.out _ (bal (Bs w) (.cells #[.slice p0 xs.length q0,.slice p1 ys.length q1,.slice none 0 0] 26))).mono ?_;rintro e w1 ⟨rfl,hb⟩;have d0:=hb.size;simp only [Sa] at d0;have b0:Bk w1 (w.heap.size) [.slice p0 xs.length q0,.slice p1 ys.length q1,.slice none 0 0]:=Bb (Bk.nw (by simp) rfl) hb;have e0:=btr (bal (Bs w) (.cells #[.slice p0 xs.length q0,.slice p1 ys.length q1,.slice none 0 0] 26)) hb;clear hb;have o0:=Bk.lz b0;obtain ⟨i0,l0,j0,m0,k0,n0⟩:=Bk.f3 b0 0 1 2 rfl rfl rfl;go_wp2_with fail
 refine (each_nil _ _ _ _ _).mono ?_;rintro e w2 ⟨rfl,hb⟩;have a0:=hb.size;simp only [Sa] at a0;clear l0 i0 m0 j0 n0 k0;replace b0:=Bb (Bk.al b0 _) hb;have c0:w2.cell? ⟨w1.heap.size,0,none⟩=some (.int .i64 0):=Kc hb (Wc (by simp) (by rfl));have g0:w2.frozen? ⟨w1.heap.size,0,none⟩=false:=Kf hb (by simp <;> omega) (Fn (by simp));replace e0:=btr (bal e0 _) hb;clear hb;have h0:=Lc c0;have tt:=e0;go_wp2
 exact bodyPost_ret (v:=.int .i64 0) (by simp [results,Try.results10,go_sem]) rfl (by exact ⟨rfl,tt⟩)
end Go.Proofs.Ytlckklglbodgbaa
