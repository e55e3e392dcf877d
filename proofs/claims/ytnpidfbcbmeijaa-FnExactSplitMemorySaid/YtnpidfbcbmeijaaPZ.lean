/-
 Parts of the proofs of the laws FnExactSplitMemory.
-/
import Derived.Test.YtnpidfbcbmeijaaPU
set_option linter.all false
namespace Go.Proofs.Ytnpidfbcbmeijaa
open Go.RowKit
def noneN (n:En):Bool:=n.k == 0&&(n.v == 0&&decide (n.n=0))
theorem l2None_node (n:En) (w:World):Calls Try.prog 113 #[.agg #[.int .i64 n.k,.int .i64 n.v,.slice n.p n.n n.c]] w fun r w'=>r=.returned (.bool (noneN n))∧Below w.heap.size w w':=by
 have h:=l2None_any n (.mk n.k n.v (List.replicate n.n (.mk 0 0 []))) rfl rfl (by simp [Ex.kids]) w;have e:noneE (.mk n.k n.v (List.replicate n.n (.mk 0 0 [])))=noneN n:=by simp [noneE,noneN,Ex.k,Ex.v,Ex.kids]
 rw [e] at h;exact h
def partsN (n:Sn):Bool:=
 if (n.k == 3||n.k == 4)=true then
  (n.t == 0)&&(if (n.k == 4)=true then decide (n.en=0)&&(decide (1≤n.c)&&(decide (n.c≤3)&&(noneN n.ix&&noneN n.val))) else (n.c == 0)&&noneN n.ix)
 else decide (n.bn=0)&&(decide (n.en=0)&&((n.c == 0)&&((n.k == 2)||noneN n.ix)))
set_option maxHeartbeats 6400000 in
set_option maxRecDepth 100000 in
theorem l2Parts_any (n:Sn) (w:World) :
  Calls Try.prog 96 #[.agg #[.int .i64 n.k,.int .i64 n.t,.int .i64 n.ix.k,.int .i64 n.ix.v,.slice n.ix.p n.ix.n n.ix.c,.int .i64 n.val.k,.int .i64 n.val.v,.slice n.val.p n.val.n n.val.c,.int .i64 n.c,.slice n.bp n.bn n.bc,.slice n.ep n.en n.ec]] w fun r w'=>r=.returned (.bool (partsN n))∧Below w.heap.size w w':=by
 have HQ:Hid (partsN n=if (n.k == 3||n.k == 4)=true then
  (n.t == 0)&&(if (n.k == 4)=true then decide (n.en=0)&&(decide (1≤n.c)&&(decide (n.c≤3)&&(noneN n.ix&&noneN n.val))) else (n.c == 0)&&noneN n.ix)
 else decide (n.bn=0)&&(decide (n.en=0)&&((n.c == 0)&&((n.k == 2)||noneN n.ix)))):=Hi rfl
 have h0:=Hi (fun W=>l2None_node n.ix W);have r0:=Hi (fun W=>l2None_node n.val W);obtain ⟨k,t,ix,val,c,bp,bn,bc,ep,en,ec⟩:=n;obtain ⟨ik,iv,ip,im,ic⟩:=ix;obtain ⟨jk,jv,jp,jm,jc⟩:=val;simp only at *
 generalize partsN _=G at *
 generalize noneN ⟨ik,iv,ip,im,ic⟩=NI at *
 generalize noneN ⟨jk,jv,jp,jm,jc⟩=NV at *
 go_enter Try.func96,Try.ntmps96
 by_cases hk3:(k == 3)=true
 ·skip
  have a0:¬(k == 4)=true:=by have:k=3:=(by simpa using hk3);subst this;decide
  have e0:¬(k == 2)=true:=by have:k=3:=(by simpa using hk3);subst this;decide
  by_cases ht:(t == 0)=true
  ·skip
   have gt:(t != 0)=false:=by rw [bne,ht];rfl
   by_cases hc0:(c == 0)=true
   ·skip
    go_wp2_with fail
    refine (h0.out _).mono ?_;rintro e w1 ⟨rfl,hb⟩;have l0:=hb.size;simp only [Sa] at l0;have s0:Bk w1 (w.heap.size) [.int .i64 k,.int .i64 t,.int .i64 ik,.int .i64 iv,.slice ip im ic,.int .i64 jk,.int .i64 jv,.slice jp jm jc,.int .i64 c,.slice bp bn bc,.slice ep en ec]:=Bb (Bk.nw (by simp) rfl) hb;have c0:=btr (bal (Bs w) (.cells #[.int .i64 k,.int .i64 t,.int .i64 ik,.int .i64 iv,.slice ip im ic,.int .i64 jk,.int .i64 jv,.slice jp jm jc,.int .i64 c,.slice bp bn bc,.slice ep en ec] 81)) hb;clear hb;clear s0
    cases NI with
    | false =>
     have HB:Hid (G=false):=Hi (by rw [HQ.out];simp [hk3,a0,e0,ht,hc0]);clear HQ;have tt:=c0;go_wp2
     exact bodyPost_ret (v:=.bool false) (by simp [results,Try.results96,go_sem]) rfl (by exact by rw [HB.out];exact ⟨rfl,tt⟩)
    | true =>
     have HB:Hid (G=true):=Hi (by rw [HQ.out];simp [hk3,a0,e0,ht,hc0]);clear HQ;have tt:=c0;go_wp2
     exact bodyPost_ret (v:=.bool true) (by simp [results,Try.results96,go_sem]) rfl (by exact by rw [HB.out];exact ⟨rfl,tt⟩)
   skip
   have HB:Hid (G=false):=Hi (by rw [HQ.out];simp [hk3,a0,e0,ht,hc0]);clear HQ;have tt:=(bal (Bs w) (.cells #[.int .i64 k,.int .i64 t,.int .i64 ik,.int .i64 iv,.slice ip im ic,.int .i64 jk,.int .i64 jv,.slice jp jm jc,.int .i64 c,.slice bp bn bc,.slice ep en ec] 81));go_wp2
   exact bodyPost_ret (v:=.bool false) (by simp [results,Try.results96,go_sem]) rfl (by exact by rw [HB.out];exact ⟨rfl,tt⟩)
  skip
  have gt:(t != 0)=true:=by rw [bne];simpa using ht
  have HB:Hid (G=false):=Hi (by rw [HQ.out];simp [hk3,a0,e0,ht]);clear HQ;have tt:=(bal (Bs w) (.cells #[.int .i64 k,.int .i64 t,.int .i64 ik,.int .i64 iv,.slice ip im ic,.int .i64 jk,.int .i64 jv,.slice jp jm jc,.int .i64 c,.slice bp bn bc,.slice ep en ec] 81));go_wp2
  exact bodyPost_ret (v:=.bool false) (by simp [results,Try.results96,go_sem]) rfl (by exact by rw [HB.out];exact ⟨rfl,tt⟩)
 skip
 by_cases a0:(k == 4)=true
 ·skip
  by_cases ht:(t == 0)=true
  ·skip
   have gt:(t != 0)=false:=by rw [bne,ht];rfl
   by_cases hen:en=0
   ·skip
    have k0:decide (0 < en)=false:=by simp [hen]
    have j0:((en:Int) == 0)=true:=by simp [hen]
    have b0:=Hi hen;clear hen;have p0:(en:Int)=0:=by have:=b0.out;omega
    clear p0;by_cases hc1:1≤c
    ·skip
     by_cases hc3:c≤3
     ·skip
      go_wp2_with fail
      refine (h0.out _).mono ?_;rintro e w1 ⟨rfl,hb⟩;have m0:=hb.size;simp only [Sa] at m0;have g0:Bk w1 (w.heap.size) [.int .i64 k,.int .i64 t,.int .i64 ik,.int .i64 iv,.slice ip im ic,.int .i64 jk,.int .i64 jv,.slice jp jm jc,.int .i64 c,.slice bp bn bc,.slice ep en ec]:=Bb (Bk.nw (by simp) rfl) hb;have c0:=btr (bal (Bs w) (.cells #[.int .i64 k,.int .i64 t,.int .i64 ik,.int .i64 iv,.slice ip im ic,.int .i64 jk,.int .i64 jv,.slice jp jm jc,.int .i64 c,.slice bp bn bc,.slice ep en ec] 81)) hb;clear hb;have a1:=Bk.lz g0
      cases NI with
      | false =>
       have HB:Hid (G=false):=Hi (by rw [HQ.out];simp [hk3,a0,ht,b0.out,hc1,hc3]);clear HQ;have tt:=c0;go_wp2
       exact bodyPost_ret (v:=.bool false) (by simp [results,Try.results96,go_sem]) rfl (by exact by rw [HB.out];exact ⟨rfl,tt⟩)
      | true =>
       obtain ⟨v0,x0,w0,y0,n0,o0⟩:=Bk.f3 g0 5 6 7 rfl rfl rfl;go_wp2_with fail
       refine (r0.out _).mono ?_;rintro e w2 ⟨rfl,hb⟩;have q0:=hb.size;clear x0 v0 y0 w0 o0 n0;replace g0:=Bb g0 hb;replace c0:=btr c0 hb;clear hb
       cases NV with
       | false =>
        have HB:Hid (G=false):=Hi (by rw [HQ.out];simp [hk3,a0,ht,b0.out,hc1,hc3]);clear HQ;have tt:=c0;go_wp2
        exact bodyPost_ret (v:=.bool false) (by simp [results,Try.results96,go_sem]) rfl (by exact by rw [HB.out];exact ⟨rfl,tt⟩)
       | true =>
        have HB:Hid (G=true):=Hi (by rw [HQ.out];simp [hk3,a0,ht,b0.out,hc1,hc3]);clear HQ;have tt:=c0;go_wp2
        exact bodyPost_ret (v:=.bool true) (by simp [results,Try.results96,go_sem]) rfl (by exact by rw [HB.out];exact ⟨rfl,tt⟩)
     skip
     have HB:Hid (G=false):=Hi (by rw [HQ.out];simp [hk3,a0,ht,b0.out,hc1,hc3]);clear HQ;have tt:=(bal (Bs w) (.cells #[.int .i64 k,.int .i64 t,.int .i64 ik,.int .i64 iv,.slice ip im ic,.int .i64 jk,.int .i64 jv,.slice jp jm jc,.int .i64 c,.slice bp bn bc,.slice ep en ec] 81));go_wp2
     exact bodyPost_ret (v:=.bool false) (by simp [results,Try.results96,go_sem]) rfl (by exact by rw [HB.out];exact ⟨rfl,tt⟩)
    skip
    have HB:Hid (G=false):=Hi (by rw [HQ.out];simp [hk3,a0,ht,b0.out,hc1]);clear HQ;have tt:=(bal (Bs w) (.cells #[.int .i64 k,.int .i64 t,.int .i64 ik,.int .i64 iv,.slice ip im ic,.int .i64 jk,.int .i64 jv,.slice jp jm jc,.int .i64 c,.slice bp bn bc,.slice ep en ec] 81));go_wp2
    exact bodyPost_ret (v:=.bool false) (by simp [results,Try.results96,go_sem]) rfl (by exact by rw [HB.out];exact ⟨rfl,tt⟩)
   skip
   have k0:0 < en:=by omega
   have j0:((en:Int) == 0)=false:=by simp;omega
   have b0:=Hi hen;clear hen;have HB:Hid (G=false):=Hi (by rw [HQ.out];simp [hk3,a0,ht,b0.out]);clear HQ;have tt:=(bal (Bs w) (.cells #[.int .i64 k,.int .i64 t,.int .i64 ik,.int .i64 iv,.slice ip im ic,.int .i64 jk,.int .i64 jv,.slice jp jm jc,.int .i64 c,.slice bp bn bc,.slice ep en ec] 81));go_wp2
   exact bodyPost_ret (v:=.bool false) (by simp [results,Try.results96,go_sem]) rfl (by exact by rw [HB.out];exact ⟨rfl,tt⟩)
  skip
  have gt:(t != 0)=true:=by rw [bne];simpa using ht
  have HB:Hid (G=false):=Hi (by rw [HQ.out];simp [hk3,a0,ht]);clear HQ;have tt:=(bal (Bs w) (.cells #[.int .i64 k,.int .i64 t,.int .i64 ik,.int .i64 iv,.slice ip im ic,.int .i64 jk,.int .i64 jv,.slice jp jm jc,.int .i64 c,.slice bp bn bc,.slice ep en ec] 81));go_wp2
  exact bodyPost_ret (v:=.bool false) (by simp [results,Try.results96,go_sem]) rfl (by exact by rw [HB.out];exact ⟨rfl,tt⟩)
 skip
 by_cases hbn:bn=0
 ·skip
  have u0:decide (0 < bn)=false:=by simp [hbn]
  have t0:((bn:Int) == 0)=true:=by simp [hbn]
  have d0:=Hi hbn;clear hbn;have z0:(bn:Int)=0:=by have:=d0.out;omega
  clear z0;by_cases hen:en=0
  ·skip
   have k0:decide (0 < en)=false:=by simp [hen]
   have j0:((en:Int) == 0)=true:=by simp [hen]
   have b0:=Hi hen;clear hen;have p0:(en:Int)=0:=by have:=b0.out;omega
   clear p0;by_cases hc0:(c == 0)=true
   ·skip
    by_cases e0:(k == 2)=true
    ·skip
     have HB:Hid (G=true):=Hi (by rw [HQ.out];simp [hk3,a0,d0.out,b0.out,hc0,e0]);clear HQ;have tt:=(bal (Bs w) (.cells #[.int .i64 k,.int .i64 t,.int .i64 ik,.int .i64 iv,.slice ip im ic,.int .i64 jk,.int .i64 jv,.slice jp jm jc,.int .i64 c,.slice bp bn bc,.slice ep en ec] 81));go_wp2
     exact bodyPost_ret (v:=.bool true) (by simp [results,Try.results96,go_sem]) rfl (by exact by rw [HB.out];exact ⟨rfl,tt⟩)
    skip
    go_wp2_with fail
    refine (h0.out _).mono ?_;rintro e w1 ⟨rfl,hb⟩;have f0:=hb.size;simp only [Sa] at f0;have i0:Bk w1 (w.heap.size) [.int .i64 k,.int .i64 t,.int .i64 ik,.int .i64 iv,.slice ip im ic,.int .i64 jk,.int .i64 jv,.slice jp jm jc,.int .i64 c,.slice bp bn bc,.slice ep en ec]:=Bb (Bk.nw (by simp) rfl) hb;have c0:=btr (bal (Bs w) (.cells #[.int .i64 k,.int .i64 t,.int .i64 ik,.int .i64 iv,.slice ip im ic,.int .i64 jk,.int .i64 jv,.slice jp jm jc,.int .i64 c,.slice bp bn bc,.slice ep en ec] 81)) hb;clear hb;clear i0
    cases NI with
    | false =>
     have HB:Hid (G=false):=Hi (by rw [HQ.out];simp [hk3,a0,d0.out,b0.out,hc0,e0]);clear HQ;have tt:=c0;go_wp2
     exact bodyPost_ret (v:=.bool false) (by simp [results,Try.results96,go_sem]) rfl (by exact by rw [HB.out];exact ⟨rfl,tt⟩)
    | true =>
     have HB:Hid (G=true):=Hi (by rw [HQ.out];simp [hk3,a0,d0.out,b0.out,hc0,e0]);clear HQ;have tt:=c0;go_wp2
     exact bodyPost_ret (v:=.bool true) (by simp [results,Try.results96,go_sem]) rfl (by exact by rw [HB.out];exact ⟨rfl,tt⟩)
   skip
   have HB:Hid (G=false):=Hi (by rw [HQ.out];simp [hk3,a0,d0.out,b0.out,hc0]);clear HQ;have tt:=(bal (Bs w) (.cells #[.int .i64 k,.int .i64 t,.int .i64 ik,.int .i64 iv,.slice ip im ic,.int .i64 jk,.int .i64 jv,.slice jp jm jc,.int .i64 c,.slice bp bn bc,.slice ep en ec] 81));go_wp2
   exact bodyPost_ret (v:=.bool false) (by simp [results,Try.results96,go_sem]) rfl (by exact by rw [HB.out];exact ⟨rfl,tt⟩)
  skip
  have k0:0 < en:=by omega
  have j0:((en:Int) == 0)=false:=by simp;omega
  have b0:=Hi hen;clear hen;have HB:Hid (G=false):=Hi (by rw [HQ.out];simp [hk3,a0,d0.out,b0.out]);clear HQ;have tt:=(bal (Bs w) (.cells #[.int .i64 k,.int .i64 t,.int .i64 ik,.int .i64 iv,.slice ip im ic,.int .i64 jk,.int .i64 jv,.slice jp jm jc,.int .i64 c,.slice bp bn bc,.slice ep en ec] 81));go_wp2
  exact bodyPost_ret (v:=.bool false) (by simp [results,Try.results96,go_sem]) rfl (by exact by rw [HB.out];exact ⟨rfl,tt⟩)
 skip
 have u0:0 < bn:=by omega
 have t0:((bn:Int) == 0)=false:=by simp;omega
 have d0:=Hi hbn;clear hbn;have HB:Hid (G=false):=Hi (by rw [HQ.out];simp [hk3,a0,d0.out]);clear HQ;have tt:=(bal (Bs w) (.cells #[.int .i64 k,.int .i64 t,.int .i64 ik,.int .i64 iv,.slice ip im ic,.int .i64 jk,.int .i64 jv,.slice jp jm jc,.int .i64 c,.slice bp bn bc,.slice ep en ec] 81));go_wp2
 exact bodyPost_ret (v:=.bool false) (by simp [results,Try.results96,go_sem]) rfl (by exact by rw [HB.out];exact ⟨rfl,tt⟩)
end Go.Proofs.Ytnpidfbcbmeijaa
