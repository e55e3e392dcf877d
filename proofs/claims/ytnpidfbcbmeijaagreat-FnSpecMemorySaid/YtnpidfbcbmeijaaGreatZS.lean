/-
 Parts of the proofs of the laws FnRemoveDead,FnRemoveDeadLeak,FnSpecFenced,FnSpecMemory.
-/
import Derived.Test.YtnpidfbcbmeijaaGreatZE
import Derived.Test.YtnpidfbcbmeijaaGreatKq1
set_option linter.all false
namespace Go.Proofs.YtnpidfbcbmeijaaGreat
open Go.RowKit
theorem equalF_any (va vb:Value) (xs ys:List (List Int)) (w:World) (hx:Reads2 ints w va xs) (hy:Reads2 ints w vb ys) :
  Calls Tryz.prog 51 #[va,vb,.func (.func 38) #[] #[]] w fun e w'=>e=.returned (.bool (decide (xs=ys)))∧Below w.heap.size w w':=by
 obtain ⟨a,c,rfl⟩:=hx.shape;obtain ⟨a',c',rfl⟩:=hy.shape;have hn:=hx.lenle;have hn':=hy.lenle;have HX:=Hi hx;have HY:=Hi hy;clear hx hy;by_cases hl:xs.length=ys.length
 ·have e0:((xs.length:Int) != (ys.length:Int))=false:=by simp [hl]
  have HL:=Hi hl;clear hl;go_enter Tryz.func51,Tryz.ntmps51
  go_wp2
  go_loopw [17] (fun i wr=>∃ k:Nat,k≤xs.length∧i=.int .i64 k∧xs.take k=ys.take k∧Below w.heap.size w wr) (fun i _=>xs.length-(intOf i).toNat)
  case atStart=>exact ⟨0,Nat.zero_le _,rfl,rfl,Bs w⟩
  case round =>
   obtain ⟨k,hk,rfl,he,b0⟩:=hrel;have HE:=Hi he;clear he;by_cases hlt:k < xs.length
   ·have hlt':k < ys.length:=by have:=HL.out;omega
    obtain ⟨b,y0,u,rfl,v0,hc,hu⟩:=(HX.out.below b0).at k hlt;obtain ⟨b',off',u',rfl,hbs',hc',hu'⟩:=(HY.out.below b0).at k hlt';have o0:=Hi (fun h=>take_succ_eq hlt hlt' HE.out h);have n0:=Hi (fun (h:xs=ys)=>show xs[k]=ys[k] by subst h;rfl);have HQ:=Hi (equalI_any u u' xs[k] ys[k] wr hu hu');generalize xs[k]=x at *
    generalize ys[k]=y at *
    clear hu hu';go_wp2_with fail
    refine HQ.out.mono ?_;rintro e w1 ⟨rfl,j0⟩;have l0:=btr b0 j0;by_cases hxy:x=y
    ·rw [decide_eq_true hxy];have HZ:=Hi hxy;clear hxy j0 b0;go_wp2
     go_roundw
     case rel=>exact ⟨k+1,by omega,by go_num,o0.out HZ.out,l0⟩
     case measure=>simp [intOf];omega
    rw [decide_eq_false hxy];have HZ:=Hi hxy;clear hxy j0 b0;go_wp2
    go_ret
    exact ⟨ret_bool (decide_eq_false (fun h=>HZ.out (n0.out h))).symm,l0⟩
   go_wp2
   go_ret
   exact ⟨ret_bool (decide_eq_true (by have h:=HE.out;rwa [List.take_of_length_le (by omega),List.take_of_length_le (by have:=HL.out;omega)] at h)).symm,b0⟩
 have e0:((xs.length:Int) != (ys.length:Int))=true:=by simp;omega
 have HL:=Hi hl;clear hl;go_enter Tryz.func51,Tryz.ntmps51
 go_wp2
 go_ret
 exact ⟨ret_bool (decide_eq_false (fun h=>HL.out (by rw [h]))).symm,Bs w⟩
set_option maxHeartbeats 3200000 in
set_option maxRecDepth 100000 in
theorem MemorySame_any (vx vy ux uy:Value) (m n:Mm) (w:World) (hr:ReadsM w vx vy m) (hs:ReadsM w ux uy n) :
  Calls Tryz.prog 17 #[.agg #[vx,vy],.agg #[ux,uy]] w fun e w'=>e=.returned (.bool (decide (m=n)))∧Below w.heap.size w w':=by
 obtain ⟨a0,c0,a1,c1,rfl,rfl⟩:=hr.shape;obtain ⟨e0,f0,e1,f1,rfl,rfl⟩:=hs.shape;obtain ⟨xs,ys⟩:=m;obtain ⟨us,ws⟩:=n;have HR:=Hi (fun W (hW:Below w.heap.size w W)=>hr.below hW);have HS:=Hi (fun W (hW:Below w.heap.size w W)=>hs.below hW);clear hr hs;simp only at HR HS ⊢
 go_enter Tryz.func17,Tryz.ntmps17
 go_wp2_with fail
 refine (equalI_any _ _ xs us _ (HR.out _ (bal (bal (Bs w) (.cells #[.slice a0 xs.length c0,.slice a1 ys.length c1] 29)) (.cells #[.slice e0 us.length f0,.slice e1 ws.length f1] 29))).x (HS.out _ (bal (bal (Bs w) (.cells #[.slice a0 xs.length c0,.slice a1 ys.length c1] 29)) (.cells #[.slice e0 us.length f0,.slice e1 ws.length f1] 29))).x).mono ?_;rintro e w1 ⟨rfl,hb⟩;have k0:=hb.size;simp only [Sa] at k0;have g0:Bk w1 (w.heap.size) [.slice a0 xs.length c0,.slice a1 ys.length c1]:=Bb (Bk.al (Bk.nw (by simp) rfl) (.cells #[.slice e0 us.length f0,.slice e1 ws.length f1] 29)) hb;have i0:Bk w1 (w.heap.size+1) [.slice e0 us.length f0,.slice e1 ws.length f1]:=Bb (Bk.nw (by simp) rfl) hb;have d0:=btr (bal (bal (Bs w) (.cells #[.slice a0 xs.length c0,.slice a1 ys.length c1] 29)) (.cells #[.slice e0 us.length f0,.slice e1 ws.length f1] 29)) hb;clear hb;have w0:=Bk.lt g0 (show 0 < 2 by decide);have x0:=Bk.lt i0 (show 0 < 2 by decide);by_cases h0:xs=us
 ·rw [decide_eq_true h0];have Z0:=Hi h0;clear h0;have r0:=Bk.cell g0 1 (v:=.slice a1 ys.length c1) rfl;have t0:=Bk.froz g0 1 (show 1 < 2 by decide);have s0:=Bk.cell i0 1 (v:=.slice e1 ws.length f1) rfl;have u0:=Bk.froz i0 1 (show 1 < 2 by decide);go_wp2_with fail
  refine (equalF_any _ _ ys ws _ (HR.out _ d0).y (HS.out _ d0).y).mono ?_;rintro e w2 ⟨rfl,hb⟩;have m0:=hb.size;clear t0 r0 u0 s0;replace g0:=Bb g0 hb;replace i0:=Bb i0 hb;replace d0:=btr d0 hb;clear hb;have p0:=Bk.lt g0 (show 0 < 2 by decide);have q0:=Bk.lt i0 (show 0 < 2 by decide);by_cases h1:ys=ws
  ·rw [decide_eq_true h1];have Z1:=Hi h1;clear h1;have tt:=d0;go_wp2
   exact bodyPost_ret (v:=.bool true) (by simp [results,Tryz.results17,go_sem]) rfl (by exact ⟨ret_bool (decide_eq_true (by rw [Z0.out,Z1.out])).symm,tt⟩)
  rw [decide_eq_false h1];have Z1:=Hi h1;clear h1;have tt:=d0;go_wp2
  exact bodyPost_ret (v:=.bool false) (by simp [results,Tryz.results17,go_sem]) rfl (by exact ⟨ret_bool (decide_eq_false (fun h=>Z1.out (by injection h))).symm,tt⟩)
 rw [decide_eq_false h0];have Z0:=Hi h0;clear h0;have tt:=d0;go_wp2
 exact bodyPost_ret (v:=.bool false) (by simp [results,Tryz.results17,go_sem]) rfl (by exact ⟨ret_bool (decide_eq_false (fun h=>Z0.out (by injection h))).symm,tt⟩)
end Go.Proofs.YtnpidfbcbmeijaaGreat
