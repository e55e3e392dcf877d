/-
 Parts of the proofs of the laws FnCodeFenced,FnCountBranches.
-/
import Derived.Test.YtkjedgnepnbkpaaNB
set_option maxHeartbeats 12800000
set_option maxRecDepth 100000
set_option linter.all false
namespace Go.Proofs.Ytkjedgnepnbkpaa
open Go.RowKit
theorem equalI_any (va vb:Value) (xs ys:List Int) (w:World) (ha:Reads w 1 va xs.length (ints xs)) (hb:Reads w 1 vb ys.length (ints ys)) :
  Calls Try.prog 59 #[va,vb] w fun e w'=>e=.returned (.bool (decide (xs=ys)))∧Below w.heap.size w w':=by
 obtain ⟨_,hn,a,g0,b,i0,rfl,f0,ha,a0⟩:=ha
 obtain ⟨_,hn',a',cap',b',off',rfl,hcap',ha',b0⟩:=hb
 by_cases hl:xs.length=ys.length
 ·have e0:((xs.length:Int) != (ys.length:Int))=false:=by simp [hl]
  have HL:=Lib.hid hl;clear hl
  go_enter Try.func59,Try.ntmps59
  go_wp2
  go_loopw [13] (fun i wr=>∃ k:Nat,k≤xs.length∧i=.int .i64 k∧xs.take k=ys.take k∧∃ d,wr=w.drewN d) (fun i _=>xs.length-(intOf i).toNat)
  case atStart=>exact ⟨0,Nat.zero_le _,rfl,rfl,0,rfl⟩
  case round =>
   obtain ⟨k,hk,rfl,he,d,rfl⟩:=hrel
   have HE:=Lib.hid he;clear he
   by_cases hlt:k < xs.length
   ·obtain ⟨rfl,h0⟩:=ha (by omega)
    obtain ⟨rfl,hbs'⟩:=ha' (by have:=HL.out;omega)
    have hlt':k < ys.length:=by have:=HL.out;omega
    have c0:=a0 k (by simpa [ints] using hlt)
    have d0:=b0 k (by simpa [ints] using hlt')
    rw [ints_get] at c0 d0
    clear a0 b0 ha ha'
    by_cases hxy:xs[k]=ys[k]
    ·have e1:(xs[k] != ys[k])=false:=by simp [hxy]
     clear hxy
     go_wp2
     go_quiet (fail)
     go_wp2
     go_roundw
     case rel=>exact ⟨k+1,by omega,by go_num,take_succ_eq hlt hlt' HE.out (by simpa using e1),_,rfl⟩
     case measure=>simp [intOf];omega
    have e1:(xs[k] != ys[k])=true:=by simp [hxy]
    have HX:=Lib.hid hxy;clear hxy
    go_wp2
    go_quiet (fail)
    go_wp2
    go_ret
    exact ⟨ret_bool (decide_eq_false (fun h=>HX.out (by subst h;rfl))).symm,by rw [World.drewN_drewN];exact below_drewN' w _⟩
   go_wp2
   go_ret
   exact ⟨ret_bool (decide_eq_true (by have h:=HE.out;rwa [List.take_of_length_le (by omega),List.take_of_length_le (by have:=HL.out;omega)] at h)).symm,below_drewN' w _⟩
 have e0:((xs.length:Int) != (ys.length:Int))=true:=by simp;omega
 have HL:=Lib.hid hl;clear hl
 go_enter Try.func59,Try.ntmps59
 go_wp2
 go_ret
 exact ⟨ret_bool (decide_eq_false (fun h=>HL.out (by rw [h]))).symm,Bs w⟩
theorem equalN_any_eq (d:Nat) (x0 x1 x2 x3 x4 y0 y1 y2 y3 y4:Int) (W:World):(Op.equalIn (d+2) 32 (.agg #[.int .i64 x0,.int .i64 x1,.int .i64 x2,.int .i64 x3,.int .i64 x4]) (.agg #[.int .i64 y0,.int .i64 y1,.int .i64 y2,.int .i64 y3,.int .i64 y4])).run Try.prog W=.ok (x0 == y0&&x1 == y1&&x2 == y2&&x3 == y3&&x4 == y4) W:=by
 have a0:∀ (d:Nat) (a b:Int) (W:World),(Op.equalIn (d+1) 3 (.int .i64 a) (.int .i64 b)).run Try.prog W=.ok (a == b) W:=fun d a b W=>by simp [Op.equalIn,run_underlying Try.underlying3]
 rw [Op.equalIn]
 simp only [Sem.run_bind,run_underlying Try.underlying32,Result.andThen_ok]
 simp [a0,part]
 by_cases h0:x0=y0 <;> by_cases h1:x1=y1 <;> by_cases h2:x2=y2 <;> by_cases h3:x3=y3 <;> by_cases h4:x4=y4 <;> simp [h0,h1,h2,h3,h4]
theorem equalN_any_ne (x0 x1 x2 x3 x4 y0 y1 y2 y3 y4:Int) (W:World):(binOp .neq 32 (.agg #[.int .i64 x0,.int .i64 x1,.int .i64 x2,.int .i64 x3,.int .i64 x4]) (.agg #[.int .i64 y0,.int .i64 y1,.int .i64 y2,.int .i64 y3,.int .i64 y4])).run Try.prog W=.ok (.bool (!(x0 == y0&&x1 == y1&&x2 == y2&&x3 == y3&&x4 == y4))) W:=by
 have h:(Op.equal 32 (.agg #[.int .i64 x0,.int .i64 x1,.int .i64 x2,.int .i64 x3,.int .i64 x4]) (.agg #[.int .i64 y0,.int .i64 y1,.int .i64 y2,.int .i64 y3,.int .i64 y4])).run Try.prog W=.ok (x0 == y0&&x1 == y1&&x2 == y2&&x3 == y3&&x4 == y4) W:=equalN_any_eq 9998 x0 x1 x2 x3 x4 y0 y1 y2 y3 y4 W
 simp only [binOp,Sem.run_bind,h,Result.andThen_ok]
 rfl
theorem equalN_any (va vb:Value) (xs ys:List Ins) (w:World) (ha:Reads w 5 va xs.length (inss xs)) (hb:Reads w 5 vb ys.length (inss ys)) :
  Calls Try.prog 60 #[va,vb] w fun e w'=>e=.returned (.bool (decide (xs=ys)))∧Below w.heap.size w w':=by
 obtain ⟨_,hn,a,l0,b,n0,rfl,j0,ha,f0⟩:=ha
 obtain ⟨_,hn',a',cap',b',off',rfl,hcap',ha',g0⟩:=hb
 have HC:=Lib.hid (reads_Instr f0)
 have HD:=Lib.hid (reads_Instr g0)
 clear f0 g0
 by_cases hl:xs.length=ys.length
 ·have e0:((xs.length:Int) != (ys.length:Int))=false:=by simp [hl]
  have HL:=Lib.hid hl;clear hl
  go_enter Try.func60,Try.ntmps60
  go_wp2
  go_loopw [13] (fun i wr=>∃ k:Nat,k≤xs.length∧i=.int .i64 k∧xs.take k=ys.take k∧∃ d,wr=w.drewN d) (fun i _=>xs.length-(intOf i).toNat)
  case atStart=>exact ⟨0,Nat.zero_le _,rfl,rfl,0,rfl⟩
  case round =>
   obtain ⟨k,hk,rfl,he,d,rfl⟩:=hrel
   have HE:=Lib.hid he;clear he
   by_cases hlt:k < xs.length
   ·obtain ⟨rfl,m0⟩:=ha (by omega)
    obtain ⟨rfl,hbs'⟩:=ha' (by have:=HL.out;omega)
    have hlt':k < ys.length:=by have:=HL.out;omega
    obtain ⟨c0,c1,c2,c3,c4⟩:=HC.out k hlt
    obtain ⟨d0,d1,d2,d3,d4⟩:=HD.out k hlt'
    have b0:=Lib.hid (fun h=>take_succ_eq hlt hlt' HE.out h)
    have i0:=Lib.hid (fun (h:xs=ys)=>show xs[k]=ys[k] by subst h;rfl)
    generalize xs[k]=x at *
    generalize ys[k]=y at *
    clear HC HD ha ha'
    have a0:∀ W,(binOp .neq 32 (.agg #[.int .i64 x.op,.int .i64 x.a,.int .i64 x.b,.int .i64 x.c,.int .i64 x.d]) (.agg #[.int .i64 y.op,.int .i64 y.a,.int .i64 y.b,.int .i64 y.c,.int .i64 y.d])).run Try.prog W=.ok (.bool (!(x.op == y.op&&x.a == y.a&&x.b == y.b&&x.c == y.c&&x.d == y.d))) W:=fun W=>equalN_any_ne x.op x.a x.b x.c x.d y.op y.a y.b y.c y.d W
    by_cases hxy:x=y
    ·have h0:=Lib.hid (b0.out hxy);clear b0
     subst hxy
     clear a0
     go_wp2
     go_quiet (fail)
     go_wp2
     go_roundw
     case rel=>exact ⟨k+1,by omega,by go_num,h0.out,_,rfl⟩
     case measure=>simp [intOf];omega
    have hq:(x.op == y.op&&x.a == y.a&&x.b == y.b&&x.c == y.c&&x.d == y.d)=false:=by
     cases hz:(x.op == y.op&&x.a == y.a&&x.b == y.b&&x.c == y.c&&x.d == y.d) with
     | false=>rfl
     | true =>
      simp only [Bool.and_eq_true,beq_iff_eq] at hz
      exact absurd (by obtain ⟨x0,x1,x2,x3,x4⟩:=x;obtain ⟨y0,y1,y2,y3,y4⟩:=y;simp only at hz;simp [hz]) hxy
    have HX:=Lib.hid hxy;clear hxy
    have k0:∀ W,(binOp .neq 32 (.agg #[.int .i64 x.op,.int .i64 x.a,.int .i64 x.b,.int .i64 x.c,.int .i64 x.d]) (.agg #[.int .i64 y.op,.int .i64 y.a,.int .i64 y.b,.int .i64 y.c,.int .i64 y.d])).run Try.prog W=.ok (.bool true) W:=fun W=>by rw [a0 W,hq];rfl
    clear a0 hq
    go_wp2
    go_quiet (fail)
    go_wp2
    go_ret
    exact ⟨ret_bool (decide_eq_false (fun h=>HX.out (i0.out h))).symm,by rw [World.drewN_drewN];exact below_drewN' w _⟩
   go_wp2
   go_ret
   exact ⟨ret_bool (decide_eq_true (by have h:=HE.out;rwa [List.take_of_length_le (by omega),List.take_of_length_le (by have:=HL.out;omega)] at h)).symm,below_drewN' w _⟩
 have e0:((xs.length:Int) != (ys.length:Int))=true:=by simp;omega
 have HL:=Lib.hid hl;clear hl
 go_enter Try.func60,Try.ntmps60
 go_wp2
 go_ret
 exact ⟨ret_bool (decide_eq_false (fun h=>HL.out (by rw [h]))).symm,Bs w⟩
theorem CodeSame_any (va vb vc ta tb tc:Value) (c d:Cd) (w:World) (hr:ReadsC w va vb vc c) (hs:ReadsC w ta tb tc d) :
  Calls Try.prog 16 #[.agg #[va,vb,vc],.agg #[ta,tb,tc]] w fun e w'=>e=.returned (.bool (decide (c=d)))∧Below w.heap.size w w':=by
 obtain ⟨a0,c0,a1,c1,a2,c2,rfl,rfl,rfl⟩:=hr.shape
 obtain ⟨e0,f0,e1,f1,e2,f2,rfl,rfl,rfl⟩:=hs.shape
 obtain ⟨xs,ys,zs⟩:=c
 obtain ⟨us,ws,ts⟩:=d
 have HR:=Lib.hid (fun W (hW:Below w.heap.size w W)=>hr.below hW)
 have HS:=Lib.hid (fun W (hW:Below w.heap.size w W)=>hs.below hW)
 clear hr hs
 simp only at HR HS ⊢
 go_enter Try.func16,Try.ntmps16
 go_wp2_with fail
 refine (equalI_any _ _ xs us _ (HR.out _ (bal (bal (Bs w) (.cells #[.slice a0 xs.length c0,.slice a1 ys.length c1,.slice a2 zs.length c2] 26)) (.cells #[.slice e0 us.length f0,.slice e1 ws.length f1,.slice e2 ts.length f2] 26))).a (HS.out _ (bal (bal (Bs w) (.cells #[.slice a0 xs.length c0,.slice a1 ys.length c1,.slice a2 zs.length c2] 26)) (.cells #[.slice e0 us.length f0,.slice e1 ws.length f1,.slice e2 ts.length f2] 26))).a).mono ?_
 rintro e w1 ⟨rfl,hb⟩
 have i0:=hb.size
 simp only [Sa] at i0
 have d0:Bk w1 (w.heap.size) [.slice a0 xs.length c0,.slice a1 ys.length c1,.slice a2 zs.length c2]:=Bk.below (Bk.al (Bk.nw (by simp) rfl) (.cells #[.slice e0 us.length f0,.slice e1 ws.length f1,.slice e2 ts.length f2] 26)) hb
 have g0:Bk w1 (w.heap.size+1) [.slice e0 us.length f0,.slice e1 ws.length f1,.slice e2 ts.length f2]:=Bk.below (Bk.nw (by simp) rfl) hb
 have b0:=btr (bal (bal (Bs w) (.cells #[.slice a0 xs.length c0,.slice a1 ys.length c1,.slice a2 zs.length c2] 26)) (.cells #[.slice e0 us.length f0,.slice e1 ws.length f1,.slice e2 ts.length f2] 26)) hb
 clear hb
 have x0:=Bk.lt d0 (show 0 < 3 by decide)
 have y0:=Bk.lt g0 (show 0 < 3 by decide)
 by_cases h0:xs=us
 ·rw [decide_eq_true h0];have Z0:=Lib.hid h0;clear h0
  have t0:=Bk.cell d0 1 (v:=.slice a1 ys.length c1) rfl;have v0:=Bk.froz d0 1 (show 1 < 3 by decide)
  have u0:=Bk.cell g0 1 (v:=.slice e1 ws.length f1) rfl;have w0:=Bk.froz g0 1 (show 1 < 3 by decide)
  go_wp2_with fail
  refine (equalI_any _ _ ys ws _ (HR.out _ b0).b (HS.out _ b0).b).mono ?_
  rintro e w2 ⟨rfl,hb⟩
  have n0:=hb.size
  clear v0 t0 w0 u0
  replace d0:=Bk.below d0 hb
  replace g0:=Bk.below g0 hb
  replace b0:=btr b0 hb
  clear hb
  have p0:=Bk.lt d0 (show 0 < 3 by decide)
  have q0:=Bk.lt g0 (show 0 < 3 by decide)
  by_cases h1:ys=ws
  ·rw [decide_eq_true h1];have Z1:=Lib.hid h1;clear h1
   have j0:=Bk.cell d0 2 (v:=.slice a2 zs.length c2) rfl;have l0:=Bk.froz d0 2 (show 2 < 3 by decide)
   have k0:=Bk.cell g0 2 (v:=.slice e2 ts.length f2) rfl;have m0:=Bk.froz g0 2 (show 2 < 3 by decide)
   go_wp2_with fail
   refine (equalN_any _ _ zs ts _ (HR.out _ b0).l (HS.out _ b0).l).mono ?_
   rintro e w3 ⟨rfl,hb⟩
   have o0:=hb.size
   clear l0 j0 m0 k0
   replace d0:=Bk.below d0 hb
   replace g0:=Bk.below g0 hb
   replace b0:=btr b0 hb
   clear hb
   have r0:=Bk.lt d0 (show 0 < 3 by decide)
   have s0:=Bk.lt g0 (show 0 < 3 by decide)
   by_cases h2:zs=ts
   ·rw [decide_eq_true h2];have Z2:=Lib.hid h2;clear h2
    have tt:=b0
    go_wp2
    exact bodyPost_ret (v:=.bool true) (by simp [results,Try.results16,go_sem]) rfl (by exact ⟨ret_bool (decide_eq_true (by rw [Z0.out,Z1.out,Z2.out])).symm,tt⟩)
   rw [decide_eq_false h2];have Z2:=Lib.hid h2;clear h2
   have tt:=b0
   go_wp2
   exact bodyPost_ret (v:=.bool false) (by simp [results,Try.results16,go_sem]) rfl (by exact ⟨ret_bool (decide_eq_false (fun h=>Z2.out (by injection h))).symm,tt⟩)
  rw [decide_eq_false h1];have Z1:=Lib.hid h1;clear h1
  have tt:=b0
  go_wp2
  exact bodyPost_ret (v:=.bool false) (by simp [results,Try.results16,go_sem]) rfl (by exact ⟨ret_bool (decide_eq_false (fun h=>Z1.out (by injection h))).symm,tt⟩)
 rw [decide_eq_false h0];have Z0:=Lib.hid h0;clear h0
 have tt:=b0
 go_wp2
 exact bodyPost_ret (v:=.bool false) (by simp [results,Try.results16,go_sem]) rfl (by exact ⟨ret_bool (decide_eq_false (fun h=>Z0.out (by injection h))).symm,tt⟩)
end Go.Proofs.Ytkjedgnepnbkpaa
