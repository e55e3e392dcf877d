/-
 Parts of the proofs of the laws FnExactSplitMemory.
-/
import Derived.Test.YtnpidfbcbmeijaaRS
import Derived.Test.YtnpidfbcbmeijaaQ
set_option maxHeartbeats 12800000
set_option maxRecDepth 100000
set_option linter.all false
namespace Go.Proofs.Ytnpidfbcbmeijaa
open Go.RowKit
theorem info_ints:(Try.prog.info? 22).map (fun i=>(i.zero,i.size,i.bytes))=some (some (.slice none 0 0),1,24):=by kernel_rfl
theorem tIntSS:SliceT Try.prog 36 22 (.slice none 0 0) 1 24:=⟨Try.underlying36,info_ints,rfl,by omega,by omega⟩
theorem mk_intS (n:Nat) (h:n≤1073741824) (u:World):(Instr.makeSlice 36 (.int .i64 n) (.int .i64 n)).run Try.prog u =
  .ok (.slice (some ⟨u.heap.size,0,none⟩) n n) (u.alloc (.cells (madeCells #[.slice none 0 0] n) 22)):=by
 obtain ⟨i0,hi,a0,b0,c0⟩:=info_parts info_ints;have h:=run_make (P:=Try.prog) u 36 22 i0 (.slice none 0 0) Try.underlying36 hi a0 .i64 .i64 n n (by omega) (Int.le_refl _) (by rw [c0];omega) (by omega);rw [Int.toNat_natCast,b0,Nat.mul_one] at h;exact h
abbrev Own2I:=Own2 ints 3 22
theorem toIntSS_any (v:Value) (rs:List (List Int)) (w:World) (hr:Reads2 ints w v rs) (hn:rs.length≤1073741824) (hn2:pre2 rs rs.length≤1073741824) :
  Calls Try.prog 41 #[v] w fun e w'=>∃ u us,e=.returned u∧Own2I w' w.heap.size u us rs∧Below w.heap.size w w':=by
 obtain ⟨a,c,rfl⟩:=hr.shape;have q0:=mk_intS rs.length hn;have e0:=own_made w (.slice none 0 0) rs.length 22 (by unfold maxLen;omega)
 have b0:Own2I (w.alloc (.cells (madeCells #[.slice none 0 0] rs.length) 22)) w.heap.size (.slice (some ⟨w.heap.size,0,none⟩) rs.length rs.length) (List.replicate rs.length (.slice none 0 0)) (rs.take 0++List.replicate (rs.length-0) []):=by
  have h:=own2_nils (f:=ints) (tr:=3) (rs:=rs.take 0++List.replicate (rs.length-0) []) (by simp [ints]) (by simpa using e0) (fun k r hr=>by simp [List.getElem?_replicate] at hr;exact hr.2.symm ▸ rfl);simpa using h
 have HR:=Hi hr;clear hr e0;go_enter Try.func41,Try.ntmps41
 go_wp2
 go_loopw [4] (fun i wr=>∃ k:Nat,k≤rs.length∧i=.int .i64 k∧(∃ us,Own2I wr w.heap.size (.slice (some ⟨w.heap.size,0,none⟩) rs.length rs.length) us (rs.take k++List.replicate (rs.length-k) []))∧Below w.heap.size w wr) (fun i _=>rs.length-(intOf i).toNat)
 case atStart=>exact ⟨0,Nat.zero_le _,rfl,⟨_,b0⟩,bal (Bs w) _⟩
 case round =>
  obtain ⟨k,hk,rfl,⟨us,ho⟩,a0⟩:=hrel;clear b0;by_cases hlt:k < rs.length
  ·obtain ⟨b,r0,u,rfl,hb,hc,hu⟩:=HR.out.at k hlt;have hc:=Kc a0 hc;have hu:=hu.below a0;have i0:k < (rs.take k++List.replicate (rs.length-k) ([]:List Int)).length:=by simp;omega
   have k0:=set_next rs [] k hlt;have o0:rs[k].length≤1073741824:=by have:=pre2_all rs k hlt rs.length hlt;omega
   have l0:=Hi k0;have p0:=a0.size;have kc:=Lc hc;clear k0 HR;go_wp2_with fail
   refine (toIntS_any u rs[k] _ hu o0).mono ?_;rintro e w1 ⟨u1,rfl,c0,f0⟩;have d0:=ho.below f0;have g0:=ho.lt;have i1:=c0.lt;obtain ⟨x,hx,_⟩:=d0.rowAt k i0;have h0:w1.cell? ⟨w.heap.size,k,none⟩=some x:=by rw [d0.outAt.cellAt k (by omega)];exact hx
   have hf:=d0.outAt.frozenAt k;have j0:=d0.put rfl i0 (Om c0 (by omega)) (fun q h h2=>by have:=i1 q h;have:=g0 q h2;omega) (by decide);rw [l0.out] at j0;have m0:=bst (btr a0 f0) w.heap.size k (by omega) u1;have n0:=own_one c0;obtain ⟨pa,pc,rfl⟩:=Oh c0;clear ho c0 d0 f0 a0 hu hc;go_wp2
   go_roundw
   case rel=>exact ⟨k+1,by omega,by go_num,⟨_,j0⟩,m0⟩
   case measure=>simp [intOf];omega
  have e:k=rs.length:=by omega
  subst e;rw [List.take_length,Nat.sub_self,List.replicate_zero,List.append_nil] at ho;go_wp2
  go_ret
  exact ⟨_,_,rfl,ho,a0⟩
theorem eqIntSS_any (va vb:Value) (xs ys:List (List Int)) (w:World) (ha:Reads2 ints w va xs) (hb:Reads2 ints w vb ys) :
  Calls Try.prog 44 #[va,vb] w fun e w'=>e=.returned (.bool (decide (xs=ys)))∧Below w.heap.size w w':=by
 obtain ⟨a1,c1,rfl⟩:=ha.shape;obtain ⟨a2,c2,rfl⟩:=hb.shape;have hn:=ha.lenle;have f0:=hb.lenle;have HA:=Hi ha;have HB:=Hi hb;clear ha hb;by_cases hl:xs.length=ys.length
 ·have e0:((xs.length:Int) != (ys.length:Int))=false:=by simp [hl]
  have HL:=Hi hl;clear hl;go_enter Try.func44,Try.ntmps44
  go_wp2
  go_loopw [5] (fun i wr=>∃ k:Nat,k≤xs.length∧i=.int .i64 k∧xs.take k=ys.take k∧Below w.heap.size w wr) (fun i _=>xs.length-(intOf i).toNat)
  case atStart=>exact ⟨0,Nat.zero_le _,rfl,rfl,Bs w⟩
  case round =>
   obtain ⟨k,hk,rfl,he,a0⟩:=hrel;have HE:=Hi he;clear he;by_cases hlt:k < xs.length
   ·have hlt':k < ys.length:=by have:=HL.out;omega
    obtain ⟨b,g0,u,rfl,hb,hc,hu⟩:=HA.out.at k hlt;obtain ⟨b',off',u',rfl,hb',hc',hu'⟩:=HB.out.at k hlt';replace hc:=Kc a0 hc;replace hc':=Kc a0 hc';replace hu:=hu.below a0;replace hu':=hu'.below a0;have kc:=Lc hc;have kc':=Lc hc';have hq:(k:Int) < (ys.length:Int):=by omega
    obtain ⟨p1,p2,rfl⟩:=reads_shape hu;obtain ⟨p3,p4,rfl⟩:=reads_shape hu';have HX:=Hi (fun h=>take_succ_eq (k:=k) hlt hlt' HE.out h);have HN:Hid (¬xs[k]=ys[k]→¬xs=ys):=Hi (fun h e=>h (by subst e;rfl));have HQ:=Hi (fun W (hW:Below wr.heap.size wr W)=>eqIntS_b _ _ xs[k] ys[k] W (hu.below hW) (hu'.below hW));generalize xs[k]=r1 at *
    generalize ys[k]=r2 at *
    clear HA HB HE hu hu' hb hb';go_upto_region 6 with (fail)
    have D:=Bd (Bs wr);go_cut [26] (fun s wx=>s=.bool (!decide (r1=r2))∧Below wr.heap.size wr wx)
    case first =>
     go_region_with (go_at_call 32;refine (HQ.out _ (by assumption)).mono ?_;rintro e wb ⟨rfl,bb⟩)
     all_goals (go_wp2_with fail;go_meet;exact ⟨rfl,btr D bb⟩)
    obtain ⟨W5,rfl⟩:∃ W,W=wc:=⟨_,rfl⟩;obtain ⟨rfl,c0⟩:=hcut;have d0:=btr a0 c0;by_cases hxy:r1=r2
    ·have b0:=Hi hxy;rw [decide_eq_true hxy];clear hxy D c0 a0;go_wp2
     go_roundw
     case rel=>exact ⟨k+1,by omega,by go_num,HX.out b0.out,d0⟩
     case measure=>simp [intOf];omega
    have b0:=Hi hxy;rw [decide_eq_false hxy];clear hxy D c0 a0;go_wp2
    go_ret
    exact ⟨ret_bool (decide_eq_false (HN.out b0.out)).symm,d0⟩
   go_wp2
   go_ret
   exact ⟨ret_bool (decide_eq_true (by have h:=HE.out;rwa [List.take_of_length_le (by omega),List.take_of_length_le (by have:=HL.out;omega)] at h)).symm,a0⟩
 have e0:((xs.length:Int) != (ys.length:Int))=true:=by simp;omega
 have HL:=Hi hl;clear hl;go_enter Try.func44,Try.ntmps44
 go_wp2
 go_ret
 exact ⟨ret_bool (decide_eq_false (fun h=>HL.out (by rw [h]))).symm,Bs w⟩
theorem szIntSS_any (v:Value) (rs:List (List Int)) (left:Int) (w:World) (hr:Reads2 ints w v rs) (h0:0≤left) (h1:left≤1073741824) :
  Calls Try.prog 38 #[v,.int .i64 left] w fun e w'=>∃ r:Int,e=.returned (.int .i64 r)∧(r=-1∨(0≤r∧r=left-rs.length-pre2 rs rs.length))∧Below w.heap.size w w':=by
 obtain ⟨a,c,rfl⟩:=hr.shape;have hn:=hr.lenle;by_cases h:left < (rs.length:Int)
 ·have h2:left-(rs.length:Int) < 0:=by omega
  clear h;go_enter Try.func38,Try.ntmps38
  go_wp2
  go_ret
  exact ⟨-1,rfl,Or.inl rfl,Bs w⟩
 have h2:¬left-(rs.length:Int) < 0:=by omega
 have HR:=Hi hr;clear hr;go_enter Try.func38,Try.ntmps38
 go_wp2
 go_loopw [1,5] (fun lv i wr=>∃ k:Nat,k≤rs.length∧i=.int .i64 k∧∃ r:Int,lv=.int .i64 r∧0≤r∧Hid (r=left-rs.length-pre2 rs k)∧Below w.heap.size w wr) (fun _ i _=>rs.length-(intOf i).toNat)
 case atStart=>exact ⟨0,Nat.zero_le _,rfl,_,rfl,by omega,Hi (by simp [pre2]),Bs w⟩
 case round =>
  obtain ⟨k,hk,rfl,r,rfl,d0,HE,a0⟩:=hrel;have e0:r≤1073741824:=by have:=HE.out;omega
  by_cases hlt:k < rs.length
  ·obtain ⟨b,g0,u,rfl,hb,hc,hu⟩:=HR.out.at k hlt;have HP:=Hi (pre2_succ rs k hlt);replace hc:=Kc a0 hc;replace hu:=hu.below a0;have kc:=Lc hc;generalize rs[k]=row at *
   go_wp2_with fail
   refine (szIntS_b u row.length _ r _ hu d0 e0).mono ?_;rintro e w1 ⟨rfl,b0⟩;have c0:=btr a0 b0;clear a0 b0 hc hu kc hb;by_cases hq:r < (row.length:Int)
   ·rw [if_pos hq];clear hq;go_wp2
    go_ret
    exact ⟨-1,rfl,Or.inl rfl,c0⟩
   rw [if_neg hq];have f0:¬r-(row.length:Int) < 0:=by omega
   clear hq;go_wp2
   go_roundw
   case rel=>exact ⟨k+1,by omega,by go_num,_,rfl,by omega,Hi (by have e1:=HE.out;have e2:=HP.out;omega),c0⟩
   case measure=>simp [intOf];omega
  have e:k=rs.length:=by omega
  subst e;go_wp2
  go_ret
  exact ⟨r,rfl,Or.inr ⟨d0,HE.out⟩,a0⟩
def mk2I (k:Int) (rs:List (List Int)):List (List Int):=(List.range rs.length).map (fun j=>marks (k+pre2 rs j) ((rs[j]?).getD []).length)
theorem mk2I_len (k:Int) (rs:List (List Int)):(mk2I k rs).length=rs.length:=by simp [mk2I]
theorem mk2I_get (k:Int) (rs:List (List Int)) (j:Nat) (h:j < rs.length) (h2:j < (mk2I k rs).length):(mk2I k rs)[j]=marks (k+pre2 rs j) rs[j].length:=by
 simp [mk2I,h]
theorem mk2I_row (k:Int) (rs:List (List Int)) (j:Nat) (h:j < rs.length):(rs[j]).length=((mk2I k rs)[j]'(by rw [mk2I_len];exact h)).length:=by
 rw [mk2I_get k rs j h,marks_length]
theorem mk2I_pre (k:Int) (rs:List (List Int)) (j:Nat):pre2 (mk2I k rs) j=pre2 rs j:=by
 induction j with
 | zero=>simp [pre2]
 | succ j ih =>
  by_cases h:j < rs.length
  ·rw [pre2_succ _ j (by rw [mk2I_len];exact h),pre2_succ _ j h,ih,← mk2I_row k rs j h]
  have h1:pre2 (mk2I k rs) (j+1)=pre2 (mk2I k rs) j:=by unfold pre2;rw [List.take_of_length_le (by rw [mk2I_len];omega),List.take_of_length_le (by rw [mk2I_len];omega)]
  have h2:pre2 rs (j+1)=pre2 rs j:=by unfold pre2;rw [List.take_of_length_le (by omega),List.take_of_length_le (by omega)]
  rw [h1,h2,ih]
theorem markIntSS_any (v:Value) (vs:List Value) (rs:List (List Int)) (k:Int) (w:World) (base:Nat) (ho:Own2I w base v vs rs) (hn:rs.length≤1073741824) (h0:0≤k) (h1:k+pre2 rs rs.length≤1073741824) :
  Calls Try.prog 45 #[v,.int .i64 k] w fun e w'=>e=.returned (.int .i64 (k+pre2 rs rs.length))∧Own2I w' base v vs (mk2I k rs)∧Chg (fun q=>OwnB2 v vs q) w w':=by
 obtain ⟨a,c,rfl⟩:=ho.shape;go_enter Try.func45,Try.ntmps45
 go_wp2
 go_loopw [1,5] (fun kk i wr=>∃ j:Nat,j≤rs.length∧i=.int .i64 j∧kk=.int .i64 (k+pre2 rs j)∧Own2I wr base (.slice a rs.length c) vs ((mk2I k rs).take j++rs.drop j)∧Chg (fun q=>OwnB2 (.slice a rs.length c) vs q) w wr) (fun _ i _=>rs.length-(intOf i).toNat)
 case atStart=>exact ⟨0,Nat.zero_le _,rfl,by simp [pre2],by simpa using ho,Chg.refl _ _⟩
 case round =>
  obtain ⟨j,hj,rfl,rfl,b0,hc⟩:=hrel;clear ho;by_cases hlt:j < rs.length
  ·have e0:j < ((mk2I k rs).take j++rs.drop j).length:=by simp [mk2I_len];omega
   have hg:((mk2I k rs).take j++rs.drop j)[j]'e0=rs[j]:=by
    rw [List.getElem_append_right (by simp [mk2I_len];omega)];simp [mk2I_len,Nat.min_eq_left (Nat.le_of_lt hlt)]
   obtain ⟨u,hu,d0⟩:=b0.rowAt j e0;rw [hg] at d0;obtain ⟨g,c',hv⟩:=own_pos b0.outAt (by omega);simp only [Value.slice.injEq] at hv;obtain ⟨rfl,_,rfl⟩:=hv;have c0:wr.cell? ⟨g,j,none⟩=some u:=by rw [b0.outAt.cellAt j (by omega)];exact hu
   have kc:=Lc c0;have hp:=pre2_all rs j hlt rs.length hlt;have j0:=pre2_succ rs j hlt;have r0:=pre2_mono rs (k:=j+1) (m:=rs.length) (by omega)
   have k0:((mk2I k rs).take j++rs.drop j).set j (marks (k+pre2 rs j) rs[j].length)=(mk2I k rs).take (j+1)++rs.drop (j+1):=by
    rw [set_dropped _ rs _ j (by simp [mk2I_len];omega) hlt,List.take_succ_eq_append_getElem (by rw [mk2I_len];exact hlt),mk2I_get k rs j hlt]
   have HS:=Hi k0;have m0:=Hi j0;have o0:0≤k+(pre2 rs j:Int):=by omega
   have p0:k+(pre2 rs j:Int)≤1073741824:=by omega
   have q0:rs[j].length≤1073741824:=by omega
   have f0:((mk2I k rs).take j++rs.drop j).length=rs.length:=by simp [mk2I_len];omega
   have s0:=Hi f0;clear k0 hp r0 hg j0 f0;go_wp2_with fail
   refine (markIntS_any u rs[j] (k+pre2 rs j) _ base d0 q0 o0 p0).mono ?_;rintro e w1 ⟨rfl,g0,a0⟩;have i0:=b0.turn hu (r:=marks (k+pre2 rs j) rs[j].length) (by rw [marks_length];exact g0) a0 (by decide);rw [HS.out] at i0;have n0:=hc.trans ⟨a0.os,a0.tape,a0.output,a0.size,fun q hq hn=>a0.block q hq (fun h=>hn (Or.inr ⟨j,u,hu,h⟩))⟩;have l0:Hid (k+(pre2 rs j:Int)+(rs[j].length:Int)=k+(pre2 rs (j+1):Nat)):=Hi (by have:=m0.out;omega);clear b0 d0 g0 a0 hc;rw [l0.out];go_wp2
   go_roundw
   case rel=>exact ⟨j+1,by omega,by go_num,rfl,i0,n0⟩
   case measure=>simp [intOf];omega
  have e:j=rs.length:=by omega
  subst e;rw [List.take_of_length_le (by rw [mk2I_len];omega),List.drop_length,List.append_nil] at b0;go_wp2
  go_ret
  exact ⟨rfl,b0,hc⟩
theorem heldIntSS_any (v:Value) (rs:List (List Int)) (k:Int) (w:World) (hr:Reads2 ints w v (mk2I k rs)) (h0:0≤k) (h1:k+pre2 rs rs.length≤1073741824) :
  Calls Try.prog 46 #[v,.int .i64 k] w fun e w'=>e=.returned (.int .i64 (k+pre2 rs rs.length))∧Below w.heap.size w w':=by
 obtain ⟨a,c,rfl⟩:=hr.shape;have hn:=hr.lenle;rw [mk2I_len] at hn;rw [mk2I_len];have HR:=Hi hr;clear hr;go_enter Try.func46,Try.ntmps46
 go_wp2
 go_loopw [1,5] (fun kk i wr=>∃ j:Nat,j≤rs.length∧i=.int .i64 j∧kk=.int .i64 (k+pre2 rs j)∧Below w.heap.size w wr) (fun _ i _=>rs.length-(intOf i).toNat)
 case atStart=>exact ⟨0,Nat.zero_le _,rfl,by simp [pre2],Bs w⟩
 case round =>
  obtain ⟨j,hj,rfl,rfl,a0⟩:=hrel;by_cases hlt:j < rs.length
  ·obtain ⟨b,l0,u,rfl,hb,hc,hu⟩:=HR.out.at j (by rw [mk2I_len];exact hlt);rw [← mk2I_row k rs j hlt,mk2I_get k rs j hlt] at hu;replace hc:=Kc a0 hc;replace hu:=hu.below a0;have kc:=Lc hc;have hp:=pre2_all rs j hlt rs.length hlt;have j0:=pre2_succ rs j hlt;have i0:=pre2_mono rs (k:=j+1) (m:=rs.length) (by omega);have e0:0≤k+(pre2 rs j:Int):=by omega
   have f0:k+(pre2 rs j:Int)≤1073741824:=by omega
   have g0:rs[j].length≤1073741824:=by omega
   have c0:Hid (k+(pre2 rs j:Int)+(rs[j].length:Int)=k+(pre2 rs (j+1):Nat)):=Hi (by omega);have k0:¬k+(pre2 rs (j+1):Nat) < 0:=by omega
   clear hp j0 i0;go_wp2_with fail
   refine (heldIntS_b u rs[j].length (k+pre2 rs j) _ hu g0 e0 f0).mono ?_;rintro e w1 ⟨rfl,b0⟩;have d0:=btr a0 b0;clear a0 b0 hc hu kc hb;rw [c0.out];go_wp2
   go_roundw
   case rel=>exact ⟨j+1,by omega,by go_num,rfl,d0⟩
   case measure=>simp [intOf];omega
  have e:j=rs.length:=by omega
  subst e;go_wp2
  go_ret
  exact ⟨rfl,a0⟩
end Go.Proofs.Ytnpidfbcbmeijaa
