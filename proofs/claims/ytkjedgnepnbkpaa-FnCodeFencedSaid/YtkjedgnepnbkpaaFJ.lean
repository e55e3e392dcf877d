/-
 Parts of the proofs of the laws FnCodeFenced,FnCountBranches.
-/
import Derived.Test.YtkjedgnepnbkpaaFG
set_option linter.all false
namespace Go.Proofs.Ytkjedgnepnbkpaa
open Go.RowKit
set_option maxHeartbeats 1600000 in
theorem iCodeFenced_any (va vb vc:Value) (c:Cd) (w:World) (hr:ReadsC w va vb vc c) :
  Calls Try.prog 13 #[.agg #[va,vb,vc]] w fun e w'=>e=.returned (.bool (codeFenced c))∧Below w.heap.size w w':=by
 obtain ⟨a0,c0,a1,c1,a2,c2,rfl,rfl,rfl⟩:=hr.shape
 have HD:Hid (codeFenced c=(codeOk c&&fencedAll c.list)):=Lib.hid rfl
 generalize codeFenced c=D at *
 have d0:=bal (Bs w) (.cells #[.slice a0 c.vars.length c0,.slice a1 c.arrays.length c1,.slice a2 c.list.length c2] 26)
 go_enter Try.func13,Try.ntmps13
 go_wp2_with fail
 refine (iCodeValid_any _ _ _ c _ (hr.below d0)).mono ?_
 rintro e w1 ⟨rfl,hb⟩
 have b0:w1.cell? ⟨w.heap.size,0,none⟩=some (.slice a0 c.vars.length c0):=Kc hb (Wc (by simp) (by rfl))
 have b1:w1.cell? ⟨w.heap.size,1,none⟩=some (.slice a1 c.arrays.length c1):=Kc hb (Wc (by simp) (by rfl))
 have b2:w1.cell? ⟨w.heap.size,2,none⟩=some (.slice a2 c.list.length c2):=Kc hb (Wc (by simp) (by rfl))
 replace d0:=btr d0 hb
 clear hb
 cases hok:codeOk c with
 | false =>
  have HO:=Lib.hid hok
  clear hr hok
  go_wp2
  go_ret
  exact ⟨ret_bool (by rw [HD.out,HO.out];rfl),d0⟩
 | true =>
  have HO:=Lib.hid hok
  clear hok
  go_wp2_with fail
  refine (fenced_any _ _ _ c _ (hr.below d0) HO.out).mono ?_
  rintro e w2 ⟨g,rfl,ho,hb⟩
  replace b0:=Kc hb b0
  replace b1:=Kc hb b1
  replace b2:=Kc hb b2
  replace d0:=btr d0 hb
  clear hb
  have h0:=codeOk_len HO.out
  obtain ⟨l1,l2⟩:=h0
  have l0:=(hr.below d0).l
  clear hr
  obtain ⟨_,hn,aa,m0,b,o0,hv,j0,ha,i0⟩:=l0
  simp only [Value.slice.injEq,true_and] at hv
  obtain ⟨rfl,rfl⟩:=hv
  obtain ⟨rfl,n0⟩:=ha (by omega)
  have HC:=Lib.hid (reads_Instr i0)
  have HM:=Lib.hid (show (marksOf c.list).length=c.list.length from marksUpto_len _ _)
  clear i0 ha
  have k0:=Lc b0
  go_wp2
  go_loop [11] (fun i=>∃ k:Nat,k≤c.list.length∧i=.int .i64 k∧∀ j (h1:j < (marksOf c.list).length) (h2:j < c.list.length),j < k→((marksOf c.list)[j]&&!(c.list[j].op == 12))=false) (fun i=>c.list.length-(intOf i).toNat)
  case atStart=>exact ⟨0,Nat.zero_le _,rfl,fun j _ _ h=>absurd h (by omega)⟩
  case round =>
   obtain ⟨k,hk,rfl,f0⟩:=hrel
   have HA:=Lib.hid f0;clear f0
   by_cases hlt:k < c.list.length
   ·obtain ⟨e0,_⟩:=HC.out k hlt
    have y0:=ho.cellAt k (by omega)
    rw [bools_at _ _ (by rw [HM.out];exact hlt)] at y0
    have HN:=Lib.hid (fun h=>fencedAll_no (k:=k) (by rw [HM.out];exact hlt) hlt h)
    have HY:Hid (((marksOf c.list)[k]'(by rw [HM.out];exact hlt)&&!(c.list[k].op == 12))=false→∀ j (h1:j < (marksOf c.list).length) (h2:j < c.list.length),j < k+1→((marksOf c.list)[j]&&!(c.list[j].op == 12))=false):=Lib.hid (fun h j h1 h2 hj=>by
     by_cases e:j=k
     ·subst e;exact h
     exact HA.out j h1 h2 (by omega))
    generalize ((marksOf c.list)[k]'(by rw [HM.out];exact hlt))=m at *
    generalize c.list[k]=x at *
    clear HC HA
    cases m with
    | false =>
     go_wp2
     go_round
     case rel=>exact ⟨k+1,by omega,by go_num,HY.out rfl⟩
     case measure=>simp [intOf];omega
    | true =>
     by_cases hf:(x.op == 12)=true
     ·have h1:(x.op != 12)=false:=by unfold bne;rw [hf];rfl
      have HF:=Lib.hid hf
      clear hf
      go_wp2
      go_round
      case rel=>exact ⟨k+1,by omega,by go_num,HY.out (by rw [HF.out];rfl)⟩
      case measure=>simp [intOf];omega
     have g0:(x.op == 12)=false:=by simpa using hf
     have h1:(x.op != 12)=true:=by unfold bne;rw [g0];rfl
     have HF:=Lib.hid g0
     clear hf g0
     go_wp2
     go_ret
     exact ⟨ret_bool (by rw [HD.out,HO.out,HN.out (by rw [HF.out];rfl)];rfl),d0⟩
   have HZ:=Lib.hid (fencedAll_yes (fun j h1 h2=>HA.out j h1 h2 (by omega)))
   clear HC HA
   go_wp2
   go_ret
   exact ⟨ret_bool (by rw [HD.out,HO.out,HZ.out];rfl),d0⟩
set_option maxHeartbeats 1600000 in
theorem sCodeFenced_any (va vb vc:Value) (c:Cd) (w:World) (hr:ReadsC w va vb vc c) :
  Calls Try.prog 15 #[.agg #[va,vb,vc]] w fun e w'=>e=.returned (.bool (codeFenced c))∧Below w.heap.size w w':=by
 obtain ⟨a0,c0,a1,c1,a2,c2,rfl,rfl,rfl⟩:=hr.shape
 have HD:Hid (codeFenced c=(codeOk c&&fencedAll c.list)):=Lib.hid rfl
 generalize codeFenced c=D at *
 have d0:=bal (Bs w) (.cells #[.slice a0 c.vars.length c0,.slice a1 c.arrays.length c1,.slice a2 c.list.length c2] 26)
 go_enter Try.func15,Try.ntmps15
 go_wp2_with fail
 refine (sCodeValid_any _ _ _ c _ (hr.below d0)).mono ?_
 rintro e w1 ⟨rfl,hb⟩
 have b0:w1.cell? ⟨w.heap.size,0,none⟩=some (.slice a0 c.vars.length c0):=Kc hb (Wc (by simp) (by rfl))
 have b1:w1.cell? ⟨w.heap.size,1,none⟩=some (.slice a1 c.arrays.length c1):=Kc hb (Wc (by simp) (by rfl))
 have b2:w1.cell? ⟨w.heap.size,2,none⟩=some (.slice a2 c.list.length c2):=Kc hb (Wc (by simp) (by rfl))
 replace d0:=btr d0 hb
 clear hb
 cases hok:codeOk c with
 | false =>
  have HO:=Lib.hid hok
  clear hr hok
  go_wp2
  go_ret
  exact ⟨ret_bool (by rw [HD.out,HO.out];rfl),d0⟩
 | true =>
  have HO:=Lib.hid hok
  clear hok
  go_wp2_with fail
  refine (l11Marks_any _ _ _ c _ (hr.below d0) HO.out).mono ?_
  rintro e w2 ⟨g,rfl,ho,hb⟩
  replace b0:=Kc hb b0
  replace b1:=Kc hb b1
  replace b2:=Kc hb b2
  replace d0:=btr d0 hb
  clear hb
  have h0:=codeOk_len HO.out
  obtain ⟨l1,l2⟩:=h0
  have l0:=(hr.below d0).l
  clear hr
  obtain ⟨_,hn,aa,m0,b,o0,hv,j0,ha,i0⟩:=l0
  simp only [Value.slice.injEq,true_and] at hv
  obtain ⟨rfl,rfl⟩:=hv
  obtain ⟨rfl,n0⟩:=ha (by omega)
  have HC:=Lib.hid (reads_Instr i0)
  have HM:=Lib.hid (show (marksOf c.list).length=c.list.length from marksUpto_len _ _)
  clear i0 ha
  have k0:=Lc b0
  go_wp2
  go_loop [4] (fun i=>∃ k:Nat,k≤c.list.length∧i=.int .i64 k∧∀ j (h1:j < (marksOf c.list).length) (h2:j < c.list.length),j < k→((marksOf c.list)[j]&&!(c.list[j].op == 12))=false) (fun i=>c.list.length-(intOf i).toNat)
  case atStart=>exact ⟨0,Nat.zero_le _,rfl,fun j _ _ h=>absurd h (by omega)⟩
  case round =>
   obtain ⟨k,hk,rfl,f0⟩:=hrel
   have HA:=Lib.hid f0;clear f0
   by_cases hlt:k < c.list.length
   ·obtain ⟨e0,_⟩:=HC.out k hlt
    have y0:=ho.cellAt k (by omega)
    rw [bools_at _ _ (by rw [HM.out];exact hlt)] at y0
    have HN:=Lib.hid (fun h=>fencedAll_no (k:=k) (by rw [HM.out];exact hlt) hlt h)
    have HY:Hid (((marksOf c.list)[k]'(by rw [HM.out];exact hlt)&&!(c.list[k].op == 12))=false→∀ j (h1:j < (marksOf c.list).length) (h2:j < c.list.length),j < k+1→((marksOf c.list)[j]&&!(c.list[j].op == 12))=false):=Lib.hid (fun h j h1 h2 hj=>by
     by_cases e:j=k
     ·subst e;exact h
     exact HA.out j h1 h2 (by omega))
    generalize ((marksOf c.list)[k]'(by rw [HM.out];exact hlt))=m at *
    generalize c.list[k]=x at *
    clear HC HA
    cases m with
    | false =>
     go_wp2
     go_round
     case rel=>exact ⟨k+1,by omega,by go_num,HY.out rfl⟩
     case measure=>simp [intOf];omega
    | true =>
     by_cases hf:(x.op == 12)=true
     ·have h1:(x.op != 12)=false:=by unfold bne;rw [hf];rfl
      have HF:=Lib.hid hf
      clear hf
      go_wp2
      go_round
      case rel=>exact ⟨k+1,by omega,by go_num,HY.out (by rw [HF.out];rfl)⟩
      case measure=>simp [intOf];omega
     have g0:(x.op == 12)=false:=by simpa using hf
     have h1:(x.op != 12)=true:=by unfold bne;rw [g0];rfl
     have HF:=Lib.hid g0
     clear hf g0
     go_wp2
     go_ret
     exact ⟨ret_bool (by rw [HD.out,HO.out,HN.out (by rw [HF.out];rfl)];rfl),d0⟩
   have HZ:=Lib.hid (fencedAll_yes (fun j h1 h2=>HA.out j h1 h2 (by omega)))
   clear HC HA
   go_wp2
   go_ret
   exact ⟨ret_bool (by rw [HD.out,HO.out,HZ.out];rfl),d0⟩
end Go.Proofs.Ytkjedgnepnbkpaa
