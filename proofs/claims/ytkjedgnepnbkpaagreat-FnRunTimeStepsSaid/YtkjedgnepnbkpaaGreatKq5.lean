/-
 Parts of the proofs of the laws FnCompactRegs,FnFenceCode,FnRunTimeSteps.
-/
import Derived.Test.YtkjedgnepnbkpaaGreatC
import Derived.Test.YtkjedgnepnbkpaaGreatKq2
set_option linter.all false
namespace Go.Proofs.YtkjedgnepnbkpaaGreat
open Go.RowKit
theorem bools_get (xs:List Bool) (j:Nat) (h:j < (bools xs).length):(bools xs)[j]=.bool (xs[j]'(by simpa [bools] using h)):=by simp [bools]
theorem bools_append (a b:List Bool):bools (a++b)=bools a++bools b:=by simp [bools]
theorem Reads.drewN {w:World} {sz n:Nat} {v:Value} {vs:List Value} (h:Reads w sz v n vs) (k:Nat):Reads (w.drewN k) sz v n vs:=h.below (below_drewN' w k)
theorem st_var {P:Program} {v:Value} (hv:v.oneCell'=true):∀ (a:Addr) (w:World) (m:Mode),(store a v m).run P w=stored P w a v m:=fun a w m=>run_store P w a v m hv
theorem cell_new1 (w:World) (x:Value) (t:TypeId):(w.alloc (.cells #[x] t)).cell? ⟨w.heap.size,0,none⟩=some x:=by
 rw [cell_of_row _ _ 0 #[x] t (0,0) (heap_alloc_new w _)];rfl
theorem own_one {w:World} {base:Nat} {e:TypeId} {size:Nat} {v:Value} {n:Nat} {xs:List Value} (h:w.ownsRow base e size v n xs):v.oneCell'=true:=by
 rcases h.2 with ⟨rfl,_⟩ | ⟨g,cap,cur,rfl,_⟩ <;> rfl
def lineOk (i:Nat) (n:Int):Bool:=decide (-2≤n∧n≤3∧(0≤n→n % 2=i))
def cacheOk (xs:List Int):Bool:=decide (xs.length=2∧∀ j (h:j < xs.length),lineOk j xs[j]=true)
theorem cacheOk_false {xs:List Int} {k:Nat} (h:k < xs.length) (hf:¬lineOk k xs[k]=true):false=cacheOk xs:=by
 unfold cacheOk;exact (decide_eq_false (fun hh=>hf (hh.2 k h))).symm
theorem cacheOk_end {xs:List Int} (hh:∀ j (h:j < xs.length),lineOk j xs[j]=true):(decide (xs.length=2))=cacheOk xs:=by
 unfold cacheOk;congr 1;simp [hh]
theorem lineOk_cases {k:Nat} {n:Int} (h:¬lineOk k n=true):n < -2∨3 < n∨(0≤n∧¬n % 2=k):=by
 unfold lineOk at h;simp at h;omega
theorem lineOk_yes {k:Nat} {n:Int} (h:lineOk k n=true):-2≤n∧n≤3∧(0≤n→n % 2=k):=by
 unfold lineOk at h;exact of_decide_eq_true h
theorem iCacheValid_any (v:Value) (xs:List Int) (w:World) (hr:Reads w 1 v xs.length (ints xs)) :
  Calls Tryz.prog 96 #[.agg #[v]] w fun e w'=>e=.returned (.bool (cacheOk xs))∧Below w.heap.size w w':=by
 obtain ⟨_,hn,a,e0,b,g0,rfl,d0,ha,c0⟩:=hr
 go_enter Tryz.func96,Tryz.ntmps96
 go_wp2
 go_loop [8] (fun i=>∃ k:Nat,k≤xs.length∧i=.int .i64 k∧∀ j (h:j < xs.length),j < k→lineOk j xs[j]=true) (fun i=>xs.length-(intOf i).toNat)
 case atStart=>exact ⟨0,Nat.zero_le _,rfl,fun j _ h=>absurd h (by omega)⟩
 case round =>
  obtain ⟨k,hk,rfl,a0⟩:=hrel
  have HA:=Lib.hid a0;clear a0
  by_cases hlt:k < xs.length
  ·obtain ⟨rfl,f0⟩:=ha (by omega)
   have b0:=c0 k (by simpa [ints] using hlt)
   rw [ints_get] at b0
   clear c0 ha
   generalize hx:xs[k]=x at b0
   have HX:=Lib.hid hx;clear hx
   by_cases hok:lineOk k x=true
   ·have HO:=Lib.hid hok
    obtain ⟨h1,h2,h3⟩:=lineOk_yes hok
    clear hok
    by_cases h0:0≤x
    ·have h4:(x % 2 != (k:Int))=false:=by simp [h3 h0]
     clear h3
     go_wp2
     go_round
     case rel=>exact ⟨k+1,by omega,by go_num,all_succ (P:=fun j x=>lineOk j x=true) hlt HA.out (by rw [HX.out];exact HO.out)⟩
     case measure=>simp [intOf];omega
    clear h3
    go_wp2
    go_round
    case rel=>exact ⟨k+1,by omega,by go_num,all_succ (P:=fun j x=>lineOk j x=true) hlt HA.out (by rw [HX.out];exact HO.out)⟩
    case measure=>simp [intOf];omega
   have HO:Hid (false=cacheOk xs):=Lib.hid (cacheOk_false hlt (by rw [HX.out];exact hok))
   by_cases h0:-2≤x∧x≤3
   ·obtain ⟨h1,h2⟩:=h0
    have h3:0≤x∧¬x % 2=k:=by rcases lineOk_cases hok with h | h | h <;> omega
    obtain ⟨h3,h4⟩:=h3
    have h5:(x % 2 != (k:Int))=true:=by simp [h4]
    clear hok h4
    go_wp2
    go_ret
    exact ⟨ret_bool HO.out,(Below.refl _ _).alloc (Nat.le_refl _) _⟩
   have h1:x < -2∨3 < x:=by omega
   clear h0 hok
   rcases h1 with h1 | h1
   all_goals
    go_wp2
    go_ret
    exact ⟨ret_bool HO.out,(Below.refl _ _).alloc (Nat.le_refl _) _⟩
  have e:k=xs.length:=by omega
  subst e
  have HE:Hid (decide (xs.length=2)=cacheOk xs):=Lib.hid (cacheOk_end (fun j h=>HA.out j h h))
  clear HA
  go_wp2
  go_ret
  exact ⟨ret_bool (by rw [← HE.out,Bool.eq_iff_iff,beq_iff_eq,decide_eq_true_iff];omega),(Below.refl _ _).alloc (Nat.le_refl _) _⟩
theorem sCacheValid_any (v:Value) (xs:List Int) (w:World) (hr:Reads w 1 v xs.length (ints xs)) :
  Calls Tryz.prog 101 #[.agg #[v]] w fun e w'=>e=.returned (.bool (cacheOk xs))∧Below w.heap.size w w':=by
 obtain ⟨_,hn,a,f0,b,i0,rfl,d0,ha,c0⟩:=hr
 by_cases hl:xs.length=2
 ·have e0:((xs.length:Int) != 2)=false:=by rw [bne_eq_false_iff_eq];omega
  have HL:=Lib.hid hl;clear hl
  go_enter Tryz.func101,Tryz.ntmps101
  go_wp2
  go_loop [3] (fun i=>∃ k:Nat,k≤xs.length∧i=.int .i64 k∧∀ j (h:j < xs.length),j < k→lineOk j xs[j]=true) (fun i=>xs.length-(intOf i).toNat)
  case atStart=>exact ⟨0,Nat.zero_le _,rfl,fun j _ h=>absurd h (by omega)⟩
  case round =>
   obtain ⟨k,hk,rfl,a0⟩:=hrel
   have HA:=Lib.hid a0;clear a0
   by_cases hlt:k < xs.length
   ·obtain ⟨rfl,g0⟩:=ha (by omega)
    have b0:=c0 k (by simpa [ints] using hlt)
    rw [ints_get] at b0
    clear c0 ha
    generalize hx:xs[k]=x at b0
    have HX:=Lib.hid hx;clear hx
    by_cases hok:lineOk k x=true
    ·have HO:=Lib.hid hok
     obtain ⟨h1,h2,h3⟩:=lineOk_yes hok
     clear hok
     by_cases h0:0≤x
     ·have h4:(x % 2 != (k:Int))=false:=by simp [h3 h0]
      clear h3
      go_wp2
      go_round
      case rel=>exact ⟨k+1,by omega,by go_num,all_succ (P:=fun j x=>lineOk j x=true) hlt HA.out (by rw [HX.out];exact HO.out)⟩
      case measure=>simp [intOf];omega
     clear h3
     go_wp2
     go_round
     case rel=>exact ⟨k+1,by omega,by go_num,all_succ (P:=fun j x=>lineOk j x=true) hlt HA.out (by rw [HX.out];exact HO.out)⟩
     case measure=>simp [intOf];omega
    have HO:Hid (false=cacheOk xs):=Lib.hid (cacheOk_false hlt (by rw [HX.out];exact hok))
    by_cases h0:-2≤x∧x≤3
    ·obtain ⟨h1,h2⟩:=h0
     have h3:0≤x∧¬x % 2=k:=by rcases lineOk_cases hok with h | h | h <;> omega
     obtain ⟨h3,h4⟩:=h3
     have h5:(x % 2 != (k:Int))=true:=by simp [h4]
     clear hok h4
     go_wp2
     go_ret
     exact ⟨ret_bool HO.out,(Below.refl _ _).alloc (Nat.le_refl _) _⟩
    have h1:x < -2∨3 < x:=by omega
    clear h0 hok
    rcases h1 with h1 | h1
    all_goals
     go_wp2
     go_ret
     exact ⟨ret_bool HO.out,(Below.refl _ _).alloc (Nat.le_refl _) _⟩
   have e:k=xs.length:=by omega
   subst e
   have HE:Hid (decide (xs.length=2)=cacheOk xs):=Lib.hid (cacheOk_end (fun j h=>HA.out j h h))
   clear HA
   go_wp2
   go_ret
   exact ⟨ret_bool (by rw [← HE.out];exact (decide_eq_true HL.out).symm),(Below.refl _ _).alloc (Nat.le_refl _) _⟩
 have e0:((xs.length:Int) != 2)=true:=by rw [bne_iff_ne];omega
 have HL:=Lib.hid hl;clear hl
 go_enter Tryz.func101,Tryz.ntmps101
 go_wp2
 go_ret
 exact ⟨ret_bool (by unfold cacheOk;exact (decide_eq_false (fun h=>HL.out h.1)).symm),(Below.refl _ _).alloc (Nat.le_refl _) _⟩
theorem filled_any (n:Int) (w:World) :
  Calls Tryz.prog 65 #[.int .i64 n] w fun e w'=>∃ v,e=.returned (.agg #[v])∧w'.ownsRow w.heap.size 3 1 v 2 [.int .i64 n,.int .i64 n]∧Below w.heap.size w w':=by
 go_enter Tryz.func65,Tryz.ntmps65
 go_wp2
 go_loopw [4] (fun i wr=>∃ k:Nat,k≤2∧i=.int .i64 k∧∃ v,wr.cell? ⟨w.heap.size+1,0,none⟩=some v∧v.oneCell'=true∧wr.frozen? ⟨w.heap.size+1,0,none⟩=false∧wr.cell? ⟨w.heap.size,0,none⟩=some (.slice none 0 0)∧wr.frozen? ⟨w.heap.size,0,none⟩=false∧wr.ownsRow (w.heap.size+2) 3 1 v k (List.replicate k (.int .i64 n))∧Below w.heap.size w wr) (fun i _=>2-(intOf i).toNat)
 case atStart=>exact ⟨0,by omega,rfl,.slice none 0 0,by simp [go_sem],rfl,by simp [go_sem],by simp [go_sem],by simp [go_sem],World.ownsRow_nil _ _ _ _,((Below.refl _ _).alloc (Nat.le_refl _) _).alloc (by simp) _⟩
 case round =>
  obtain ⟨k,hk,rfl,v,hc,n0,hf,c0,i0,ho,hb⟩:=hrel
  by_cases hlt:k < 2
  ·go_wp2_with (at_builtin;refine wpList_ap tInts rfl _ _ rfl (w.heap.size+2) v k _ rfl ho [.int .i64 n] rfl rfl (one_ints [n]) (by omega) ?c1 ?_)
   case c1=>have:=Lc hc;omega
   intro g g0 w' ho' hc' hg'
   have a0:=Lc hc
   have b0:=not_own ho (k:=w.heap.size+1) (by omega)
   have k0:=(hc'.cell 0 a0 b0).trans hc
   have l0:=(hc'.frozen 0 a0 b0).trans hf
   have d0:=(hc'.cell 0 (by omega) (not_own ho (by omega))).trans c0
   have f0:=(hc'.frozen 0 (by omega) (not_own ho (by omega))).trans i0
   have h0:=hb.trans (hc'.below w.heap.size (by omega) (fun k hk=>not_own ho (by omega)))
   have m0:=ownsRow_setCell_below ho' (a:=⟨w.heap.size+1,0,none⟩) (by simp) (.slice (some ⟨g,0,none⟩) (k+1) g0)
   have j0:=h0.setCell (p:=⟨w.heap.size+1,0,none⟩) (by simp) (.slice (some ⟨g,0,none⟩) (k+1) g0)
   clear ho ho' hb h0 hc' hg' b0 hc hf a0 c0 i0
   go_wp2
   go_roundw
   case rel=>exact ⟨k+1,by omega,by go_num,_,World.cell?_setCell_same _ _ _ k0,rfl,(World.frozen?_setCell ..).trans l0,(World.cell?_setCell_other _ _ _ _ (by simp)).trans d0,(World.frozen?_setCell ..).trans f0,by rw [List.replicate_succ'];exact m0,j0⟩
   case measure=>simp [intOf];omega
  have hs:=st_var (P:=Tryz.prog) n0
  have e:k=2:=by omega
  subst e
  go_wp2
  have e0:=World.cell?_setCell_same wr ⟨w.heap.size,0,none⟩ v c0
  refine bodyPost_ret (v:=.agg #[v]) (by simp [results,Tryz.results65,go_sem,e0]) rfl ⟨v,rfl,?_,?_⟩
  ·exact Om (ownsRow_setCell_below ho (a:=⟨w.heap.size,0,none⟩) (by simp) v) (by omega)
  exact hb.setCell (p:=⟨w.heap.size,0,none⟩) (Nat.le_refl _) v
theorem l10Fill_any (n:Int) (w:World) :
  Calls Tryz.prog 69 #[.int .i64 n] w fun e w'=>∃ v,e=.returned (.agg #[v])∧w'.ownsRow w.heap.size 3 1 v 2 [.int .i64 n,.int .i64 n]∧Below w.heap.size w w':=by
 go_enter Tryz.func69,Tryz.ntmps69
 go_wp2
 go_loopw [4] (fun i wr=>∃ k:Nat,k≤2∧i=.int .i64 k∧∃ v,wr.cell? ⟨w.heap.size+1,0,none⟩=some v∧v.oneCell'=true∧wr.frozen? ⟨w.heap.size+1,0,none⟩=false∧wr.cell? ⟨w.heap.size,0,none⟩=some (.slice none 0 0)∧wr.frozen? ⟨w.heap.size,0,none⟩=false∧wr.ownsRow (w.heap.size+2) 3 1 v k (List.replicate k (.int .i64 n))∧Below w.heap.size w wr) (fun i _=>2-(intOf i).toNat)
 case atStart=>exact ⟨0,by omega,rfl,.slice none 0 0,by simp [go_sem],rfl,by simp [go_sem],by simp [go_sem],by simp [go_sem],World.ownsRow_nil _ _ _ _,((Below.refl _ _).alloc (Nat.le_refl _) _).alloc (by simp) _⟩
 case round =>
  obtain ⟨k,hk,rfl,v,hc,n0,hf,c0,i0,ho,hb⟩:=hrel
  by_cases hlt:k < 2
  ·go_wp2_with (at_builtin;refine wpList_ap tInts rfl _ _ rfl (w.heap.size+2) v k _ rfl ho [.int .i64 n] rfl rfl (one_ints [n]) (by omega) ?c1 ?_)
   case c1=>have:=Lc hc;omega
   intro g g0 w' ho' hc' hg'
   have a0:=Lc hc
   have b0:=not_own ho (k:=w.heap.size+1) (by omega)
   have k0:=(hc'.cell 0 a0 b0).trans hc
   have l0:=(hc'.frozen 0 a0 b0).trans hf
   have d0:=(hc'.cell 0 (by omega) (not_own ho (by omega))).trans c0
   have f0:=(hc'.frozen 0 (by omega) (not_own ho (by omega))).trans i0
   have h0:=hb.trans (hc'.below w.heap.size (by omega) (fun k hk=>not_own ho (by omega)))
   have m0:=ownsRow_setCell_below ho' (a:=⟨w.heap.size+1,0,none⟩) (by simp) (.slice (some ⟨g,0,none⟩) (k+1) g0)
   have j0:=h0.setCell (p:=⟨w.heap.size+1,0,none⟩) (by simp) (.slice (some ⟨g,0,none⟩) (k+1) g0)
   clear ho ho' hb h0 hc' hg' b0 hc hf a0 c0 i0
   go_wp2
   go_roundw
   case rel=>exact ⟨k+1,by omega,by go_num,_,World.cell?_setCell_same _ _ _ k0,rfl,(World.frozen?_setCell ..).trans l0,(World.cell?_setCell_other _ _ _ _ (by simp)).trans d0,(World.frozen?_setCell ..).trans f0,by rw [List.replicate_succ'];exact m0,j0⟩
   case measure=>simp [intOf];omega
  have hs:=st_var (P:=Tryz.prog) n0
  have e:k=2:=by omega
  subst e
  go_wp2
  have e0:=World.cell?_setCell_same wr ⟨w.heap.size,0,none⟩ v c0
  refine bodyPost_ret (v:=.agg #[v]) (by simp [results,Tryz.results69,go_sem,e0]) rfl ⟨v,rfl,?_,?_⟩
  ·exact Om (ownsRow_setCell_below ho (a:=⟨w.heap.size,0,none⟩) (by simp) v) (by omega)
  exact hb.setCell (p:=⟨w.heap.size,0,none⟩) (Nat.le_refl _) v
theorem iEmpty_any (w:World) :
  Calls Tryz.prog 26 #[] w fun e w'=>∃ v,e=.returned (.agg #[v])∧w'.ownsRow w.heap.size 3 1 v 2 (ints [-1,-1])∧Below w.heap.size w w':=by
 go_enter Tryz.func26,Tryz.ntmps26
 go_wp2_with fail
 refine (filled_any _ _).mono ?_
 rintro e w1 ⟨v,rfl,ho,hb⟩
 have hv:=own_one ho
 have hs:=st_var (P:=Tryz.prog) hv
 have hc:w1.cell? ⟨w.heap.size,0,none⟩=some (.slice none 0 0):=by rw [hb.cell (p:=⟨w.heap.size,0,none⟩) (by simp)];simp [go_sem]
 have hf:w1.frozen? ⟨w.heap.size,0,none⟩=false:=by rw [hb.frozen (p:=⟨w.heap.size,0,none⟩) (by simp)];simp [go_sem]
 have b0:=(((Below.refl w.heap.size w).alloc (Nat.le_refl _) (.cells #[.slice none 0 0] 56)).trans (hb.mono (by simp))).setCell (p:=⟨w.heap.size,0,none⟩) (Nat.le_refl _) v
 have c0:=Om (ownsRow_setCell_below ho (a:=⟨w.heap.size,0,none⟩) (by simp) v) (base':=w.heap.size) (by simp)
 clear ho hb
 go_wp2
 have a0:=World.cell?_setCell_same w1 ⟨w.heap.size,0,none⟩ v hc
 exact bodyPost_ret (v:=.agg #[v]) (by simp [results,Tryz.results26,go_sem,a0]) rfl ⟨v,rfl,c0,b0⟩
theorem sEmpty_any (w:World) :
  Calls Tryz.prog 29 #[] w fun e w'=>∃ v,e=.returned (.agg #[v])∧w'.ownsRow w.heap.size 3 1 v 2 (ints [-1,-1])∧Below w.heap.size w w':=by
 go_enter Tryz.func29,Tryz.ntmps29
 go_wp2_with fail
 refine (l10Fill_any _ _).mono ?_
 rintro e w1 ⟨v,rfl,ho,hb⟩
 have hv:=own_one ho
 have hs:=st_var (P:=Tryz.prog) hv
 have hc:w1.cell? ⟨w.heap.size,0,none⟩=some (.slice none 0 0):=by rw [hb.cell (p:=⟨w.heap.size,0,none⟩) (by simp)];simp [go_sem]
 have hf:w1.frozen? ⟨w.heap.size,0,none⟩=false:=by rw [hb.frozen (p:=⟨w.heap.size,0,none⟩) (by simp)];simp [go_sem]
 have b0:=(((Below.refl w.heap.size w).alloc (Nat.le_refl _) (.cells #[.slice none 0 0] 56)).trans (hb.mono (by simp))).setCell (p:=⟨w.heap.size,0,none⟩) (Nat.le_refl _) v
 have c0:=Om (ownsRow_setCell_below ho (a:=⟨w.heap.size,0,none⟩) (by simp) v) (base':=w.heap.size) (by simp)
 clear ho hb
 go_wp2
 have a0:=World.cell?_setCell_same w1 ⟨w.heap.size,0,none⟩ v hc
 exact bodyPost_ret (v:=.agg #[v]) (by simp [results,Tryz.results29,go_sem,a0]) rfl ⟨v,rfl,c0,b0⟩
end Go.Proofs.YtkjedgnepnbkpaaGreat
