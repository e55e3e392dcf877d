/-
 Parts of the proofs of the laws FnRemoveDead,FnRemoveDeadLeak,FnSpecFenced,FnSpecMemory.
-/
import Derived.Test.YtnpidfbcbmeijaaGreatQ
set_option linter.all false
namespace Go.Proofs.YtnpidfbcbmeijaaGreat
open Go.RowKit
theorem prj_take (L:List Ev) (k:Nat) (h:k < L.length):prj (L.take (k+1))=prj (L.take k)++(if wi L[k].1 2 4=true then [L[k]] else []):=by
 rw [List.take_succ_eq_append_getElem h,prj_app];congr 1
 unfold prj
 simp only [List.filter_cons,List.filter_nil]
theorem prj_len (L:List Ev):(prj L).length≤L.length:=List.length_filter_le _ _
set_option maxHeartbeats 6400000 in
set_option maxRecDepth 100000 in
theorem Project_any (v:Value) (L:List Ev) (w:World) (hr:Reads w 2 v L.length (evs L)) (hL:L.length≤1000000000) :
  Calls Tryz.prog 15 #[v] w fun e w'=>∃ a c,e=.returned (.slice a (prj L).length c)∧w'.ownsRow w.heap.size 84 2 (.slice a (prj L).length c) (prj L).length (evs (prj L))∧Below w.heap.size w w':=by
 obtain ⟨a0,c0,rfl⟩:=reads_shape hr;have HR:=Hi (fun W (hW:Below w.heap.size w W)=>hr.below hW);have HT:=Hi (prj_take L);have u0:=Hi (fun k=>Nat.le_trans (prj_len (L.take k)) (List.length_take_le k L));have t0:=Hi (show L.take L.length=L from List.take_length);clear hr;go_enter Tryz.func15,Tryz.ntmps15
 go_wp2_with fail
 go_loopw [3,8] (fun u i wr=>∃ (k:Nat) (M:List Ev) (a:Option Addr) (c:Nat),u=.slice a M.length c∧i=.int .i64 k∧k≤L.length∧Hid (M=prj (L.take k))∧wr.ownsRow w.heap.size 84 2 (.slice a M.length c) M.length (evs M)∧Below w.heap.size w wr) (fun _ i _=>L.length-(intOf i).toNat)
 case atStart=>exact ⟨0,[],none,0,rfl,rfl,Nat.zero_le _,Hi rfl,World.ownsRow_nil _ _ _ _,Bs w⟩
 case round =>
  obtain ⟨k,M,a,c,rfl,rfl,hk,HM,oM,d0⟩:=hrel;obtain ⟨wl,rfl⟩:∃ X,X=wr:=⟨_,rfl⟩;have iM:=oM.lt;have i1:=d0.size;have d1:M.length≤k:=by have:=u0.out k;rw [← HM.out] at this;exact this
  by_cases hlt:k < L.length
  ·have hq:(k:Int) < (L.length:Int):=by omega
   obtain ⟨_,hn,aa,c1,b0,l1,hv,w0,ha,l0⟩:=HR.out _ d0;simp only [Value.slice.injEq,true_and] at hv;obtain ⟨rfl,rfl⟩:=hv;obtain ⟨rfl,g1⟩:=ha (by omega);rw [evs_rows] at l0;obtain ⟨e0,e1⟩:=reads_Event l0 k hlt;have r0:=Hi (HT.out k hlt);clear l0 ha;generalize L[k]=x at *
   obtain ⟨x0,x1⟩:=x;simp only at e0 e1
   have f1:b0 < wl.heap.size:=Lc e0;go_wp2_with fail
   refine (within_any x0 2 4 _).mono ?_;rintro e w1 ⟨rfl,hb⟩;have m0:=hb.size;simp only [Sa] at m0;replace oM:=Ob (Ob oM (bal (Bs _) _)) hb;replace e0:=Kc hb (Ac e0 _);replace e1:=Kc hb (Ac e1 _);have g0:Bk w1 (wl.heap.size) [.int .i64 x0,.int .i64 x1]:=Bb (Bk.nw (by simp) rfl) hb;replace d0:=btr (bal d0 _) hb;clear hb;have j1:=Lc e0;have k1:=Bk.lz g0;clear e0 e1
   cases hw:wi x0 2 4 with
   | false =>
    have i0:Hid (M=prj (L.take (k+1))):=Hi (by rw [r0.out,← HM.out];simp only [hw];simp);clear hw;have HO:=Hi oM;have j0:=Hi d0;clear oM d0;go_wp2
    go_roundw
    case rel=>exact ⟨k+1,M,_,_,rfl,by go_num,by omega,i0,HO.out,j0.out⟩
    case measure=>simp [intOf];omega
   | true =>
    have i0:Hid (M++[(x0,x1)]=prj (L.take (k+1))):=Hi (by rw [r0.out,← HM.out];simp only [hw];simp);clear hw;obtain ⟨z0,b1,a1,q0⟩:=Bk.f2 g0 0 1 rfl rfl;go_wp2_with (at_builtin;refine wpList_aps tEvs rfl _ _ rfl (w.heap.size) _ M.length (evs M) rfl (Ob oM (bal (Bs _) (.cells #[.int .i64 x0,.int .i64 x1] 84))) _ 1 (evs [(x0,x1)]) rfl ((Ro (World.ownsRow_lit (base:=(w1).heap.size) (e:=84) (size:=2) (w1) #[.int .i64 x0,.int .i64 x1] 1 Lr (by unfold maxLen;omega) (by simp)) (by simp))) (one_evs [(x0,x1)]) (by omega) (by first | omega | (simp only [Sa,Ss];omega)) ?_)
    intro vA w2 h0 hc v0 _;obtain ⟨o0,p0,rfl⟩:=Oh h0;have f0:=hc.size;simp only [Sa] at f0;clear b1 z0 q0 a1;replace g0:=Bk.keep (Bk.al g0 _) hc (fun h=>by have:=iM _ h;omega);have k0:Bk w2 (w1.heap.size) [.int .i64 x0,.int .i64 x1]:=Bk.keep (Bk.nw (by simp) rfl) hc (fun h=>by have:=iM _ h;omega);replace d0:=(bal d0 _).trans (hc.below w.heap.size (by have:=(bal d0 (.cells #[.int .i64 x0,.int .i64 x1] 84)).size;omega) (fun gq hgq h=>by have:=iM gq h;omega));clear hc;have n0:=h0.lt;try simp only [Sa] at n0
    clear v0 oM;have y0:=Bk.lz k0;have HO:Hid (∃ a c,Value.slice o0 (M.length+1) p0=.slice a (M++[(x0,x1)]).length c∧World.ownsRow w2 w.heap.size 84 2 (.slice a (M++[(x0,x1)]).length c) (M++[(x0,x1)]).length (evs (M++[(x0,x1)]))):=Hi ⟨_,_,by rw [List.length_append];rfl,by rw [List.length_append,evs_append];exact h0⟩;have j0:=Hi d0;clear h0 d0;go_wp2
    go_roundw
    case rel=>obtain ⟨a9,c9,e9,o9⟩:=HO.out;exact ⟨k+1,M++[(x0,x1)],a9,c9,e9,by go_num,by omega,i0,o9,j0.out⟩
    case measure=>simp [intOf];omega
  have hq:decide ((k:Int) < (L.length:Int))=false:=decide_eq_false (by omega);have h1:¬(k:Int) < (L.length:Int):=by omega
  have s0:Hid (M=prj L):=Hi (by rw [HM.out,show k=L.length by omega,t0.out]);have HO:=Hi oM;clear oM;have tt:=d0;go_wp2
  exact bodyPost_ret (v:=.slice a M.length c) (by simp [results,Tryz.results15,go_sem]) rfl (by exact (by rw [← s0.out];exact ⟨_,_,rfl,HO.out,tt⟩))
end Go.Proofs.YtnpidfbcbmeijaaGreat
