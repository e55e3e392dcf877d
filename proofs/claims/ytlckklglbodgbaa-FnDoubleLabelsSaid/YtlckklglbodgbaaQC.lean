/-
 Parts of the proofs of the laws FnDoubleLabels.
-/
import Derived.Test.YtlckklglbodgbaaPU
set_option linter.all false
namespace Go.Proofs.Ytlckklglbodgbaa
open Go.RowKit
theorem info_stmt:(Try.prog.info? 51).map (fun i=>(i.zero,i.size,i.bytes))=some (some (.agg #[.int .i64 0,.int .i64 0,.int .i64 0,.int .i64 0,.slice none 0 0,.int .i64 0,.int .i64 0,.slice none 0 0,.int .i64 0,.slice none 0 0,.slice none 0 0]),11,152):=by kernel_rfl
theorem tStmts:SliceT Try.prog 24 51 (.agg #[.int .i64 0,.int .i64 0,.int .i64 0,.int .i64 0,.slice none 0 0,.int .i64 0,.int .i64 0,.slice none 0 0,.int .i64 0,.slice none 0 0,.slice none 0 0]) 11 152:=⟨Try.underlying24,info_stmt,rfl,by omega,by omega⟩
theorem BlAt.keep2 {w w':World} {B B':Nat→Prop} {d d':Nat} {u:Value} {l:List St} {S:Nat→Prop} (hc:Chg S w w') (hS:∀ q,B q→q < w.heap.size→¬S q) (hB:∀ q,B q→q < w.heap.size→B' q) (hd:d≤d') (h:BlAt w B d u l):BlAt w' B' d' u l:=h.keep hc hS hB hd
def SmS:Nat→St→Prop
 | 0,_=>False
 | d+1,.mk _ _ ix val _ body els=>Thin 5 ix∧Thin 5 val∧body.length≤2∧els.length≤2∧(∀ x ∈ body,SmS d x)∧(∀ x ∈ els,SmS d x)
def scost:Nat→Nat
 | 0=>0
 | d+1=>30000+4*scost d
theorem thin_leaf (k v:Int):Thin 5 (.mk k v []):=Thin.mono (by omega:1≤5) ⟨by simp [Ex.kids],fun x hx=>by simp [Ex.kids] at hx⟩
structure StsAt (W:World) (b8 d:Nat) (v:Value) (rs:List Sn) (l:List St):Prop where
 len:rs.length=l.length
 own:W.ownsRow (b8+1) 51 11 v l.length (rows snc rs)
 row:∀ j (h:j < rs.length) (h':j < l.length),StAt W (fun q=>b8 < q∧¬v.ownBlock=some q) d rs[j] l[j]
 small:∀ x ∈ l,SmS d x
theorem StsAt.keep {W W':World} {b8 d:Nat} {v:Value} {rs:List Sn} {l:List St} (h:StsAt W b8 d v rs l) {S:Nat→Prop} (hc:Chg S W W') (hS:∀ q,b8 < q→¬S q):StsAt W' b8 d v rs l:=
 ⟨h.len,Ow h.own hc (fun q hq=>hS q (by have:=h.own.lt q hq;omega)),fun j h1 h2=>StAt.keep hc (fun q hq _=>hS q hq.1) (fun _ hq _=>hq) Lr (h.row j h1 h2),h.small⟩
theorem StsAt.below {W W':World} {b8 d:Nat} {v:Value} {rs:List Sn} {l:List St} (h:StsAt W b8 d v rs l) (hb:Below W.heap.size W W'):StsAt W' b8 d v rs l:=⟨h.len,Ob h.own hb,fun j h1 h2=>StAt.keep (S:=fun _=>False) (Cb hb) (fun _ _ _=>id) (fun _ hq _=>hq) Lr (h.row j h1 h2),h.small⟩
theorem StsAt.nil {W:World} {b8 d:Nat} {v:Value} (h:W.ownsRow (b8+1) 51 11 v 0 []):StsAt W b8 d v [] []:=⟨rfl,h,fun j h=>by simp at h,fun x h=>by cases h⟩
theorem StsAt.push {W W':World} {b8 d:Nat} {v v':Value} {rs:List Sn} {l:List St} {n:Sn} {e:St} {b1:Nat} (h:StsAt W b8 d v rs l) (ho:W'.ownsRow (b8+1) 51 11 v' (l.length+1) (rows snc rs++snc n)) (hc:Chg (fun k=>v.ownBlock=some k) W W') (hN:NewOr W v v')
  (hn:StAt W (fun q=>b1≤q) d n e) (ht:SmS d e) (h8:b8 < b1) (hv:∀ q,v.ownBlock=some q→q < b1):StsAt W' b8 d v' (rs++[n]) (l++[e]):=by
 have hA:∀ q,q < W.heap.size→¬v.ownBlock=some q→¬v'.ownBlock=some q:=fun q hq h1 h2=>by
  rcases hN with e1 | ⟨g,e1,e2⟩
  ·exact h1 (e1 ▸ h2)
  rw [e1] at h2;have:=Si h2;omega
 refine ⟨by simp [h.len],?_,rows_push h.len (fun j h1 h2=>?_) ?_,fun x hx=>?_⟩
 ·rw [rows_append,rows_one,List.length_append];exact ho
 ·exact StAt.keep hc (fun q hq _=>hq.2) (fun q hq hlt=>⟨hq.1,hA q hlt hq.2⟩) Lr (h.row j h1 h2)
 ·exact StAt.keep hc (fun q (hq:b1≤q) _ h1=>by have:=hv q h1;omega) (fun q (hq:b1≤q) hlt=>⟨by omega,hA q hlt (fun h1=>by have:=hv q h1;omega)⟩) Lr hn
 rcases List.mem_append.1 hx with h1 | h1
 ·exact h.small x h1
 rw [List.mem_singleton.1 h1];exact ht
theorem StsAt.block {W:World} {b8 d:Nat} {v:Value} {rs:List Sn} {l:List St} (h:StsAt W b8 d v rs l) (hl:l.length≤9223372036854775807):BlAt W (fun q=>b8 < q) d v l:=
 RowOf.of_own h.len h.own hl (fun q hq _=>hq) (fun j h1 h2=>StAt.keep (S:=fun _=>False) (Chg.refl _ _) (fun _ _ _=>id) (fun q hq _=>hq.1) Lr (h.row j h1 h2))
theorem drawn_sk {kd:Int} (h:kd ∈ [1,1,2,3,4,1,3,5]):kd=1∨kd=2∨kd=3∨kd=4∨kd=5:=by
 simp only [List.mem_cons,List.not_mem_nil,or_false] at h;omega
end Go.Proofs.Ytlckklglbodgbaa
