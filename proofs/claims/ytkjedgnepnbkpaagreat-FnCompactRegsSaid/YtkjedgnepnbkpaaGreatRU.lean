/-
  Parts of the proofs of the laws FnCompactRegs,FnFenceCode,FnRunTimeSteps.
-/
import Derived.Test.YtkjedgnepnbkpaaGreatRP
import Derived.Test.YtkjedgnepnbkpaaGreatRT
set_option linter.all false
namespace Go.Proofs.YtkjedgnepnbkpaaGreat
open Go.RowKit
theorem idxI_app {O:List Int} {r:Int} (h:O.contains r=true) (rest:List Int):idxI (O++rest) r=idxI O r:=by
  unfold idxI
  rw [List.findIdx?_append]
  have hm:∃ k,O.findIdx? (fun x=>x == r)=some k:=by
    cases hf:O.findIdx? (fun x=>x == r) with
    | some k=>exact ⟨k,rfl⟩
    | none =>
      rw [List.findIdx?_eq_none_iff] at hf
      have hr:r ∈ O:=List.contains_iff_mem.1 h
      have:=hf r hr;simp at this
  obtain ⟨k,hk⟩:=hm
  rw [hk];rfl
theorem idxI_none {O:List Int} {r:Int} (h:O.contains r=false):idxI O r=-1:=by
  refine idxI_no (fun j hj e=>?_)
  rw [List.contains_iff_mem.2 (e ▸ List.getElem_mem hj)] at h
  cases h
theorem idxI_last {O:List Int} {r:Int} (h:O.contains r=false):idxI (O++[r]) r=O.length:=by
  refine idxI_at (by simp) (by simp) (fun j hj hlt e=>?_)
  rw [List.getElem_append_left hlt] at e
  rw [List.contains_iff_mem.2 (e ▸ List.getElem_mem hlt)] at h
  cases h
theorem idxI_other {O:List Int} {r q:Int} (h:¬r=q):idxI (O++[r]) q=idxI O q:=by
  cases hc:O.contains q with
  | true=>exact idxI_app hc [r]
  | false =>
    rw [idxI_none hc]
    refine idxI_none ?_
    rw [show (O++[r]).contains q=(O.contains q||(q == r)) from by rw [List.contains_eq_any_beq,List.contains_eq_any_beq,List.any_append];simp,hc]
    simpa using fun e:q=r=>h e.symm
def nmT (O:List Int):List Int:=(List.range 14).map (fun q:Nat=>idxI O (q:Int))
theorem nmT_len (O:List Int):(nmT O).length=14:=by simp [nmT]
theorem nmT_get (O:List Int) (r:Nat) (h:r < (nmT O).length):(nmT O)[r]=idxI O (r:Int):=by simp [nmT]
theorem nmT_set {O:List Int} {r:Nat} (h:O.contains (r:Int)=false):(nmT O).set r O.length=nmT (O++[(r:Int)]):=by
  apply List.ext_getElem
  · simp [nmT]
  intro j h1 h2
  rw [List.getElem_set]
  have h3:j < (nmT O).length:=by simpa using h1
  by_cases e:r=j
  · subst e
    rw [if_pos rfl,nmT_get,idxI_last h]
  rw [if_neg e,nmT_get,nmT_get,idxI_other (by omega)]
theorem nmT_nil:nmT []=List.replicate 14 (-1):=by
  apply List.ext_getElem
  · simp [nmT]
  intro j h1 h2
  rw [nmT_get,List.getElem_replicate];rfl
theorem ordS_ext (O:List Int) (r:Int):∃ rest,ordS O r=O++rest:=by
  cases h:O.contains r with
  | true=>exact ⟨[],by rw [ordS_in h,List.append_nil]⟩
  | false=>exact ⟨[r],ordS_new h⟩
theorem ordL_ext (rs O:List Int):∃ rest,ordL O rs=O++rest:=by
  induction rs generalizing O with
  | nil=>exact ⟨[],by simp [ordL]⟩
  | cons r rs ih =>
    obtain ⟨r1,h1⟩:=ordS_ext O r
    obtain ⟨r2,h2⟩:=ih (ordS O r)
    exact ⟨r1++r2,by show ordL (ordS O r) rs=_;rw [h2,h1,List.append_assoc]⟩
theorem ordC_ext (l:List Ins) (O:List Int):∃ rest,ordC O l=O++rest:=by
  induction l generalizing O with
  | nil=>exact ⟨[],by simp [ordC]⟩
  | cons x l ih =>
    obtain ⟨r1,h1⟩:=ordL_ext (rgs x) O
    obtain ⟨r2,h2⟩:=ih (ordL O (rgs x))
    exact ⟨r1++r2,by show ordC (ordL O (rgs x)) l=_;rw [h2,h1,List.append_assoc]⟩
theorem ordL_app (O a b:List Int):ordL O (a++b)=ordL (ordL O a) b:=by simp [ordL]
theorem idx_final {l:List Ins} {i:Nat} (hi:i < l.length) {k:Nat} {r:Int} (h:(ordL (ordC [] (l.take i)) (rgsK l[i] k)).contains r=true):idxI (ordC [] l) r=idxI (ordL (ordC [] (l.take i)) (rgsK l[i] k)) r:=by
  have h1:∃ a0,ordC [] l=ordL (ordC [] (l.take i)) (rgsK l[i] k)++a0:=by
    have e:l=l.take (i+1)++l.drop (i+1):=(List.take_append_drop _ _).symm
    obtain ⟨r2,h2⟩:=ordC_ext (l.drop (i+1)) (ordC [] (l.take (i+1)))
    have h3:ordC [] l=ordC (ordC [] (l.take (i+1))) (l.drop (i+1)):=by
      conv=>lhs;rw [e]
      unfold ordC;rw [List.foldl_append]
    have hk:∃ b,rgs l[i]=rgsK l[i] k++b:=by
      unfold rgs rgsK
      by_cases hk:k≤4
      · refine ⟨((((shp l[i].op).zip (flds l[i])).take 4).drop k).filterMap (fun p=>if p.1=114 then some p.2 else none),?_⟩
        rw [← List.filterMap_append]
        congr 1
        conv=>lhs;rw [← List.take_append_drop k (((shp l[i].op).zip (flds l[i])).take 4)]
        rw [List.take_take,Nat.min_eq_left hk]
      refine ⟨[],?_⟩
      rw [List.append_nil,List.take_of_length_le (by rw [List.length_zip];simp [flds];omega),List.take_of_length_le (by rw [List.length_zip];simp [flds];omega)]
    obtain ⟨b,hb⟩:=hk
    obtain ⟨r3,h4⟩:=ordL_ext b (ordL (ordC [] (l.take i)) (rgsK l[i] k))
    refine ⟨r3++r2,?_⟩
    rw [h3,h2,ordC_succ [] l i hi,hb,ordL_app,h4,List.append_assoc]
  obtain ⟨a0,hr⟩:=h1
  rw [hr]
  exact idxI_app h a0
theorem knl_shp {op:Int} (hop:¬(op < 1∨13 < op)) (k:Nat) (h1:k < (knl op).length) (h2:k < (shp op).length):(knl op)[k]≠48 ↔ (shp op)[k]=114:=by
  rcases shp_cases op with h | rfl | rfl | rfl | rfl | rfl | rfl | rfl | rfl | rfl | rfl | rfl | rfl | rfl
  · exact absurd h hop
  all_goals
    revert h1 h2
    match k with
    | 0=>first | (intro h1 h2;revert h1;simp [knl];done) | (intro h1 h2;simp [knl,shp])
    | 1=>first | (intro h1 h2;revert h1;simp [knl];done) | (intro h1 h2;simp [knl,shp])
    | 2=>first | (intro h1 h2;revert h1;simp [knl];done) | (intro h1 h2;simp [knl,shp])
    | 3=>first | (intro h1 h2;revert h1;simp [knl];done) | (intro h1 h2;simp [knl,shp])
    | n+4=>intro h1 h2;exact absurd h1 (Nat.not_lt.2 (Nat.le_trans (knl_len _) (by omega)))
theorem knl_rest {op:Int} (hop:¬(op < 1∨13 < op)) (k:Nat) (h1:(knl op).length≤k) (h2:k < (shp op).length):¬(shp op)[k]=114:=by
  rcases shp_cases op with h | rfl | rfl | rfl | rfl | rfl | rfl | rfl | rfl | rfl | rfl | rfl | rfl | rfl
  · exact absurd h hop
  all_goals
    revert h1 h2
    match k with
    | 0=>first | (intro h1 h2;revert h1;simp [knl];done) | (intro h1 h2;simp [shp])
    | 1=>first | (intro h1 h2;revert h1;simp [knl];done) | (intro h1 h2;simp [shp])
    | 2=>first | (intro h1 h2;revert h1;simp [knl];done) | (intro h1 h2;simp [shp])
    | 3=>first | (intro h1 h2;revert h1;simp [knl];done) | (intro h1 h2;simp [shp])
    | n+4=>intro h1 h2;exact absurd h2 (by rw [shp_len hop];omega)
theorem rest_all {x:Ins} (hop:¬(x.op < 1∨13 < x.op)) (O:List Int) (j:Nat) (h:(knl x.op).length≤j) (h4:j≤4):rgsK x j=rgsK x 4∧mixF O x j=mixF O x 4:=by
  obtain ⟨d,hd⟩:∃ d,j+d=4:=⟨4-j,by omega⟩
  induction d generalizing j with
  | zero => have e : j = 4 := by omega
            subst e;exact ⟨rfl,rfl⟩
  | succ d ih =>
    have hl:=shp_len hop
    have hj:j < (shp x.op).length:=by omega
    have hf:j < (flds x).length:=by simp [flds];omega
    have hn:=knl_rest hop j h hj
    obtain ⟨i1,i2⟩:=ih (j+1) (by omega) (by omega) (by omega)
    have h1:=rgsK_succ x j hj hf
    rw [if_neg hn,List.append_nil] at h1
    have h2:=mixF_same O hl j (by omega) (by rw [cmpF_get O j hj hf (by rw [cmpF_len O hl];omega),if_neg hn])
    exact ⟨h1.symm.trans i1,h2.trans i2⟩
def compactR (c:Cd):Cd × Bool:=if codeOk c=true then (⟨c.vars,c.arrays,c.list.map (cmpI (ordC [] c.list))⟩,true) else (noCode,false)
theorem compactR_yes {c:Cd} (h:codeOk c=true):compactR c=(⟨c.vars,c.arrays,c.list.map (cmpI (ordC [] c.list))⟩,true):=if_pos h
theorem compactR_no {c:Cd} (h:codeOk c=false):compactR c=(noCode,false):=by unfold compactR;rw [if_neg (by rw [h];decide)]
theorem compactR_lens (c:Cd):(compactR c).1.vars.length≤1048576∧(compactR c).1.arrays.length≤1048576∧(compactR c).1.list.length≤1048576:=by
  cases h:codeOk c with
  | true =>
    rw [compactR_yes h]
    have h1:=declOk_len (codeOk_decl h)
    have h2:=codeOk_len h
    refine ⟨?_,?_,?_⟩ <;> simp <;> omega
  | false =>
    rw [compactR_no h]
    simp [noCode]
set_option maxHeartbeats 12800000 in
set_option maxRecDepth 100000 in
theorem iCompact_any (va vb vc:Value) (c:Cd) (w:World) (hr:ReadsC w va vb vc c) :
    Calls Tryz.prog 12 #[.agg #[va,vb,vc]] w fun e w'=>∃ ua ub uc,e=.returned (.tuple #[.agg #[ua,ub,uc],.bool (compactR c).2])∧OwnC w' w.heap.size ua ub uc (compactR c).1∧Below w.heap.size w w':=by
  obtain ⟨a0,c0,a1,c1,a2,c2,rfl,rfl,rfl⟩:=hr.shape
  have d1:=fun h=>compactR_no (c:=c) h
  have e1:=fun h=>compactR_yes (c:=c) h
  generalize compactR c=R at *
  have k1:=Lib.hid d1
  have m1:=Lib.hid e1
  clear d1 e1
  have t1:=hr.lt
  go_enter Tryz.func12,Tryz.ntmps12
  go_wp2_with fail
  refine (iCodeValid_any _ _ _ c _ ((hr.below (bal (Bs _) (.cells #[.slice a0 c.vars.length c0,.slice a1 c.arrays.length c1,.slice a2 c.list.length c2] 26))).below (bal (Bs _) (.cells #[.slice none 0 0,.slice none 0 0,.slice none 0 0] 26)))).mono ?_
  rintro e w1 ⟨rfl,hb⟩
  have b1:=hb.size
  simp only [Sa] at b1
  replace hr:=((hr.below (bal (Bs _) _)).below (bal (Bs _) _)).below hb
  have h0:w1.cell? ⟨w.heap.size,0,none⟩=some (.slice a0 c.vars.length c0):=Kc hb (Ac (Wc (by simp) (by rfl)) _)
  have i0:w1.cell? ⟨w.heap.size,1,none⟩=some (.slice a1 c.arrays.length c1):=Kc hb (Ac (Wc (by simp) (by rfl)) _)
  have j0:w1.cell? ⟨w.heap.size,2,none⟩=some (.slice a2 c.list.length c2):=Kc hb (Ac (Wc (by simp) (by rfl)) _)
  have b0:w1.cell? ⟨w.heap.size+1,0,none⟩=some (.slice none 0 0):=Kc hb (Wc (by simp) (by rfl))
  have v0:w1.frozen? ⟨w.heap.size+1,0,none⟩=false:=Kf hb (by simp) (Fn (by simp))
  have d0:w1.cell? ⟨w.heap.size+1,1,none⟩=some (.slice none 0 0):=Kc hb (Wc (by simp) (by rfl))
  have w0:w1.frozen? ⟨w.heap.size+1,1,none⟩=false:=Kf hb (by simp) (Fn (by simp))
  have e0:w1.cell? ⟨w.heap.size+1,2,none⟩=some (.slice none 0 0):=Kc hb (Wc (by simp) (by rfl))
  have f0:w1.frozen? ⟨w.heap.size+1,2,none⟩=false:=Kf hb (by simp) (Fn (by simp))
  have k0:=btr (bal (bal (Bs w) (.cells #[.slice a0 c.vars.length c0,.slice a1 c.arrays.length c1,.slice a2 c.list.length c2] 26)) (.cells #[.slice none 0 0,.slice none 0 0,.slice none 0 0] 26)) hb
  clear hb
  have m0:=Lc h0
  have n0:=Lc i0
  have o0:=Lc j0
  have r0:=Lc b0
  have s0:=Lc d0
  have t0:=Lc e0
  cases hok:codeOk c
  · have HO:=Lib.hid hok;clear hok hr
    have hR:=k1.out HO.out
    have HR:=Lib.hid hR;clear hR
    have x0:=(Nn (b:=(w.heap.size+1)) (j:=2) (Nn (b:=(w.heap.size+1)) (j:=1) (Tc _ (w.heap.size+1) 0 (.slice none 0 0) b0) (.slice none 0 0)) (.slice none 0 0))
    have x1:=(Nn (b:=(w.heap.size+1)) (j:=2) (Tc _ (w.heap.size+1) 1 (.slice none 0 0) (Nn (b:=(w.heap.size+1)) (j:=0) d0 (.slice none 0 0))) (.slice none 0 0))
    have x2:=(Tc _ (w.heap.size+1) 2 (.slice none 0 0) (Nn (b:=(w.heap.size+1)) (j:=1) (Nn (b:=(w.heap.size+1)) (j:=0) e0 (.slice none 0 0)) (.slice none 0 0)))
    have tt:=(bst (bst (bst k0 (w.heap.size+1) 0 (by omega) (.slice none 0 0)) (w.heap.size+1) 1 (by omega) (.slice none 0 0)) (w.heap.size+1) 2 (by omega) (.slice none 0 0))
    go_wp2
    exact bodyPost_ret (v:=.tuple #[.agg #[.slice none 0 0,.slice none 0 0,.slice none 0 0],.bool false]) (by simp [results,Tryz.results12,go_sem,x0,x1,x2]) rfl (by rw [HR.out];exact ⟨_,_,_,rfl,noCode_own _ _,tt⟩)
  have HO:=Lib.hid hok;clear hok
  have z0:=codeOk_len HO.out
  have n1:=declOk_len (codeOk_decl HO.out)
  obtain ⟨l1,l2⟩:=z0
  obtain ⟨l3,l4⟩:=n1
  go_wp2_with fail
  refine (numbering_any _ _ _ c _ hr HO.out).mono ?_
  rintro e w2 ⟨un,rfl,on,hb⟩
  have j1:=hb.size
  replace v0:=Kf hb (Lc b0) v0
  replace w0:=Kf hb (Lc d0) w0
  replace f0:=Kf hb (Lc e0) f0
  replace hr:=hr.below hb
  replace h0:=Kc hb h0
  replace i0:=Kc hb i0
  replace j0:=Kc hb j0
  replace b0:=Kc hb b0
  replace d0:=Kc hb d0
  replace e0:=Kc hb e0
  replace k0:=btr k0 hb
  clear hb
  obtain ⟨pn,qn,rfl⟩:=Oh on
  have r1:=on.lt
  replace m0:=Lc h0
  replace n0:=Lc i0
  replace o0:=Lc j0
  replace r0:=Lc b0
  replace s0:=Lc d0
  replace t0:=Lc e0
  have o1:=ordC_len c.list c.list.length
  rw [List.take_length] at o1
  go_wp2_with fail
  refine (regsC_any _ _ _ c (w2.heap.size) _ (ordC [] c.list) _ (hr.below (bal (Bs _) (.cells #[.slice pn (ordC [] c.list).length qn] 23))) HO.out (Wc (by simp) rfl) (Ro (Ob on (bal (Bs _) (.cells #[.slice pn (ordC [] c.list).length qn] 23))) (by omega))).mono ?_
  rintro e w3 ⟨u0,u1,u2,rfl,oc,hb⟩
  have l0:=hb.size
  simp only [Sa] at l0
  replace v0:=Kf hb (Lc (Ac b0 _)) (Fa (Lc b0) v0 _)
  replace w0:=Kf hb (Lc (Ac d0 _)) (Fa (Lc d0) w0 _)
  replace f0:=Kf hb (Lc (Ac e0 _)) (Fa (Lc e0) f0 _)
  replace hr:=(hr.below (bal (Bs _) _)).below hb
  replace h0:=Kc hb (Ac h0 _)
  replace i0:=Kc hb (Ac i0 _)
  replace j0:=Kc hb (Ac j0 _)
  replace b0:=Kc hb (Ac b0 _)
  replace d0:=Kc hb (Ac d0 _)
  replace e0:=Kc hb (Ac e0 _)
  replace on:=Ob (Ob on (bal (Bs _) _)) hb
  have y0:w3.cell? ⟨w2.heap.size,0,none⟩=some (.slice pn (ordC [] c.list).length qn):=Kc hb (Wc (by simp) (by rfl))
  replace k0:=btr (bal k0 _) hb
  clear hb
  obtain ⟨p0,q0,g1⟩:=Oh oc.a
  obtain ⟨p1,q1,i1⟩:=Oh oc.b
  obtain ⟨p2,q2,f1⟩:=Oh oc.l
  simp only [List.length_map] at g1 i1 f1
  subst g1 i1 f1
  have g0:=oc.lt
  try simp only [Sa] at g0
  clear on
  replace m0:=Lc h0
  replace n0:=Lc i0
  replace o0:=Lc j0
  replace r0:=Lc b0
  replace s0:=Lc d0
  replace t0:=Lc e0
  have s1:=Lc y0
  have x0:=(Nn (b:=(w.heap.size+1)) (j:=2) (Nn (b:=(w.heap.size+1)) (j:=1) (Tc _ (w.heap.size+1) 0 (.slice p0 c.vars.length q0) b0) (.slice p1 c.arrays.length q1)) (.slice p2 c.list.length q2))
  have x1:=(Nn (b:=(w.heap.size+1)) (j:=2) (Tc _ (w.heap.size+1) 1 (.slice p1 c.arrays.length q1) (Nn (b:=(w.heap.size+1)) (j:=0) d0 (.slice p0 c.vars.length q0))) (.slice p2 c.list.length q2))
  have x2:=(Tc _ (w.heap.size+1) 2 (.slice p2 c.list.length q2) (Nn (b:=(w.heap.size+1)) (j:=1) (Nn (b:=(w.heap.size+1)) (j:=0) e0 (.slice p0 c.vars.length q0)) (.slice p1 c.arrays.length q1)))
  have tt:=(bst (bst (bst k0 (w.heap.size+1) 0 (by omega) (.slice p0 c.vars.length q0)) (w.heap.size+1) 1 (by omega) (.slice p1 c.arrays.length q1)) (w.heap.size+1) 2 (by omega) (.slice p2 c.list.length q2))
  have oz:=(((oc.keep (C1 (w.heap.size+1) 0 (.slice p0 c.vars.length q0)) (fun gq h h2=>by have:=g0 gq h;omega)).keep (C1 (w.heap.size+1) 1 (.slice p1 c.arrays.length q1)) (fun gq h h2=>by have:=g0 gq h;omega)).keep (C1 (w.heap.size+1) 2 (.slice p2 c.list.length q2)) (fun gq h h2=>by have:=g0 gq h;omega))
  have hR:=m1.out HO.out
  have HR:=Lib.hid hR;clear hR
  clear oc
  go_wp2
  exact bodyPost_ret (v:=.tuple #[.agg #[.slice p0 c.vars.length q0,.slice p1 c.arrays.length q1,.slice p2 c.list.length q2],.bool true]) (by simp [results,Tryz.results12,go_sem,x0,x1,x2]) rfl (by rw [HR.out];exact ⟨_,_,_,rfl,oz.mono (by (try simp only [Sa]);omega),tt⟩)
end Go.Proofs.YtkjedgnepnbkpaaGreat
