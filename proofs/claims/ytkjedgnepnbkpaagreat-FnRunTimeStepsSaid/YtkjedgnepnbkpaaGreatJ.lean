/-
  Parts of the proofs of the laws FnCompactRegs,FnFenceCode,FnRunTimeSteps.
-/
import Derived.Test.YtkjedgnepnbkpaaGreatQ
import Derived.Test.YtkjedgnepnbkpaaGreatKq5
set_option linter.all false
namespace Go.Proofs.YtkjedgnepnbkpaaGreat
open Go.RowKit
def accOk (xs:List Int) (a:Int):Bool:=cacheOk xs&&decide (0≤a∧a≤7)
def accL (xs:List Int) (a:Int):List Int:=if accOk xs a=true then xs.set ((a / 2) % 2).toNat (a / 2) else []
def accH (xs:List Int) (a:Int):Bool:=accOk xs a&&(xs.getD ((a / 2) % 2).toNat 0 == a / 2)
theorem cacheOk_two {xs:List Int} (h:cacheOk xs=true):∃ x y,xs=[x,y]:=by
  unfold cacheOk at h
  have h:=(of_decide_eq_true h).1
  match xs,h with
  | [x,y],_=>exact ⟨x,y,rfl⟩
theorem cacheOk_len {xs:List Int} (h:cacheOk xs=true):xs.length=2:=by
  unfold cacheOk at h
  exact (of_decide_eq_true h).1
theorem accOk_of {xs:List Int} {a:Int} (h:cacheOk xs=true) (h0:0≤a) (h7:a≤7):accOk xs a=true:=by
  unfold accOk;rw [h,decide_eq_true ⟨h0,h7⟩];rfl
theorem accOk_not {xs:List Int} {a:Int} (h:¬(cacheOk xs=true∧0≤a∧a≤7)):accOk xs a=false:=by
  unfold accOk
  rw [Bool.eq_false_iff]
  intro hh
  rw [Bool.and_eq_true] at hh
  exact h ⟨hh.1,of_decide_eq_true hh.2⟩
set_option maxHeartbeats 1600000 in
theorem iAccess_yes (v:Value) (x y:Int) (a:Int) (w:World) (hr:Reads w 1 v 2 (ints [x,y])) (hok:cacheOk [x,y]=true) (h0:0≤a) (h7:a≤7) :
    Calls Tryz.prog 98 #[.agg #[v],.int .i64 a] w fun e w'=>∃ u,e=.returned (.tuple #[.agg #[u],.bool (accH [x,y] a)])∧w'.ownsRow w.heap.size 3 1 u 2 (ints (accL [x,y] a))∧Below w.heap.size w w':=by
  have hA:=accOk_of hok h0 h7
  have hv:=iCacheValid_any v [x,y]
  rw [hok] at hv
  have HV:=Lib.hid hv;clear hv
  have HL:Hid (accL [x,y] a=[x,y].set ((a / 2) % 2).toNat (a / 2)):=Lib.hid (by unfold accL;rw [if_pos hA])
  have HH:Hid (accH [x,y] a=([x,y].getD ((a / 2) % 2).toNat 0 == a / 2)):=Lib.hid (by unfold accH;rw [hA,Bool.true_and])
  clear hA hok
  obtain ⟨va,vc,rfl⟩:=reads_shape hr
  have a0:a=0∨a=1∨a=2∨a=3∨a=4∨a=5∨a=6∨a=7:=by omega
  rcases a0 with rfl | rfl | rfl | rfl | rfl | rfl | rfl | rfl
  all_goals
    clear h0 h7
    have d0:=bal (bal (Bs w) (.cells #[.slice va 2 vc] 56)) (.cells #[.slice none 0 0] 56)
    go_enter Tryz.func98,Tryz.ntmps98
    go_wp2_with fail
    refine (HV.out _ (hr.below d0)).mono ?_
    rintro e w1 ⟨rfl,b0⟩
    have f0:=btr d0 b0
    have p0:w1.cell? ⟨w.heap.size,0,none⟩=some (.slice va 2 vc):=Kc b0 (by simp [go_sem])
    have c0:w1.cell? ⟨w.heap.size+1,0,none⟩=some (.slice none 0 0):=Kc b0 (by simp [go_sem])
    have g0:w1.frozen? ⟨w.heap.size+1,0,none⟩=false:=Kf b0 (by simp) (by simp [go_sem])
    have n0:=hr.below f0
    clear d0 b0
    go_wp2_with (first | (go_at_call 94;refine (clone_any _ [x,y] _ n0 (by simp)).mono ?_;rintro e w2 ⟨u,rfl,ho,e0⟩;obtain ⟨g,uc,rfl⟩:=own_pos ho (by simp);have hg:=ho.lt g rfl;have q0:=Lc c0;have m0:¬(w.heap.size+1=g):=(by omega);have l0:w.heap.size+1 < w2.heap.size:=(by omega);have i0:=Kc e0 c0;have o0:=Kf e0 (Lc c0) g0;have j0:=ho.cellAt 0 (by simp);have k0:=ho.cellAt 1 (by simp);have hf:=ho.frozenAt;simp only [ints,List.map_cons,List.map_nil,List.getElem?_cons_zero,List.getElem?_cons_succ] at j0 k0) | go_in)
    refine bodyPost_ret (v:=.tuple #[.agg #[.slice (some ⟨g,0,none⟩) 2 uc],.bool _]) (by simp [results,Tryz.results98,go_sem,i0,l0];rfl) rfl ⟨_,by rw [HH.out];rfl,?_,?_⟩
    · rw [HL.out]
      exact Om ((Oe (ho.stored _ _).1 (w.heap.size+1) 0 (fun h=>m0 (by simpa [Value.ownBlock] using h.symm)) _).alloc _) (by omega)
    exact bal (bst (bst (btr f0 e0) _ _ (by omega) _) _ _ (by omega) _) _
theorem iAccess_no (v:Value) (xs:List Int) (a:Int) (w:World) (hr:Reads w 1 v xs.length (ints xs)) (hno:¬(cacheOk xs=true∧0≤a∧a≤7)) :
    Calls Tryz.prog 98 #[.agg #[v],.int .i64 a] w fun e w'=>e=.returned (.tuple #[.agg #[.slice none 0 0],.bool false])∧Below w.heap.size w w':=by
  have hv:=iCacheValid_any v xs
  obtain ⟨va,vc,rfl⟩:=reads_shape hr
  have b0:=bal (bal (Bs w) (.cells #[.slice va xs.length vc] 56)) (.cells #[.slice none 0 0] 56)
  by_cases hok:cacheOk xs=true
  · rw [hok] at hv
    have HV:=Lib.hid hv;clear hv
    have ha:a < 0∨(0≤a∧7 < a):=by
      by_cases h:a < 0
      · exact Or.inl h
      refine Or.inr ⟨by omega,?_⟩
      by_cases h7:7 < a
      · exact h7
      exact absurd ⟨hok,by omega,by omega⟩ hno
    clear hno hok
    have f0:(a < 0)∨(0≤a∧decide (a≤7)=false):=by
      rcases ha with h | h
      · exact Or.inl h
      exact Or.inr ⟨h.1,by simpa using h.2⟩
    clear ha
    rcases f0 with ha | ⟨ha,ha'⟩
    all_goals
      go_enter Tryz.func98,Tryz.ntmps98
      go_wp2_with fail
      refine (HV.out _ (hr.below b0)).mono ?_
      rintro e w1 ⟨rfl,a0⟩
      have d0:=btr b0 a0
      have c0:w1.cell? ⟨w.heap.size+1,0,none⟩=some (.slice none 0 0):=Kc a0 (by simp [go_sem])
      have e0:w1.frozen? ⟨w.heap.size+1,0,none⟩=false:=Kf a0 (by simp) (by simp [go_sem])
      clear b0 a0 hr
      go_wp2
      exact bodyPost_ret (v:=.tuple #[.agg #[.slice none 0 0],.bool false]) (by simp [results,Tryz.results98,go_sem,c0]) rfl ⟨rfl,bst d0 _ _ (by omega) _⟩
  have hf:cacheOk xs=false:=by simpa using hok
  rw [hf] at hv
  have HV:=Lib.hid hv;clear hv hno hok hf
  go_enter Tryz.func98,Tryz.ntmps98
  go_wp2_with fail
  refine (HV.out _ (hr.below b0)).mono ?_
  rintro e w1 ⟨rfl,a0⟩
  have d0:=btr b0 a0
  have c0:w1.cell? ⟨w.heap.size+1,0,none⟩=some (.slice none 0 0):=Kc a0 (by simp [go_sem])
  have e0:w1.frozen? ⟨w.heap.size+1,0,none⟩=false:=Kf a0 (by simp) (by simp [go_sem])
  clear b0 a0 hr
  go_wp2
  exact bodyPost_ret (v:=.tuple #[.agg #[.slice none 0 0],.bool false]) (by simp [results,Tryz.results98,go_sem,c0]) rfl ⟨rfl,bst d0 _ _ (by omega) _⟩
theorem iAccess_any (v:Value) (xs:List Int) (a:Int) (w:World) (hr:Reads w 1 v xs.length (ints xs)) :
    Calls Tryz.prog 98 #[.agg #[v],.int .i64 a] w fun e w'=>∃ u,e=.returned (.tuple #[.agg #[u],.bool (accH xs a)])∧w'.ownsRow w.heap.size 3 1 u (accL xs a).length (ints (accL xs a))∧Below w.heap.size w w':=by
  by_cases h:cacheOk xs=true∧0≤a∧a≤7
  · obtain ⟨h1,h2,h3⟩:=h
    obtain ⟨x,y,rfl⟩:=cacheOk_two h1
    refine (iAccess_yes v x y a w hr h1 h2 h3).mono ?_
    rintro e w' ⟨u,rfl,ho,hb⟩
    exact ⟨u, rfl, by have : (accL [x, y] a).length = 2 := by unfold accL; rw [if_pos (accOk_of h1 h2 h3)]; simp
                      rw [this];exact ho,hb⟩
  refine (iAccess_no v xs a w hr h).mono ?_
  rintro e w' ⟨rfl,hb⟩
  have e1:accL xs a=[]:=by unfold accL;rw [if_neg (by rw [accOk_not h];simp)]
  have e2:accH xs a=false:=by unfold accH;rw [accOk_not h];rfl
  exact ⟨_,by rw [e2],by rw [e1];exact World.ownsRow_nil _ _ _ _,hb⟩
theorem l10Copy_any (v:Value) (xs:List Int) (w:World) (hr:Reads w 1 v xs.length (ints xs)) (hsz:xs.length≤1073741824) :
    Calls Tryz.prog 102 #[.agg #[v]] w fun e w'=>∃ u,e=.returned (.agg #[u])∧w'.ownsRow w.heap.size 3 1 u xs.length (ints xs)∧Below w.heap.size w w':=by
  obtain ⟨va,vc,rfl⟩:=reads_shape hr
  have c0:=bal (bal (Bs w) (.cells #[.slice va xs.length vc] 56)) (.cells #[.slice none 0 0] 56)
  have a0:=own_nil_made ((w.alloc (.cells #[.slice va xs.length vc] 56)).alloc (.cells #[.slice none 0 0] 56)) 3
  simp only [Sa] at a0
  have e0:=hr.below (bal c0 (.cells #[] 3))
  clear hr
  go_enter Tryz.func102,Tryz.ntmps102
  go_wp2_with (at_builtin;refine wpList_aps tInts rfl _ _ rfl _ _ 0 [] rfl a0 _ _ _ rfl e0 (one_ints xs) (by omega) ?c1 ?_)
  case c1=>simp
  intro v' w' ho' hc' hn' _
  have b0:=hc'.below (w.heap.size+1+1) (by simp) (fun k hk h=>by simp [Value.ownBlock] at h;omega)
  have f0:w'.cell? ⟨w.heap.size+1,0,none⟩=some (.slice none 0 0):=by rw [b0.cell (p:=⟨w.heap.size+1,0,none⟩) (by simp)];simp [go_sem]
  have i0:w'.frozen? ⟨w.heap.size+1,0,none⟩=false:=by rw [b0.frozen (p:=⟨w.heap.size+1,0,none⟩) (by simp)];simp [go_sem]
  have g0:=(bal c0 (.cells #[] 3)).trans (b0.mono (B':=w.heap.size) (by omega))
  obtain ⟨ua,uc,rfl⟩:=Oh ho'
  have d0:=Tc w' (w.heap.size+1) 0 (.slice ua xs.length uc) f0
  have h0:=Om (Oe ho' (w.heap.size+1) 0 (fun h=>by have:=ho'.lt _ h;omega) (.slice ua xs.length uc)) (base':=w.heap.size) (by omega)
  clear b0 hc' hn' a0 ho' c0 e0
  go_wp2
  exact bodyPost_ret (v:=.agg #[.slice ua xs.length uc]) (by simp [results,Tryz.results102,go_sem,d0]) rfl ⟨_,rfl,h0,bst g0 _ _ (by omega) _⟩
theorem evs_length (l:List Ev):(evs l).length=l.length*2:=by
  induction l with
  | nil=>rfl
  | cons e l ih=>simp only [evs,List.length_cons,ih];omega
theorem evs_get (l:List Ev) (k:Nat) (h:k < l.length):(evs l)[k*2]? = some (.int .i64 l[k].1)∧(evs l)[k*2+1]? = some (.int .i64 l[k].2):=by
  induction l generalizing k with
  | nil=>cases h
  | cons e l ih =>
    cases k with
    | zero=>exact ⟨rfl,rfl⟩
    | succ k =>
      have h':=ih k (by simpa using h)
      have e1:(k+1)*2=k*2+1+1:=by omega
      rw [e1]
      exact ⟨by simpa [evs] using h'.1,by simpa [evs] using h'.2⟩
theorem reads_ev {w:World} {b off:Nat} {l:List Ev} (hc:∀ j (h:j < (evs l).length),w.cell? ⟨b,off+j,none⟩=some (evs l)[j]) (k:Nat) (h:k < l.length) :
    w.cell? ⟨b,off+k*2,none⟩=some (.int .i64 l[k].1)∧w.cell? ⟨b,off+k*2+1,none⟩=some (.int .i64 l[k].2):=by
  have hl:=evs_length l
  obtain ⟨g1,g2⟩:=evs_get l k h
  have h1:=hc (k*2) (by omega)
  have h2:=hc (k*2+1) (by omega)
  rw [List.getElem?_eq_getElem (by omega)] at g1 g2
  rw [h1,← Nat.add_assoc] at *
  exact ⟨g1,h2.trans g2⟩
def touches (e:Ev):Bool:=decide (e.1=2∨e.1=3)
def isAddr (a:Int):Bool:=decide (0≤a∧a≤7)
def cstep (s:List Int × List Bool) (e:Ev):Option (List Int × List Bool):=
  if touches e=true then (if isAddr e.2=true then some (accL s.1 e.2,s.2++[accH s.1 e.2]) else none) else some s
def crun (xs:List Int) (l:List Ev):Option (List Int × List Bool):=l.foldlM cstep (xs,[])
def crunR (xs:List Int) (l:List Ev):List Int × List Bool × Bool:=
  if cacheOk xs=true then (match crun xs l with | some (y,h)=>(y,h,true) | none=>([],[],false)) else ([],[],false)
theorem crun_snoc (xs:List Int) (l:List Ev) (e:Ev):crun xs (l++[e])=(crun xs l).bind (fun s=>cstep s e):=by
  unfold crun;rw [List.foldlM_append];simp
theorem crun_take (xs:List Int) (l:List Ev) (k:Nat) (h:k < l.length):crun xs (l.take (k+1))=(crun xs (l.take k)).bind (fun s=>cstep s l[k]):=by
  rw [List.take_succ_eq_append_getElem h,crun_snoc]
theorem crun_none (xs:List Int) (l:List Ev) (k:Nat) (h:crun xs (l.take k)=none):crun xs l=none:=by
  have e:l=l.take k++l.drop k:=(List.take_append_drop k l).symm
  rw [e];unfold crun at h ⊢;rw [List.foldlM_append,h];rfl
theorem accL_ok {xs:List Int} {a:Int} (h:accOk xs a=true):cacheOk (accL xs a)=true:=by
  have hh:=h
  unfold accOk at hh
  rw [Bool.and_eq_true] at hh
  have ha:=of_decide_eq_true hh.2
  obtain ⟨x,y,rfl⟩:=cacheOk_two hh.1
  have hc:=hh.1
  unfold accL;rw [if_pos h]
  unfold cacheOk at hc ⊢
  have hc:=(of_decide_eq_true hc).2
  have hx:=lineOk_yes (hc 0 (by simp))
  have hy:=lineOk_yes (hc 1 (by simp))
  simp only [List.getElem_cons_zero,List.getElem_cons_succ] at hx hy
  refine decide_eq_true ⟨by simp,?_⟩
  have hm:a / 2 % 2=0∨a / 2 % 2=1:=by omega
  intro j hj
  have a0:j < 2:=by simpa using hj
  unfold lineOk
  refine decide_eq_true ?_
  rcases hm with hm | hm
  · have e:(a / 2 % 2).toNat=0:=by omega
    simp only [e,List.set_cons_zero]
    match j,a0 with
    | 0,_=>simp;omega
    | 1,_=>simpa using hy
  have e:(a / 2 % 2).toNat=1:=by omega
  simp only [e,List.set_cons_succ,List.set_cons_zero]
  match j,a0 with
  | 0,_=>simpa using hx
  | 1,_=>simp;omega
theorem crun_inv (xs:List Int) (hok:cacheOk xs=true):∀ (l:List Ev) (y:List Int) (h:List Bool),crun xs l=some (y,h)→cacheOk y=true∧h.length≤l.length:=by
  intro l
  have b0:∀ n (l:List Ev),l.length=n→∀ y h,crun xs l=some (y,h)→cacheOk y=true∧h.length≤l.length:=by
    intro n
    induction n with
    | zero =>
      intro l hl y h hr
      have:l=[]:=List.eq_nil_of_length_eq_zero hl
      subst this
      simp [crun] at hr
      obtain ⟨rfl,rfl⟩:=hr
      exact ⟨hok,by simp⟩
    | succ n ih =>
      intro l hl y h hr
      have a0:l≠[]:=by intro e;subst e;simp at hl
      obtain ⟨l',e,rfl⟩:∃ l' e,l=l'++[e]:=⟨l.dropLast,l.getLast a0,(List.dropLast_concat_getLast a0).symm⟩
      rw [crun_snoc] at hr
      cases hs:crun xs l' with
      | none=>rw [hs] at hr;cases hr
      | some s =>
        rw [hs] at hr
        obtain ⟨y',h'⟩:=s
        have hi:=ih l' (by simpa using hl) y' h' hs
        simp only [Option.bind_some] at hr
        unfold cstep at hr
        split at hr
        · split at hr
          · rename_i h1 h2
            simp only [Option.some.injEq,Prod.mk.injEq] at hr
            obtain ⟨rfl,rfl⟩:=hr
            have ha:=of_decide_eq_true h2
            exact ⟨accL_ok (accOk_of hi.1 ha.1 ha.2),by simp;omega⟩
          cases hr
        simp only [Option.some.injEq,Prod.mk.injEq] at hr
        obtain ⟨rfl,rfl⟩:=hr
        exact ⟨hi.1,by simp;omega⟩
  exact fun y h hr=>b0 l.length l rfl y h hr
def mov (x:Ins) (rs:List Int) (k:Int):Int:=if x.op=8 then x.a else if x.op=9 then (if gi rs x.a=0 then x.b else k+1) else if x.op=10 then (if gi rs x.a≠0 then x.b else k+1) else if x.op=13 then k else k+1
set_option maxHeartbeats 3200000 in
theorem l6Move_any (op a b c d:Int) (v:Value) (rs:List Int) (k:Nat) (w:World) (hv:Reads w 1 v rs.length (ints rs)) (hk:(k:Int)≤1048576) (h9:op=9∨op=10→0≤a∧a < rs.length) :
    Calls Tryz.prog 122 #[.agg #[.int .i64 op,.int .i64 a,.int .i64 b,.int .i64 c,.int .i64 d],v,.int .i64 (k:Int)] w fun e w'=>e=.returned (.int .i64 (mov ⟨op,a,b,c,d⟩ rs k))∧Below w.heap.size w w':=by
  have a0:=bal (Bs w) (.cells #[.int .i64 op,.int .i64 a,.int .i64 b,.int .i64 c,.int .i64 d] 71)
  obtain ⟨_,hn,aa,f0,b',k0,rfl,e0,ha,b0⟩:=hv
  by_cases h8:op=8
  · have HM:Hid (mov ⟨op,a,b,c,d⟩ rs k=a):=Lib.hid (by unfold mov;rw [if_pos h8])
    subst h8
    clear h9 ha b0
    go_enter Tryz.func122,Tryz.ntmps122
    go_wp2
    go_ret
    exact ⟨ret_int HM.out.symm,a0⟩
  have e8:(op == 8)=false:=by simp [h8]
  by_cases h9':op=9∨op=10
  · obtain ⟨p1,p2⟩:=h9 h9'
    obtain ⟨na,rfl⟩:∃ n:Nat,a=n:=⟨a.toNat,by omega⟩
    obtain ⟨rfl,i0⟩:=ha (by omega)
    have d0:na < rs.length:=by omega
    have hc:=b0 na (by rw [ints_length];exact d0)
    rw [ints_get] at hc
    have c0:gi rs na=rs[na]:=by unfold gi;rw [Int.toNat_natCast,List.getElem?_eq_getElem d0];rfl
    rw [← c0] at hc
    have kc:=Lc hc
    have j0:=Ac hc (.cells #[.int .i64 op,.int .i64 (na:Int),.int .i64 b,.int .i64 c,.int .i64 d] 71)
    have hM:mov ⟨op,(na:Int),b,c,d⟩ rs k=if op=9 then (if gi rs na=0 then b else (k:Int)+1) else (if gi rs na≠0 then b else (k:Int)+1):=by
      unfold mov;rw [if_neg h8];simp only
      rcases h9' with rfl | rfl <;> simp
    have HM:=Lib.hid hM
    generalize mov ⟨op,(na:Int),b,c,d⟩ rs k=z at *
    generalize gi rs na=y at *
    clear hM c0 b0 ha h9
    rcases h9' with rfl | rfl
    · by_cases hy:y=0
      · have HZ:Hid (z=b):=Lib.hid (by rw [HM.out,if_pos rfl,if_pos hy])
        subst hy
        clear HM
        go_enter Tryz.func122,Tryz.ntmps122
        go_wp2
        go_ret
        exact ⟨ret_int HZ.out.symm,a0⟩
      have HZ:Hid (z=(k:Int)+1):=Lib.hid (by rw [HM.out,if_pos rfl,if_neg hy])
      have e9:(y == 0)=false:=by simp [hy]
      clear HM hy
      go_enter Tryz.func122,Tryz.ntmps122
      go_wp2
      go_ret
      exact ⟨ret_int HZ.out.symm,a0⟩
    by_cases hy:y=0
    · have HZ:Hid (z=(k:Int)+1):=Lib.hid (by rw [HM.out,if_neg (by decide),if_neg (fun h=>h hy)])
      subst hy
      clear HM
      go_enter Tryz.func122,Tryz.ntmps122
      go_wp2
      go_ret
      exact ⟨ret_int HZ.out.symm,a0⟩
    have HZ:Hid (z=b):=Lib.hid (by rw [HM.out,if_neg (by decide),if_pos hy])
    have e9:(y != 0)=true:=by simp [hy]
    clear HM hy
    go_enter Tryz.func122,Tryz.ntmps122
    go_wp2
    go_ret
    exact ⟨ret_int HZ.out.symm,a0⟩
  have e9:(op == 9)=false:=by simp;omega
  have g0:(op == 10)=false:=by simp;omega
  by_cases h13:op=13
  · have HM:Hid (mov ⟨op,a,b,c,d⟩ rs k=k):=Lib.hid (by unfold mov;rw [if_neg h8,if_neg (by simp only;omega),if_neg (by simp only;omega),if_pos h13])
    subst h13
    clear h9 ha b0 h9'
    go_enter Tryz.func122,Tryz.ntmps122
    go_wp2
    go_ret
    exact ⟨ret_int HM.out.symm,a0⟩
  have HM:Hid (mov ⟨op,a,b,c,d⟩ rs k=(k:Int)+1):=Lib.hid (by unfold mov;rw [if_neg h8,if_neg (by simp only;omega),if_neg (by simp only;omega),if_neg h13])
  have h0:(op == 13)=false:=by simp [h13]
  clear h9 ha b0 h9' h13 h8
  go_enter Tryz.func122,Tryz.ntmps122
  go_wp2
  go_ret
  exact ⟨ret_int HM.out.symm,a0⟩
section
variable {S:Nat→Prop} {w W:World} {base b tb:Nat} {vr vv va u:Value} {us:List Value} {rs:List Int} {m:Mm} {E:List Ev} {pc:Int}
theorem StepW.ret4 (h:StepW S w W base b vr vv va us rs m tb u E pc) (p:Int) (R:Nat) (hR:w.heap.size≤R) (hRm:¬OwnMB vr vv va us R) (hRe:¬u.ownBlock=some R) (x0 x1 x2 x3:Value) :
    OwnMv (((((W.setCell ⟨b,0,none⟩ (.int .i64 p)).setCell ⟨R,0,none⟩ x0).setCell ⟨R,1,none⟩ x1).setCell ⟨R,2,none⟩ x2).setCell ⟨R,3,none⟩ x3) base vr vv va us rs m ∧
    (((((W.setCell ⟨b,0,none⟩ (.int .i64 p)).setCell ⟨R,0,none⟩ x0).setCell ⟨R,1,none⟩ x1).setCell ⟨R,2,none⟩ x2).setCell ⟨R,3,none⟩ x3).ownsRow tb 38 2 u E.length (evs E) ∧
    Chg S w (((((W.setCell ⟨b,0,none⟩ (.int .i64 p)).setCell ⟨R,0,none⟩ x0).setCell ⟨R,1,none⟩ x1).setCell ⟨R,2,none⟩ x2).setCell ⟨R,3,none⟩ x3):=by
  obtain ⟨f1,f2,f3⟩:=h.fin p
  refine ⟨(((f2.own.far R 0 x0 hRm).far R 1 x1 hRm).far R 2 x2 hRm).far R 3 x3 hRm,Oe (Oe (Oe (Oe f1 R 0 hRe x0) R 1 hRe x1) R 2 hRe x2) R 3 hRe x3,?_⟩
  exact (((f3.setNew R 0 x0 (Or.inr hR)).setNew R 1 x1 (Or.inr hR)).setNew R 2 x2 (Or.inr hR)).setNew R 3 x3 (Or.inr hR)
theorem cells4 {W:World} {b R:Nat} {y z0 z1 z2 z3:Value} (hn:¬R=b) (h0:W.cell? ⟨R,0,none⟩=some z0) (h1:W.cell? ⟨R,1,none⟩=some z1) (h2:W.cell? ⟨R,2,none⟩=some z2) (h3:W.cell? ⟨R,3,none⟩=some z3) (x0 x1 x2 x3:Value) :
    (((((W.setCell ⟨b,0,none⟩ y).setCell ⟨R,0,none⟩ x0).setCell ⟨R,1,none⟩ x1).setCell ⟨R,2,none⟩ x2).setCell ⟨R,3,none⟩ x3).cell? ⟨R,0,none⟩=some x0 ∧
    (((((W.setCell ⟨b,0,none⟩ y).setCell ⟨R,0,none⟩ x0).setCell ⟨R,1,none⟩ x1).setCell ⟨R,2,none⟩ x2).setCell ⟨R,3,none⟩ x3).cell? ⟨R,1,none⟩=some x1 ∧
    (((((W.setCell ⟨b,0,none⟩ y).setCell ⟨R,0,none⟩ x0).setCell ⟨R,1,none⟩ x1).setCell ⟨R,2,none⟩ x2).setCell ⟨R,3,none⟩ x3).cell? ⟨R,2,none⟩=some x2 ∧
    (((((W.setCell ⟨b,0,none⟩ y).setCell ⟨R,0,none⟩ x0).setCell ⟨R,1,none⟩ x1).setCell ⟨R,2,none⟩ x2).setCell ⟨R,3,none⟩ x3).cell? ⟨R,3,none⟩=some x3:=by
  have g0:=Nc (b:=b) (j:=0) h0 (fun e=>hn e.1) y
  have g1:=Nc (b:=b) (j:=0) h1 (fun e=>hn e.1) y
  have g2:=Nc (b:=b) (j:=0) h2 (fun e=>hn e.1) y
  have g3:=Nc (b:=b) (j:=0) h3 (fun e=>hn e.1) y
  refine ⟨?_,?_,?_,?_⟩
  · exact Nc (Nc (Nc (Tc _ R 0 x0 g0) (by simp) x1) (by simp) x2) (by simp) x3
  · exact Nc (Nc (Tc _ R 1 x1 (Nc g1 (by simp) x0)) (by simp) x2) (by simp) x3
  · exact Nc (Tc _ R 2 x2 (Nc (Nc g2 (by simp) x0) (by simp) x1)) (by simp) x3
  exact Tc _ R 3 x3 (Nc (Nc (Nc g3 (by simp) x0) (by simp) x1) (by simp) x2)
end
end Go.Proofs.YtkjedgnepnbkpaaGreat
