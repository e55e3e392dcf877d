/-
  Parts of the proofs of the laws FnPairMemory,FnSplitMemory.
-/
import Derived.Test.YtlckklglbodgbaaGreatQB
import Derived.Test.YtlckklglbodgbaaGreatGC
set_option linter.all false
namespace Go.Proofs.YtlckklglbodgbaaGreat
open Go.RowKit
theorem own_nil_rows (w:World) (e:TypeId) (sz:Nat):(w.alloc (.cells #[] e)).ownsRow w.heap.size e sz (.slice (some ⟨w.heap.size,0,none⟩) 0 0) 0 []:=
  World.ownsRow_lit (base:=w.heap.size) (e:=e) (size:=sz) w #[] 0 Lr (by unfold maxLen;omega) (by simp)
def tgt (x:Ins):Int:=if x.op=8 then x.a else if x.op=9∨x.op=10 then x.b else -1
def aim (x:Ins) (t:Int):Ins:=if x.op=8 then { x with a:=t } else if x.op=9∨x.op=10 then { x with b:=t } else x
def stay (d:Nat→Bool):Nat→Nat
  | 0=>0
  | k+1=>stay d k+(if d k=true then 0 else 1)
def dx (d:Nat→Bool) (x:Ins):Ins:=if 0≤tgt x then aim x (stay d (tgt x).toNat) else x
theorem vals_all {xs:List Int} (h:∀ j (h:j < xs.length),valOk xs[j]=true):valsOk xs=true:=by
  unfold valsOk;rw [List.all_eq_true]
  intro x hx;obtain ⟨j,hj,rfl⟩:=List.getElem_of_mem hx;exact h j hj
theorem vals_no {xs:List Int} {j:Nat} (h:j < xs.length) (hx:valOk xs[j]=false):valsOk xs=false:=by
  unfold valsOk;rw [List.all_eq_false]
  exact ⟨_,List.getElem_mem h,by simp [hx]⟩
theorem notVal_any (n:Int) (w:World) :
    Calls Tryz.prog 84 #[.int .i64 n] w fun e w'=>e=.returned (.bool (!valOk n))∧Below w.heap.size w w':=by
  go_enter Tryz.func84,Tryz.ntmps84
  go_wp2_with fail
  refine (within_any n 0 255 _).mono ?_;rintro e w1 ⟨rfl,hb⟩;go_wp2
  go_ret
  exact ⟨rfl,hb⟩
theorem idxVal_any (v:Value) (xs:List Int) (w:World) (hr:Reads w 1 v xs.length (ints xs)) :
    Calls Tryz.prog 110 #[v,.func (.func 84) #[] #[]] w fun e w'=>∃ r:Int,e=.returned (.int .i64 r)∧decide (0≤r)=!valsOk xs∧Below w.heap.size w w':=by
  obtain ⟨_,hn,a,i0,b,h0,rfl,g0,ha,e0⟩:=hr;go_enter Tryz.func110,Tryz.ntmps110
  go_wp2
  go_loopw [8] (fun i wr=>∃ k:Nat,k≤xs.length∧i=.int .i64 k∧(∀ j (h:j < xs.length),j < k→valOk xs[j]=true)∧Below w.heap.size w wr) (fun i _=>xs.length-(intOf i).toNat)
  case atStart=>exact ⟨0,Nat.zero_le _,rfl,fun j _ h=>absurd h (by omega),Below.refl _ _⟩
  case round =>
    obtain ⟨k,hk,rfl,b0,a0⟩:=hrel;have HA:=Hi b0;clear b0;by_cases hlt:k < xs.length
    · obtain ⟨rfl,f0⟩:=ha (by omega)
      have c0:=e0 k (by simpa [ints] using hlt);rw [ints_get] at c0;have c0:=(a0.cell (p:=⟨b,h0+k,none⟩) f0).trans c0;clear e0 ha;generalize hx:xs[k]=x at c0
      have HX:=Hi hx;clear hx;go_wp2_with fail
      refine (notVal_any x _).mono ?_;rintro e w1 ⟨rfl,hb⟩;have d0:=btr a0 hb
      cases hok:valOk x with
      | true =>
        have HO:=Hi hok;clear hok hb a0;go_wp2
        go_roundw
        case rel=>exact ⟨k+1,by omega,by go_num,all_succ (P:=fun j x=>valOk x=true) hlt HA.out (by rw [HX.out];exact HO.out),d0⟩
        case measure=>simp [intOf];omega
      | false =>
        have HO:=Hi hok;clear hok hb a0;go_wp2
        go_ret
        exact ⟨(k:Int),rfl,by rw [vals_no hlt (by rw [HX.out];exact HO.out)];simp,d0⟩
    go_wp2
    go_ret
    exact ⟨-1,rfl,by rw [vals_all (fun j h=>HA.out j h (by omega))];rfl,a0⟩
theorem hasVal_any (v:Value) (xs:List Int) (w:World) (hr:Reads w 1 v xs.length (ints xs)) :
    Calls Tryz.prog 83 #[v,.func (.func 84) #[] #[]] w fun e w'=>e=.returned (.bool (!valsOk xs))∧Below w.heap.size w w':=by
  go_enter Tryz.func83,Tryz.ntmps83
  go_wp2_with fail
  refine (idxVal_any _ xs _ hr).mono ?_;rintro e w1 ⟨r,rfl,a0,hb⟩;clear hr;go_wp2
  go_ret
  exact ⟨rfl,hb⟩
theorem areValues_any (v:Value) (xs:List Int) (w:World) (hr:Reads w 1 v xs.length (ints xs)) :
    Calls Tryz.prog 52 #[v] w fun e w'=>e=.returned (.bool (valsOk xs))∧Below w.heap.size w w':=by
  go_enter Tryz.func52,Tryz.ntmps52
  go_wp2_with fail
  refine (hasVal_any _ xs _ hr).mono ?_;rintro e w1 ⟨rfl,hb⟩;clear hr;go_wp2
  go_ret
  exact ⟨ret_bool (by simp),hb⟩
def arrOk (a:List Int):Bool:=decide (a.length=4)&&valsOk a
def arrsOk (rs:List (List Int)):Bool:=rs.all arrOk
theorem memOk_eq (nv na:Nat) (m:Mm):memOk nv na m=(decide (m.vals.length=nv)&&(decide (m.arrs.length=na)&&(valsOk m.vals&&arrsOk m.arrs))):=rfl
theorem arrs_no {L:List (List Int)} {k:Nat} (h:k < L.length) (h2:arrOk L[k]=false):arrsOk L=false:=by
  unfold arrsOk;rw [List.all_eq_false]
  exact ⟨_,List.getElem_mem h,by simp [h2]⟩
theorem arrs_yes {L:List (List Int)} (h:∀ k (hk:k < L.length),arrOk L[k]=true):arrsOk L=true:=by
  unfold arrsOk;rw [List.all_eq_true]
  intro r hr;obtain ⟨k,hk,rfl⟩:=List.getElem_of_mem hr;exact h k hk
theorem arrOk_len {a:List Int} (h:¬a.length=4):arrOk a=false:=by unfold arrOk;rw [decide_eq_false h];rfl
theorem arrOk_vals {a:List Int} (h:a.length=4):arrOk a=valsOk a:=by unfold arrOk;rw [decide_eq_true h];rfl
theorem l3Values_any (v:Value) (xs:List Int) (w:World) (hr:Reads w 1 v xs.length (ints xs)) :
    Calls Tryz.prog 57 #[v] w fun e w'=>e=.returned (.bool (valsOk xs))∧w'=w:=by
  obtain ⟨_,hn,a,e0,b,g0,rfl,d0,ha,b0⟩:=hr;go_enter Tryz.func57,Tryz.ntmps57
  go_wp2
  go_loop [3] (fun i=>∃ k:Nat,k≤xs.length∧i=.int .i64 k∧(∀ j (h:j < xs.length),j < k→valOk xs[j]=true)) (fun i=>xs.length-(intOf i).toNat)
  case atStart=>exact ⟨0,Nat.zero_le _,rfl,fun j _ h=>absurd h (by omega)⟩
  case round =>
    obtain ⟨k,hk,rfl,a0⟩:=hrel;have HA:=Hi a0;clear a0;by_cases hlt:k < xs.length
    · obtain ⟨rfl,f0⟩:=ha (by omega)
      have c0:=b0 k (by simpa [ints] using hlt);rw [ints_get] at c0;have HN:=Hi (fun h=>vals_no hlt h)
      have HY:Hid (valOk xs[k]=true→∀ j (h:j < xs.length),j < k+1→valOk xs[j]=true):=Hi (fun h j hj hlt2=>by
        by_cases e:j=k
        · subst e;exact h
        exact HA.out j hj (by omega))
      clear b0 ha;generalize xs[k]=x at *
      by_cases h0:x < 0
      · have HV:Hid (valOk x=false):=Hi (decide_eq_false (p:=0≤x∧x≤255) (by omega))
        go_wp2
        go_ret
        exact ⟨ret_bool (HN.out HV.out).symm,rfl⟩
      by_cases h1:255 < x
      · have HV:Hid (valOk x=false):=Hi (decide_eq_false (p:=0≤x∧x≤255) (by omega))
        go_wp2
        go_ret
        exact ⟨ret_bool (HN.out HV.out).symm,rfl⟩
      have HV:Hid (valOk x=true):=Hi (decide_eq_true (p:=0≤x∧x≤255) (by omega));go_wp2
      go_round
      case rel=>exact ⟨k+1,by omega,by go_num,HY.out HV.out⟩
      case measure=>simp [intOf];omega
    have HZ:=Hi (vals_all (fun j h=>HA.out j h (by omega)));go_wp2
    go_ret
    exact ⟨ret_bool HZ.out.symm,rfl⟩
theorem notArr_any (u:Value) (xs:List Int) (w:World) (hu:Reads w 1 u xs.length (ints xs)) :
    Calls Tryz.prog 54 #[u] w fun e w'=>e=.returned (.bool (!arrOk xs))∧Below w.heap.size w w':=by
  have a0:=hu;obtain ⟨a,c,rfl⟩:=reads_shape hu;have hn:=hu.2.1;by_cases h:xs.length=4
  · have hd:((xs.length:Int) != 4)=false:=by simp;omega
    have HA:=Hi (arrOk_vals h);have HR:=Hi a0;clear h hu a0;go_enter Tryz.func54,Tryz.ntmps54
    go_wp2_with fail
    refine (areValues_any _ xs _ HR.out).mono ?_;rintro e w1 ⟨rfl,hb⟩;go_wp2
    go_ret
    exact ⟨ret_bool (by rw [HA.out]),hb⟩
  have hd:((xs.length:Int) != 4)=true:=by simp;omega
  have HA:=Hi (arrOk_len h);clear h hu a0;go_enter Tryz.func54,Tryz.ntmps54
  go_wp2
  go_ret
  exact ⟨ret_bool (by rw [HA.out];rfl),Bs w⟩
theorem idxArr_any (v:Value) (L:List (List Int)) (w:World) (hr:Reads2 ints w v L) :
    Calls Tryz.prog 86 #[v,.func (.func 54) #[] #[]] w fun e w'=>∃ r:Int,e=.returned (.int .i64 r)∧decide (0≤r)=!arrsOk L∧Below w.heap.size w w':=by
  obtain ⟨a,c,rfl⟩:=hr.shape;have hn:=hr.lenle;have HR:=Hi hr;clear hr;go_enter Tryz.func86,Tryz.ntmps86
  go_wp2
  go_loopw [8] (fun i wr=>∃ k:Nat,k≤L.length∧i=.int .i64 k∧(∀ j (h:j < L.length),j < k→arrOk L[j]=true)∧Below w.heap.size w wr) (fun i _=>L.length-(intOf i).toNat)
  case atStart=>exact ⟨0,Nat.zero_le _,rfl,fun j _ h=>absurd h (by omega),Bs w⟩
  case round =>
    obtain ⟨k,hk,rfl,b0,a0⟩:=hrel;have HA:=Hi b0;clear b0;by_cases hlt:k < L.length
    · obtain ⟨b,e0,u,rfl,hb,hc,hu⟩:=(HR.out.below a0).at k hlt
      have HN:=Hi (fun h=>arrs_no hlt h)
      have HY:Hid (arrOk L[k]=true→∀ j (h:j < L.length),j < k+1→arrOk L[j]=true):=Hi (fun h j hj hlt2=>by
        by_cases e:j=k
        · subst e;exact h
        exact HA.out j hj (by omega))
      have kc:=Lc hc;have HU:=Hi (notArr_any u L[k] _ hu);generalize arrOk L[k]=q at *
      clear hu;go_wp2_with fail
      refine HU.out.mono ?_;rintro e w1 ⟨rfl,c0⟩;have d0:=btr a0 c0;clear hc HU
      cases q with
      | true =>
        clear c0 a0;go_wp2
        go_roundw
        case rel=>exact ⟨k+1,by omega,by go_num,HY.out (by trivial),d0⟩
        case measure=>simp [intOf];omega
      | false =>
        clear c0 a0;go_wp2
        go_ret
        exact ⟨(k:Int),rfl,by rw [HN.out (by trivial)];simp,d0⟩
    go_wp2
    go_ret
    exact ⟨-1,rfl,by rw [arrs_yes (fun j h=>HA.out j h (by omega))];rfl,a0⟩
theorem hasArr_any (v:Value) (L:List (List Int)) (w:World) (hr:Reads2 ints w v L) :
    Calls Tryz.prog 53 #[v,.func (.func 54) #[] #[]] w fun e w'=>e=.returned (.bool (!arrsOk L))∧Below w.heap.size w w':=by
  go_enter Tryz.func53,Tryz.ntmps53
  go_wp2_with fail
  refine (idxArr_any _ L _ hr).mono ?_;rintro e w1 ⟨r,rfl,d0,hb⟩;clear hr;go_wp2
  go_ret
  exact ⟨rfl,hb⟩
set_option maxHeartbeats 1600000 in
theorem isMemory_any (va vb vx vy:Value) (xs ys:List Int) (m:Mm) (w:World) (ha:Reads w 1 va xs.length (ints xs)) (hb:Reads w 1 vb ys.length (ints ys)) (hx:Reads w 1 vx m.vals.length (ints m.vals)) (hy:Reads2 ints w vy m.arrs) :
    Calls Tryz.prog 26 #[va,vb,.agg #[vx,vy]] w fun e w'=>e=.returned (.bool (memOk xs.length ys.length m))∧Below w.heap.size w w':=by
  have n0:=ha.2.1;have n1:=hb.2.1;have n2:=hx.2.1;have n3:=hy.lenle;obtain ⟨a0,c0,rfl⟩:=reads_shape ha;obtain ⟨a1,c1,rfl⟩:=reads_shape hb;have HX:=Hi hx;have HY:=Hi hy;obtain ⟨a2,c2,rfl⟩:=reads_shape hx;obtain ⟨a3,c3,rfl⟩:=hy.shape;clear ha hb hx hy;have HD:=Hi (memOk_eq xs.length ys.length m);generalize memOk xs.length ys.length m=D at *
  have b0:=bal (Bs w) (.cells #[.slice a2 m.vals.length c2,.slice a3 m.arrs.length c3] 29);by_cases h1:m.vals.length=xs.length
  rotate_left
  · have e1:((m.vals.length:Int) != (xs.length:Int))=true:=by simp;omega
    have H1:=Hi h1;clear h1;go_enter Tryz.func26,Tryz.ntmps26
    go_wp2
    go_ret
    exact ⟨ret_bool (by rw [HD.out,decide_eq_false H1.out];rfl),b0⟩
  have e1:((m.vals.length:Int) != (xs.length:Int))=false:=by simp;omega
  have H1:=Hi h1;clear h1;by_cases h2:m.arrs.length=ys.length
  rotate_left
  · have e2:((m.arrs.length:Int) != (ys.length:Int))=true:=by simp;omega
    have H2:=Hi h2;clear h2;go_enter Tryz.func26,Tryz.ntmps26
    go_wp2
    go_ret
    exact ⟨ret_bool (by rw [HD.out,decide_eq_true H1.out,decide_eq_false H2.out];rfl),b0⟩
  have e2:((m.arrs.length:Int) != (ys.length:Int))=false:=by simp;omega
  have H2:=Hi h2;clear h2;go_enter Tryz.func26,Tryz.ntmps26
  go_wp2_with fail
  refine (areValues_any _ m.vals _ (HX.out.below b0)).mono ?_;rintro e w1 ⟨rfl,hb⟩;have b1:w1.cell? ⟨w.heap.size,1,none⟩=some (.slice a3 m.arrs.length c3):=Kc hb (Wc (by simp) (by rfl));have kb:=Lc b1;replace b0:=btr b0 hb;clear hb;generalize valsOk m.vals=q at *
  cases q with
  | false =>
    go_wp2
    go_ret
    exact ⟨ret_bool (by rw [HD.out,decide_eq_true H1.out,decide_eq_true H2.out];rfl),b0⟩
  | true =>
    go_wp2_with fail
    refine (hasArr_any _ m.arrs _ (HY.out.below b0)).mono ?_;rintro e w2 ⟨rfl,hb⟩;go_wp2
    go_ret
    exact ⟨ret_bool (by rw [HD.out,decide_eq_true H1.out,decide_eq_true H2.out];simp),btr b0 hb⟩
theorem clone2_any (v:Value) (n:Nat) (vs:List Value) (w:World) (hr:Reads w 1 v n vs) (h1:∀ u ∈ vs,u.oneCell'=true) (hsz:n≤1073741824) :
    Calls Tryz.prog 56 #[v] w fun e w'=>∃ u,e=.returned u∧w'.ownsRow w.heap.size 23 1 u n vs∧Below w.heap.size w w':=by
  have e2:=hr;have b3:=fun w a n c=>Lib.run_eql_slice_nil (P:=Tryz.prog) w 27 23 a n c 0 0 Tryz.underlying27
  obtain ⟨hl,hn,a,m3,b,t3,rfl,⟨z2,v0⟩,ha,y2⟩:=hr
  cases a with
  | none =>
    have h0:=v0 rfl;have h2:vs=[]:=List.eq_nil_of_length_eq_zero (by omega);have h3:n=0:=by omega
    subst h2 h0 h3;go_enter Tryz.func56,Tryz.ntmps56
    go_wp2
    go_ret
    exact ⟨_,rfl,World.ownsRow_nil _ _ _ _,Below.refl _ _⟩
  | some a =>
    have j0:=own_nil_made w 23;have e3:=e2.below ((Below.refl w.heap.size w).alloc Lr (.cells #[] 23));have HL:=Hi hl;clear e2 ha y2 v0 hl;go_enter Tryz.func56,Tryz.ntmps56
    go_wp2_with (at_builtin;refine wpList_aps tIntSS rfl _ _ rfl w.heap.size _ 0 [] rfl j0 _ _ _ rfl e3 h1 (by omega) ?c1 ?_)
    case c1=>simp
    intro v' w' ho' hc' hn' _;have hb:=((Below.refl w.heap.size w).alloc Lr (.cells #[] 23)).trans (hc'.below w.heap.size (by simp) (fun k hk=>not_own j0 hk));obtain ⟨pa,pc,rfl⟩:=Oh ho';clear hc' hn' b3 j0;go_wp2
    go_ret
    exact ⟨_,rfl,ho',hb⟩
set_option maxHeartbeats 6400000 in
theorem memOwn_any (vx vy:Value) (m:Mm) (w:World) (hx:Reads w 1 vx m.vals.length (ints m.vals)) (hy:Reads2 ints w vy m.arrs) (hl:m.vals.length≤1048576) (hn:m.arrs.length≤1048576) (hp:pre2 m.arrs m.arrs.length≤1048576) :
    Calls Tryz.prog 27 #[.agg #[vx,vy]] w fun e w'=>∃ ux uy us,e=.returned (.agg #[ux,uy])∧w'.ownsRow w.heap.size 3 1 ux m.vals.length (ints m.vals)∧Own2I w' w.heap.size uy us m.arrs∧(∀ q,ux.ownBlock=some q→¬OwnB2 uy us q)∧Below w.heap.size w w':=by
  obtain ⟨vs,w0,n1⟩:=hy;obtain ⟨a2,c2,rfl⟩:=reads_shape hx;obtain ⟨a3,c3,rfl⟩:=reads_shape w0
  have m1:∀ u ∈ vs,u.oneCell'=true:=by
    intro u hu;obtain ⟨k,hk,rfl⟩:=List.getElem_of_mem hu;have d3:k < m.arrs.length:=by have:=w0.1;omega
    exact reads_one (n1 k _ _ (List.getElem?_eq_getElem hk) (List.getElem?_eq_getElem d3))
  obtain ⟨w1,i0⟩:∃ X,X=(w.alloc (.cells #[.slice a2 m.vals.length c2,.slice a3 m.arrs.length c3] 29)).alloc (.cells #[.slice none 0 0,.slice none 0 0] 29):=⟨_,rfl⟩;have a1:Below w.heap.size w w1:=by rw [i0];exact bal (bal (Bs w) _) _
  have i2:w1.heap.size=w.heap.size+1+1:=by rw [i0];simp
  have b0:w1.cell? ⟨w.heap.size,0,none⟩=some (.slice a2 m.vals.length c2):=by rw [i0];exact Ac (Wc rfl rfl) _
  have b1:w1.cell? ⟨w.heap.size,1,none⟩=some (.slice a3 m.arrs.length c3):=by rw [i0];exact Ac (Wc rfl rfl) _
  have f0:w1.frozen? ⟨w.heap.size,0,none⟩=false:=by rw [i0];exact Fa (by simp) (Fn rfl) _
  have f1:w1.frozen? ⟨w.heap.size,1,none⟩=false:=by rw [i0];exact Fa (by simp) (Fn rfl) _
  have r0:w1.cell? ⟨w.heap.size+1,0,none⟩=some (.slice none 0 0):=by rw [i0];exact Wc (by simp) rfl
  have r1:w1.cell? ⟨w.heap.size+1,1,none⟩=some (.slice none 0 0):=by rw [i0];exact Wc (by simp) rfl
  have q0:w1.frozen? ⟨w.heap.size+1,0,none⟩=false:=by rw [i0];exact Fn (by simp)
  have q1:w1.frozen? ⟨w.heap.size+1,1,none⟩=false:=by rw [i0];exact Fn (by simp)
  have k1:=Lc b1;have k0:=Lc b0;have HW:=Hi i0;have HZ:=Hi i2;have hz1':w.heap.size+2≤w1.heap.size:=by omega
  clear i0 i2;have HX:=Hi (fun W (hW:Below w1.heap.size w1 W)=>clone_any _ m.vals W (hx.below (btr a1 hW)) (by omega));have HY:=Hi (fun W (hW:Below w1.heap.size w1 W)=>clone2_any _ m.arrs.length vs W (w0.below (btr a1 hW)) m1 (by omega));go_enter Tryz.func27,Tryz.ntmps27
  go_upto_region 1 with (fail)
  rw [← HW.out];clear HW;have D:=Bd (Bs w1);go_cut [10] (fun s wx=>∃ ux uy,wx.cell? ⟨w.heap.size,0,none⟩=some ux∧wx.cell? ⟨w.heap.size,1,none⟩=some uy∧wx.frozen? ⟨w.heap.size,1,none⟩=false∧wx.ownsRow w1.heap.size 3 1 ux m.vals.length (ints m.vals)∧wx.ownsRow w1.heap.size 23 1 uy m.arrs.length vs∧Chg (fun q=>q=w.heap.size) w1 wx)
  case first =>
    go_region_with (first | (go_at_call 55;refine (HX.out _ (btr D d0)).mono ?_;rintro e k3 ⟨ux,rfl,ox,a0⟩;obtain ⟨pa,pc,rfl⟩:=Oh ox;have g0ux2:=Kc (btr (btr D d0) a0) b0;have g1ux2:=Kc (btr (btr D d0) a0) b1;have h0ux2:=Kf (btr (btr D d0) a0) k0 f0;have h1ux2:=Kf (btr (btr D d0) a0) k0 f1;have k2:=Lc g0ux2) | (go_at_call 55;refine (HX.out _ D).mono ?_;rintro e k3 ⟨ux,rfl,ox,a0⟩;obtain ⟨pa,pc,rfl⟩:=Oh ox;have g0ux1:=Kc (btr D a0) b0;have g1ux1:=Kc (btr D a0) b1;have h0ux1:=Kf (btr D a0) k0 f0;have h1ux1:=Kf (btr D a0) k0 f1;have j2:=Lc g0ux1) | (go_at_call 56;refine (HY.out _ (btr D a0)).mono ?_;rintro e l3 ⟨uy,rfl,oy,d0⟩;obtain ⟨pb,pd,rfl⟩:=Oh oy;have g0uy2:=Kc (btr (btr D a0) d0) b0;have g1uy2:=Kc (btr (btr D a0) d0) b1;have h0uy2:=Kf (btr (btr D a0) d0) k0 f0;have h1uy2:=Kf (btr (btr D a0) d0) k0 f1;have m2:=Lc g0uy2) | (go_at_call 56;refine (HY.out _ D).mono ?_;rintro e l3 ⟨uy,rfl,oy,d0⟩;obtain ⟨pb,pd,rfl⟩:=Oh oy;have g0uy1:=Kc (btr D d0) b0;have g1uy1:=Kc (btr D d0) b1;have h0uy1:=Kf (btr D d0) k0 f0;have h1uy1:=Kf (btr D d0) k0 f1;have l2:=Lc g0uy1))
    all_goals
      first
      | (have E:=btr (btr D a0) d0
         have p1:=Ob ox d0;have y1:=oy;have e1:=g0uy2;have g1:=g1uy2;have i1:=h1uy2;have g3:=E.size;have f3:=a0.size;have x0:=Nn (b:=w.heap.size) (j:=1) (Tc _ w.heap.size 0 (.slice pa m.vals.length pc) e1) (.slice pb m.arrs.length pd);have x1:=Tc _ w.heap.size 1 (.slice pb m.arrs.length pd) (Nn (b:=w.heap.size) (j:=0) g1 (.slice pa m.vals.length pc));have xf:=Fs (b:=⟨w.heap.size,1,none⟩) (Fs (b:=⟨w.heap.size,0,none⟩) i1 (.slice pa m.vals.length pc)) (.slice pb m.arrs.length pd);have yx:=Om p1 (base':=w1.heap.size) (by have:=D.size;omega);have yy:=Om y1 (base':=w1.heap.size) (by have:=D.size;omega);have lx:=yx.lt;have ly:=yy.lt;have zx:=Oe (Oe yx w.heap.size 0 (fun h=>by have:=lx _ h;omega) (.slice pa m.vals.length pc)) w.heap.size 1 (fun h=>by have:=lx _ h;omega) (.slice pb m.arrs.length pd);have zy:=Oe (Oe yy w.heap.size 0 (fun h=>by have:=ly _ h;omega) (.slice pa m.vals.length pc)) w.heap.size 1 (fun h=>by have:=ly _ h;omega) (.slice pb m.arrs.length pd);have zc:=((Cb (S:=fun q=>q=w.heap.size) E).setCell w.heap.size 0 (.slice pa m.vals.length pc) (fun _=>rfl)).setCell w.heap.size 1 (.slice pb m.arrs.length pd) (fun _=>rfl);go_wp2_with fail
         go_meet
         exact ⟨_,_,x0,x1,xf,zx,zy,zc⟩)
      | (have E:=btr (btr D d0) a0
         have p1:=ox;have y1:=Ob oy a0;have e1:=g0ux2;have g1:=g1ux2;have i1:=h1ux2;have g3:=E.size;have f3:=d0.size;have x0:=Nn (b:=w.heap.size) (j:=1) (Tc _ w.heap.size 0 (.slice pa m.vals.length pc) e1) (.slice pb m.arrs.length pd);have x1:=Tc _ w.heap.size 1 (.slice pb m.arrs.length pd) (Nn (b:=w.heap.size) (j:=0) g1 (.slice pa m.vals.length pc));have xf:=Fs (b:=⟨w.heap.size,1,none⟩) (Fs (b:=⟨w.heap.size,0,none⟩) i1 (.slice pa m.vals.length pc)) (.slice pb m.arrs.length pd);have yx:=Om p1 (base':=w1.heap.size) (by have:=D.size;omega);have yy:=Om y1 (base':=w1.heap.size) (by have:=D.size;omega);have lx:=yx.lt;have ly:=yy.lt;have zx:=Oe (Oe yx w.heap.size 0 (fun h=>by have:=lx _ h;omega) (.slice pa m.vals.length pc)) w.heap.size 1 (fun h=>by have:=lx _ h;omega) (.slice pb m.arrs.length pd);have zy:=Oe (Oe yy w.heap.size 0 (fun h=>by have:=ly _ h;omega) (.slice pa m.vals.length pc)) w.heap.size 1 (fun h=>by have:=ly _ h;omega) (.slice pb m.arrs.length pd);have zc:=((Cb (S:=fun q=>q=w.heap.size) E).setCell w.heap.size 0 (.slice pa m.vals.length pc) (fun _=>rfl)).setCell w.heap.size 1 (.slice pb m.arrs.length pd) (fun _=>rfl);go_wp2_with fail
         go_meet
         exact ⟨_,_,x0,x1,xf,zx,zy,zc⟩)
  obtain ⟨w2,rfl⟩:∃ W,W=wc:=⟨_,rfl⟩;obtain ⟨ux,uy,c0,c1,cf,ox,oy,hC⟩:=hcut;have q3:=hC.size;obtain ⟨pa,pc,rfl⟩:=Oh ox;obtain ⟨pb,pd,rfl⟩:=Oh oy;have s0:=Gc hC r0 (by omega);have s1:=Gc hC r1 (by omega);have t0:=Gf hC (by omega) q0 (by omega);have t1:=Gf hC (by omega) q1 (by omega);have p2:=a1.trans (hC.below w.heap.size a1.size (fun q hq h=>by omega));have lx:=ox.lt;have ly:=oy.lt;have g2:=own_diff ox oy (by decide);have s2:=Hi (fun (k:Nat) (u:Value) (r:List Int) (hu:vs[k]? = some u) (hr:m.arrs[k]? = some r) W (hW:Below w.heap.size w W)=>clone_any u r W ((n1 k u r hu hr).below hW) (by obtain ⟨hk,rfl⟩:=List.getElem?_eq_some_iff.1 hr;have:=pre2_all m.arrs k hk m.arrs.length hk;omega));have p3:=w0.1;have kc:=Lc c1;clear HX HY hx w0 n1 D b0 b1 f0 f1 r0 r1 q0 q1 hC;go_wp2_with fail
  go_loopw [16] (fun t wr=>∃ i:Nat,i≤m.arrs.length∧t=.int .i64 i∧(∃ us:List Value,us.length=i∧wr.ownsRow w1.heap.size 23 1 (.slice pb m.arrs.length pd) m.arrs.length (us++vs.drop i)∧(∀ (k:Nat) (u:Value) (r:List Int),us[k]? = some u→m.arrs[k]? = some r→wr.ownsRow w2.heap.size 3 1 u r.length (ints r))∧(∀ (j k:Nat) (u u':Value),us[j]? = some u→us[k]? = some u'→j≠k→∀ q,u.ownBlock=some q→u'.ownBlock=some q→False))∧Chg (fun q=>(Value.slice pb m.arrs.length pd).ownBlock=some q) w2 wr) (fun t _=>m.arrs.length-(intOf t).toNat)
  case atStart=>exact ⟨0,Nat.zero_le _,rfl,⟨[],rfl,by simpa using oy,fun k u r h=>by simp at h,fun j k u u' h=>by simp at h⟩,Chg.refl _ _⟩
  case round =>
    obtain ⟨i,hi,rfl,⟨us,m0,e0,l0,y0⟩,hC⟩:=hrel;have r3:=hC.size;have hB:=p2.trans (hC.below w.heap.size p2.size (fun q hq h=>by have:=ly q h;omega));have c1r:=Gc hC c1 (fun h=>by have:=ly _ h;omega);have s3:=Lc c1r;by_cases hlt:i < m.arrs.length
    · have l1:i < vs.length:=by omega
      have o0:(us++vs.drop i)[i]? = some vs[i]:=by rw [List.getElem?_append_right (by omega),m0,Nat.sub_self,List.getElem?_drop,Nat.add_zero,List.getElem?_eq_getElem l1]
      obtain ⟨g,c',d2⟩:=own_pos e0 (by omega);simp only [Value.slice.injEq,true_and] at d2;obtain ⟨rfl,rfl⟩:=d2;have g0:=e0.cellAt i (by omega);rw [o0] at g0;have b2:=e0.frozenAt i;have HK:=Hi (s2.out i _ _ (List.getElem?_eq_getElem l1) (List.getElem?_eq_getElem hlt));have kg:=Lc g0;have v2:=Hi (fun u'=>set_dropped us vs u' i m0 l1);have d1:=Hi m0;have o3:=ly g rfl;have r2:=Hi (List.getElem?_eq_getElem hlt);generalize vs[i]=u at *
      generalize m.arrs[i]=r at *
      clear o0 m0 c1 kc;go_upto_region 5 with (fail)
      have D:=Bd (Bs wr);go_region_with (go_at_call 55;refine (HK.out _ (btr hB D)).mono ?_;rintro e wb ⟨un,rfl,on,bb⟩;obtain ⟨pn,qn,rfl⟩:=Oh on;have z0:=Kc (btr D bb) g0;have z1:=Kf (btr D bb) kg b2;have zs:=bb.size;have zc:=Kc (btr D bb) c1r)
      all_goals
        have E:=btr D bb;have f2:=((Ob e0 E).stored i (.slice pn r.length qn)).1;rw [v2.out] at f2;have o1:=on.lt;have n3:=D.size;have j3:=Oe (Om on (base':=w2.heap.size) (by omega)) g i (fun h=>by have:=o1 _ h;omega) (.slice pn r.length qn);have x2:=(hC.trans (Cb (S:=fun q=>(Value.slice (some ⟨g,0,none⟩) m.arrs.length pd).ownBlock=some q) E)).setCell g i (.slice pn r.length qn) (fun _=>rfl)
        have t2:=Hi (fun (k:Nat) (x:Value) (y:List Int) (hx:(us++[Value.slice pn r.length qn])[k]? = some x) (hy:m.arrs[k]? = some y)=>show ((wb.setCell ⟨g,i,none⟩ (.slice pn r.length qn)).ownsRow w2.heap.size 3 1 x y.length (ints y)) from by
          by_cases hk:k < us.length
          · rw [List.getElem?_append_left hk] at hx
            have h1:=Ob (l0 k x y hx hy) E;exact Oe h1 g i (fun h=>by have:=h1.lt _ h;omega) (.slice pn r.length qn)
          have e:k=us.length:=by
            have h2:=(List.getElem?_eq_some_iff.1 hx).1;simp at h2;omega
          subst e;rw [List.getElem?_append_right Lr,Nat.sub_self] at hx;obtain rfl:=Si hx;rw [d1.out,r2.out] at hy;obtain rfl:=Si hy;exact j3)
        have q2:=Hi (fun (j k:Nat) (x y:Value) (hx:(us++[Value.slice pn r.length qn])[j]? = some x) (hy:(us++[Value.slice pn r.length qn])[k]? = some y) (hjk:j≠k) (q:Nat) (h1:x.ownBlock=some q) (h2:y.ownBlock=some q)=>show False from by
          have sp:∀ (a:Nat) (z:Value),(us++[Value.slice pn r.length qn])[a]? = some z→us[a]? = some z∨(a=us.length∧z=Value.slice pn r.length qn):=fun a z hz=>by
            by_cases hk:a < us.length
            · rw [List.getElem?_append_left hk] at hz;exact Or.inl hz
            have e:a=us.length:=by
              have h3:=(List.getElem?_eq_some_iff.1 hz).1;simp at h3;omega
            subst e;rw [List.getElem?_append_right Lr,Nat.sub_self] at hz;exact Or.inr ⟨rfl,(Si hz).symm⟩
          have n2:∀ (a:Nat) (z:Value),us[a]? = some z→z.ownBlock=some q→q < wr.heap.size:=fun a z hz h=>by
            have ha:a < m.arrs.length:=by have:=(List.getElem?_eq_some_iff.1 hz).1;have:=d1.out;omega
            exact ((l0 a z _ hz (List.getElem?_eq_getElem ha)).lt q h).2
          rcases sp j x hx with h3 | ⟨h3,rfl⟩
          · rcases sp k y hy with h4 | ⟨h4,rfl⟩
            · exact y0 j k x y h3 h4 hjk q h1 h2
            have:=n2 j x h3 h1;have:=o1 q h2;omega
          rcases sp k y hy with h4 | ⟨h4,rfl⟩
          · have:=n2 k y h4 h2;have:=o1 q h1;omega
          exact hjk (h3.trans h4.symm))
        clear e0 l0 y0 hC HK g0 b2 on;go_wp2
        go_roundw
        case rel=>exact ⟨i+1,by omega,by go_num,⟨us++[.slice pn r.length qn],by rw [List.length_append,d1.out];rfl,f2,t2.out,q2.out⟩,x2⟩
        case measure=>simp [intOf];omega
    have e:i=m.arrs.length:=by omega
    subst e;rw [List.drop_of_length_le (by omega),List.append_nil] at e0;have p0:∀ q,(Value.slice pb m.arrs.length pd).ownBlock=some q→w1.heap.size≤q:=fun q h=>(ly q h).1
    have c0r:=Gc hC c0 (fun h=>by have:=p0 _ h;omega);have s0r:=Gc hC s0 (fun h=>by have:=p0 _ h;omega);have s1r:=Gc hC s1 (fun h=>by have:=p0 _ h;omega);have t0r:=Gf hC (by omega) t0 (fun h=>by have:=p0 _ h;omega);have t1r:=Gf hC (by omega) t1 (fun h=>by have:=p0 _ h;omega);have v1:=Ow ox hC (fun q h h2=>g2 q h h2);have i3:=v1.lt;have z0:=Nn (b:=w.heap.size+1) (j:=1) (Tc _ (w.heap.size+1) 0 (.slice pa m.vals.length pc) s0r) (.slice pb m.arrs.length pd);have z1:=Tc _ (w.heap.size+1) 1 (.slice pb m.arrs.length pd) (Nn (b:=w.heap.size+1) (j:=0) s1r (.slice pa m.vals.length pc));have O2:Own2I wr w1.heap.size (.slice pb m.arrs.length pd) us m.arrs:=⟨m0,e0,fun k u r h1 h2=>Om (l0 k u r h1 h2) (by omega),y0⟩;have lO:=O2.lt;have j1:Chg (fun q=>q=w.heap.size+1) wr ((wr.setCell ⟨w.heap.size+1,0,none⟩ (.slice pa m.vals.length pc)).setCell ⟨w.heap.size+1,1,none⟩ (.slice pb m.arrs.length pd)):=((Chg.refl (fun q=>q=w.heap.size+1) wr).setCell (w.heap.size+1) 0 (.slice pa m.vals.length pc) (fun _=>rfl)).setCell (w.heap.size+1) 1 (.slice pb m.arrs.length pd) (fun _=>rfl);have O3:=(O2.keep j1 (fun q h h2=>by have:=lO q h;omega)).mono (base':=w.heap.size) (by omega);have o2:=Om (Ow v1 j1 (fun q h h2=>by have:=i3 q h;omega)) (base':=w.heap.size) (by omega)
    have n0:∀ q,(Value.slice pa m.vals.length pc).ownBlock=some q→¬OwnB2 (.slice pb m.arrs.length pd) us q:=by
      rintro q h (h2 | ⟨k,u,hu,h2⟩)
      · exact g2 q h h2
      have hk:k < m.arrs.length:=by have:=(List.getElem?_eq_some_iff.1 hu).1;omega
      have h3:=(l0 k u _ hu (List.getElem?_eq_getElem hk)).lt q h2;have h4:=lx q h;omega
    have zB:=bst (bst hB (w.heap.size+1) 0 (by omega) (.slice pa m.vals.length pc)) (w.heap.size+1) 1 (by omega) (.slice pb m.arrs.length pd);have HE:=Hi (Ai o2 (Ai O3 (Ai n0 zB)));clear e0 l0 y0 O2 O3 o2 v1 j1 hC n0 zB m0;go_wp2
    exact bodyPost_ret (v:=.agg #[.slice pa m.vals.length pc,.slice pb m.arrs.length pd]) (by simp [results,Tryz.results27,go_sem,z0,z1]) rfl (by exact ⟨_,_,_,rfl,HE.out.1,HE.out.2.1,HE.out.2.2.1,HE.out.2.2.2⟩)
end Go.Proofs.YtlckklglbodgbaaGreat
