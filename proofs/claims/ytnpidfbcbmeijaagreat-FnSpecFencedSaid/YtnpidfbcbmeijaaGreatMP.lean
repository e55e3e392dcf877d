/-
  Parts of the proofs of the laws FnRemoveDead,FnRemoveDeadLeak,FnSpecFenced,FnSpecMemory.
-/
import Derived.Test.YtnpidfbcbmeijaaGreatVV
set_option linter.all false
namespace Go.Proofs.YtnpidfbcbmeijaaGreat
open Go.RowKit
structure Mm where
  vals:List Int
  arrs:List (List Int)
deriving DecidableEq
structure Ms where
  pc:Int
  regs:List Int
  mem:Mm
deriving DecidableEq
def valOk (n:Int):Bool:=wi n 0 255
def valsOk (xs:List Int):Bool:=xs.all valOk
def memOk (nv na:Nat) (m:Mm):Bool:=decide (m.vals.length=nv)&&(decide (m.arrs.length=na)&&(valsOk m.vals&&m.arrs.all (fun a=>decide (a.length=4)&&valsOk a)))
def gi (xs:List Int) (i:Int):Int:=(xs[i.toNat]?).getD 0
def gr (rs:List (List Int)) (i:Int):List Int:=(rs[i.toNat]?).getD []
def tru (b:Bool):Int:=if b then 1 else 0
def opr (k a b:Int):Int:=
  if k=4 then (a+b) % 256 else if k=5 then (a-b+256) % 256 else if k=6 then (a*b) % 256 else if k=7 then bits .and .i64 a b else if k=8 then bits .xor .i64 a b
  else if k=9 then tru (a == b) else tru (decide (a < b))
def adr (a i:Int):Int:=a*4+i % 4
def stRegs (x:Ins) (s:Ms):List Int:=
  if x.op=1 then s.regs.set x.a.toNat x.b
  else if x.op=2 then s.regs.set x.a.toNat (gi s.mem.vals x.b)
  else if x.op=4 then s.regs.set x.a.toNat (gi (gr s.mem.arrs x.b) (gi s.regs x.c % 4))
  else if x.op=6 then s.regs.set x.a.toNat (opr x.b (gi s.regs x.c) (gi s.regs x.d))
  else if x.op=7 then s.regs.set x.a.toNat (if gi s.regs x.b≠0 then gi s.regs x.c else gi s.regs x.d)
  else if x.op=10 then s.regs.set x.a.toNat ((gi s.regs x.a+255) % 256)
  else s.regs
def stMem (x:Ins) (s:Ms):Mm:=
  if x.op=3 then ⟨s.mem.vals.set x.a.toNat (gi s.regs x.b),s.mem.arrs⟩
  else if x.op=5 then ⟨s.mem.vals,s.mem.arrs.set x.a.toNat ((gr s.mem.arrs x.a).set (gi s.regs x.b % 4).toNat (gi s.regs x.c))⟩
  else s.mem
def stPc (x:Ins) (s:Ms):Int:=
  if x.op=8 then x.a
  else if x.op=9 then (if gi s.regs x.a=0 then x.b else s.pc+1)
  else if x.op=10 then (if (gi s.regs x.a+255) % 256≠0 then x.b else s.pc+1)
  else if x.op=13 then s.pc
  else s.pc+1
def stEvs (x:Ins) (s:Ms):List Ev:=
  (5,s.pc)::(if x.op=4 then [(2,adr x.b (gi s.regs x.c))] else if x.op=5 then [(3,adr x.a (gi s.regs x.b))] else if x.op=11 then [(4,gi s.regs x.a)] else [])
def stp (x:Ins) (s:Ms):Ms:=⟨stPc x s,stRegs x s,stMem x s⟩
def insAt (c:Cd) (pc:Int):Ins:=(c.list[pc.toNat]?).getD ⟨13,0,0,0,0⟩
structure MsOk (c:Cd) (s:Ms):Prop where
  pc0:0≤s.pc
  pc1:s.pc < c.list.length
  regs:s.regs.length=14
  rv:∀ n ∈ s.regs,0≤n∧n < 256
  mem:memOk c.vars.length c.arrays.length s.mem=true
theorem vals_all {xs:List Int} (h:∀ j (h:j < xs.length),valOk xs[j]=true):valsOk xs=true:=by
  unfold valsOk;rw [List.all_eq_true]
  intro x hx;obtain ⟨j,hj,rfl⟩:=List.getElem_of_mem hx;exact h j hj
theorem vals_no {xs:List Int} {j:Nat} (h:j < xs.length) (hx:valOk xs[j]=false):valsOk xs=false:=by
  unfold valsOk;rw [List.all_eq_false]
  exact ⟨_,List.getElem_mem h,by simp [hx]⟩
theorem notVal_any (n:Int) (w:World) :
    Calls Tryz.prog 129 #[.int .i64 n] w fun e w'=>e=.returned (.bool (!valOk n))∧Below w.heap.size w w':=by
  go_enter Tryz.func129,Tryz.ntmps129
  go_wp2_with fail
  refine (within_any n 0 255 _).mono ?_;rintro e w1 ⟨rfl,hb⟩;go_wp2
  go_ret
  exact ⟨rfl,hb⟩
theorem idxVal_any (v:Value) (xs:List Int) (w:World) (hr:Reads w 1 v xs.length (ints xs)) :
    Calls Tryz.prog 134 #[v,.func (.func 129) #[] #[]] w fun e w'=>∃ r:Int,e=.returned (.int .i64 r)∧decide (0≤r)=!valsOk xs∧Below w.heap.size w w':=by
  obtain ⟨_,hn,a,i0,b,h0,rfl,g0,ha,e0⟩:=hr;go_enter Tryz.func134,Tryz.ntmps134
  go_wp2
  go_loopw [8] (fun i wr=>∃ k:Nat,k≤xs.length∧i=.int .i64 k∧(∀ j (h:j < xs.length),j < k→valOk xs[j]=true)∧Below w.heap.size w wr) (fun i _=>xs.length-(intOf i).toNat)
  case atStart=>exact ⟨0,Nat.zero_le _,rfl,fun j _ h=>absurd h (by omega),Below.refl _ _⟩
  case round =>
    obtain ⟨k,hk,rfl,b0,a0⟩:=hrel;have HA:=Hi b0;clear b0;by_cases hlt:k < xs.length
    · obtain ⟨rfl,f0⟩:=ha (by omega)
      have c0:=e0 k (by simpa [ints] using hlt);rw [ints_get] at c0;have c0:=(a0.cell (p:=⟨b,h0+k,none⟩) f0).trans c0;clear e0 ha;generalize hx:xs[k]=x at c0
      have HX:=Hi hx;clear hx;go_wp2_with fail
      refine (notVal_any x _).mono ?_;rintro e w1 ⟨rfl,hb⟩;have d0:=btr a0 hb
      cases hok:valOk x with
      | true =>
        have HO:=Hi hok;clear hok hb a0;go_wp2
        go_roundw
        case rel=>exact ⟨k+1,by omega,by go_num,all_succ (P:=fun j x=>valOk x=true) hlt HA.out (by rw [HX.out];exact HO.out),d0⟩
        case measure=>simp [intOf];omega
      | false =>
        have HO:=Hi hok;clear hok hb a0;go_wp2
        go_ret
        exact ⟨(k:Int),rfl,by rw [vals_no hlt (by rw [HX.out];exact HO.out)];simp,d0⟩
    go_wp2
    go_ret
    exact ⟨-1,rfl,by rw [vals_all (fun j h=>HA.out j h (by omega))];rfl,a0⟩
theorem hasVal_any (v:Value) (xs:List Int) (w:World) (hr:Reads w 1 v xs.length (ints xs)) :
    Calls Tryz.prog 121 #[v,.func (.func 129) #[] #[]] w fun e w'=>e=.returned (.bool (!valsOk xs))∧Below w.heap.size w w':=by
  go_enter Tryz.func121,Tryz.ntmps121
  go_wp2_with fail
  refine (idxVal_any _ xs _ hr).mono ?_;rintro e w1 ⟨r,rfl,a0,hb⟩;clear hr;go_wp2
  go_ret
  exact ⟨rfl,hb⟩
theorem areValues_any (v:Value) (xs:List Int) (w:World) (hr:Reads w 1 v xs.length (ints xs)) :
    Calls Tryz.prog 109 #[v] w fun e w'=>e=.returned (.bool (valsOk xs))∧Below w.heap.size w w':=by
  go_enter Tryz.func109,Tryz.ntmps109
  go_wp2_with fail
  refine (hasVal_any _ xs _ hr).mono ?_;rintro e w1 ⟨rfl,hb⟩;clear hr;go_wp2
  go_ret
  exact ⟨ret_bool (by simp),hb⟩
def arrOk (a:List Int):Bool:=decide (a.length=4)&&valsOk a
def arrsOk (rs:List (List Int)):Bool:=rs.all arrOk
theorem memOk_eq (nv na:Nat) (m:Mm):memOk nv na m=(decide (m.vals.length=nv)&&(decide (m.arrs.length=na)&&(valsOk m.vals&&arrsOk m.arrs))):=rfl
theorem arrs_no {L:List (List Int)} {k:Nat} (h:k < L.length) (h2:arrOk L[k]=false):arrsOk L=false:=by
  unfold arrsOk;rw [List.all_eq_false]
  exact ⟨_,List.getElem_mem h,by simp [h2]⟩
theorem arrs_yes {L:List (List Int)} (h:∀ k (hk:k < L.length),arrOk L[k]=true):arrsOk L=true:=by
  unfold arrsOk;rw [List.all_eq_true]
  intro r hr;obtain ⟨k,hk,rfl⟩:=List.getElem_of_mem hr;exact h k hk
theorem arrOk_len {a:List Int} (h:¬a.length=4):arrOk a=false:=by unfold arrOk;rw [decide_eq_false h];rfl
theorem arrOk_vals {a:List Int} (h:a.length=4):arrOk a=valsOk a:=by unfold arrOk;rw [decide_eq_true h];rfl
theorem notArr_any (u:Value) (xs:List Int) (w:World) (hu:Reads w 1 u xs.length (ints xs)) :
    Calls Tryz.prog 111 #[u] w fun e w'=>e=.returned (.bool (!arrOk xs))∧Below w.heap.size w w':=by
  have a0:=hu;obtain ⟨a,c,rfl⟩:=reads_shape hu;have hn:=hu.2.1;by_cases h:xs.length=4
  · have hd:((xs.length:Int) != 4)=false:=by simp;omega
    have HA:=Hi (arrOk_vals h);have HR:=Hi a0;clear h hu a0;go_enter Tryz.func111,Tryz.ntmps111
    go_wp2_with fail
    refine (areValues_any _ xs _ HR.out).mono ?_;rintro e w1 ⟨rfl,hb⟩;go_wp2
    go_ret
    exact ⟨ret_bool (by rw [HA.out]),hb⟩
  have hd:((xs.length:Int) != 4)=true:=by simp;omega
  have HA:=Hi (arrOk_len h);clear h hu a0;go_enter Tryz.func111,Tryz.ntmps111
  go_wp2
  go_ret
  exact ⟨ret_bool (by rw [HA.out];rfl),Bs w⟩
theorem idxArr_any (v:Value) (L:List (List Int)) (w:World) (hr:Reads2 ints w v L) :
    Calls Tryz.prog 130 #[v,.func (.func 111) #[] #[]] w fun e w'=>∃ r:Int,e=.returned (.int .i64 r)∧decide (0≤r)=!arrsOk L∧Below w.heap.size w w':=by
  obtain ⟨a,c,rfl⟩:=hr.shape;have hn:=hr.lenle;have HR:=Hi hr;clear hr;go_enter Tryz.func130,Tryz.ntmps130
  go_wp2
  go_loopw [8] (fun i wr=>∃ k:Nat,k≤L.length∧i=.int .i64 k∧(∀ j (h:j < L.length),j < k→arrOk L[j]=true)∧Below w.heap.size w wr) (fun i _=>L.length-(intOf i).toNat)
  case atStart=>exact ⟨0,Nat.zero_le _,rfl,fun j _ h=>absurd h (by omega),Bs w⟩
  case round =>
    obtain ⟨k,hk,rfl,b0,a0⟩:=hrel;have HA:=Hi b0;clear b0;by_cases hlt:k < L.length
    · obtain ⟨b,e0,u,rfl,hb,hc,hu⟩:=(HR.out.below a0).at k hlt
      have HN:=Hi (fun h=>arrs_no hlt h)
      have HY:Hid (arrOk L[k]=true→∀ j (h:j < L.length),j < k+1→arrOk L[j]=true):=Hi (fun h j hj hlt2=>by
        by_cases e:j=k
        · subst e;exact h
        exact HA.out j hj (by omega))
      have kc:=Lc hc;have HU:=Hi (notArr_any u L[k] _ hu);generalize arrOk L[k]=q at *
      clear hu;go_wp2_with fail
      refine HU.out.mono ?_;rintro e w1 ⟨rfl,c0⟩;have d0:=btr a0 c0;clear hc HU
      cases q with
      | true =>
        clear c0 a0;go_wp2
        go_roundw
        case rel=>exact ⟨k+1,by omega,by go_num,HY.out (by trivial),d0⟩
        case measure=>simp [intOf];omega
      | false =>
        clear c0 a0;go_wp2
        go_ret
        exact ⟨(k:Int),rfl,by rw [HN.out (by trivial)];simp,d0⟩
    go_wp2
    go_ret
    exact ⟨-1,rfl,by rw [arrs_yes (fun j h=>HA.out j h (by omega))];rfl,a0⟩
theorem hasArr_any (v:Value) (L:List (List Int)) (w:World) (hr:Reads2 ints w v L) :
    Calls Tryz.prog 110 #[v,.func (.func 111) #[] #[]] w fun e w'=>e=.returned (.bool (!arrsOk L))∧Below w.heap.size w w':=by
  go_enter Tryz.func110,Tryz.ntmps110
  go_wp2_with fail
  refine (idxArr_any _ L _ hr).mono ?_;rintro e w1 ⟨r,rfl,d0,hb⟩;clear hr;go_wp2
  go_ret
  exact ⟨rfl,hb⟩
set_option maxHeartbeats 1600000 in
theorem isMemory_any (va vb vx vy:Value) (xs ys:List Int) (m:Mm) (w:World) (ha:Reads w 1 va xs.length (ints xs)) (hb:Reads w 1 vb ys.length (ints ys)) (hx:Reads w 1 vx m.vals.length (ints m.vals)) (hy:Reads2 ints w vy m.arrs) :
    Calls Tryz.prog 79 #[va,vb,.agg #[vx,vy]] w fun e w'=>e=.returned (.bool (memOk xs.length ys.length m))∧Below w.heap.size w w':=by
  have n0:=ha.2.1;have n1:=hb.2.1;have n2:=hx.2.1;have n3:=hy.lenle;obtain ⟨a0,c0,rfl⟩:=reads_shape ha;obtain ⟨a1,c1,rfl⟩:=reads_shape hb;have HX:=Hi hx;have HY:=Hi hy;obtain ⟨a2,c2,rfl⟩:=reads_shape hx;obtain ⟨a3,c3,rfl⟩:=hy.shape;clear ha hb hx hy;have HD:=Hi (memOk_eq xs.length ys.length m);generalize memOk xs.length ys.length m=D at *
  have b0:=bal (Bs w) (.cells #[.slice a2 m.vals.length c2,.slice a3 m.arrs.length c3] 29);by_cases h1:m.vals.length=xs.length
  rotate_left
  · have e1:((m.vals.length:Int) != (xs.length:Int))=true:=by simp;omega
    have H1:=Hi h1;clear h1;go_enter Tryz.func79,Tryz.ntmps79
    go_wp2
    go_ret
    exact ⟨ret_bool (by rw [HD.out,decide_eq_false H1.out];rfl),b0⟩
  have e1:((m.vals.length:Int) != (xs.length:Int))=false:=by simp;omega
  have H1:=Hi h1;clear h1;by_cases h2:m.arrs.length=ys.length
  rotate_left
  · have e2:((m.arrs.length:Int) != (ys.length:Int))=true:=by simp;omega
    have H2:=Hi h2;clear h2;go_enter Tryz.func79,Tryz.ntmps79
    go_wp2
    go_ret
    exact ⟨ret_bool (by rw [HD.out,decide_eq_true H1.out,decide_eq_false H2.out];rfl),b0⟩
  have e2:((m.arrs.length:Int) != (ys.length:Int))=false:=by simp;omega
  have H2:=Hi h2;clear h2;go_enter Tryz.func79,Tryz.ntmps79
  go_wp2_with fail
  refine (areValues_any _ m.vals _ (HX.out.below b0)).mono ?_;rintro e w1 ⟨rfl,hb⟩;have b1:w1.cell? ⟨w.heap.size,1,none⟩=some (.slice a3 m.arrs.length c3):=Kc hb (Wc (by simp) (by rfl));have kb:=Lc b1;replace b0:=btr b0 hb;clear hb;generalize valsOk m.vals=q at *
  cases q with
  | false =>
    go_wp2
    go_ret
    exact ⟨ret_bool (by rw [HD.out,decide_eq_true H1.out,decide_eq_true H2.out];rfl),b0⟩
  | true =>
    go_wp2_with fail
    refine (hasArr_any _ m.arrs _ (HY.out.below b0)).mono ?_;rintro e w2 ⟨rfl,hb⟩;go_wp2
    go_ret
    exact ⟨ret_bool (by rw [HD.out,decide_eq_true H1.out,decide_eq_true H2.out];simp),btr b0 hb⟩
theorem info_ints:(Tryz.prog.info? 23).map (fun i=>(i.zero,i.size,i.bytes))=some (some (.slice none 0 0),1,24):=by kernel_rfl
theorem tIntSS:SliceT Tryz.prog 27 23 (.slice none 0 0) 1 24:=⟨Tryz.underlying27,info_ints,rfl,by omega,by omega⟩
abbrev Own2I:=Own2 ints 3 23
theorem clone2_any (v:Value) (n:Nat) (vs:List Value) (w:World) (hr:Reads w 1 v n vs) (h1:∀ u ∈ vs,u.oneCell'=true) (hsz:n≤1073741824) :
    Calls Tryz.prog 131 #[v] w fun e w'=>∃ u,e=.returned u∧w'.ownsRow w.heap.size 23 1 u n vs∧Below w.heap.size w w':=by
  have b2:=hr;have x2:=fun w a n c=>Lib.run_eql_slice_nil (P:=Tryz.prog) w 27 23 a n c 0 0 Tryz.underlying27
  obtain ⟨hl,hn,a,j3,b,q3,rfl,⟨v2,u0⟩,ha,u2⟩:=hr
  cases a with
  | none =>
    have h0:=u0 rfl;have h2:vs=[]:=List.eq_nil_of_length_eq_zero (by omega);have h3:n=0:=by omega
    subst h2 h0 h3;go_enter Tryz.func131,Tryz.ntmps131
    go_wp2
    go_ret
    exact ⟨_,rfl,World.ownsRow_nil _ _ _ _,Below.refl _ _⟩
  | some a =>
    have j0:=own_nil_made w 23;have z2:=b2.below ((Below.refl w.heap.size w).alloc Lr (.cells #[] 23));have HL:=Hi hl;clear b2 ha u2 u0 hl;go_enter Tryz.func131,Tryz.ntmps131
    go_wp2_with (at_builtin;refine wpList_aps tIntSS rfl _ _ rfl w.heap.size _ 0 [] rfl j0 _ _ _ rfl z2 h1 (by omega) ?c1 ?_)
    case c1=>simp
    intro v' w' ho' hc' hn' _;have hb:=((Below.refl w.heap.size w).alloc Lr (.cells #[] 23)).trans (hc'.below w.heap.size (by simp) (fun k hk=>not_own j0 hk));obtain ⟨pa,pc,rfl⟩:=Oh ho';clear hc' hn' x2 j0;go_wp2
    go_ret
    exact ⟨_,rfl,ho',hb⟩
set_option maxHeartbeats 6400000 in
theorem memOwn_any (vx vy:Value) (m:Mm) (w:World) (hx:Reads w 1 vx m.vals.length (ints m.vals)) (hy:Reads2 ints w vy m.arrs) (hl:m.vals.length≤1048576) (hn:m.arrs.length≤1048576) (hp:pre2 m.arrs m.arrs.length≤1048576) :
    Calls Tryz.prog 112 #[.agg #[vx,vy]] w fun e w'=>∃ ux uy us,e=.returned (.agg #[ux,uy])∧w'.ownsRow w.heap.size 3 1 ux m.vals.length (ints m.vals)∧Own2I w' w.heap.size uy us m.arrs∧(∀ q,ux.ownBlock=some q→¬OwnB2 uy us q)∧Below w.heap.size w w':=by
  obtain ⟨vs,v0,m1⟩:=hy;obtain ⟨a2,c2,rfl⟩:=reads_shape hx;obtain ⟨a3,c3,rfl⟩:=reads_shape v0
  have l1:∀ u ∈ vs,u.oneCell'=true:=by
    intro u hu;obtain ⟨k,hk,rfl⟩:=List.getElem_of_mem hu;have y2:k < m.arrs.length:=by have:=v0.1;omega
    exact reads_one (m1 k _ _ (List.getElem?_eq_getElem hk) (List.getElem?_eq_getElem y2))
  obtain ⟨w1,i0⟩:∃ X,X=(w.alloc (.cells #[.slice a2 m.vals.length c2,.slice a3 m.arrs.length c3] 29)).alloc (.cells #[.slice none 0 0,.slice none 0 0] 29):=⟨_,rfl⟩;have y0:Below w.heap.size w w1:=by rw [i0];exact bal (bal (Bs w) _) _
  have f2:w1.heap.size=w.heap.size+1+1:=by rw [i0];simp
  have b0:w1.cell? ⟨w.heap.size,0,none⟩=some (.slice a2 m.vals.length c2):=by rw [i0];exact Ac (Wc rfl rfl) _
  have b1:w1.cell? ⟨w.heap.size,1,none⟩=some (.slice a3 m.arrs.length c3):=by rw [i0];exact Ac (Wc rfl rfl) _
  have f0:w1.frozen? ⟨w.heap.size,0,none⟩=false:=by rw [i0];exact Fa (by simp) (Fn rfl) _
  have f1:w1.frozen? ⟨w.heap.size,1,none⟩=false:=by rw [i0];exact Fa (by simp) (Fn rfl) _
  have r0:w1.cell? ⟨w.heap.size+1,0,none⟩=some (.slice none 0 0):=by rw [i0];exact Wc (by simp) rfl
  have r1:w1.cell? ⟨w.heap.size+1,1,none⟩=some (.slice none 0 0):=by rw [i0];exact Wc (by simp) rfl
  have q0:w1.frozen? ⟨w.heap.size+1,0,none⟩=false:=by rw [i0];exact Fn (by simp)
  have q1:w1.frozen? ⟨w.heap.size+1,1,none⟩=false:=by rw [i0];exact Fn (by simp)
  have k1:=Lc b1;have k0:=Lc b0;have HW:=Hi i0;have HZ:=Hi f2;have hz1':w.heap.size+2≤w1.heap.size:=by omega
  clear i0 f2;have HX:=Hi (fun W (hW:Below w1.heap.size w1 W)=>clone_any _ m.vals W (hx.below (btr y0 hW)) (by omega));have HY:=Hi (fun W (hW:Below w1.heap.size w1 W)=>clone2_any _ m.arrs.length vs W (v0.below (btr y0 hW)) l1 (by omega));go_enter Tryz.func112,Tryz.ntmps112
  go_upto_region 1 with (fail)
  rw [← HW.out];clear HW;have D:=Bd (Bs w1);go_cut [10] (fun s wx=>∃ ux uy,wx.cell? ⟨w.heap.size,0,none⟩=some ux∧wx.cell? ⟨w.heap.size,1,none⟩=some uy∧wx.frozen? ⟨w.heap.size,1,none⟩=false∧wx.ownsRow w1.heap.size 3 1 ux m.vals.length (ints m.vals)∧wx.ownsRow w1.heap.size 23 1 uy m.arrs.length vs∧Chg (fun q=>q=w.heap.size) w1 wx)
  case first =>
    go_region_with (first | (go_at_call 74;refine (HX.out _ (btr D d0)).mono ?_;rintro e g3 ⟨ux,rfl,ox,a0⟩;obtain ⟨pa,pc,rfl⟩:=Oh ox;have g0ux2:=Kc (btr (btr D d0) a0) b0;have g1ux2:=Kc (btr (btr D d0) a0) b1;have h0ux2:=Kf (btr (btr D d0) a0) k0 f0;have h1ux2:=Kf (btr (btr D d0) a0) k0 f1;have i2:=Lc g0ux2) | (go_at_call 74;refine (HX.out _ D).mono ?_;rintro e g3 ⟨ux,rfl,ox,a0⟩;obtain ⟨pa,pc,rfl⟩:=Oh ox;have g0ux1:=Kc (btr D a0) b0;have g1ux1:=Kc (btr D a0) b1;have h0ux1:=Kf (btr D a0) k0 f0;have h1ux1:=Kf (btr D a0) k0 f1;have g2:=Lc g0ux1) | (go_at_call 131;refine (HY.out _ (btr D a0)).mono ?_;rintro e i3 ⟨uy,rfl,oy,d0⟩;obtain ⟨pb,pd,rfl⟩:=Oh oy;have g0uy2:=Kc (btr (btr D a0) d0) b0;have g1uy2:=Kc (btr (btr D a0) d0) b1;have h0uy2:=Kf (btr (btr D a0) d0) k0 f0;have h1uy2:=Kf (btr (btr D a0) d0) k0 f1;have k2:=Lc g0uy2) | (go_at_call 131;refine (HY.out _ D).mono ?_;rintro e i3 ⟨uy,rfl,oy,d0⟩;obtain ⟨pb,pd,rfl⟩:=Oh oy;have g0uy1:=Kc (btr D d0) b0;have g1uy1:=Kc (btr D d0) b1;have h0uy1:=Kf (btr D d0) k0 f0;have h1uy1:=Kf (btr D d0) k0 f1;have j2:=Lc g0uy1))
    all_goals
      first
      | (have E:=btr (btr D a0) d0
         have o1:=Ob ox d0;have u1:=oy;have d1:=g0uy2;have e1:=g1uy2;have g1:=h1uy2;have d3:=E.size;have b3:=a0.size;have x0:=Nn (b:=w.heap.size) (j:=1) (Tc _ w.heap.size 0 (.slice pa m.vals.length pc) d1) (.slice pb m.arrs.length pd);have x1:=Tc _ w.heap.size 1 (.slice pb m.arrs.length pd) (Nn (b:=w.heap.size) (j:=0) e1 (.slice pa m.vals.length pc));have xf:=Fs (b:=⟨w.heap.size,1,none⟩) (Fs (b:=⟨w.heap.size,0,none⟩) g1 (.slice pa m.vals.length pc)) (.slice pb m.arrs.length pd);have yx:=Om o1 (base':=w1.heap.size) (by have:=D.size;omega);have yy:=Om u1 (base':=w1.heap.size) (by have:=D.size;omega);have lx:=yx.lt;have ly:=yy.lt;have zx:=Oe (Oe yx w.heap.size 0 (fun h=>by have:=lx _ h;omega) (.slice pa m.vals.length pc)) w.heap.size 1 (fun h=>by have:=lx _ h;omega) (.slice pb m.arrs.length pd);have zy:=Oe (Oe yy w.heap.size 0 (fun h=>by have:=ly _ h;omega) (.slice pa m.vals.length pc)) w.heap.size 1 (fun h=>by have:=ly _ h;omega) (.slice pb m.arrs.length pd);have zc:=((Cb (S:=fun q=>q=w.heap.size) E).setCell w.heap.size 0 (.slice pa m.vals.length pc) (fun _=>rfl)).setCell w.heap.size 1 (.slice pb m.arrs.length pd) (fun _=>rfl);go_wp2_with fail
         go_meet
         exact ⟨_,_,x0,x1,xf,zx,zy,zc⟩)
      | (have E:=btr (btr D d0) a0
         have o1:=ox;have u1:=Ob oy a0;have d1:=g0ux2;have e1:=g1ux2;have g1:=h1ux2;have d3:=E.size;have b3:=d0.size;have x0:=Nn (b:=w.heap.size) (j:=1) (Tc _ w.heap.size 0 (.slice pa m.vals.length pc) d1) (.slice pb m.arrs.length pd);have x1:=Tc _ w.heap.size 1 (.slice pb m.arrs.length pd) (Nn (b:=w.heap.size) (j:=0) e1 (.slice pa m.vals.length pc));have xf:=Fs (b:=⟨w.heap.size,1,none⟩) (Fs (b:=⟨w.heap.size,0,none⟩) g1 (.slice pa m.vals.length pc)) (.slice pb m.arrs.length pd);have yx:=Om o1 (base':=w1.heap.size) (by have:=D.size;omega);have yy:=Om u1 (base':=w1.heap.size) (by have:=D.size;omega);have lx:=yx.lt;have ly:=yy.lt;have zx:=Oe (Oe yx w.heap.size 0 (fun h=>by have:=lx _ h;omega) (.slice pa m.vals.length pc)) w.heap.size 1 (fun h=>by have:=lx _ h;omega) (.slice pb m.arrs.length pd);have zy:=Oe (Oe yy w.heap.size 0 (fun h=>by have:=ly _ h;omega) (.slice pa m.vals.length pc)) w.heap.size 1 (fun h=>by have:=ly _ h;omega) (.slice pb m.arrs.length pd);have zc:=((Cb (S:=fun q=>q=w.heap.size) E).setCell w.heap.size 0 (.slice pa m.vals.length pc) (fun _=>rfl)).setCell w.heap.size 1 (.slice pb m.arrs.length pd) (fun _=>rfl);go_wp2_with fail
         go_meet
         exact ⟨_,_,x0,x1,xf,zx,zy,zc⟩)
  obtain ⟨w2,rfl⟩:∃ W,W=wc:=⟨_,rfl⟩;obtain ⟨ux,uy,c0,c1,cf,ox,oy,hC⟩:=hcut;have n3:=hC.size;obtain ⟨pa,pc,rfl⟩:=Oh ox;obtain ⟨pb,pd,rfl⟩:=Oh oy;have s0:=Gc hC r0 (by omega);have s1:=Gc hC r1 (by omega);have t0:=Gf hC (by omega) q0 (by omega);have t1:=Gf hC (by omega) q1 (by omega);have n2:=y0.trans (hC.below w.heap.size y0.size (fun q hq h=>by omega));have lx:=ox.lt;have ly:=oy.lt;have e2:=own_diff ox oy (by decide);have q2:=Hi (fun (k:Nat) (u:Value) (r:List Int) (hu:vs[k]? = some u) (hr:m.arrs[k]? = some r) W (hW:Below w.heap.size w W)=>clone_any u r W ((m1 k u r hu hr).below hW) (by obtain ⟨hk,rfl⟩:=List.getElem?_eq_some_iff.1 hr;have:=pre2_all m.arrs k hk m.arrs.length hk;omega));have m3:=v0.1;have kc:=Lc c1;clear HX HY hx v0 m1 D b0 b1 f0 f1 r0 r1 q0 q1 hC;go_wp2_with fail
  go_loopw [16] (fun t wr=>∃ i:Nat,i≤m.arrs.length∧t=.int .i64 i∧(∃ us:List Value,us.length=i∧wr.ownsRow w1.heap.size 23 1 (.slice pb m.arrs.length pd) m.arrs.length (us++vs.drop i)∧(∀ (k:Nat) (u:Value) (r:List Int),us[k]? = some u→m.arrs[k]? = some r→wr.ownsRow w2.heap.size 3 1 u r.length (ints r))∧(∀ (j k:Nat) (u u':Value),us[j]? = some u→us[k]? = some u'→j≠k→∀ q,u.ownBlock=some q→u'.ownBlock=some q→False))∧Chg (fun q=>(Value.slice pb m.arrs.length pd).ownBlock=some q) w2 wr) (fun t _=>m.arrs.length-(intOf t).toNat)
  case atStart=>exact ⟨0,Nat.zero_le _,rfl,⟨[],rfl,by simpa using oy,fun k u r h=>by simp at h,fun j k u u' h=>by simp at h⟩,Chg.refl _ _⟩
  case round =>
    obtain ⟨i,hi,rfl,⟨us,m0,e0,l0,w0⟩,hC⟩:=hrel;have o3:=hC.size;have hB:=n2.trans (hC.below w.heap.size n2.size (fun q hq h=>by have:=ly q h;omega));have c1r:=Gc hC c1 (fun h=>by have:=ly _ h;omega);have p3:=Lc c1r;by_cases hlt:i < m.arrs.length
    · have j1:i < vs.length:=by omega
      have o0:(us++vs.drop i)[i]? = some vs[i]:=by rw [List.getElem?_append_right (by omega),m0,Nat.sub_self,List.getElem?_drop,Nat.add_zero,List.getElem?_eq_getElem j1]
      obtain ⟨g,c',y1⟩:=own_pos e0 (by omega);simp only [Value.slice.injEq,true_and] at y1;obtain ⟨rfl,rfl⟩:=y1;have g0:=e0.cellAt i (by omega);rw [o0] at g0;have v1:=e0.frozenAt i;have HK:=Hi (q2.out i _ _ (List.getElem?_eq_getElem j1) (List.getElem?_eq_getElem hlt));have kg:=Lc g0;have s2:=Hi (fun u'=>set_dropped us vs u' i m0 j1);have a1:=Hi m0;have l3:=ly g rfl;have p2:=Hi (List.getElem?_eq_getElem hlt);generalize vs[i]=u at *
      generalize m.arrs[i]=r at *
      clear o0 m0 c1 kc;go_upto_region 5 with (fail)
      have D:=Bd (Bs wr);go_region_with (go_at_call 74;refine (HK.out _ (btr hB D)).mono ?_;rintro e wb ⟨un,rfl,on,bb⟩;obtain ⟨pn,qn,rfl⟩:=Oh on;have z0:=Kc (btr D bb) g0;have z1:=Kf (btr D bb) kg v1;have zs:=bb.size;have zc:=Kc (btr D bb) c1r)
      all_goals
        have E:=btr D bb;have d2:=((Ob e0 E).stored i (.slice pn r.length qn)).1;rw [s2.out] at d2;have n1:=on.lt;have k3:=D.size;have f3:=Oe (Om on (base':=w2.heap.size) (by omega)) g i (fun h=>by have:=n1 _ h;omega) (.slice pn r.length qn);have t2:=(hC.trans (Cb (S:=fun q=>(Value.slice (some ⟨g,0,none⟩) m.arrs.length pd).ownBlock=some q) E)).setCell g i (.slice pn r.length qn) (fun _=>rfl)
        have r2:=Hi (fun (k:Nat) (x:Value) (y:List Int) (hx:(us++[Value.slice pn r.length qn])[k]? = some x) (hy:m.arrs[k]? = some y)=>show ((wb.setCell ⟨g,i,none⟩ (.slice pn r.length qn)).ownsRow w2.heap.size 3 1 x y.length (ints y)) from by
          by_cases hk:k < us.length
          · rw [List.getElem?_append_left hk] at hx
            have h1:=Ob (l0 k x y hx hy) E;exact Oe h1 g i (fun h=>by have:=h1.lt _ h;omega) (.slice pn r.length qn)
          have e:k=us.length:=by
            have h2:=(List.getElem?_eq_some_iff.1 hx).1;simp at h2;omega
          subst e;rw [List.getElem?_append_right Lr,Nat.sub_self] at hx;obtain rfl:=Si hx;rw [a1.out,p2.out] at hy;obtain rfl:=Si hy;exact f3)
        have o2:=Hi (fun (j k:Nat) (x y:Value) (hx:(us++[Value.slice pn r.length qn])[j]? = some x) (hy:(us++[Value.slice pn r.length qn])[k]? = some y) (hjk:j≠k) (q:Nat) (h1:x.ownBlock=some q) (h2:y.ownBlock=some q)=>show False from by
          have sp:∀ (a:Nat) (z:Value),(us++[Value.slice pn r.length qn])[a]? = some z→us[a]? = some z∨(a=us.length∧z=Value.slice pn r.length qn):=fun a z hz=>by
            by_cases hk:a < us.length
            · rw [List.getElem?_append_left hk] at hz;exact Or.inl hz
            have e:a=us.length:=by
              have h3:=(List.getElem?_eq_some_iff.1 hz).1;simp at h3;omega
            subst e;rw [List.getElem?_append_right Lr,Nat.sub_self] at hz;exact Or.inr ⟨rfl,(Si hz).symm⟩
          have l2:∀ (a:Nat) (z:Value),us[a]? = some z→z.ownBlock=some q→q < wr.heap.size:=fun a z hz h=>by
            have ha:a < m.arrs.length:=by have:=(List.getElem?_eq_some_iff.1 hz).1;have:=a1.out;omega
            exact ((l0 a z _ hz (List.getElem?_eq_getElem ha)).lt q h).2
          rcases sp j x hx with h3 | ⟨h3,rfl⟩
          · rcases sp k y hy with h4 | ⟨h4,rfl⟩
            · exact w0 j k x y h3 h4 hjk q h1 h2
            have:=l2 j x h3 h1;have:=n1 q h2;omega
          rcases sp k y hy with h4 | ⟨h4,rfl⟩
          · have:=l2 k y h4 h2;have:=n1 q h1;omega
          exact hjk (h3.trans h4.symm))
        clear e0 l0 w0 hC HK g0 v1 on;go_wp2
        go_roundw
        case rel=>exact ⟨i+1,by omega,by go_num,⟨us++[.slice pn r.length qn],by rw [List.length_append,a1.out];rfl,d2,r2.out,o2.out⟩,t2⟩
        case measure=>simp [intOf];omega
    have e:i=m.arrs.length:=by omega
    subst e;rw [List.drop_of_length_le (by omega),List.append_nil] at e0;have p0:∀ q,(Value.slice pb m.arrs.length pd).ownBlock=some q→w1.heap.size≤q:=fun q h=>(ly q h).1
    have c0r:=Gc hC c0 (fun h=>by have:=p0 _ h;omega);have s0r:=Gc hC s0 (fun h=>by have:=p0 _ h;omega);have s1r:=Gc hC s1 (fun h=>by have:=p0 _ h;omega);have t0r:=Gf hC (by omega) t0 (fun h=>by have:=p0 _ h;omega);have t1r:=Gf hC (by omega) t1 (fun h=>by have:=p0 _ h;omega);have p1:=Ow ox hC (fun q h h2=>e2 q h h2);have e3:=p1.lt;have z0:=Nn (b:=w.heap.size+1) (j:=1) (Tc _ (w.heap.size+1) 0 (.slice pa m.vals.length pc) s0r) (.slice pb m.arrs.length pd);have z1:=Tc _ (w.heap.size+1) 1 (.slice pb m.arrs.length pd) (Nn (b:=w.heap.size+1) (j:=0) s1r (.slice pa m.vals.length pc));have O2:Own2I wr w1.heap.size (.slice pb m.arrs.length pd) us m.arrs:=⟨m0,e0,fun k u r h1 h2=>Om (l0 k u r h1 h2) (by omega),w0⟩;have lO:=O2.lt;have i1:Chg (fun q=>q=w.heap.size+1) wr ((wr.setCell ⟨w.heap.size+1,0,none⟩ (.slice pa m.vals.length pc)).setCell ⟨w.heap.size+1,1,none⟩ (.slice pb m.arrs.length pd)):=((Chg.refl (fun q=>q=w.heap.size+1) wr).setCell (w.heap.size+1) 0 (.slice pa m.vals.length pc) (fun _=>rfl)).setCell (w.heap.size+1) 1 (.slice pb m.arrs.length pd) (fun _=>rfl);have O3:=(O2.keep i1 (fun q h h2=>by have:=lO q h;omega)).mono (base':=w.heap.size) (by omega);have m2:=Om (Ow p1 i1 (fun q h h2=>by have:=e3 q h;omega)) (base':=w.heap.size) (by omega)
    have n0:∀ q,(Value.slice pa m.vals.length pc).ownBlock=some q→¬OwnB2 (.slice pb m.arrs.length pd) us q:=by
      rintro q h (h2 | ⟨k,u,hu,h2⟩)
      · exact e2 q h h2
      have hk:k < m.arrs.length:=by have:=(List.getElem?_eq_some_iff.1 hu).1;omega
      have h3:=(l0 k u _ hu (List.getElem?_eq_getElem hk)).lt q h2;have h4:=lx q h;omega
    have zB:=bst (bst hB (w.heap.size+1) 0 (by omega) (.slice pa m.vals.length pc)) (w.heap.size+1) 1 (by omega) (.slice pb m.arrs.length pd);have HE:=Hi (Ai m2 (Ai O3 (Ai n0 zB)));clear e0 l0 w0 O2 O3 m2 p1 i1 hC n0 zB m0;go_wp2
    exact bodyPost_ret (v:=.agg #[.slice pa m.vals.length pc,.slice pb m.arrs.length pd]) (by simp [results,Tryz.results112,go_sem,z0,z1]) rfl (by exact ⟨_,_,_,rfl,HE.out.1,HE.out.2.1,HE.out.2.2.1,HE.out.2.2.2⟩)
end Go.Proofs.YtnpidfbcbmeijaaGreat
