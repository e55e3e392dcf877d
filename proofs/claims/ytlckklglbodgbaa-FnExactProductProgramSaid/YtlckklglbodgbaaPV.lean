/-
 Parts of the proofs of the laws FnExactProductProgram.
-/
import Derived.Test.YtlckklglbodgbaaPU
set_option maxHeartbeats 12800000
set_option maxRecDepth 100000
set_option linter.all false
namespace Go.Proofs.Ytlckklglbodgbaa
open Go.RowKit
def cnt3:Nat→Nat
 | 0=>1
 | d+1=>1+3*cnt3 d
def cntTo (d:Nat) (l:List Ex) (k:Nat):Int:=((l.take k).map (exCnt d)).sum
theorem cntTo_succ (d:Nat) (l:List Ex) (k:Nat) (h:k < l.length):cntTo d l (k+1)=cntTo d l k+exCnt d l[k]:=by
 unfold cntTo;rw [List.take_succ_eq_append_getElem h,List.map_append,List.sum_append];simp
theorem exCnt_eq (d:Nat) (e:Ex):exCnt (d+1) e=1+cntTo d e.kids e.kids.length:=by
 unfold cntTo;rw [List.take_of_length_le Lr];rfl
theorem sum_le {l:List Int} {b:Int} (h:∀ x ∈ l,0≤x∧x≤b):0≤l.sum∧l.sum≤b*l.length:=by
 induction l with
 | nil=>simp
 | cons x l ih =>
  have h1:=h x (by simp);have h2:=ih (fun y hy=>h y (by simp [hy]));simp only [List.sum_cons,List.length_cons];constructor
  ·omega
  have:b*((l.length+1:Nat):Int)=b*l.length+b:=by rw [Int.natCast_add];simp [Int.mul_add]
  omega
theorem exCnt_le:∀ (d:Nat) {D:Nat} {e:Ex},Thin D e→0≤exCnt d e∧exCnt d e≤cnt3 d:=by
 intro d
 induction d with
 | zero=>intro D e _;simp [exCnt,cnt3]
 | succ d ih =>
  intro D e h
  cases D with
  | zero=>cases h
  | succ D =>
   have h1:=sum_le (l:=e.kids.map (exCnt d)) (b:=cnt3 d) (fun x hx=>by
    obtain ⟨y,hy,rfl⟩:=List.mem_map.1 hx;exact ih (h.2 y hy))
   rw [List.length_map] at h1;have h3:(cnt3 d:Int)*e.kids.length≤cnt3 d*3:=Int.mul_le_mul_of_nonneg_left (by have:=h.1;omega) (by omega);simp only [exCnt,cnt3];omega
theorem cntTo_le {d D:Nat} {e:Ex} (h:Thin (D+1) e) (k:Nat):0≤cntTo d e.kids k∧cntTo d e.kids k≤3*cnt3 d:=by
 have h1:=sum_le (l:=(e.kids.take k).map (exCnt d)) (b:=cnt3 d) (fun x hx=>by
  obtain ⟨y,hy,rfl⟩:=List.mem_map.1 hx;exact exCnt_le d (h.2 y (List.mem_of_mem_take hy)))
 rw [List.length_map] at h1;have h2:(e.kids.take k).length≤3:=by rw [List.length_take];have:=h.1;omega
 have h3:(cnt3 d:Int)*(e.kids.take k).length≤cnt3 d*3:=Int.mul_le_mul_of_nonneg_left (by omega) (by omega);unfold cntTo;omega
theorem cnt3_le {d:Nat} (h:d≤5):cnt3 d≤364:=by
 have:d=0∨d=1∨d=2∨d=3∨d=4∨d=5:=by omega
 rcases this with rfl | rfl | rfl | rfl | rfl | rfl <;> decide
theorem exOk_thin {nv na:Nat}:∀ {d:Nat} {e:Ex},exOk nv na d e=true→Thin d e:=by
 intro d
 induction d with
 | zero=>intro e h;cases h
 | succ d ih =>
  intro e h;simp only [exOk,Bool.and_eq_true,beq_iff_eq,List.all_eq_true] at h;obtain ⟨h1,_,_,h4,_⟩:=h;refine ⟨?_,fun x hx=>ih (h4 x hx)⟩;have h5:arity e.k≤3:=by unfold arity;repeat (first | omega | split)
  omega
def okTo (nv na d:Nat) (l:List Ex) (k:Nat):Bool:=(l.take k).all (exOk nv na d)
theorem l2Count_any (B:Nat→Prop):∀ (d D E:Nat) (n:En) (e:Ex) (w:World),d≤5→ExAt w B D n e→Thin E e →
  Calls Try.prog 125 #[.agg #[.int .i64 n.k,.int .i64 n.v,.slice n.p n.n n.c],.int .i64 d] w fun r w'=>r=.returned (.int .i64 (exCnt d e))∧Below w.heap.size w w':=by
 intro d
 induction d with
 | zero =>
  intro D E n e w hd hx ht;clear hx ht;by_cases h0:0 < n.n
  ·have hq:0 < n.n:=by omega
   go_enter Try.func125,Try.ntmps125
   go_upto_region 2 with (fail)
   obtain ⟨w1,b0,hb⟩:=nmw (World.alloc w (.cells #[.int .i64 n.k,.int .i64 n.v,.slice n.p n.n n.c] 49));have c0:=hb.size;simp only [Sa] at c0;have j0:w1.cell? ⟨w.heap.size,0,none⟩=some (.int .i64 n.k):=Kc hb (Wc (by simp) (by rfl));have n0:w1.cell? ⟨w.heap.size,1,none⟩=some (.int .i64 n.v):=Kc hb (Wc (by simp) (by rfl));have k0:w1.cell? ⟨w.heap.size,2,none⟩=some (.slice n.p n.n n.c):=Kc hb (Wc (by simp) (by rfl));have f0:=btr (bal (Bs w) (.cells #[.int .i64 n.k,.int .i64 n.v,.slice n.p n.n n.c] 49)) hb;clear hb;rw [← b0];clear b0;have y0:=Lc j0;go_wp2_with fail
   go_loopw [5,6] (fun nn i wr=>nn=.int .i64 1∧i=.int .i64 0∧wr=w1) (fun _ _ _=>0)
   case atStart=>exact ⟨rfl,rfl,rfl⟩
   case round =>
    obtain ⟨rfl,rfl,rfl⟩:=hrel;go_wp2
    go_ret
    exact ⟨rfl,f0⟩
  have hq:n.n=0:=by omega
  obtain ⟨nk,d0,np,z0,nc⟩:=n;simp only at hq
  subst hq;clear h0;go_enter Try.func125,Try.ntmps125
  go_upto_region 2 with (fail)
  obtain ⟨w1,b0,hb⟩:=nmw (World.alloc w (.cells #[.int .i64 nk,.int .i64 d0,.slice np 0 nc] 49));have i0:=hb.size;simp only [Sa] at i0;have t0:w1.cell? ⟨w.heap.size,0,none⟩=some (.int .i64 nk):=Kc hb (Wc (by simp) (by rfl));have a1:w1.cell? ⟨w.heap.size,1,none⟩=some (.int .i64 d0):=Kc hb (Wc (by simp) (by rfl));have b1:w1.cell? ⟨w.heap.size,2,none⟩=some (.slice np 0 nc):=Kc hb (Wc (by simp) (by rfl));have f0:=btr (bal (Bs w) (.cells #[.int .i64 nk,.int .i64 d0,.slice np 0 nc] 49)) hb;clear hb;rw [← b0];clear b0;have x0:=Lc t0;go_wp2_with fail
  go_loopw [5,6] (fun nn i wr=>nn=.int .i64 1∧i=.int .i64 0∧wr=w1) (fun _ _ _=>0)
  case atStart=>exact ⟨rfl,rfl,rfl⟩
  case round =>
   obtain ⟨rfl,rfl,rfl⟩:=hrel;go_wp2
   go_ret
   exact ⟨rfl,f0⟩
 | succ d IH =>
  intro D E n e w hd hx ht
  cases D with
  | zero=>cases hx
  | succ D =>
   cases E with
   | zero=>cases ht
   | succ E =>
    obtain ⟨ek,ev,L⟩:=e;have hn:n.n=L.length:=hx.shape.2.2;have HK:=Hi (fun W (hW:Below w.heap.size w W) j hj=>(hx.below hW).kidm j hj);have HT:Hid (∀ y ∈ L,Thin E y):=Hi ht.2;have i1:L.length≤3:=ht.1;have c1:=cnt3_le (d:=d) (by omega);have o0:Hid (∀ k,0≤cntTo d L k∧cntTo d L k≤3*cnt3 d):=Hi (fun k=>cntTo_le (d:=d) ht k);have HQ:Hid (exCnt (d+1) (.mk ek ev L)=1+cntTo d L L.length):=Hi (exCnt_eq d (.mk ek ev L));generalize exCnt (d+1) (.mk ek ev L)=Q at *
    clear hx ht;obtain ⟨nk,d0,np,z0,nc⟩:=n;simp only at hn
    subst hn;go_enter Try.func125,Try.ntmps125
    go_upto_region 2 with (fail)
    obtain ⟨w1,b0,hb⟩:=nmw (World.alloc w (.cells #[.int .i64 nk,.int .i64 d0,.slice np L.length nc] 49));have c0:=hb.size;simp only [Sa] at c0;have j0:w1.cell? ⟨w.heap.size,0,none⟩=some (.int .i64 nk):=Kc hb (Wc (by simp) (by rfl));have n0:w1.cell? ⟨w.heap.size,1,none⟩=some (.int .i64 d0):=Kc hb (Wc (by simp) (by rfl));have k0:w1.cell? ⟨w.heap.size,2,none⟩=some (.slice np L.length nc):=Kc hb (Wc (by simp) (by rfl));have f0:=btr (bal (Bs w) (.cells #[.int .i64 nk,.int .i64 d0,.slice np L.length nc] 49)) hb;clear hb;rw [← b0];clear b0;have y0:=Lc j0;have HC:=Hi (fun W (hW:Below w1.heap.size w1 W)=>Kc hW k0);have s0:=Hi f0;clear f0 j0 n0 k0;go_wp2_with fail
    go_loopw [5,6] (fun m i wr=>∃ k:Nat,k≤L.length∧i=.int .i64 k∧m=.int .i64 (1+cntTo d L k)∧Below w1.heap.size w1 wr) (fun _ i _=>L.length-(intOf i).toNat)
    case atStart=>exact ⟨0,Nat.zero_le _,rfl,by simp [cntTo],Bs _⟩
    case round =>
     obtain ⟨k,hk,rfl,rfl,hB⟩:=hrel;have a0:=HC.out _ hB;have kc:=Lc a0;have g0:=btr s0.out hB;have f1:=o0.out k;have k1:=hB.size;by_cases hlt:k < L.length
     ·have j1:(k:Int) < (L.length:Int):=by omega
      have g1:(0:Int) < ((d+1:Nat):Int):=by omega
      obtain ⟨kb,ko,m,hp,_,h1,hm,e0,e1,e2⟩:=HK.out wr g0 k hlt;try simp only at hp
      subst hp;have HM:=Hi hm;have HS:Hid (cntTo d L (k+1)=cntTo d L k+exCnt d L[k]):=Hi (cntTo_succ d L k hlt);have m0:Hid (Thin E L[k]):=Hi (HT.out _ (List.getElem_mem _));have d1:=exCnt_le d m0.out;have q0:=Hi hm;clear HM hm;generalize L[k]=y at *
      have ke:=Lc e0;have p0:=Hi (fun W (hW:Below wr.heap.size wr W)=>IH D E m y W (by omega) (q0.out.below hW) m0.out);have l0:((d+1:Nat):Int)-1=(d:Nat):=by omega
      go_wp2_with fail
      refine (p0.out _ (Bs _)).mono ?_;rintro e w2 ⟨rfl,hb⟩;have v0:=btr hB hb;have i0:=hb.size;replace a0:=Kc hb a0;replace e0:=Kc hb e0;replace e1:=Kc hb e1;replace e2:=Kc hb e2;replace f0:=btr g0 hb;clear hb;clear a0 e0 e1 e2;clear l0;have r0:Hid (1+cntTo d L (k+1)=1+cntTo d L k+exCnt d y):=Hi (by rw [HS.out];omega);clear HS;go_wp2
      go_roundw
      case rel=>exact ⟨k+1,by omega,by go_num,by rw [r0.out],v0⟩
      case measure=>simp [intOf];omega
     have w0:k=L.length:=by omega
     subst w0;have HR:Hid (Q=1+cntTo d L L.length):=Hi HQ.out;go_wp2
     go_ret
     exact ⟨by rw [HR.out];rfl,g0⟩
theorem okTo_succ {nv na d:Nat} {l:List Ex} {k:Nat} (h:k < l.length):okTo nv na d l (k+1)=(okTo nv na d l k&&exOk nv na d l[k]):=by
 unfold okTo;rw [List.take_succ_eq_append_getElem h,List.all_append];simp
theorem okTo_all {nv na d:Nat} {l:List Ex}:okTo nv na d l l.length=l.all (exOk nv na d):=by
 unfold okTo;rw [List.take_of_length_le Lr]
theorem okTo_no {nv na d:Nat} {l:List Ex} {k:Nat} (h:k < l.length) (hk:exOk nv na d l[k]=false):l.all (exOk nv na d)=false:=by
 cases ha:l.all (exOk nv na d) with
 | false=>rfl
 | true =>
  rw [List.all_eq_true] at ha;rw [ha _ (List.getElem_mem h)] at hk;cases hk
theorem exOk_len {nv na d:Nat} {k v:Int} {l:List Ex} (h:((l.length:Int) == arity k)=false):exOk nv na (d+1) (.mk k v l)=false:=by show ((l.length:Int) == arity k&&_)=false;rw [h];rfl
theorem exOk_neg {nv na d:Nat} {k v:Int} {l:List Ex} (h:v < 0):exOk nv na (d+1) (.mk k v l)=false:=by
 show ((l.length:Int) == arity k&&(decide (0≤v)&&_))=false
 rw [decide_eq_false (by omega)];simp
theorem exOk_big {nv na d:Nat} {k v:Int} {l:List Ex} (h:limitOf nv na k≤v):exOk nv na (d+1) (.mk k v l)=false:=by
 show ((l.length:Int) == arity k&&(decide (0≤v)&&(decide (v < limitOf nv na k)&&_)))=false
 rw [decide_eq_false (show ¬v < limitOf nv na k by omega)];simp
theorem exOk_kid {nv na d:Nat} {k v:Int} {l:List Ex} (h:l.all (exOk nv na d)=false):exOk nv na (d+1) (.mk k v l)=false:=by
 show ((l.length:Int) == arity k&&(decide (0≤v)&&(decide (v < limitOf nv na k)&&(l.all (exOk nv na d)&&_))))=false
 rw [h];simp
theorem exOk_yes {nv na d:Nat} {k v:Int} {l:List Ex} (h1:((l.length:Int) == arity k)=true) (h2:¬v < 0) (h3:¬limitOf nv na k≤v) (h4:l.all (exOk nv na d)=true) (h5:(k == 3)=false):exOk nv na (d+1) (.mk k v l)=true:=by
 show ((l.length:Int) == arity k&&(decide (0≤v)&&(decide (v < limitOf nv na k)&&(l.all (exOk nv na d)&&(!(k == 3)||_)))))=true
 rw [h1,h4,h5,decide_eq_true (by omega),decide_eq_true (by omega)];rfl
theorem exOk_read {nv na d:Nat} {v:Int} {y:Ex} (h2:¬v < 0) (h3:¬limitOf nv na 3≤v) (h4:[y].all (exOk nv na d)=true):exOk nv na (d+1) (.mk 3 v [y])=atomK y.k:=by
 show (((1:Nat):Int) == arity 3&&(decide (0≤v)&&(decide (v < limitOf nv na 3)&&([y].all (exOk nv na d)&&(!((3:Int) == 3)||atomK y.k)))))=atomK y.k
 rw [h4,decide_eq_true (by omega),decide_eq_true (by omega)];rfl
theorem l2Shape_any (pv pa:Option Addr) (nv cv na ca:Nat) (vb:Value) (B:Nat→Prop):∀ (d D:Nat) (n:En) (e:Ex) (w:World),d≤5→ExAt w B D n e →
  Calls Try.prog 124 #[.agg #[.slice pv nv cv,.slice pa na ca,vb],.agg #[.int .i64 n.k,.int .i64 n.v,.slice n.p n.n n.c],.int .i64 d] w fun r w'=>r=.returned (.bool (exOk nv na d e))∧Below w.heap.size w w':=by
 intro d
 induction d with
 | zero =>
  intro D n e w hd hx;clear hx;go_enter Try.func124,Try.ntmps124
  go_upto_region 1 with (fail)
  obtain ⟨w1,r0,hb⟩:=nmw (World.alloc (World.alloc w (.cells #[.slice pv nv cv,.slice pa na ca,vb] 26)) (.cells #[.int .i64 n.k,.int .i64 n.v,.slice n.p n.n n.c] 49));have p0:=hb.size;simp only [Sa] at p0;have d0:w1.cell? ⟨w.heap.size,0,none⟩=some (.slice pv nv cv):=Kc hb (Ac (Wc (by simp) (by rfl)) _);have g0:w1.cell? ⟨w.heap.size,1,none⟩=some (.slice pa na ca):=Kc hb (Ac (Wc (by simp) (by rfl)) _);have h0:w1.cell? ⟨w.heap.size,2,none⟩=some (vb):=Kc hb (Ac (Wc (by simp) (by rfl)) _);have f0:w1.cell? ⟨w.heap.size+1,0,none⟩=some (.int .i64 n.k):=Kc hb (Wc (by simp) (by rfl));have i0:w1.cell? ⟨w.heap.size+1,1,none⟩=some (.int .i64 n.v):=Kc hb (Wc (by simp) (by rfl));have j0:w1.cell? ⟨w.heap.size+1,2,none⟩=some (.slice n.p n.n n.c):=Kc hb (Wc (by simp) (by rfl));have a0:=btr (bal (bal (Bs w) (.cells #[.slice pv nv cv,.slice pa na ca,vb] 26)) (.cells #[.int .i64 n.k,.int .i64 n.v,.slice n.p n.n n.c] 49)) hb;clear hb;rw [← r0];clear r0;have z1:=Lc d0;have a2:=Lc f0;refine wp_region_noPanic ?_;refine wp_region_held_drew (S:=(fun W'=>W'.cell? ⟨w.heap.size+1,2,none⟩=some (.slice n.p n.n n.c)∧W'.cell? ⟨w.heap.size+1,0,none⟩=some (.int .i64 n.k)∧W'.cell? ⟨w.heap.size+1,1,none⟩=some (.int .i64 n.v)∧W'.cell? ⟨w.heap.size,0,none⟩=some (.slice pv nv cv)∧W'.cell? ⟨w.heap.size,1,none⟩=some (.slice pa na ca)∧W'.cell? ⟨w.heap.size,2,none⟩=some (vb))) (by kernel_rfl) ⟨Kc (Bd (Bs w1)) j0,Kc (Bd (Bs w1)) f0,Kc (Bd (Bs w1)) i0,Kc (Bd (Bs w1)) d0,Kc (Bd (Bs w1)) g0,Kc (Bd (Bs w1)) h0⟩ (fun hHeld=>?_);obtain ⟨w2,k0⟩:∃ X,X=World.drew w1:=⟨_,rfl⟩;rw [← k0] at hHeld ⊢;have hb:Below w1.heap.size w1 w2:=by rw [k0];exact Bd (Bs _)
  clear k0;have s0:=hb.size;replace d0:=Kc hb d0;replace g0:=Kc hb g0;replace h0:=Kc hb h0;replace f0:=Kc hb f0;replace i0:=Kc hb i0;replace j0:=Kc hb j0;replace a0:=btr a0 hb;clear hb;refine (tq 0 8 rfl rfl ?_ ?_ (tq 1 9 rfl rfl ?_ ?_ (tq 2 10 rfl rfl ?_ ?_ ?_)));iterate 3 (rotate_left;intro W' hSw;(try dsimp only at hSw);go_simp;try with_reducible rfl)
  try simp only [Ep]
  refine (tu 3 11 rfl rfl (tu 4 12 rfl rfl (tu 5 13 rfl rfl (tu 6 14 rfl rfl ?_))));try simp only [Ep]
  refine (tu 7 15 rfl rfl (tu 8 16 rfl rfl (tu 9 17 rfl rfl (tq 10 18 rfl rfl ?_ ?_ (tq 11 19 rfl rfl ?_ ?_ ?_)))));iterate 2 (rotate_left;intro W' hSw;(try dsimp only at hSw);go_simp;try with_reducible rfl)
  try simp only [Ep]
  refine (tu 12 20 rfl rfl (tu 13 21 rfl rfl (tu 14 22 rfl rfl (tq 15 23 rfl rfl ?_ ?_ (tq 16 24 rfl rfl ?_ ?_ ?_)))));iterate 2 (rotate_left;intro W' hSw;(try dsimp only at hSw);go_simp;try with_reducible rfl)
  try simp only [Ep]
  refine (tu 17 25 rfl rfl (tu 18 26 rfl rfl (tu 19 27 rfl rfl (tu 20 28 rfl rfl ?_))));try simp only [Ep]
  refine (tu 21 29 rfl rfl (tu 22 30 rfl rfl (tu 23 31 rfl rfl (tq 24 32 rfl rfl ?_ ?_ ?_))));(rotate_left;intro W' hSw;(try dsimp only at hSw);go_simp;try with_reducible rfl)
  try simp only [Ep]
  refine Dn ?_;clear hHeld;have tt:=a0;go_wp2
  exact bodyPost_ret (v:=.bool false) (by simp [results,Try.results124,go_sem]) rfl (by exact ⟨rfl,tt⟩)
 | succ d IH =>
  intro D n e w hd hx
  cases D with
  | zero=>cases hx
  | succ D =>
   obtain ⟨ek,ev,L⟩:=e;obtain ⟨nk,b0,np,b2,nc⟩:=n;have hs:=hx.shape;obtain ⟨hk,hv,hn⟩:=hs;replace hk:nk=ek:=hk;replace hv:b0=ev:=hv;replace hn:b2=L.length:=hn;subst hk hv hn;have HK:=Hi (fun W (hW:Below w.heap.size w W) j hj=>(hx.below hW).kidm j hj);have x0:L.length≤9223372036854775807:=by obtain ⟨_,_,rs,_,h,_⟩:=hx;exact h.2.1
   have d2:decide ((d:Int)+1 < 1)=false:=decide_eq_false (by omega);have f2:(1:Int)≤(d:Int)+1:=by omega
   clear hx;have H1:Hid (¬((L.length:Int) == arity nk)=true→exOk nv na (d+1) (.mk nk b0 L)=false):=Hi (fun h=>exOk_len (by simpa using h));have H2:Hid (b0 < 0→exOk nv na (d+1) (.mk nk b0 L)=false):=Hi (fun h=>exOk_neg h);have H3:Hid (limitOf nv na nk≤b0→exOk nv na (d+1) (.mk nk b0 L)=false):=Hi (fun h=>exOk_big h);go_enter Try.func124,Try.ntmps124
   go_upto_region 1 with (fail)
   obtain ⟨w1,r0,hb⟩:=nmw (World.alloc (World.alloc w (.cells #[.slice pv nv cv,.slice pa na ca,vb] 26)) (.cells #[.int .i64 nk,.int .i64 b0,.slice np L.length nc] 49));have p0:=hb.size;simp only [Sa] at p0;have d0:w1.cell? ⟨w.heap.size,0,none⟩=some (.slice pv nv cv):=Kc hb (Ac (Wc (by simp) (by rfl)) _);have g0:w1.cell? ⟨w.heap.size,1,none⟩=some (.slice pa na ca):=Kc hb (Ac (Wc (by simp) (by rfl)) _);have h0:w1.cell? ⟨w.heap.size,2,none⟩=some (vb):=Kc hb (Ac (Wc (by simp) (by rfl)) _);have f0:w1.cell? ⟨w.heap.size+1,0,none⟩=some (.int .i64 nk):=Kc hb (Wc (by simp) (by rfl));have i0:w1.cell? ⟨w.heap.size+1,1,none⟩=some (.int .i64 b0):=Kc hb (Wc (by simp) (by rfl));have j0:w1.cell? ⟨w.heap.size+1,2,none⟩=some (.slice np L.length nc):=Kc hb (Wc (by simp) (by rfl));have a0:=btr (bal (bal (Bs w) (.cells #[.slice pv nv cv,.slice pa na ca,vb] 26)) (.cells #[.int .i64 nk,.int .i64 b0,.slice np L.length nc] 49)) hb;clear hb;rw [← r0];clear r0;have z1:=Lc d0;have a2:=Lc f0;refine wp_region_noPanic ?_;refine wp_region_held_drew (S:=(fun W'=>W'.cell? ⟨w.heap.size+1,2,none⟩=some (.slice np L.length nc)∧W'.cell? ⟨w.heap.size+1,0,none⟩=some (.int .i64 nk)∧W'.cell? ⟨w.heap.size+1,1,none⟩=some (.int .i64 b0)∧W'.cell? ⟨w.heap.size,0,none⟩=some (.slice pv nv cv)∧W'.cell? ⟨w.heap.size,1,none⟩=some (.slice pa na ca)∧W'.cell? ⟨w.heap.size,2,none⟩=some (vb))) (by kernel_rfl) ⟨Kc (Bd (Bs w1)) j0,Kc (Bd (Bs w1)) f0,Kc (Bd (Bs w1)) i0,Kc (Bd (Bs w1)) d0,Kc (Bd (Bs w1)) g0,Kc (Bd (Bs w1)) h0⟩ (fun hHeld=>?_);obtain ⟨w2,k0⟩:∃ X,X=World.drew w1:=⟨_,rfl⟩;rw [← k0] at hHeld ⊢;have hb:Below w1.heap.size w1 w2:=by rw [k0];exact Bd (Bs _)
   clear k0;have s0:=hb.size;replace d0:=Kc hb d0;replace g0:=Kc hb g0;replace h0:=Kc hb h0;replace f0:=Kc hb f0;replace i0:=Kc hb i0;replace j0:=Kc hb j0;replace a0:=btr a0 hb;clear hb;refine (tq 0 8 rfl rfl ?_ ?_ (tq 1 9 rfl rfl ?_ ?_ (tq 2 10 rfl rfl ?_ ?_ ?_)));iterate 3 (rotate_left;intro W' hSw;(try dsimp only at hSw);go_simp;try with_reducible rfl)
   try simp only [Ep]
   refine (tq 3 11 rfl rfl ?_ ?_ (tq 4 12 rfl rfl ?_ ?_ (tq 5 13 rfl rfl ?_ ?_ ?_)));iterate 3 (rotate_left;intro W' hSw;(try dsimp only at hSw);go_simp;try with_reducible rfl)
   try simp only [Ep]
   refine (tq 6 14 rfl rfl ?_ ?_ (tq 7 15 rfl rfl ?_ ?_ ?_));iterate 2 (rotate_left;intro W' hSw;(try dsimp only at hSw);go_simp;try with_reducible rfl)
   try simp only [Ep]
   refine Rdy 8 rfl (fun K hK=>?_);go_simp
   refine (l2Arity_any _ _).mono ?_;rintro e w3 ⟨rfl,k1⟩;have hb:Below w2.heap.size w2 w3:=by rw [k1];exact Bs _
   clear k1;have b1:=hb.size;replace d0:=Kc hb d0;replace g0:=Kc hb g0;replace h0:=Kc hb h0;replace f0:=Kc hb f0;replace i0:=Kc hb i0;replace j0:=Kc hb j0;replace a0:=btr a0 hb;clear hb;refine hK.out _ _ ⟨j0,f0,i0,d0,g0,h0⟩ (fun hHeld=>?_);clear hK K;try simp only [Ep]
   by_cases hs17:((L.length:Int) == arity nk)=true
   ·skip
    have G1:=Hi hs17;have l1:((L.length:Int) != arity nk)=false:=by rw [bne,hs17];rfl
    clear hs17;refine (tq 9 17 rfl rfl ?_ ?_ (tq 10 18 rfl rfl ?_ ?_ (tq 11 19 rfl rfl ?_ ?_ ?_)));iterate 3 (rotate_left;intro W' hSw;(try dsimp only at hSw);go_simp;try with_reducible rfl)
    try simp only [Ep]
    refine (tq 12 20 rfl rfl ?_ ?_ (tq 13 21 rfl rfl ?_ ?_ ?_));iterate 2 (rotate_left;intro W' hSw;(try dsimp only at hSw);go_simp;try with_reducible rfl)
    try simp only [Ep]
    by_cases hs22:b0 < 0
    ·skip
     have HX:=Hi (H2.out hs22);refine (tq 14 22 rfl rfl ?_ ?_ (tq 15 23 rfl rfl ?_ ?_ (tq 16 24 rfl rfl ?_ ?_ ?_)));iterate 3 (rotate_left;intro W' hSw;(try dsimp only at hSw);go_simp;try with_reducible rfl)
     try simp only [Ep]
     refine (tu 17 25 rfl rfl (tu 18 26 rfl rfl (tu 19 27 rfl rfl (tu 20 28 rfl rfl ?_))));try simp only [Ep]
     refine (tu 21 29 rfl rfl (tu 22 30 rfl rfl (tu 23 31 rfl rfl (tq 24 32 rfl rfl ?_ ?_ ?_))));(rotate_left;intro W' hSw;(try dsimp only at hSw);go_simp;try with_reducible rfl)
     try simp only [Ep]
     refine Dn ?_;clear hHeld;have tt:=a0;go_wp2
     exact bodyPost_ret (v:=.bool false) (by simp [results,Try.results124,go_sem]) rfl (by exact by rw [HX.out];exact ⟨rfl,tt⟩)
    skip
    have G2:=Hi hs22;refine (tq 14 22 rfl rfl ?_ ?_ (tq 15 23 rfl rfl ?_ ?_ (tq 16 24 rfl rfl ?_ ?_ ?_)));iterate 3 (rotate_left;intro W' hSw;(try dsimp only at hSw);go_simp;try with_reducible rfl)
    try simp only [Ep]
    refine (tq 17 25 rfl rfl ?_ ?_ (tq 18 26 rfl rfl ?_ ?_ (tq 19 27 rfl rfl ?_ ?_ ?_)));iterate 3 (rotate_left;intro W' hSw;(try dsimp only at hSw);go_simp;try with_reducible rfl)
    try simp only [Ep]
    refine (tq 20 28 rfl rfl ?_ ?_ (tq 21 29 rfl rfl ?_ ?_ ?_));iterate 2 (rotate_left;intro W' hSw;(try dsimp only at hSw);go_simp;try with_reducible rfl)
    try simp only [Ep]
    refine Rdy 22 rfl (fun K hK=>?_);go_simp
    refine (l2Limit_any _ _ _ _ _ _ _ _ _).mono ?_;rintro e w4 ⟨rfl,hb⟩;have d1:=hb.size;replace d0:=Kc hb d0;replace g0:=Kc hb g0;replace h0:=Kc hb h0;replace f0:=Kc hb f0;replace i0:=Kc hb i0;replace j0:=Kc hb j0;replace a0:=btr a0 hb;clear hb;refine hK.out _ _ ⟨j0,f0,i0,d0,g0,h0⟩ (fun hHeld=>?_);clear hK K;try simp only [Ep]
    by_cases hs31:limitOf nv na nk≤b0
    ·skip
     have HX:=Hi (H3.out hs31);refine (tq 23 31 rfl rfl ?_ ?_ (tq 24 32 rfl rfl ?_ ?_ ?_));iterate 2 (rotate_left;intro W' hSw;(try dsimp only at hSw);go_simp;try with_reducible rfl)
     try simp only [Ep]
     refine Dn ?_;clear hHeld;have tt:=a0;go_wp2
     exact bodyPost_ret (v:=.bool false) (by simp [results,Try.results124,go_sem]) rfl (by exact by rw [HX.out];exact ⟨rfl,tt⟩)
    skip
    have G3:=Hi hs31;refine (tq 23 31 rfl rfl ?_ ?_ (tq 24 32 rfl rfl ?_ ?_ ?_));iterate 2 (rotate_left;intro W' hSw;(try dsimp only at hSw);go_simp;try with_reducible rfl)
    try simp only [Ep]
    refine Dn ?_;clear hHeld;clear H1 H2 H3 l1 hs22 hs31;have HC:=Hi (fun W (hW:Below w4.heap.size w4 W)=>show _∧_∧_∧_∧_∧_ from ⟨Kc hW d0,Kc hW g0,Kc hW h0,Kc hW f0,Kc hW i0,Kc hW j0⟩);have o1:=Hi a0;clear a0 d0 g0 h0 f0 i0 j0;go_wp2_with fail
    go_loopw [7] (fun i wr=>∃ k:Nat,k≤L.length∧i=.int .i64 k∧Hid (okTo nv na d L k=true)∧Below w4.heap.size w4 wr) (fun i _=>L.length-(intOf i).toNat)
    case atStart=>exact ⟨0,Nat.zero_le _,rfl,Hi rfl,Bs _⟩
    case round =>
     obtain ⟨k,hk,rfl,HO,hB⟩:=hrel;obtain ⟨c0,c1,c2,c3,c4,c5⟩:=HC.out _ hB;have kc:=Lc c0;have j2:=Lc c3;have l0:=btr o1.out hB;have i2:=hB.size;have m1:=Hi hB;by_cases hlt:k < L.length
     ·have g2:(k:Int) < (L.length:Int):=by omega
      obtain ⟨kb,ko,m,hp,_,q1,hm,e0,e1,e2⟩:=HK.out wr l0 k hlt;try simp only at hp
      subst hp;have HS:=Hi (okTo_succ (nv:=nv) (na:=na) (d:=d) hlt);have w0:=Hi (fun h=>okTo_no (nv:=nv) (na:=na) (d:=d) hlt h);have n1:=Hi hm;clear hm;have v0:=Hi (fun h=>exOk_kid (nv:=nv) (na:=na) (d:=d) (k:=nk) (v:=b0) (l:=L) h);generalize L[k]=y at *
      have ke:=Lc e0;have t0:=Hi (fun W (hW:Below wr.heap.size wr W)=>IH D m y W (by omega) (n1.out.below hW));have z0:Hid (IntKind.i64.wrap (d:Int)=d):=Hi (IntWalk.i64_in _ (by omega))
      cases hy:exOk nv na d y with
      | false =>
       have o0:=Hi (fun W hW=>by have h:=t0.out W hW;rw [hy] at h;exact h);have HR:Hid (exOk nv na (d+1) (.mk nk b0 L)=false):=Hi (v0.out (w0.out hy));clear t0 HS w0 hy v0;go_upto_region 6 with (fail)
       have r1:=Lc c0;have s1:=Lc c3;have t1:=Lc e0;refine wp_region_noPanic ?_;refine wp_region_held_drew (S:=(fun W'=>W'.cell? ⟨w.heap.size,0,none⟩=some (.slice pv nv cv)∧W'.cell? ⟨w.heap.size,1,none⟩=some (.slice pa na ca)∧W'.cell? ⟨w.heap.size,2,none⟩=some (vb)∧W'.cell? ⟨w.heap.size+1,2,none⟩=some (.slice (some ⟨kb,ko,none⟩) L.length nc)∧W'.cell? ⟨kb,ko+k*3,none⟩=some (.int .i64 m.k)∧W'.cell? ⟨kb,ko+k*3+1,none⟩=some (.int .i64 m.v)∧W'.cell? ⟨kb,ko+k*3+2,none⟩=some (.slice m.p m.n m.c))) (by kernel_rfl) ⟨Kc (Bd (Bs wr)) c0,Kc (Bd (Bs wr)) c1,Kc (Bd (Bs wr)) c2,Kc (Bd (Bs wr)) c5,Kc (Bd (Bs wr)) e0,Kc (Bd (Bs wr)) e1,Kc (Bd (Bs wr)) e2⟩ (fun hHeld=>?_);obtain ⟨w5,k0⟩:∃ X,X=World.drew wr:=⟨_,rfl⟩;rw [← k0] at hHeld ⊢;have hb:Below wr.heap.size wr w5:=by rw [k0];exact Bd (Bs _)
       clear k0;have m0:=btr (Bs wr) hb;have n0:=m0;clear m0;have f1:=hb.size;replace c0:=Kc hb c0;replace c1:=Kc hb c1;replace c2:=Kc hb c2;replace c3:=Kc hb c3;replace c4:=Kc hb c4;replace c5:=Kc hb c5;replace e0:=Kc hb e0;replace e1:=Kc hb e1;replace e2:=Kc hb e2;replace a0:=btr l0 hb;clear hb;refine (tq 0 40 rfl rfl ?_ ?_ (tq 1 41 rfl rfl ?_ ?_ (tq 2 42 rfl rfl ?_ ?_ (tq 3 43 rfl rfl ?_ ?_ (tq 4 44 rfl rfl ?_ ?_ (tq 5 45 rfl rfl ?_ ?_ (tq 6 46 rfl rfl ?_ ?_ (tq 7 47 rfl rfl ?_ ?_ ?_))))))));iterate 8 (rotate_left;intro W' hSw;(try dsimp only at hSw);go_simp;try with_reducible rfl)
       try simp only [Ep]
       refine Rdy 8 rfl (fun K hK=>?_);go_simp
       rw [z0.out];refine (o0.out _ n0).mono ?_;rintro e w6 ⟨rfl,hb⟩;have m0:=btr n0 hb;have n0:=m0;clear m0;have g1:=hb.size;replace c0:=Kc hb c0;replace c1:=Kc hb c1;replace c2:=Kc hb c2;replace c3:=Kc hb c3;replace c4:=Kc hb c4;replace c5:=Kc hb c5;replace e0:=Kc hb e0;replace e1:=Kc hb e1;replace e2:=Kc hb e2;replace a0:=btr a0 hb;clear hb;refine hK.out _ _ ⟨c0,c1,c2,c5,e0,e1,e2⟩ (fun hHeld=>?_);clear hK K;try simp only [Ep]
       refine (tq 9 49 rfl rfl ?_ ?_ ?_);(rotate_left;intro W' hSw;(try dsimp only at hSw);go_simp;try with_reducible rfl)
       try simp only [Ep]
       refine Dn ?_;clear hHeld;have tt:=a0;go_wp2
       exact bodyPost_ret (v:=.bool false) (by simp [results,Try.results124,go_sem]) rfl (by exact by rw [HR.out];exact ⟨rfl,tt⟩)
      | true =>
       have o0:=Hi (fun W hW=>by have h:=t0.out W hW;rw [hy] at h;exact h);have HR:Hid (okTo nv na d L (k+1)=true):=Hi (by rw [HS.out,HO.out,hy];rfl);clear t0 HS w0 hy v0;go_upto_region 6 with (fail)
       have v1:=Lc c0;have x1:=Lc c3;have y1:=Lc e0;refine wp_region_noPanic ?_;refine wp_region_held_drew (S:=(fun W'=>W'.cell? ⟨w.heap.size,0,none⟩=some (.slice pv nv cv)∧W'.cell? ⟨w.heap.size,1,none⟩=some (.slice pa na ca)∧W'.cell? ⟨w.heap.size,2,none⟩=some (vb)∧W'.cell? ⟨w.heap.size+1,2,none⟩=some (.slice (some ⟨kb,ko,none⟩) L.length nc)∧W'.cell? ⟨kb,ko+k*3,none⟩=some (.int .i64 m.k)∧W'.cell? ⟨kb,ko+k*3+1,none⟩=some (.int .i64 m.v)∧W'.cell? ⟨kb,ko+k*3+2,none⟩=some (.slice m.p m.n m.c))) (by kernel_rfl) ⟨Kc (Bd (Bs wr)) c0,Kc (Bd (Bs wr)) c1,Kc (Bd (Bs wr)) c2,Kc (Bd (Bs wr)) c5,Kc (Bd (Bs wr)) e0,Kc (Bd (Bs wr)) e1,Kc (Bd (Bs wr)) e2⟩ (fun hHeld=>?_);obtain ⟨w5,k0⟩:∃ X,X=World.drew wr:=⟨_,rfl⟩;rw [← k0] at hHeld ⊢;have hb:Below wr.heap.size wr w5:=by rw [k0];exact Bd (Bs _)
       clear k0;have m0:=btr (Bs wr) hb;have n0:=m0;clear m0;have h1:=hb.size;replace c0:=Kc hb c0;replace c1:=Kc hb c1;replace c2:=Kc hb c2;replace c3:=Kc hb c3;replace c4:=Kc hb c4;replace c5:=Kc hb c5;replace e0:=Kc hb e0;replace e1:=Kc hb e1;replace e2:=Kc hb e2;replace a0:=btr l0 hb;clear hb;refine (tq 0 40 rfl rfl ?_ ?_ (tq 1 41 rfl rfl ?_ ?_ (tq 2 42 rfl rfl ?_ ?_ (tq 3 43 rfl rfl ?_ ?_ (tq 4 44 rfl rfl ?_ ?_ (tq 5 45 rfl rfl ?_ ?_ (tq 6 46 rfl rfl ?_ ?_ (tq 7 47 rfl rfl ?_ ?_ ?_))))))));iterate 8 (rotate_left;intro W' hSw;(try dsimp only at hSw);go_simp;try with_reducible rfl)
       try simp only [Ep]
       refine Rdy 8 rfl (fun K hK=>?_);go_simp
       rw [z0.out];refine (o0.out _ n0).mono ?_;rintro e w6 ⟨rfl,hb⟩;have m0:=btr n0 hb;have n0:=m0;clear m0;have i1:=hb.size;replace c0:=Kc hb c0;replace c1:=Kc hb c1;replace c2:=Kc hb c2;replace c3:=Kc hb c3;replace c4:=Kc hb c4;replace c5:=Kc hb c5;replace e0:=Kc hb e0;replace e1:=Kc hb e1;replace e2:=Kc hb e2;replace a0:=btr a0 hb;clear hb;refine hK.out _ _ ⟨c0,c1,c2,c5,e0,e1,e2⟩ (fun hHeld=>?_);clear hK K;try simp only [Ep]
       refine (tq 9 49 rfl rfl ?_ ?_ ?_);(rotate_left;intro W' hSw;(try dsimp only at hSw);go_simp;try with_reducible rfl)
       try simp only [Ep]
       refine Dn ?_;clear hHeld;go_wp2
       go_roundw
       case rel=>exact ⟨k+1,by omega,by go_num,HR,btr m1.out n0⟩
       case measure=>simp [intOf];omega
     have a1:k=L.length:=by omega
     have q0:Hid (L.all (exOk nv na d)=true):=Hi (by rw [← okTo_all,← a1];exact HO.out);subst a1;clear HO;by_cases h3:(nk == 3)=true
     ·have e3:nk=3:=by simpa using h3
      subst e3;have h1l:L.length=1:=by have h:=G1.out;have h2:arity 3=1:=rfl;rw [h2] at h;have h4:(L.length:Int)=1:=(by simpa using h);omega
      obtain ⟨y,rfl⟩:∃ y,L=[y]:=List.length_eq_one_iff.1 h1l;have HR:=Hi (exOk_read (show ¬b0 < 0 by have:=G2.out;omega) (show ¬limitOf nv na 3≤b0 by have:=G3.out;omega) q0.out);obtain ⟨kb,ko,m,hp,_,q1,hm,e0,e1,e2⟩:=HK.out wr l0 0 (by simp);try simp only at hp
      subst hp;have y0:=hm.shape.1;simp only [List.getElem_cons_zero] at y0;have p1:=Hi y0;clear hm y0 h1l;simp only [Nat.zero_mul,Nat.add_zero] at e0 e1 e2;have ke:=Lc e0;clear x0;simp only [List.length_cons,List.length_nil] at *;go_wp2_with fail
      refine (l2Atom_any _ _ _ _).mono ?_;rintro e w5 ⟨rfl,hb⟩;have j1:=hb.size;replace c0:=Kc hb c0;replace c1:=Kc hb c1;replace c2:=Kc hb c2;replace c3:=Kc hb c3;replace c4:=Kc hb c4;replace c5:=Kc hb c5;replace e0:=Kc hb e0;replace e1:=Kc hb e1;replace e2:=Kc hb e2;replace a0:=btr l0 hb;clear hb;clear c0 c1 c2 c3 c4 c5 e0 e1 e2;have tt:=a0;go_wp2
      exact bodyPost_ret (v:=.bool (atomK m.k)) (by simp [results,Try.results124,go_sem]) rfl (by exact by rw [HR.out,← p1.out];exact ⟨rfl,tt⟩)
     have e3:(nk == 3)=false:=by simpa using h3
     have q3:(nk != 3)=true:=by rw [bne,e3];rfl
     have HR:=Hi (exOk_yes G1.out (show ¬b0 < 0 by have:=G2.out;omega) (show ¬limitOf nv na nk≤b0 by have:=G3.out;omega) q0.out e3);clear h3;have tt:=l0;go_wp2
     exact bodyPost_ret (v:=.bool true) (by simp [results,Try.results124,go_sem]) rfl (by exact by rw [HR.out];exact ⟨rfl,tt⟩)
   skip
   have HX:=Hi (H1.out hs17);have l1:((L.length:Int) != arity nk)=true:=by rw [bne];simpa using hs17
   clear hs17;refine (tq 9 17 rfl rfl ?_ ?_ (tq 10 18 rfl rfl ?_ ?_ (tq 11 19 rfl rfl ?_ ?_ ?_)));iterate 3 (rotate_left;intro W' hSw;(try dsimp only at hSw);go_simp;try with_reducible rfl)
   try simp only [Ep]
   refine (tu 12 20 rfl rfl (tu 13 21 rfl rfl (tu 14 22 rfl rfl (tq 15 23 rfl rfl ?_ ?_ (tq 16 24 rfl rfl ?_ ?_ ?_)))));iterate 2 (rotate_left;intro W' hSw;(try dsimp only at hSw);go_simp;try with_reducible rfl)
   try simp only [Ep]
   refine (tu 17 25 rfl rfl (tu 18 26 rfl rfl (tu 19 27 rfl rfl (tu 20 28 rfl rfl ?_))));try simp only [Ep]
   refine (tu 21 29 rfl rfl (tu 22 30 rfl rfl (tu 23 31 rfl rfl (tq 24 32 rfl rfl ?_ ?_ ?_))));(rotate_left;intro W' hSw;(try dsimp only at hSw);go_simp;try with_reducible rfl)
   try simp only [Ep]
   refine Dn ?_;clear hHeld;have tt:=a0;go_wp2
   exact bodyPost_ret (v:=.bool false) (by simp [results,Try.results124,go_sem]) rfl (by exact by rw [HX.out];exact ⟨rfl,tt⟩)
end Go.Proofs.Ytlckklglbodgbaa
