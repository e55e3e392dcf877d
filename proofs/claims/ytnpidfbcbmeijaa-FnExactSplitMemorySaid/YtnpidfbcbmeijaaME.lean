/-
  Parts of the proofs of the laws FnExactSplitMemory.
-/
import Derived.Test.YtnpidfbcbmeijaaID
import Derived.Test.YtnpidfbcbmeijaaRI
set_option linter.all false
namespace Go.Proofs.Ytnpidfbcbmeijaa
open Go.RowKit
theorem clone2_any (v:Value) (n:Nat) (vs:List Value) (w:World) (hr:Reads w 1 v n vs) (h1:∀ u ∈ vs,u.oneCell'=true) (hsz:n≤1073741824) :
    Calls Try.prog 68 #[v] w fun e w'=>∃ u,e=.returned u∧w'.ownsRow w.heap.size 22 1 u n vs∧Below w.heap.size w w':=by
  have b2:=hr;have x2:=fun w a n c=>Lib.run_eql_slice_nil (P:=Try.prog) w 36 22 a n c 0 0 Try.underlying36
  obtain ⟨hl,hn,a,j3,b,q3,rfl,⟨v2,u0⟩,ha,u2⟩:=hr
  cases a with
  | none =>
    have h0:=u0 rfl;have h2:vs=[]:=List.eq_nil_of_length_eq_zero (by omega);have h3:n=0:=by omega
    subst h2 h0 h3;go_enter Try.func68,Try.ntmps68
    go_wp2
    go_ret
    exact ⟨_,rfl,World.ownsRow_nil _ _ _ _,Below.refl _ _⟩
  | some a =>
    have j0:=own_nil_made w 22;have z2:=b2.below ((Below.refl w.heap.size w).alloc Lr (.cells #[] 22));have HL:=Hi hl;clear b2 ha u2 u0 hl;go_enter Try.func68,Try.ntmps68
    go_wp2_with (at_builtin;refine wpList_aps tIntSS rfl _ _ rfl w.heap.size _ 0 [] rfl j0 _ _ _ rfl z2 h1 (by omega) ?c1 ?_)
    case c1=>simp
    intro v' w' ho' hc' hn' _;have hb:=((Below.refl w.heap.size w).alloc Lr (.cells #[] 22)).trans (hc'.below w.heap.size (by simp) (fun k hk=>not_own j0 hk));obtain ⟨pa,pc,rfl⟩:=Oh ho';clear hc' hn' x2 j0;go_wp2
    go_ret
    exact ⟨_,rfl,ho',hb⟩
set_option maxHeartbeats 6400000 in
theorem memOwn_any (vx vy:Value) (m:Mm) (w:World) (hx:Reads w 1 vx m.vals.length (ints m.vals)) (hy:Reads2 ints w vy m.arrs) (hl:m.vals.length≤1048576) (hn:m.arrs.length≤1048576) (hp:pre2 m.arrs m.arrs.length≤1048576) :
    Calls Try.prog 43 #[.agg #[vx,vy]] w fun e w'=>∃ ux uy us,e=.returned (.agg #[ux,uy])∧w'.ownsRow w.heap.size 3 1 ux m.vals.length (ints m.vals)∧Own2I w' w.heap.size uy us m.arrs∧(∀ q,ux.ownBlock=some q→¬OwnB2 uy us q)∧Below w.heap.size w w':=by
  obtain ⟨vs,v0,m1⟩:=hy;obtain ⟨a2,c2,rfl⟩:=reads_shape hx;obtain ⟨a3,c3,rfl⟩:=reads_shape v0
  have l1:∀ u ∈ vs,u.oneCell'=true:=by
    intro u hu;obtain ⟨k,hk,rfl⟩:=List.getElem_of_mem hu;have y2:k < m.arrs.length:=by have:=v0.1;omega
    exact reads_one (m1 k _ _ (List.getElem?_eq_getElem hk) (List.getElem?_eq_getElem y2))
  obtain ⟨w1,i0⟩:∃ X,X=(w.alloc (.cells #[.slice a2 m.vals.length c2,.slice a3 m.arrs.length c3] 40)).alloc (.cells #[.slice none 0 0,.slice none 0 0] 40):=⟨_,rfl⟩;have y0:Below w.heap.size w w1:=by rw [i0];exact bal (bal (Bs w) _) _
  have f2:w1.heap.size=w.heap.size+1+1:=by rw [i0];simp
  have b0:w1.cell? ⟨w.heap.size,0,none⟩=some (.slice a2 m.vals.length c2):=by rw [i0];exact Ac (Wc rfl rfl) _
  have b1:w1.cell? ⟨w.heap.size,1,none⟩=some (.slice a3 m.arrs.length c3):=by rw [i0];exact Ac (Wc rfl rfl) _
  have f0:w1.frozen? ⟨w.heap.size,0,none⟩=false:=by rw [i0];exact Fa (by simp) (Fn rfl) _
  have f1:w1.frozen? ⟨w.heap.size,1,none⟩=false:=by rw [i0];exact Fa (by simp) (Fn rfl) _
  have r0:w1.cell? ⟨w.heap.size+1,0,none⟩=some (.slice none 0 0):=by rw [i0];exact Wc (by simp) rfl
  have r1:w1.cell? ⟨w.heap.size+1,1,none⟩=some (.slice none 0 0):=by rw [i0];exact Wc (by simp) rfl
  have q0:w1.frozen? ⟨w.heap.size+1,0,none⟩=false:=by rw [i0];exact Fn (by simp)
  have q1:w1.frozen? ⟨w.heap.size+1,1,none⟩=false:=by rw [i0];exact Fn (by simp)
  have k1:=Lc b1;have k0:=Lc b0;have HW:=Hi i0;have HZ:=Hi f2;have hz1':w.heap.size+2≤w1.heap.size:=by omega
  clear i0 f2;have HX:=Hi (fun W (hW:Below w1.heap.size w1 W)=>clone_any _ m.vals W (hx.below (btr y0 hW)) (by omega));have HY:=Hi (fun W (hW:Below w1.heap.size w1 W)=>clone2_any _ m.arrs.length vs W (v0.below (btr y0 hW)) l1 (by omega));go_enter Try.func43,Try.ntmps43
  go_upto_region 1 with (fail)
  rw [← HW.out];clear HW;have D:=Bd (Bs w1);go_cut [10] (fun s wx=>∃ ux uy,wx.cell? ⟨w.heap.size,0,none⟩=some ux∧wx.cell? ⟨w.heap.size,1,none⟩=some uy∧wx.frozen? ⟨w.heap.size,1,none⟩=false∧wx.ownsRow w1.heap.size 3 1 ux m.vals.length (ints m.vals)∧wx.ownsRow w1.heap.size 22 1 uy m.arrs.length vs∧Chg (fun q=>q=w.heap.size) w1 wx)
  case first =>
    go_region_with (first | (go_at_call 67;refine (HX.out _ (btr D d0)).mono ?_;rintro e g3 ⟨ux,rfl,ox,a0⟩;obtain ⟨pa,pc,rfl⟩:=Oh ox;have g0ux2:=Kc (btr (btr D d0) a0) b0;have g1ux2:=Kc (btr (btr D d0) a0) b1;have h0ux2:=Kf (btr (btr D d0) a0) k0 f0;have h1ux2:=Kf (btr (btr D d0) a0) k0 f1;have i2:=Lc g0ux2) | (go_at_call 67;refine (HX.out _ D).mono ?_;rintro e g3 ⟨ux,rfl,ox,a0⟩;obtain ⟨pa,pc,rfl⟩:=Oh ox;have g0ux1:=Kc (btr D a0) b0;have g1ux1:=Kc (btr D a0) b1;have h0ux1:=Kf (btr D a0) k0 f0;have h1ux1:=Kf (btr D a0) k0 f1;have g2:=Lc g0ux1) | (go_at_call 68;refine (HY.out _ (btr D a0)).mono ?_;rintro e i3 ⟨uy,rfl,oy,d0⟩;obtain ⟨pb,pd,rfl⟩:=Oh oy;have g0uy2:=Kc (btr (btr D a0) d0) b0;have g1uy2:=Kc (btr (btr D a0) d0) b1;have h0uy2:=Kf (btr (btr D a0) d0) k0 f0;have h1uy2:=Kf (btr (btr D a0) d0) k0 f1;have k2:=Lc g0uy2) | (go_at_call 68;refine (HY.out _ D).mono ?_;rintro e i3 ⟨uy,rfl,oy,d0⟩;obtain ⟨pb,pd,rfl⟩:=Oh oy;have g0uy1:=Kc (btr D d0) b0;have g1uy1:=Kc (btr D d0) b1;have h0uy1:=Kf (btr D d0) k0 f0;have h1uy1:=Kf (btr D d0) k0 f1;have j2:=Lc g0uy1))
    all_goals
      first
      | (have E:=btr (btr D a0) d0
         have o1:=Ob ox d0;have u1:=oy;have d1:=g0uy2;have e1:=g1uy2;have g1:=h1uy2;have d3:=E.size;have b3:=a0.size;have x0:=Nn (b:=w.heap.size) (j:=1) (Tc _ w.heap.size 0 (.slice pa m.vals.length pc) d1) (.slice pb m.arrs.length pd);have x1:=Tc _ w.heap.size 1 (.slice pb m.arrs.length pd) (Nn (b:=w.heap.size) (j:=0) e1 (.slice pa m.vals.length pc));have xf:=Fs (b:=⟨w.heap.size,1,none⟩) (Fs (b:=⟨w.heap.size,0,none⟩) g1 (.slice pa m.vals.length pc)) (.slice pb m.arrs.length pd);have yx:=Om o1 (base':=w1.heap.size) (by have:=D.size;omega);have yy:=Om u1 (base':=w1.heap.size) (by have:=D.size;omega);have lx:=yx.lt;have ly:=yy.lt;have zx:=Oe (Oe yx w.heap.size 0 (fun h=>by have:=lx _ h;omega) (.slice pa m.vals.length pc)) w.heap.size 1 (fun h=>by have:=lx _ h;omega) (.slice pb m.arrs.length pd);have zy:=Oe (Oe yy w.heap.size 0 (fun h=>by have:=ly _ h;omega) (.slice pa m.vals.length pc)) w.heap.size 1 (fun h=>by have:=ly _ h;omega) (.slice pb m.arrs.length pd);have zc:=((Cb (S:=fun q=>q=w.heap.size) E).setCell w.heap.size 0 (.slice pa m.vals.length pc) (fun _=>rfl)).setCell w.heap.size 1 (.slice pb m.arrs.length pd) (fun _=>rfl);go_wp2_with fail
         go_meet
         exact ⟨_,_,x0,x1,xf,zx,zy,zc⟩)
      | (have E:=btr (btr D d0) a0
         have o1:=ox;have u1:=Ob oy a0;have d1:=g0ux2;have e1:=g1ux2;have g1:=h1ux2;have d3:=E.size;have b3:=d0.size;have x0:=Nn (b:=w.heap.size) (j:=1) (Tc _ w.heap.size 0 (.slice pa m.vals.length pc) d1) (.slice pb m.arrs.length pd);have x1:=Tc _ w.heap.size 1 (.slice pb m.arrs.length pd) (Nn (b:=w.heap.size) (j:=0) e1 (.slice pa m.vals.length pc));have xf:=Fs (b:=⟨w.heap.size,1,none⟩) (Fs (b:=⟨w.heap.size,0,none⟩) g1 (.slice pa m.vals.length pc)) (.slice pb m.arrs.length pd);have yx:=Om o1 (base':=w1.heap.size) (by have:=D.size;omega);have yy:=Om u1 (base':=w1.heap.size) (by have:=D.size;omega);have lx:=yx.lt;have ly:=yy.lt;have zx:=Oe (Oe yx w.heap.size 0 (fun h=>by have:=lx _ h;omega) (.slice pa m.vals.length pc)) w.heap.size 1 (fun h=>by have:=lx _ h;omega) (.slice pb m.arrs.length pd);have zy:=Oe (Oe yy w.heap.size 0 (fun h=>by have:=ly _ h;omega) (.slice pa m.vals.length pc)) w.heap.size 1 (fun h=>by have:=ly _ h;omega) (.slice pb m.arrs.length pd);have zc:=((Cb (S:=fun q=>q=w.heap.size) E).setCell w.heap.size 0 (.slice pa m.vals.length pc) (fun _=>rfl)).setCell w.heap.size 1 (.slice pb m.arrs.length pd) (fun _=>rfl);go_wp2_with fail
         go_meet
         exact ⟨_,_,x0,x1,xf,zx,zy,zc⟩)
  obtain ⟨w2,rfl⟩:∃ W,W=wc:=⟨_,rfl⟩;obtain ⟨ux,uy,c0,c1,cf,ox,oy,hC⟩:=hcut;have n3:=hC.size;obtain ⟨pa,pc,rfl⟩:=Oh ox;obtain ⟨pb,pd,rfl⟩:=Oh oy;have s0:=Gc hC r0 (by omega);have s1:=Gc hC r1 (by omega);have t0:=Gf hC (by omega) q0 (by omega);have t1:=Gf hC (by omega) q1 (by omega);have n2:=y0.trans (hC.below w.heap.size y0.size (fun q hq h=>by omega));have lx:=ox.lt;have ly:=oy.lt;have e2:=own_diff ox oy (by decide);have q2:=Hi (fun (k:Nat) (u:Value) (r:List Int) (hu:vs[k]? = some u) (hr:m.arrs[k]? = some r) W (hW:Below w.heap.size w W)=>clone_any u r W ((m1 k u r hu hr).below hW) (by obtain ⟨hk,rfl⟩:=List.getElem?_eq_some_iff.1 hr;have:=pre2_all m.arrs k hk m.arrs.length hk;omega));have m3:=v0.1;have kc:=Lc c1;clear HX HY hx v0 m1 D b0 b1 f0 f1 r0 r1 q0 q1 hC;go_wp2_with fail
  go_loopw [16] (fun t wr=>∃ i:Nat,i≤m.arrs.length∧t=.int .i64 i∧(∃ us:List Value,us.length=i∧wr.ownsRow w1.heap.size 22 1 (.slice pb m.arrs.length pd) m.arrs.length (us++vs.drop i)∧(∀ (k:Nat) (u:Value) (r:List Int),us[k]? = some u→m.arrs[k]? = some r→wr.ownsRow w2.heap.size 3 1 u r.length (ints r))∧(∀ (j k:Nat) (u u':Value),us[j]? = some u→us[k]? = some u'→j≠k→∀ q,u.ownBlock=some q→u'.ownBlock=some q→False))∧Chg (fun q=>(Value.slice pb m.arrs.length pd).ownBlock=some q) w2 wr) (fun t _=>m.arrs.length-(intOf t).toNat)
  case atStart=>exact ⟨0,Nat.zero_le _,rfl,⟨[],rfl,by simpa using oy,fun k u r h=>by simp at h,fun j k u u' h=>by simp at h⟩,Chg.refl _ _⟩
  case round =>
    obtain ⟨i,hi,rfl,⟨us,m0,e0,l0,w0⟩,hC⟩:=hrel;have o3:=hC.size;have hB:=n2.trans (hC.below w.heap.size n2.size (fun q hq h=>by have:=ly q h;omega));have c1r:=Gc hC c1 (fun h=>by have:=ly _ h;omega);have p3:=Lc c1r;by_cases hlt:i < m.arrs.length
    · have j1:i < vs.length:=by omega
      have o0:(us++vs.drop i)[i]? = some vs[i]:=by rw [List.getElem?_append_right (by omega),m0,Nat.sub_self,List.getElem?_drop,Nat.add_zero,List.getElem?_eq_getElem j1]
      obtain ⟨g,c',y1⟩:=own_pos e0 (by omega);simp only [Value.slice.injEq,true_and] at y1;obtain ⟨rfl,rfl⟩:=y1;have g0:=e0.cellAt i (by omega);rw [o0] at g0;have v1:=e0.frozenAt i;have HK:=Hi (q2.out i _ _ (List.getElem?_eq_getElem j1) (List.getElem?_eq_getElem hlt));have kg:=Lc g0;have s2:=Hi (fun u'=>set_dropped us vs u' i m0 j1);have a1:=Hi m0;have l3:=ly g rfl;have p2:=Hi (List.getElem?_eq_getElem hlt);generalize vs[i]=u at *
      generalize m.arrs[i]=r at *
      clear o0 m0 c1 kc;go_upto_region 5 with (fail)
      have D:=Bd (Bs wr);go_region_with (go_at_call 67;refine (HK.out _ (btr hB D)).mono ?_;rintro e wb ⟨un,rfl,on,bb⟩;obtain ⟨pn,qn,rfl⟩:=Oh on;have z0:=Kc (btr D bb) g0;have z1:=Kf (btr D bb) kg v1;have zs:=bb.size;have zc:=Kc (btr D bb) c1r)
      all_goals
        have E:=btr D bb;have d2:=((Ob e0 E).stored i (.slice pn r.length qn)).1;rw [s2.out] at d2;have n1:=on.lt;have k3:=D.size;have f3:=Oe (Om on (base':=w2.heap.size) (by omega)) g i (fun h=>by have:=n1 _ h;omega) (.slice pn r.length qn);have t2:=(hC.trans (Cb (S:=fun q=>(Value.slice (some ⟨g,0,none⟩) m.arrs.length pd).ownBlock=some q) E)).setCell g i (.slice pn r.length qn) (fun _=>rfl)
        have r2:=Hi (fun (k:Nat) (x:Value) (y:List Int) (hx:(us++[Value.slice pn r.length qn])[k]? = some x) (hy:m.arrs[k]? = some y)=>show ((wb.setCell ⟨g,i,none⟩ (.slice pn r.length qn)).ownsRow w2.heap.size 3 1 x y.length (ints y)) from by
          by_cases hk:k < us.length
          · rw [List.getElem?_append_left hk] at hx
            have h1:=Ob (l0 k x y hx hy) E;exact Oe h1 g i (fun h=>by have:=h1.lt _ h;omega) (.slice pn r.length qn)
          have e:k=us.length:=by
            have h2:=(List.getElem?_eq_some_iff.1 hx).1;simp at h2;omega
          subst e;rw [List.getElem?_append_right Lr,Nat.sub_self] at hx;obtain rfl:=Si hx;rw [a1.out,p2.out] at hy;obtain rfl:=Si hy;exact f3)
        have o2:=Hi (fun (j k:Nat) (x y:Value) (hx:(us++[Value.slice pn r.length qn])[j]? = some x) (hy:(us++[Value.slice pn r.length qn])[k]? = some y) (hjk:j≠k) (q:Nat) (h1:x.ownBlock=some q) (h2:y.ownBlock=some q)=>show False from by
          have sp:∀ (a:Nat) (z:Value),(us++[Value.slice pn r.length qn])[a]? = some z→us[a]? = some z∨(a=us.length∧z=Value.slice pn r.length qn):=fun a z hz=>by
            by_cases hk:a < us.length
            · rw [List.getElem?_append_left hk] at hz;exact Or.inl hz
            have e:a=us.length:=by
              have h3:=(List.getElem?_eq_some_iff.1 hz).1;simp at h3;omega
            subst e;rw [List.getElem?_append_right Lr,Nat.sub_self] at hz;exact Or.inr ⟨rfl,(Si hz).symm⟩
          have l2:∀ (a:Nat) (z:Value),us[a]? = some z→z.ownBlock=some q→q < wr.heap.size:=fun a z hz h=>by
            have ha:a < m.arrs.length:=by have:=(List.getElem?_eq_some_iff.1 hz).1;have:=a1.out;omega
            exact ((l0 a z _ hz (List.getElem?_eq_getElem ha)).lt q h).2
          rcases sp j x hx with h3 | ⟨h3,rfl⟩
          · rcases sp k y hy with h4 | ⟨h4,rfl⟩
            · exact w0 j k x y h3 h4 hjk q h1 h2
            have:=l2 j x h3 h1;have:=n1 q h2;omega
          rcases sp k y hy with h4 | ⟨h4,rfl⟩
          · have:=l2 k y h4 h2;have:=n1 q h1;omega
          exact hjk (h3.trans h4.symm))
        clear e0 l0 w0 hC HK g0 v1 on;go_wp2
        go_roundw
        case rel=>exact ⟨i+1,by omega,by go_num,⟨us++[.slice pn r.length qn],by rw [List.length_append,a1.out];rfl,d2,r2.out,o2.out⟩,t2⟩
        case measure=>simp [intOf];omega
    have e:i=m.arrs.length:=by omega
    subst e;rw [List.drop_of_length_le (by omega),List.append_nil] at e0;have p0:∀ q,(Value.slice pb m.arrs.length pd).ownBlock=some q→w1.heap.size≤q:=fun q h=>(ly q h).1
    have c0r:=Gc hC c0 (fun h=>by have:=p0 _ h;omega);have s0r:=Gc hC s0 (fun h=>by have:=p0 _ h;omega);have s1r:=Gc hC s1 (fun h=>by have:=p0 _ h;omega);have t0r:=Gf hC (by omega) t0 (fun h=>by have:=p0 _ h;omega);have t1r:=Gf hC (by omega) t1 (fun h=>by have:=p0 _ h;omega);have p1:=Ow ox hC (fun q h h2=>e2 q h h2);have e3:=p1.lt;have z0:=Nn (b:=w.heap.size+1) (j:=1) (Tc _ (w.heap.size+1) 0 (.slice pa m.vals.length pc) s0r) (.slice pb m.arrs.length pd);have z1:=Tc _ (w.heap.size+1) 1 (.slice pb m.arrs.length pd) (Nn (b:=w.heap.size+1) (j:=0) s1r (.slice pa m.vals.length pc));have O2:Own2I wr w1.heap.size (.slice pb m.arrs.length pd) us m.arrs:=⟨m0,e0,fun k u r h1 h2=>Om (l0 k u r h1 h2) (by omega),w0⟩;have lO:=O2.lt;have i1:Chg (fun q=>q=w.heap.size+1) wr ((wr.setCell ⟨w.heap.size+1,0,none⟩ (.slice pa m.vals.length pc)).setCell ⟨w.heap.size+1,1,none⟩ (.slice pb m.arrs.length pd)):=((Chg.refl (fun q=>q=w.heap.size+1) wr).setCell (w.heap.size+1) 0 (.slice pa m.vals.length pc) (fun _=>rfl)).setCell (w.heap.size+1) 1 (.slice pb m.arrs.length pd) (fun _=>rfl);have O3:=(O2.keep i1 (fun q h h2=>by have:=lO q h;omega)).mono (base':=w.heap.size) (by omega);have m2:=Om (Ow p1 i1 (fun q h h2=>by have:=e3 q h;omega)) (base':=w.heap.size) (by omega)
    have n0:∀ q,(Value.slice pa m.vals.length pc).ownBlock=some q→¬OwnB2 (.slice pb m.arrs.length pd) us q:=by
      rintro q h (h2 | ⟨k,u,hu,h2⟩)
      · exact e2 q h h2
      have hk:k < m.arrs.length:=by have:=(List.getElem?_eq_some_iff.1 hu).1;omega
      have h3:=(l0 k u _ hu (List.getElem?_eq_getElem hk)).lt q h2;have h4:=lx q h;omega
    have zB:=bst (bst hB (w.heap.size+1) 0 (by omega) (.slice pa m.vals.length pc)) (w.heap.size+1) 1 (by omega) (.slice pb m.arrs.length pd);have HE:=Hi (Ai m2 (Ai O3 (Ai n0 zB)));clear e0 l0 w0 O2 O3 m2 p1 i1 hC n0 zB m0;go_wp2
    exact bodyPost_ret (v:=.agg #[.slice pa m.vals.length pc,.slice pb m.arrs.length pd]) (by simp [results,Try.results43,go_sem,z0,z1]) rfl (by exact ⟨_,_,_,rfl,HE.out.1,HE.out.2.1,HE.out.2.2.1,HE.out.2.2.2⟩)
end Go.Proofs.Ytnpidfbcbmeijaa
