/-
 Parts of the proofs of the laws FnCompactRegs,FnFenceCode,FnRunTimeSteps.
-/
import Derived.Test.YtkjedgnepnbkpaaGreatER
set_option linter.all false
namespace Go.Proofs.YtkjedgnepnbkpaaGreat
open Go.RowKit
def rgsK (x:Ins) (k:Nat):List Int:=(((shp x.op).zip (flds x)).take k).filterMap (fun p=>if p.1=114 then some p.2 else none)
def rgs (x:Ins):List Int:=rgsK x 4
def ordL (O:List Int) (rs:List Int):List Int:=rs.foldl ordS O
def ordC (O:List Int) (l:List Ins):List Int:=l.foldl (fun O x=>ordL O (rgs x)) O
theorem rgsK_succ (x:Ins) (k:Nat) (h1:k < (shp x.op).length) (h2:k < (flds x).length):rgsK x (k+1)=rgsK x k++(if (shp x.op)[k]=114 then [(flds x)[k]] else []):=by
 unfold rgsK
 rw [List.take_succ_eq_append_getElem (by rw [List.length_zip];omega),List.filterMap_append,List.getElem_zip]
 by_cases e:(shp x.op)[k]=114
 ·rw [if_pos e];simp [e]
 rw [if_neg e];simp [e]
theorem ordL_snoc (O rs:List Int) (r:Int):ordL O (rs++[r])=ordS (ordL O rs) r:=by simp [ordL]
theorem ordC_succ (O:List Int) (l:List Ins) (i:Nat) (h:i < l.length):ordC O (l.take (i+1))=ordL (ordC O (l.take i)) (rgs l[i]):=by
 unfold ordC;rw [List.take_succ_eq_append_getElem h,List.foldl_append];rfl
theorem ordS_len (O:List Int) (r:Int):(ordS O r).length≤O.length+1:=by unfold ordS;split <;> simp
theorem ordL_len (O rs:List Int):(ordL O rs).length≤O.length+rs.length:=by
 induction rs generalizing O with
 | nil=>simp [ordL]
 | cons r rs ih =>
  have h1:=ih (ordS O r)
  have h2:=ordS_len O r
  simp only [ordL,List.foldl_cons,List.length_cons] at h1 ⊢
  omega
theorem rgsK_len (x:Ins) (k:Nat):(rgsK x k).length≤4:=by
 unfold rgsK
 refine Nat.le_trans (List.length_filterMap_le _ _) ?_
 rw [List.length_take,List.length_zip]
 simp [flds];omega
theorem ordC_len (l:List Ins) (i:Nat):(ordC [] (l.take i)).length≤4*i:=by
 induction i with
 | zero=>simp [ordC]
 | succ i ih =>
  by_cases h:i < l.length
  ·rw [ordC_succ [] l i h]
   have h1:=ordL_len (ordC [] (l.take i)) (rgs l[i])
   have h2:=rgsK_len l[i] 4
   unfold rgs at h1;unfold rgs
   omega
  rw [List.take_of_length_le (by omega)]
  rw [List.take_of_length_le (by omega)] at ih
  omega
theorem ints_same (xs:List Int) (k:Nat) (h:k < xs.length):(ints xs).set k (.int .i64 xs[k])=ints xs:=by
 rw [show Value.int .i64 xs[k]=(ints xs)[k]'(by rw [ints_length];exact h) from (ints_get xs k _).symm]
 exact List.set_getElem_self _
theorem inss_same (l:List Ins) (k:Nat) (h:k < l.length):l.set k l[k]=l:=List.set_getElem_self _
set_option maxHeartbeats 12800000 in
set_option maxRecDepth 100000 in
theorem regsN_any (va vb vc:Value) (c:Cd) (B:Nat) (w:World) (hr:ReadsC w va vb vc c) (hok:codeOk c=true) (hB:w.cell? ⟨B,0,none⟩=some (.slice none 0 0)) (hBf:w.frozen? ⟨B,0,none⟩=false) :
  Calls Tryz.prog 35 #[.agg #[va,vb,vc],.func (.func 78) #[] #[.pointer (some ⟨B,0,none⟩)]] w fun e w'=>∃ u v,e=.returned u∧w'.cell? ⟨B,0,none⟩=some v∧w'.ownsRow w.heap.size 3 1 v (ordC [] c.list).length (ints (ordC [] c.list))∧Chg (fun q=>q=B) w w':=by
 obtain ⟨a0,c0,a1,c1,a2,c2,rfl,rfl,rfl⟩:=hr.shape
 have kB:=Lc hB
 obtain ⟨z5,a6⟩:=codeOk_len hok
 obtain ⟨r5,t5⟩:=declOk_len (codeOk_decl hok)
 have h3:=codeOk_all hok
 have m3:=Lib.hid h3
 clear h3
 obtain ⟨w1,j0⟩:∃ X,X=(w.alloc (.cells #[.slice a0 c.vars.length c0,.slice a1 c.arrays.length c1,.slice a2 c.list.length c2] 26)).alloc (.cells #[.slice none 0 0,.slice none 0 0,.slice none 0 0] 26):=⟨_,rfl⟩
 have i3:Below w.heap.size w w1:=by rw [j0];exact bal (bal (Bs w) _) _
 have r4:w1.heap.size=w.heap.size+1+1:=by rw [j0];simp
 have b0:w1.cell? ⟨w.heap.size,0,none⟩=some (.slice a0 c.vars.length c0):=by rw [j0];exact Ac (Wc rfl rfl) _
 have b1:w1.cell? ⟨w.heap.size,1,none⟩=some (.slice a1 c.arrays.length c1):=by rw [j0];exact Ac (Wc rfl rfl) _
 have b2:w1.cell? ⟨w.heap.size,2,none⟩=some (.slice a2 c.list.length c2):=by rw [j0];exact Ac (Wc rfl rfl) _
 have r0:w1.cell? ⟨w.heap.size+1,0,none⟩=some (.slice none 0 0):=by rw [j0];exact Wc (by simp) rfl
 have r1:w1.cell? ⟨w.heap.size+1,1,none⟩=some (.slice none 0 0):=by rw [j0];exact Wc (by simp) rfl
 have r2:w1.cell? ⟨w.heap.size+1,2,none⟩=some (.slice none 0 0):=by rw [j0];exact Wc (by simp) rfl
 have rf:∀ j,w1.frozen? ⟨w.heap.size+1,j,none⟩=false:=fun j=>by rw [j0];exact Fn (by simp)
 have k2:=Lc b2
 have HW:=Lib.hid j0
 have HZ:=Lib.hid r4
 have hz1':w.heap.size+2≤w1.heap.size:=by omega
 have c4:=Lib.hid rf
 clear j0 r4 rf
 have HO:=Lib.hid (own_any _ _ _ c w1 (hr.below i3) (by omega) (by omega) (by omega))
 clear hr
 go_enter Tryz.func35,Tryz.ntmps35
 go_upto_region 1 with (fail)
 rw [← HW.out]
 clear HW
 go_wp2_with fail
 refine HO.out.mono ?_
 rintro e w2 ⟨u0,u1,u2,rfl,oc,hb⟩
 have b6:=hb.size
 obtain ⟨gL,cL,e5⟩:=own_pos oc.l (by omega)
 obtain ⟨p0,q0,g5⟩:=Oh oc.a
 obtain ⟨p1,q1,h5⟩:=Oh oc.b
 subst e5 g5 h5
 have x5:=oc.l.lt gL rfl
 obtain ⟨w3,v1⟩:∃ X,X=w2.alloc (.cells #[.slice p0 c.vars.length q0,.slice p1 c.arrays.length q1,.slice (some ⟨gL,0,none⟩) c.list.length cL] 26):=⟨_,rfl⟩
 have i1:Below w1.heap.size w1 w3:=by rw [v1];exact bal hb _
 have n5:w3.heap.size=w2.heap.size+1:=by rw [v1];simp
 have oL:w3.ownsRow w1.heap.size 71 5 (.slice (some ⟨gL,0,none⟩) c.list.length cL) c.list.length (inss c.list):=by rw [v1];exact Ob oc.l (bal (Bs w2) _)
 have m0:w3.cell? ⟨w2.heap.size,0,none⟩=some (.slice p0 c.vars.length q0):=by rw [v1];exact Wc rfl rfl
 have m1:w3.cell? ⟨w2.heap.size,1,none⟩=some (.slice p1 c.arrays.length q1):=by rw [v1];exact Wc rfl rfl
 have m2:w3.cell? ⟨w2.heap.size,2,none⟩=some (.slice (some ⟨gL,0,none⟩) c.list.length cL):=by rw [v1];exact Wc rfl rfl
 have h4:=Lib.hid v1
 have hz3':w2.heap.size < w3.heap.size:=by omega
 clear v1 n5 hb
 replace r0:=Kc i1 r0;replace r1:=Kc i1 r1;replace r2:=Kc i1 r2
 have e2:=Lib.hid (fun j=>Kf i1 (by omega) (c4.out j))
 have bB:=Kc (btr i3 i1) hB
 have j4:=Kf (btr i3 i1) kB hBf
 have t2:=btr i3 i1
 clear b0 b1 b2 k2 HO c4 hB hBf oc i1 i3
 go_upto_region 2 with (fail)
 rw [← h4.out]
 clear h4
 have k2:=Lc m2
 go_wp2_with fail
 go_loopw [15] (fun t wr=>∃ i:Nat,i≤c.list.length∧t=.int .i64 i∧(∃ v,wr.cell? ⟨B,0,none⟩=some v∧wr.frozen? ⟨B,0,none⟩=false∧wr.ownsRow w.heap.size 3 1 v (ordC [] (c.list.take i)).length (ints (ordC [] (c.list.take i)))∧(∀ q,v.ownBlock=some q→w3.heap.size≤q))∧wr.ownsRow w1.heap.size 71 5 (.slice (some ⟨gL,0,none⟩) c.list.length cL) c.list.length (inss c.list)∧Chg (fun q=>q=B∨q=gL) w3 wr) (fun t _=>c.list.length-(intOf t).toNat)
 case atStart=>exact ⟨0,Nat.zero_le _,rfl,⟨_,bB,j4,by simpa [ordC,ints] using World.ownsRow_nil w3 w.heap.size 3 1,fun q h=>by simp [Value.ownBlock] at h⟩,oL,Chg.refl _ _⟩
 case round =>
  obtain ⟨i,hi,rfl,⟨v,hv,j3,t1,j2⟩,o0,hC⟩:=hrel
  obtain ⟨wO,rfl⟩:∃ X,X=wr:=⟨_,rfl⟩
  have f6:=hC.size
  clear oL bB j4
  have n2:=Gc hC m2 (by omega)
  have kn:=Lc n2
  by_cases hlt:i < c.list.length
  ·obtain ⟨x,HX,d0,d1,d2,d3,d4⟩:∃ x:Ins,Hid (x=c.list[i])∧wO.cell? ⟨gL,i*5,none⟩=some (.int .i64 x.op)∧wO.cell? ⟨gL,i*5+1,none⟩=some (.int .i64 x.a)∧wO.cell? ⟨gL,i*5+2,none⟩=some (.int .i64 x.b)∧wO.cell? ⟨gL,i*5+3,none⟩=some (.int .i64 x.c)∧wO.cell? ⟨gL,i*5+4,none⟩=some (.int .i64 x.d):=⟨c.list[i],Lib.hid rfl,own_row insc_len o0 i hlt 0 (by omega),own_row insc_len o0 i hlt 1 (by omega),own_row insc_len o0 i hlt 2 (by omega),own_row insc_len o0 i hlt 3 (by omega),own_row insc_len o0 i hlt 4 (by omega)⟩
   have t4:Hid (ordC [] (c.list.take (i+1))=ordL (ordC [] (c.list.take i)) (rgs x)):=Lib.hid (by rw [ordC_succ [] c.list i hlt,HX.out])
   have p5:=ordC_len c.list i
   have f5:=insOk_op (m3.out i hlt)
   rw [← HX.out] at f5
   have kg:=Lc d0
   generalize ordC [] (c.list.take i)=O at *
   have o5:=Lc hv
   have w0:=t1.lt
   obtain ⟨wx,e1⟩:∃ X,X=wO.alloc (.cells #[.int .i64 x.op,.int .i64 x.a,.int .i64 x.b,.int .i64 x.c,.int .i64 x.d] 71):=⟨_,rfl⟩
   have o4:Below wO.heap.size wO wx:=by rw [e1];exact bal (Bs wO) _
   have g6:wO.heap.size < wx.heap.size:=by rw [e1];simp
   have x0:wx.cell? ⟨wO.heap.size,0,none⟩=some (.int .i64 x.op):=by rw [e1];exact Wc rfl rfl
   have x1:wx.cell? ⟨wO.heap.size,1,none⟩=some (.int .i64 x.a):=by rw [e1];exact Wc rfl rfl
   have x2:wx.cell? ⟨wO.heap.size,2,none⟩=some (.int .i64 x.b):=by rw [e1];exact Wc rfl rfl
   have x3:wx.cell? ⟨wO.heap.size,3,none⟩=some (.int .i64 x.c):=by rw [e1];exact Wc rfl rfl
   have x4:wx.cell? ⟨wO.heap.size,4,none⟩=some (.int .i64 x.d):=by rw [e1];exact Wc rfl rfl
   have i4:=Lib.hid e1
   clear e1
   go_upto_region 5 with (fail)
   rw [← i4.out]
   clear i4
   go_wp2_with fail
   refine (fields_any x _).mono ?_
   rintro e w5 ⟨gF,rfl,oF,j1⟩
   have c6:=j1.size
   have v5:=oF.lt gF rfl
   replace x0:=Kc j1 x0;replace x1:=Kc j1 x1;replace x2:=Kc j1 x2;replace x3:=Kc j1 x3;replace x4:=Kc j1 x4
   have k1:=btr o4 j1
   replace hv:=Kc k1 hv
   replace j3:=Kf k1 o5 j3
   replace t1:=Ob t1 k1
   replace o0:=Ob o0 k1
   replace n2:=Kc k1 n2
   have n1:=Kc k1 (Gc hC m1 (by omega))
   have n0:=Kc k1 (Gc hC m0 (by omega))
   have g3:=hC.trans (Chg.of_below (S:=fun q=>q=B∨q=gL) k1)
   clear d0 d1 d2 d3 d4 j1 o4 hC
   go_wp2_with fail
   go_loopw [24] (fun t wy=>∃ k:Nat,k≤4∧t=.int .i64 k∧(∃ v',wy.cell? ⟨B,0,none⟩=some v'∧wy.frozen? ⟨B,0,none⟩=false∧wy.ownsRow w.heap.size 3 1 v' (ordL O (rgsK x k)).length (ints (ordL O (rgsK x k)))∧(∀ q,v'.ownBlock=some q→w3.heap.size≤q∧¬q=wO.heap.size∧¬q=gF)∧(∀ q,v'.ownBlock=some q→v.ownBlock=some q∨w5.heap.size≤q))∧wy.ownsRow wx.heap.size 3 1 (.slice (some ⟨gF,0,none⟩) 4 4) 4 (ints (flds x))∧wy.ownsRow w1.heap.size 71 5 (.slice (some ⟨gL,0,none⟩) c.list.length cL) c.list.length (inss c.list)∧Chg (fun q=>q=B∨q=gF∨v.ownBlock=some q) w5 wy) (fun t _=>4-(intOf t).toNat)
   case atStart=>exact ⟨0,by omega,rfl,⟨v,hv,j3,by simpa [rgsK,ordL] using t1,fun q h=>by have h1:=j2 q h;have h2:=w0 q h;omega,fun q h=>Or.inl h⟩,oF,o0,Chg.refl _ _⟩
   case round =>
    obtain ⟨k,hk,rfl,⟨v',gv,i2,k0,h0,r3⟩,i0,e0,gC⟩:=hrel
    have h6:=gC.size
    clear hv j3 t1 oF o0
    have y0:=Gc gC x0 (fun h=>by rcases h with h | h | h;(omega);(omega);(have:=w0 _ h;omega))
    have ky:=Lc y0
    by_cases hlk:k < 4
    ·have q2:=i0.cellAt k (by omega)
     have a4:k < (flds x).length:=by simpa [flds] using hlk
     rw [List.getElem?_eq_getElem (by rw [ints_length];exact a4),ints_get] at q2
     have j5:(shp x.op).length=4:=shp_len (by omega)
     have p4:k < (shp x.op).length:=by omega
     have q4:=rgsK_succ x k p4 a4
     have o1:=ints_same (flds x) k a4
     have c5:=ordL_len O (rgsK x k)
     have i5:=rgsK_len x k
     go_wp2_with fail
     refine (shape_any x.op _).mono ?_
     rintro e w7 ⟨rfl,v0⟩
     have d6:=v0.size
     obtain ⟨S,hS⟩:∃ S:ByteArray,S=⟨(shp x.op).toArray⟩:=⟨_,rfl⟩
     rw [← hS]
     have hZ:S.size=(shp x.op).length:=by rw [hS];simp [ByteArray.size]
     have l5:k < S.size:=by omega
     have m5:(k:Int) < (S.size:Int):=by omega
     have q5:∀ h',S[k]'h'=(shp x.op)[k]:=fun h'=>by subst hS;exact str_get _ k p4 h'
     clear hS hZ j5
     generalize (shp x.op)[k]=kd at *
     generalize (flds x)[k]=fd at *
     have g4:=Lib.hid q4
     have u4:=Lib.hid o1
     clear q4 o1
     replace gv:=Kc v0 gv
     replace i2:=Kf v0 (by omega) i2
     replace k0:=Ob k0 v0
     replace i0:=Ob i0 v0
     replace e0:=Ob e0 v0
     replace q2:=Kc v0 q2
     have p2:=gC.trans (Chg.of_below (S:=fun q=>q=B∨q=gF∨v.ownBlock=some q) v0)
     have u3:=k0.lt
     have i6:=Lc q2
     have j6:=Lc gv
     clear v0 gC y0
     by_cases hkd:kd=114
     ·subst hkd
      go_wp2_with fail
      refine (numbS_any fd B w.heap.size v' _ _ gv i2 k0 (fun h=>by have h1:=h0 B h;omega) (by omega) (by omega)).mono ?_
      rintro e w8 ⟨rfl,v8,m4,b3,c3,t0,v3⟩
      have e6:=t0.size
      have d5:=Gc t0 q2 (fun h=>by rcases h with h | h;(omega);(have h1:=h0 _ h;omega))
      have p3:=Ow i0 t0 (fun q hq h=>by have e:gF=q:=Option.some.inj hq;subst e;rcases h with h | h;(omega);(have h1:=h0 _ h;omega))
      have a3:=Ow e0 t0 (fun q hq h=>by have e:gL=q:=Option.some.inj hq;subst e;rcases h with h | h;(omega);(have h1:=h0 _ h;omega))
      have u5:=p3.frozenAt k
      have k4:=(p3.stored k (.int .i64 fd)).1
      rw [u4.out] at k4
      have l4:∀ q,v8.ownBlock=some q→w3.heap.size≤q∧¬q=wO.heap.size∧¬q=gF:=by
       intro q hq
       rcases v3 with h | ⟨g,h,h2⟩
       ·exact h0 q (by rw [← h];exact hq)
       rw [h] at hq;obtain rfl:=Option.some.inj hq;omega
      have a5:∀ q,v8.ownBlock=some q→v.ownBlock=some q∨w5.heap.size≤q:=by
       intro q hq
       rcases v3 with h | ⟨g,h,h2⟩
       ·exact r3 q (by rw [← h];exact hq)
       rw [h] at hq;obtain rfl:=Option.some.inj hq;omega
      have b5:=Nn (b:=gF) (j:=k) m4 (.int .i64 fd)
      have t3:=Fs (b:=⟨gF,k,none⟩) b3 (.int .i64 fd)
      have e3:=Oe c3 gF k (fun h=>by have:=l4 _ h;omega) (.int .i64 fd)
      have q3:=Oe a3 gF k (fun h=>by have e:gL=gF:=Option.some.inj h;omega) (.int .i64 fd)
      have v2:Chg (fun q=>q=B∨q=gF∨v.ownBlock=some q) w5 w8:=⟨t0.os.trans p2.os,t0.tape.trans p2.tape,t0.output.trans p2.output,by omega,fun q hq hn=>(t0.block q (by omega) (fun h=>by
       rcases h with h | h
       ·exact hn (Or.inl h)
       rcases r3 q h with h2 | h2
       ·exact hn (Or.inr (Or.inr h2))
       omega)).trans (p2.block q hq hn)⟩
      have w4:=v2.setCell gF k (.int .i64 fd) (fun _=>Or.inr (Or.inl rfl))
      have o3:Hid (ordS (ordL O (rgsK x k)) fd=ordL O (rgsK x (k+1))):=Lib.hid (by rw [g4.out];simp [ordL_snoc])
      rw [o3.out] at e3
      clear gv i2 k0 i0 e0 q2 p2 t0 p3 a3 c3 v2 m4 b3 v3
      go_wp2
      go_roundw
      case rel=>exact ⟨k+1,by omega,by go_num,⟨v8,b5,t3,e3,l4,a5⟩,k4,q3,w4⟩
      case measure=>simp [intOf];omega
     have y5:((kd.toNat:Int) == 114)=false:=by
      simp only [beq_eq_false_iff_ne,ne_eq]
      intro h
      exact hkd (UInt8.toNat_inj.1 (by simp;omega))
     have o3:Hid (ordL O (rgsK x k)=ordL O (rgsK x (k+1))):=Lib.hid (by rw [g4.out];simp [hkd])
     rw [o3.out] at k0
     clear hkd
     go_wp2
     go_roundw
     case rel=>exact ⟨k+1,by omega,by go_num,⟨v',gv,i2,k0,h0,r3⟩,i0,e0,p2⟩
     case measure=>simp [intOf];omega
    have e:k=4:=by omega
    subst e
    obtain ⟨wI,rfl⟩:∃ X,X=wr:=⟨_,rfl⟩
    have k3:¬(wO.heap.size=B∨wO.heap.size=gF∨v.ownBlock=some wO.heap.size):=by
     rintro (h | h | h)
     ·omega
     ·omega
     have:=w0 _ h;omega
    have b4:¬(w2.heap.size=B∨w2.heap.size=gF∨v.ownBlock=some w2.heap.size):=by
     rintro (h | h | h)
     ·omega
     ·omega
     have:=j2 _ h;omega
    have y1:=Gc gC x1 k3
    have y2:=Gc gC x2 k3
    have y3:=Gc gC x3 k3
    have y4:=Gc gC x4 k3
    have o2:=Gc gC n2 b4
    have l0:wI.cell? ⟨gF,0,none⟩=some (.int .i64 x.a):=by
     have h:=i0.cellAt 0 (by omega)
     simpa [ints,flds] using h
    have l1:wI.cell? ⟨gF,1,none⟩=some (.int .i64 x.b):=by
     have h:=i0.cellAt 1 (by omega)
     simpa [ints,flds] using h
    have l2:wI.cell? ⟨gF,2,none⟩=some (.int .i64 x.c):=by
     have h:=i0.cellAt 2 (by omega)
     simpa [ints,flds] using h
    have l3:wI.cell? ⟨gF,3,none⟩=some (.int .i64 x.d):=by
     have h:=i0.cellAt 3 (by omega)
     simpa [ints,flds] using h
    have d0:wI.cell? ⟨gL,i*5,none⟩=some (.int .i64 x.op):=by rw [HX.out];exact own_row insc_len e0 i hlt 0 (by omega)
    have d1:wI.cell? ⟨gL,i*5+1,none⟩=some (.int .i64 x.a):=by rw [HX.out];exact own_row insc_len e0 i hlt 1 (by omega)
    have d2:wI.cell? ⟨gL,i*5+2,none⟩=some (.int .i64 x.b):=by rw [HX.out];exact own_row insc_len e0 i hlt 2 (by omega)
    have d3:wI.cell? ⟨gL,i*5+3,none⟩=some (.int .i64 x.c):=by rw [HX.out];exact own_row insc_len e0 i hlt 3 (by omega)
    have d4:wI.cell? ⟨gL,i*5+4,none⟩=some (.int .i64 x.d):=by rw [HX.out];exact own_row insc_len e0 i hlt 4 (by omega)
    have f0:=e0.frozenAt (i*5)
    have f1:=e0.frozenAt (i*5+1)
    have f2:=e0.frozenAt (i*5+2)
    have f3:=e0.frozenAt (i*5+3)
    have f4:=e0.frozenAt (i*5+4)
    have kd:=Lc d0
    have kv:=Lc gv
    have k5:=fun W (h:Below wI.heap.size wI W)=>own_set5 (Ob e0 h) i hlt x
    have e4:Hid (∀ W,Below wI.heap.size wI W→(((((W.setCell ⟨gL,i*5,none⟩ (.int .i64 x.op)).setCell ⟨gL,i*5+1,none⟩ (.int .i64 x.a)).setCell ⟨gL,i*5+2,none⟩ (.int .i64 x.b)).setCell ⟨gL,i*5+3,none⟩ (.int .i64 x.c)).setCell ⟨gL,i*5+4,none⟩ (.int .i64 x.d)).ownsRow w1.heap.size 71 5 (.slice (some ⟨gL,0,none⟩) c.list.length cL) c.list.length (inss c.list)):=Lib.hid (fun W h=>by
     have h2:=own_set5 (Ob e0 h) i hlt x
     rw [show c.list.set i x=c.list from by rw [HX.out];exact inss_same c.list i hlt] at h2
     exact h2)
    have v2:Chg (fun q=>q=B∨q=gL) w3 wI:=⟨gC.os.trans g3.os,gC.tape.trans g3.tape,gC.output.trans g3.output,by omega,fun q hq hn=>(gC.block q (by omega) (fun h=>by
     rcases h with h | h | h
     ·exact hn (Or.inl h)
     ·omega
     have:=j2 q h;omega)).trans (g3.block q hq hn)⟩
    have u3:=k0.lt
    have n3:Hid (ordL O (rgsK x 4)=ordC [] (c.list.take (i+1))):=Lib.hid t4.out.symm
    have v4:=Lib.hid (show ∀ W',Below wI.heap.size wI W'→(fun W'=>W'.cell? ⟨w2.heap.size,2,none⟩=some (.slice (some ⟨gL,0,none⟩) c.list.length cL)∧W'.cell? ⟨wO.heap.size,0,none⟩=some (.int .i64 x.op)∧W'.cell? ⟨wO.heap.size,1,none⟩=some (.int .i64 x.a)∧W'.cell? ⟨wO.heap.size,2,none⟩=some (.int .i64 x.b)∧W'.cell? ⟨wO.heap.size,3,none⟩=some (.int .i64 x.c)∧W'.cell? ⟨wO.heap.size,4,none⟩=some (.int .i64 x.d)) W' from fun W' h=>⟨Kc h o2,Kc h y0,Kc h y1,Kc h y2,Kc h y3,Kc h y4⟩)
    clear k5 gC g3 i0 x0 x1 x2 x3 x4 n0 n1 n2 j2 w0
    go_upto_region 12 with (fail)
    have D:=Below.drew (Bs wI)
    go_region_with (go_at_call 83;refine (withFields_any x.op x.a x.b x.c x.d x.a x.b x.c x.d gF 4 _ (Kc D l0) (Kc D l1) (Kc D l2) (Kc D l3)).mono ?_;rintro e wb ⟨rfl,bb⟩;have z0:=Kc (btr D bb) d0;have z1:=Kc (btr D bb) d1;have z2:=Kc (btr D bb) d2;have z3:=Kc (btr D bb) d3;have z4:=Kc (btr D bb) d4;have k6:=Kf (btr D bb) kd f0;have l6:=Kf (btr D bb) kd f1;have m6:=Kf (btr D bb) kd f2;have n6:=Kf (btr D bb) kd f3;have o6:=Kf (btr D bb) kd f4;have zo:=Kc (btr D bb) o2;have zs:=bb.size)
    all_goals
     have E:=btr D bb
     have s1:=e4.out _ E
     have s2:=(Nn (b:=gL) (j:=i*5+4) (Nn (b:=gL) (j:=i*5+3) (Nn (b:=gL) (j:=i*5+2) (Nn (b:=gL) (j:=i*5+1) (Nn (b:=gL) (j:=i*5) (Kc E gv) (.int .i64 x.op)) (.int .i64 x.a)) (.int .i64 x.b)) (.int .i64 x.c)) (.int .i64 x.d))
     have s3:=(Fs (b:=⟨gL,i*5+4,none⟩) (Fs (b:=⟨gL,i*5+3,none⟩) (Fs (b:=⟨gL,i*5+2,none⟩) (Fs (b:=⟨gL,i*5+1,none⟩) (Fs (b:=⟨gL,i*5,none⟩) (Kf E kv i2) (.int .i64 x.op)) (.int .i64 x.a)) (.int .i64 x.b)) (.int .i64 x.c)) (.int .i64 x.d))
     have s4:=(Oe (Oe (Oe (Oe (Oe (Ob k0 E) gL (i*5) (fun h=>by have:=(h0 _ h).1;omega) (.int .i64 x.op)) gL (i*5+1) (fun h=>by have:=(h0 _ h).1;omega) (.int .i64 x.a)) gL (i*5+2) (fun h=>by have:=(h0 _ h).1;omega) (.int .i64 x.b)) gL (i*5+3) (fun h=>by have:=(h0 _ h).1;omega) (.int .i64 x.c)) gL (i*5+4) (fun h=>by have:=(h0 _ h).1;omega) (.int .i64 x.d))
     have s5:=((((((v2.trans (Chg.of_below (S:=fun q=>q=B∨q=gL) E)).setCell gL (i*5) (.int .i64 x.op) (fun _=>Or.inr rfl)).setCell gL (i*5+1) (.int .i64 x.a) (fun _=>Or.inr rfl)).setCell gL (i*5+2) (.int .i64 x.b) (fun _=>Or.inr rfl)).setCell gL (i*5+3) (.int .i64 x.c) (fun _=>Or.inr rfl)).setCell gL (i*5+4) (.int .i64 x.d) (fun _=>Or.inr rfl))
     clear D bb E d0 d1 d2 d3 d4 l0 l1 l2 l3 o2 y0 y1 y2 y3 y4 f0 f1 f2 f3 f4 v4 e4 e0 gv i2 k0 v2
     go_wp2
     go_roundw
     case rel=>exact ⟨i+1,by omega,by go_num,⟨v',s2,s3,by rw [← n3.out];exact s4,fun q h=>(h0 q h).1⟩,s1,s5⟩
     case measure=>simp [intOf];omega
  have e:i=c.list.length:=by omega
  subst e
  rw [List.take_length] at t1
  have n1:=Gc hC m1 (by omega)
  have n0:=Gc hC m0 (by omega)
  have s0:=Gc hC r0 (by omega)
  have s1:=Gc hC r1 (by omega)
  have s2:=Gc hC r2 (by omega)
  have g0:=Gf hC (by omega) (e2.out 0) (by omega)
  have g1:=Gf hC (by omega) (e2.out 1) (by omega)
  have g2:=Gf hC (by omega) (e2.out 2) (by omega)
  have z0:=(Nn (b:=w.heap.size+1) (j:=2) (Nn (b:=w.heap.size+1) (j:=1) (Tc _ (w.heap.size+1) 0 (.slice p0 c.vars.length q0) s0) (.slice p1 c.arrays.length q1)) (.slice (some ⟨gL,0,none⟩) c.list.length cL))
  have z1:=(Nn (b:=w.heap.size+1) (j:=2) (Tc _ (w.heap.size+1) 1 (.slice p1 c.arrays.length q1) (Nn (b:=w.heap.size+1) (j:=0) s1 (.slice p0 c.vars.length q0))) (.slice (some ⟨gL,0,none⟩) c.list.length cL))
  have z2:=(Tc _ (w.heap.size+1) 2 (.slice (some ⟨gL,0,none⟩) c.list.length cL) (Nn (b:=w.heap.size+1) (j:=1) (Nn (b:=w.heap.size+1) (j:=0) s2 (.slice p0 c.vars.length q0)) (.slice p1 c.arrays.length q1)))
  have zB:=(Nn (b:=w.heap.size+1) (j:=2) (Nn (b:=w.heap.size+1) (j:=1) (Nn (b:=w.heap.size+1) (j:=0) hv (.slice p0 c.vars.length q0)) (.slice p1 c.arrays.length q1)) (.slice (some ⟨gL,0,none⟩) c.list.length cL))
  have zV:=(Oe (Oe (Oe t1 (w.heap.size+1) 0 (fun h=>by have:=j2 _ h;omega) (.slice p0 c.vars.length q0)) (w.heap.size+1) 1 (fun h=>by have:=j2 _ h;omega) (.slice p1 c.arrays.length q1)) (w.heap.size+1) 2 (fun h=>by have:=j2 _ h;omega) (.slice (some ⟨gL,0,none⟩) c.list.length cL))
  have n4:Chg (fun q=>q=B) w wO:=⟨hC.os.trans t2.os,hC.tape.trans t2.tape,hC.output.trans t2.output,by have:=t2.size;omega,fun q hq hn=>(hC.block q (by have:=t2.size;omega) (fun h=>by
   rcases h with h | h
   ·exact hn h
   omega)).trans (t2.block q hq)⟩
  have zC:=(((n4.setCell (w.heap.size+1) 0 (.slice p0 c.vars.length q0) (fun h=>by omega)).setCell (w.heap.size+1) 1 (.slice p1 c.arrays.length q1) (fun h=>by omega)).setCell (w.heap.size+1) 2 (.slice (some ⟨gL,0,none⟩) c.list.length cL) (fun h=>by omega))
  clear hv j3 t1 o0 hC n4
  go_wp2
  exact bodyPost_ret (v:=.agg #[.slice p0 c.vars.length q0,.slice p1 c.arrays.length q1,.slice (some ⟨gL,0,none⟩) c.list.length cL]) (by simp [results,Tryz.results35,go_sem,z0,z1,z2]) rfl (by exact ⟨_,_,rfl,zB,zV,zC⟩)
end Go.Proofs.YtkjedgnepnbkpaaGreat
