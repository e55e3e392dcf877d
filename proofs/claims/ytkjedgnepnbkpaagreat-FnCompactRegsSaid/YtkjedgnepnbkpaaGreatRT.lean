/-
 Parts of the proofs of the laws FnCompactRegs,FnFenceCode,FnRunTimeSteps.
-/
import Derived.Test.YtkjedgnepnbkpaaGreatER
set_option linter.all false
namespace Go.Proofs.YtkjedgnepnbkpaaGreat
open Go.RowKit
theorem intsP_set (xs:List Int) (k:Nat) (v:Int):(ints xs).set k (.int .i64 v)=ints (xs.set k v):=by simp [ints,List.map_set]
def fldC (O:List Int) (p:UInt8 × Int):Int:=if p.1=114 then idxI O p.2 else p.2
def cmpF (O:List Int) (x:Ins):List Int:=((shp x.op).zip (flds x)).map (fldC O)
def cmpI (O:List Int) (x:Ins):Ins:=⟨x.op,(cmpF O x).getD 0 0,(cmpF O x).getD 1 0,(cmpF O x).getD 2 0,(cmpF O x).getD 3 0⟩
theorem cmpF_len {x:Ins} (O:List Int) (h:(shp x.op).length=4):(cmpF O x).length=4:=by unfold cmpF;rw [List.length_map,List.length_zip,h];rfl
theorem cmpF_get {x:Ins} (O:List Int) (k:Nat) (h1:k < (shp x.op).length) (h2:k < (flds x).length) (h3:k < (cmpF O x).length):(cmpF O x)[k]=if (shp x.op)[k]=114 then idxI O (flds x)[k] else (flds x)[k]:=by
 simp [cmpF,fldC]
theorem cmpI_flds {x:Ins} (O:List Int) (h:(shp x.op).length=4):flds (cmpI O x)=cmpF O x:=by
 have hl:=cmpF_len O h
 match hq:cmpF O x,hl with
 | [a,b,c,d],_=>simp [flds,cmpI,hq]
def mixF (O:List Int) (x:Ins) (k:Nat):List Int:=(cmpF O x).take k++(flds x).drop k
theorem mixF_set {x:Ins} (O:List Int) (h:(shp x.op).length=4) (k:Nat) (hk:k < 4) (v:Int) (hv:v=(cmpF O x)[k]'(by rw [cmpF_len O h];exact hk)):(mixF O x k).set k v=mixF O x (k+1):=by
 have hl:=cmpF_len O h
 subst hv
 unfold mixF
 rw [set_dropped _ (flds x) _ k (by rw [List.length_take,hl];omega) (by simpa [flds] using hk),List.take_succ_eq_append_getElem (by rw [hl];exact hk)]
theorem mixF_at {x:Ins} (O:List Int) (h:(shp x.op).length=4) (k:Nat) (hk:k < 4):(mixF O x k)[k]? = some ((flds x)[k]'(by simpa [flds] using hk)):=by
 have hl:=cmpF_len O h
 unfold mixF
 rw [List.getElem?_append_right (by rw [List.length_take,hl];omega),List.length_take,hl,Nat.min_eq_left (by omega),Nat.sub_self,List.getElem?_drop,Nat.add_zero,List.getElem?_eq_getElem (by simpa [flds] using hk)]
theorem mixF_same {x:Ins} (O:List Int) (h:(shp x.op).length=4) (k:Nat) (hk:k < 4) (hv:(flds x)[k]'(by simpa [flds] using hk)=(cmpF O x)[k]'(by rw [cmpF_len O h];exact hk)):mixF O x k=mixF O x (k+1):=by
 rw [← mixF_set O h k hk _ hv]
 have hl:=cmpF_len O h
 have a0:k < (mixF O x k).length:=by unfold mixF;simp [hl,flds];omega
 have h2:=mixF_at O h k hk
 rw [List.getElem?_eq_getElem a0] at h2
 have h3:=Option.some.inj h2
 rw [← h3,List.set_getElem_self]
theorem mixF_len {x:Ins} (O:List Int) (h:(shp x.op).length=4) (k:Nat) (hk:k≤4):(mixF O x k).length=4:=by
 have hl:=cmpF_len O h
 unfold mixF;simp [hl,flds];omega
theorem mixF_4 {x:Ins} (O:List Int) (h:(shp x.op).length=4):mixF O x 4=flds (cmpI O x):=by
 rw [cmpI_flds O h]
 unfold mixF
 rw [List.take_of_length_le (by rw [cmpF_len O h];exact Nat.le_refl _),List.drop_of_length_le (by simp [flds]),List.append_nil]
theorem idxS_any (r:Int) (B:Nat) (v:Value) (O:List Int) (w:World) (hc:w.cell? ⟨B,0,none⟩=some v) (ho:Reads w 1 v O.length (ints O)) :
  Calls Tryz.prog 36 #[.int .i64 r,.pointer (some ⟨B,0,none⟩)] w fun e w'=>e=.returned (.int .i64 (idxI O r))∧w'=w:=by
 obtain ⟨a,c,rfl⟩:=reads_shape ho
 have kB:=Lc hc
 go_enter Tryz.func36,Tryz.ntmps36
 go_wp2_with fail
 refine (indexI_any _ O r _ ho).mono ?_
 rintro e w1 ⟨rfl,rfl⟩
 clear ho
 go_wp2
 go_ret
 exact ⟨rfl,rfl⟩
set_option maxHeartbeats 12800000 in
set_option maxRecDepth 100000 in
theorem regsC_any (va vb vc:Value) (c:Cd) (B:Nat) (vo:Value) (O:List Int) (w:World) (hr:ReadsC w va vb vc c) (hok:codeOk c=true) (hB:w.cell? ⟨B,0,none⟩=some vo) (hO:Reads w 1 vo O.length (ints O)) :
  Calls Tryz.prog 35 #[.agg #[va,vb,vc],.func (.func 36) #[] #[.pointer (some ⟨B,0,none⟩)]] w fun e w'=>∃ ua ub uc,e=.returned (.agg #[ua,ub,uc])∧OwnC w' w.heap.size ua ub uc ⟨c.vars,c.arrays,c.list.map (cmpI O)⟩∧Below w.heap.size w w':=by
 obtain ⟨a0,c0,a1,c1,a2,c2,rfl,rfl,rfl⟩:=hr.shape
 have kB:=Lc hB
 obtain ⟨g5,h5⟩:=codeOk_len hok
 obtain ⟨a5,b5⟩:=declOk_len (codeOk_decl hok)
 have v1:=codeOk_all hok
 have v2:=Lib.hid v1
 clear v1
 obtain ⟨w1,o0⟩:∃ X,X=(w.alloc (.cells #[.slice a0 c.vars.length c0,.slice a1 c.arrays.length c1,.slice a2 c.list.length c2] 26)).alloc (.cells #[.slice none 0 0,.slice none 0 0,.slice none 0 0] 26):=⟨_,rfl⟩
 have e2:Below w.heap.size w w1:=by rw [o0];exact bal (bal (Bs w) _) _
 have a4:w1.heap.size=w.heap.size+1+1:=by rw [o0];simp
 have b0:w1.cell? ⟨w.heap.size,0,none⟩=some (.slice a0 c.vars.length c0):=by rw [o0];exact Ac (Wc rfl rfl) _
 have b1:w1.cell? ⟨w.heap.size,1,none⟩=some (.slice a1 c.arrays.length c1):=by rw [o0];exact Ac (Wc rfl rfl) _
 have b2:w1.cell? ⟨w.heap.size,2,none⟩=some (.slice a2 c.list.length c2):=by rw [o0];exact Ac (Wc rfl rfl) _
 have r0:w1.cell? ⟨w.heap.size+1,0,none⟩=some (.slice none 0 0):=by rw [o0];exact Wc (by simp) rfl
 have r1:w1.cell? ⟨w.heap.size+1,1,none⟩=some (.slice none 0 0):=by rw [o0];exact Wc (by simp) rfl
 have r2:w1.cell? ⟨w.heap.size+1,2,none⟩=some (.slice none 0 0):=by rw [o0];exact Wc (by simp) rfl
 have rf:∀ j,w1.frozen? ⟨w.heap.size+1,j,none⟩=false:=fun j=>by rw [o0];exact Fn (by simp)
 have k2:=Lc b2
 have HW:=Lib.hid o0
 have HZ:=Lib.hid a4
 have hz1':w.heap.size+2≤w1.heap.size:=by omega
 have g3:=Lib.hid rf
 clear o0 a4 rf
 have HO:=Lib.hid (own_any _ _ _ c w1 (hr.below e2) (by omega) (by omega) (by omega))
 clear hr
 go_enter Tryz.func35,Tryz.ntmps35
 go_upto_region 1 with (fail)
 rw [← HW.out]
 clear HW
 go_wp2_with fail
 refine HO.out.mono ?_
 rintro e w2 ⟨u0,u1,u2,rfl,oc,hb⟩
 have i5:=hb.size
 obtain ⟨gL,cL,o4⟩:=own_pos oc.l (by omega)
 obtain ⟨p0,q0,r4⟩:=Oh oc.a
 obtain ⟨p1,q1,s4⟩:=Oh oc.b
 subst o4 r4 s4
 have e5:=oc.l.lt gL rfl
 have c4:=oc.a
 have e4:=oc.b
 have e3:=oc.ab
 have l4:=own_diff oc.a oc.l (by decide)
 have m4:=own_diff oc.b oc.l (by decide)
 obtain ⟨w3,t0⟩:∃ X,X=w2.alloc (.cells #[.slice p0 c.vars.length q0,.slice p1 c.arrays.length q1,.slice (some ⟨gL,0,none⟩) c.list.length cL] 26):=⟨_,rfl⟩
 have w0:Below w1.heap.size w1 w3:=by rw [t0];exact bal hb _
 have v4:w3.heap.size=w2.heap.size+1:=by rw [t0];simp
 have oL:w3.ownsRow w1.heap.size 71 5 (.slice (some ⟨gL,0,none⟩) c.list.length cL) c.list.length (inss c.list):=by rw [t0];exact Ob oc.l (bal (Bs w2) _)
 have oA:w3.ownsRow w1.heap.size 3 1 (.slice p0 c.vars.length q0) c.vars.length (ints c.vars):=by rw [t0];exact Ob c4 (bal (Bs w2) _)
 have oB:w3.ownsRow w1.heap.size 3 1 (.slice p1 c.arrays.length q1) c.arrays.length (ints c.arrays):=by rw [t0];exact Ob e4 (bal (Bs w2) _)
 clear c4 e4
 have m0:w3.cell? ⟨w2.heap.size,0,none⟩=some (.slice p0 c.vars.length q0):=by rw [t0];exact Wc rfl rfl
 have m1:w3.cell? ⟨w2.heap.size,1,none⟩=some (.slice p1 c.arrays.length q1):=by rw [t0];exact Wc rfl rfl
 have m2:w3.cell? ⟨w2.heap.size,2,none⟩=some (.slice (some ⟨gL,0,none⟩) c.list.length cL):=by rw [t0];exact Wc rfl rfl
 have i3:=Lib.hid t0
 have hz3':w2.heap.size < w3.heap.size:=by omega
 clear t0 v4 hb
 replace r0:=Kc w0 r0;replace r1:=Kc w0 r1;replace r2:=Kc w0 r2
 have i1:=Lib.hid (fun j=>Kf w0 (by omega) (g3.out j))
 have bB:=Kc (btr e2 w0) hB
 have k4:=hO.below (btr e2 w0)
 have g4:=btr e2 w0
 clear b0 b1 b2 k2 HO g3 hB oc w0 e2
 go_upto_region 2 with (fail)
 rw [← i3.out]
 clear i3
 have k2:=Lc m2
 go_wp2_with fail
 go_loopw [15] (fun t wr=>∃ i:Nat,i≤c.list.length∧t=.int .i64 i∧wr.ownsRow w1.heap.size 71 5 (.slice (some ⟨gL,0,none⟩) c.list.length cL) c.list.length (inss ((c.list.take i).map (cmpI O)++c.list.drop i))∧Chg (fun q=>q=gL) w3 wr) (fun t _=>c.list.length-(intOf t).toNat)
 case atStart=>exact ⟨0,Nat.zero_le _,rfl,by simpa using oL,Chg.refl _ _⟩
 case round =>
  obtain ⟨i,hi,rfl,i0,hC⟩:=hrel
  obtain ⟨wO,rfl⟩:∃ X,X=wr:=⟨_,rfl⟩
  have l5:=hC.size
  clear oL
  have n2:=Gc hC m2 (by omega)
  have kn:=Lc n2
  by_cases hlt:i < c.list.length
  ·have hl2':i < ((c.list.take i).map (cmpI O)++c.list.drop i).length:=by simp;omega
   obtain ⟨x,HX,d0,d1,d2,d3,d4⟩:∃ x:Ins,Hid (x=c.list[i])∧wO.cell? ⟨gL,i*5,none⟩=some (.int .i64 x.op)∧wO.cell? ⟨gL,i*5+1,none⟩=some (.int .i64 x.a)∧wO.cell? ⟨gL,i*5+2,none⟩=some (.int .i64 x.b)∧wO.cell? ⟨gL,i*5+3,none⟩=some (.int .i64 x.c)∧wO.cell? ⟨gL,i*5+4,none⟩=some (.int .i64 x.d):=⟨c.list[i],Lib.hid rfl,by rw [← map_get (f:=cmpI O) c.list i hlt hl2'];exact own_row insc_len i0 i hl2' 0 (by omega),by rw [← map_get (f:=cmpI O) c.list i hlt hl2'];exact own_row insc_len i0 i hl2' 1 (by omega),by rw [← map_get (f:=cmpI O) c.list i hlt hl2'];exact own_row insc_len i0 i hl2' 2 (by omega),by rw [← map_get (f:=cmpI O) c.list i hlt hl2'];exact own_row insc_len i0 i hl2' 3 (by omega),by rw [← map_get (f:=cmpI O) c.list i hlt hl2'];exact own_row insc_len i0 i hl2' 4 (by omega)⟩
   have q4:=insOk_op (v2.out i hlt)
   rw [← HX.out] at q4
   have v3:(shp x.op).length=4:=shp_len (by omega)
   have j1:=Lib.hid v3
   clear v3
   have kg:=Lc d0
   obtain ⟨wx,v0⟩:∃ X,X=wO.alloc (.cells #[.int .i64 x.op,.int .i64 x.a,.int .i64 x.b,.int .i64 x.c,.int .i64 x.d] 71):=⟨_,rfl⟩
   have r3:Below wO.heap.size wO wx:=by rw [v0];exact bal (Bs wO) _
   have m5:wO.heap.size < wx.heap.size:=by rw [v0];simp
   have x0:wx.cell? ⟨wO.heap.size,0,none⟩=some (.int .i64 x.op):=by rw [v0];exact Wc rfl rfl
   have x1:wx.cell? ⟨wO.heap.size,1,none⟩=some (.int .i64 x.a):=by rw [v0];exact Wc rfl rfl
   have x2:wx.cell? ⟨wO.heap.size,2,none⟩=some (.int .i64 x.b):=by rw [v0];exact Wc rfl rfl
   have x3:wx.cell? ⟨wO.heap.size,3,none⟩=some (.int .i64 x.c):=by rw [v0];exact Wc rfl rfl
   have x4:wx.cell? ⟨wO.heap.size,4,none⟩=some (.int .i64 x.d):=by rw [v0];exact Wc rfl rfl
   have j3:=Lib.hid v0
   clear v0
   go_upto_region 5 with (fail)
   rw [← j3.out]
   clear j3
   go_wp2_with fail
   refine (fields_any x _).mono ?_
   rintro e w5 ⟨gF,rfl,oF,e1⟩
   have j5:=e1.size
   have d5:=oF.lt gF rfl
   replace x0:=Kc e1 x0;replace x1:=Kc e1 x1;replace x2:=Kc e1 x2;replace x3:=Kc e1 x3;replace x4:=Kc e1 x4
   have i2:=btr r3 e1
   have q3:=(k4.keep hC (fun b o cap h0 h e=>by have h1:=reads_lt hO b o cap h0 h;omega)).below i2
   have k3:=Kc i2 (Gc hC bB (by omega))
   replace i0:=Ob i0 i2
   replace n2:=Kc i2 n2
   have t1:=hC.trans (Chg.of_below (S:=fun q=>q=gL) i2)
   have b4:w5.ownsRow wx.heap.size 3 1 (.slice (some ⟨gF,0,none⟩) 4 4) 4 (ints (mixF O x 0)):=by simpa [mixF] using oF
   clear d0 d1 d2 d3 d4 e1 r3 hC oF
   go_wp2_with fail
   go_loopw [24] (fun t wy=>∃ k:Nat,k≤4∧t=.int .i64 k∧wy.ownsRow wx.heap.size 3 1 (.slice (some ⟨gF,0,none⟩) 4 4) 4 (ints (mixF O x k))∧Chg (fun q=>q=gF) w5 wy) (fun t _=>4-(intOf t).toNat)
   case atStart=>exact ⟨0,by omega,rfl,b4,Chg.refl _ _⟩
   case round =>
    obtain ⟨k,hk,rfl,e0,gC⟩:=hrel
    have n5:=gC.size
    clear b4
    have y0:=Gc gC x0 (by omega)
    have ky:=Lc y0
    by_cases hlk:k < 4
    ·have t2:=e0.cellAt k (by omega)
     have n4:k < (flds x).length:=by simpa [flds] using hlk
     have hm:=mixF_at O j1.out k hlk
     have p4:=mixF_len O j1.out k hk
     obtain ⟨u3,t3⟩:=List.getElem?_eq_some_iff.1 hm
     rw [List.getElem?_eq_getElem (by rw [ints_length];exact u3),ints_get,t3] at t2
     have s3:k < (shp x.op).length:=by rw [j1.out];exact hlk
     have p2:=cmpF_get O k s3 n4 (by rw [cmpF_len O j1.out];exact hlk)
     have k1:=fun v hv=>mixF_set O j1.out k hlk v hv
     have k0:=fun hv=>mixF_same O j1.out k hlk hv
     clear hm t3 u3 p4
     rw [p2] at k1 k0
     clear p2
     go_wp2_with fail
     refine (shape_any x.op _).mono ?_
     rintro e w7 ⟨rfl,j2⟩
     have k5:=j2.size
     obtain ⟨S,hS⟩:∃ S:ByteArray,S=⟨(shp x.op).toArray⟩:=⟨_,rfl⟩
     rw [← hS]
     have hZ:S.size=(shp x.op).length:=by rw [hS];simp [ByteArray.size]
     have t4:k < S.size:=by omega
     have u4:(k:Int) < (S.size:Int):=by omega
     have w4:∀ h',S[k]'h'=(shp x.op)[k]:=fun h'=>by subst hS;exact str_get _ k s3 h'
     clear hS hZ
     generalize (shp x.op)[k]=kd at *
     generalize (flds x)[k]=fd at *
     have b3:=Lib.hid k1
     have a3:=Lib.hid k0
     clear k1 k0
     replace e0:=Ob e0 j2
     replace t2:=Kc j2 t2
     have o1:=gC.trans (Chg.of_below (S:=fun q=>q=gF) j2)
     have m3:=Gc o1 k3 (by omega)
     have j4:=q3.keep o1 (fun b o cap h0 h e=>by have h1:=reads_lt hO b o cap h0 h;omega)
     have o5:=Lc t2
     have p5:=Lc m3
     clear j2 gC y0
     by_cases hkd:kd=114
     ·subst hkd
      go_wp2_with fail
      refine (idxS_any fd B vo O _ m3 j4).mono ?_
      rintro e w8 ⟨rfl,rfl⟩
      have c5:=e0.frozenAt k
      have o3:=(e0.stored k (.int .i64 (idxI O fd))).1
      rw [intsP_set,b3.out _ (by simp)] at o3
      have i4:=o1.setCell gF k (.int .i64 (idxI O fd)) (fun _=>rfl)
      clear e0 o1 b3 a3
      go_wp2
      go_roundw
      case rel=>exact ⟨k+1,by omega,by go_num,o3,i4⟩
      case measure=>simp [intOf];omega
     have f5:((kd.toNat:Int) == 114)=false:=by
      simp only [beq_eq_false_iff_ne,ne_eq]
      intro h
      exact hkd (UInt8.toNat_inj.1 (by simp;omega))
     rw [a3.out (by simp [hkd])] at e0
     clear hkd b3 a3
     go_wp2
     go_roundw
     case rel=>exact ⟨k+1,by omega,by go_num,e0,o1⟩
     case measure=>simp [intOf];omega
    have e:k=4:=by omega
    subst e
    obtain ⟨wI,rfl⟩:∃ X,X=wr:=⟨_,rfl⟩
    rw [mixF_4 O j1.out] at e0
    have y1:=Gc gC x1 (by omega)
    have y2:=Gc gC x2 (by omega)
    have y3:=Gc gC x3 (by omega)
    have y4:=Gc gC x4 (by omega)
    have o2:=Gc gC n2 (by omega)
    have j0:=Ow i0 gC (fun q hq h=>by have e:gL=q:=Option.some.inj hq;omega)
    have q2:(cmpI O x).op=x.op:=rfl
    have h4:=Lib.hid q2
    clear q2
    have d0:wI.cell? ⟨gL,i*5,none⟩=some (.int .i64 x.op):=by rw [HX.out,← map_get (f:=cmpI O) c.list i hlt hl2'];exact own_row insc_len j0 i hl2' 0 (by omega)
    have d1:wI.cell? ⟨gL,i*5+1,none⟩=some (.int .i64 x.a):=by rw [HX.out,← map_get (f:=cmpI O) c.list i hlt hl2'];exact own_row insc_len j0 i hl2' 1 (by omega)
    have d2:wI.cell? ⟨gL,i*5+2,none⟩=some (.int .i64 x.b):=by rw [HX.out,← map_get (f:=cmpI O) c.list i hlt hl2'];exact own_row insc_len j0 i hl2' 2 (by omega)
    have d3:wI.cell? ⟨gL,i*5+3,none⟩=some (.int .i64 x.c):=by rw [HX.out,← map_get (f:=cmpI O) c.list i hlt hl2'];exact own_row insc_len j0 i hl2' 3 (by omega)
    have d4:wI.cell? ⟨gL,i*5+4,none⟩=some (.int .i64 x.d):=by rw [HX.out,← map_get (f:=cmpI O) c.list i hlt hl2'];exact own_row insc_len j0 i hl2' 4 (by omega)
    have l0:wI.cell? ⟨gF,0,none⟩=some (.int .i64 (cmpI O x).a):=by
     have h:=e0.cellAt 0 (by omega)
     simpa [ints,flds] using h
    have l1:wI.cell? ⟨gF,1,none⟩=some (.int .i64 (cmpI O x).b):=by
     have h:=e0.cellAt 1 (by omega)
     simpa [ints,flds] using h
    have l2:wI.cell? ⟨gF,2,none⟩=some (.int .i64 (cmpI O x).c):=by
     have h:=e0.cellAt 2 (by omega)
     simpa [ints,flds] using h
    have l3:wI.cell? ⟨gF,3,none⟩=some (.int .i64 (cmpI O x).d):=by
     have h:=e0.cellAt 3 (by omega)
     simpa [ints,flds] using h
    have f0:=j0.frozenAt (i*5)
    have f1:=j0.frozenAt (i*5+1)
    have f2:=j0.frozenAt (i*5+2)
    have f3:=j0.frozenAt (i*5+3)
    have f4:=j0.frozenAt (i*5+4)
    have kd:=Lc d0
    have h3:Hid (∀ W,Below wI.heap.size wI W→(((((W.setCell ⟨gL,i*5,none⟩ (.int .i64 x.op)).setCell ⟨gL,i*5+1,none⟩ (.int .i64 (cmpI O x).a)).setCell ⟨gL,i*5+2,none⟩ (.int .i64 (cmpI O x).b)).setCell ⟨gL,i*5+3,none⟩ (.int .i64 (cmpI O x).c)).setCell ⟨gL,i*5+4,none⟩ (.int .i64 (cmpI O x).d)).ownsRow w1.heap.size 71 5 (.slice (some ⟨gL,0,none⟩) c.list.length cL) c.list.length (inss ((c.list.take (i+1)).map (cmpI O)++c.list.drop (i+1)))):=Lib.hid (fun W h=>by
     have h2:=own_set5 (Ob j0 h) i hl2' (cmpI O x)
     rw [map_next (f:=cmpI O) c.list i hlt (cmpI O x) (by rw [HX.out])] at h2
     exact h2)
    have n3:Chg (fun q=>q=gL) w3 wI:=⟨gC.os.trans t1.os,gC.tape.trans t1.tape,gC.output.trans t1.output,by omega,fun q hq hn=>(gC.block q (by omega) (fun h=>by omega)).trans (t1.block q hq hn)⟩
    clear gC t1 e0 x0 x1 x2 x3 x4 n2 i0 q3 k3
    generalize (cmpI O x).a=fa at *
    generalize (cmpI O x).b=fb at *
    generalize (cmpI O x).c=fc at *
    generalize (cmpI O x).d=fd at *
    go_upto_region 12 with (fail)
    have D:=Below.drew (Bs wI)
    go_region_with (go_at_call 83;refine (withFields_any x.op x.a x.b x.c x.d fa fb fc fd gF 4 _ (Kc D l0) (Kc D l1) (Kc D l2) (Kc D l3)).mono ?_;rintro e wb ⟨rfl,bb⟩;have z0:=Kc (btr D bb) d0;have z1:=Kc (btr D bb) d1;have z2:=Kc (btr D bb) d2;have z3:=Kc (btr D bb) d3;have z4:=Kc (btr D bb) d4;have q5:=Kf (btr D bb) kd f0;have r5:=Kf (btr D bb) kd f1;have t5:=Kf (btr D bb) kd f2;have u5:=Kf (btr D bb) kd f3;have v5:=Kf (btr D bb) kd f4;have zo:=Kc (btr D bb) o2;have zs:=bb.size)
    all_goals
     have E:=btr D bb
     have s1:=h3.out _ E
     have s5:=((((((n3.trans (Chg.of_below (S:=fun q=>q=gL) E)).setCell gL (i*5) (.int .i64 x.op) (fun _=>rfl)).setCell gL (i*5+1) (.int .i64 fa) (fun _=>rfl)).setCell gL (i*5+2) (.int .i64 fb) (fun _=>rfl)).setCell gL (i*5+3) (.int .i64 fc) (fun _=>rfl)).setCell gL (i*5+4) (.int .i64 fd) (fun _=>rfl))
     clear D bb E d0 d1 d2 d3 d4 l0 l1 l2 l3 o2 y0 y1 y2 y3 y4 f0 f1 f2 f3 f4 h3 j0 n3
     go_wp2
     go_roundw
     case rel=>exact ⟨i+1,by omega,by go_num,s1,s5⟩
     case measure=>simp [intOf];omega
  have e:i=c.list.length:=by omega
  subst e
  rw [List.take_length,List.drop_length,List.append_nil] at i0
  have n1:=Gc hC m1 (by omega)
  have n0:=Gc hC m0 (by omega)
  have s0:=Gc hC r0 (by omega)
  have s1:=Gc hC r1 (by omega)
  have s2:=Gc hC r2 (by omega)
  have g0:=Gf hC (by omega) (i1.out 0) (by omega)
  have g1:=Gf hC (by omega) (i1.out 1) (by omega)
  have g2:=Gf hC (by omega) (i1.out 2) (by omega)
  have ra:=Ow oA hC (fun q hq h=>l4 q hq (by rw [h];rfl))
  have rb:=Ow oB hC (fun q hq h=>m4 q hq (by rw [h];rfl))
  have la:=ra.lt
  have lb:=rb.lt
  have ll:=i0.lt gL rfl
  have z0:=(Nn (b:=w.heap.size+1) (j:=2) (Nn (b:=w.heap.size+1) (j:=1) (Tc _ (w.heap.size+1) 0 (.slice p0 c.vars.length q0) s0) (.slice p1 c.arrays.length q1)) (.slice (some ⟨gL,0,none⟩) c.list.length cL))
  have z1:=(Nn (b:=w.heap.size+1) (j:=2) (Tc _ (w.heap.size+1) 1 (.slice p1 c.arrays.length q1) (Nn (b:=w.heap.size+1) (j:=0) s1 (.slice p0 c.vars.length q0))) (.slice (some ⟨gL,0,none⟩) c.list.length cL))
  have z2:=(Tc _ (w.heap.size+1) 2 (.slice (some ⟨gL,0,none⟩) c.list.length cL) (Nn (b:=w.heap.size+1) (j:=1) (Nn (b:=w.heap.size+1) (j:=0) s2 (.slice p0 c.vars.length q0)) (.slice p1 c.arrays.length q1)))
  have za:=(Oe (Oe (Oe ra (w.heap.size+1) 0 (fun h=>by have:=la _ h;omega) (.slice p0 c.vars.length q0)) (w.heap.size+1) 1 (fun h=>by have:=la _ h;omega) (.slice p1 c.arrays.length q1)) (w.heap.size+1) 2 (fun h=>by have:=la _ h;omega) (.slice (some ⟨gL,0,none⟩) c.list.length cL))
  have zb:=(Oe (Oe (Oe rb (w.heap.size+1) 0 (fun h=>by have:=lb _ h;omega) (.slice p0 c.vars.length q0)) (w.heap.size+1) 1 (fun h=>by have:=lb _ h;omega) (.slice p1 c.arrays.length q1)) (w.heap.size+1) 2 (fun h=>by have:=lb _ h;omega) (.slice (some ⟨gL,0,none⟩) c.list.length cL))
  have c3:=i0.lt
  have zl:=(Oe (Oe (Oe i0 (w.heap.size+1) 0 (fun h=>by have:=c3 _ h;omega) (.slice p0 c.vars.length q0)) (w.heap.size+1) 1 (fun h=>by have:=c3 _ h;omega) (.slice p1 c.arrays.length q1)) (w.heap.size+1) 2 (fun h=>by have:=c3 _ h;omega) (.slice (some ⟨gL,0,none⟩) c.list.length cL))
  have p3:=g4.trans (hC.below w.heap.size g4.size (fun q hq h=>by omega))
  have zB:=(bst (bst (bst p3 (w.heap.size+1) 0 (by omega) (.slice p0 c.vars.length q0)) (w.heap.size+1) 1 (by omega) (.slice p1 c.arrays.length q1)) (w.heap.size+1) 2 (by omega) (.slice (some ⟨gL,0,none⟩) c.list.length cL))
  clear ra rb i0 hC p3 oA oB
  go_wp2
  exact bodyPost_ret (v:=.agg #[.slice p0 c.vars.length q0,.slice p1 c.arrays.length q1,.slice (some ⟨gL,0,none⟩) c.list.length cL]) (by simp [results,Tryz.results35,go_sem,z0,z1,z2]) rfl (by exact ⟨_,_,_,rfl,⟨Om za (by omega),Om zb (by omega),by rw [List.length_map];exact Om zl (by omega),e3⟩,zB⟩)
end Go.Proofs.YtkjedgnepnbkpaaGreat
