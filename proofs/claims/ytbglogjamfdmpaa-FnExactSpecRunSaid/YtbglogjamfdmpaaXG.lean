/-
  Parts of the proof of the law FnExactSpecRun.
-/
import Derived.Test.YtbglogjamfdmpaaNA
import Derived.Test.YtbglogjamfdmpaaNH
import Derived.Test.YtbglogjamfdmpaaRows
import Derived.Test.YtbglogjamfdmpaaTA
namespace Go.Proofs.Ytbglogjamfdmpaa
open Go.RowKit

def srT (c : Cd) (ws : List Bool) (s : Ms) : List Ev := match runR c s with | some n => spN c ws (n + 1) s | none => []
theorem srT_some {c : Cd} {ws : List Bool} {s : Ms} {n : Nat} (h : runR c s = some n) : srT c ws s = spN c ws (n + 1) s := by unfold srT; rw [h]
theorem srT_none {c : Cd} {ws : List Bool} {s : Ms} (h : runR c s = none) : srT c ws s = [] := by unfold srT; rw [h]
theorem with_list2 {P : Program} {F : FuncId} {args : Array Value} {w : World} {tb : Nat} {T : List Ev} {S : Nat → Prop} {D : Nat → Prop}
    (h : Calls P F args w fun e w' => ∃ u', e = .returned u' ∧ w'.ownsRow tb 89 2 u' T.length (evs T) ∧ (∀ q, u'.ownBlock = some q → D q) ∧ Chg S w w') :
    Calls P F args w fun e w' => ∃ u' T', Hid (T' = T) ∧ e = .returned u' ∧ w'.ownsRow tb 89 2 u' T'.length (evs T') ∧ (∀ q, u'.ownBlock = some q → D q) ∧ Chg S w w' :=
  h.mono (fun _ _ ⟨u', h1, h2, h3, h4⟩ => ⟨u', T, Lib.hid rfl, h1, h2, h3, h4⟩)
theorem l11Branch_i (x : Ins) (w : World) : Calls Try.prog 55 #[.agg #[.int .i64 x.op, .int .i64 x.a, .int .i64 x.b, .int .i64 x.c, .int .i64 x.d]] w fun e w' => e = .returned (.bool (isBr x.op)) ∧ Below w.heap.size w w' := l11Branch_any x.op x.a x.b x.c x.d w

/-- what stands at the head of a round of l11Run: the state at bb, the trace tr, in world W; the loop began in w4 -/
structure L11 (c : Cd) (ws : List Bool) (s : Ms) (w4 W : World) (b1 b2 bb : Nat) (vr vx vy : Value) (us : List Value) (tr : Value) (n : Nat) (Q : List Ev) : Prop where
  d0 : W.cell? ⟨bb, 0, none⟩ = some (.int .i64 (stN c n s).pc)
  d1 : W.cell? ⟨bb, 1, none⟩ = some vr
  d2 : W.cell? ⟨bb, 2, none⟩ = some vx
  d3 : W.cell? ⟨bb, 3, none⟩ = some vy
  f0 : W.frozen? ⟨bb, 0, none⟩ = false
  f1 : W.frozen? ⟨bb, 1, none⟩ = false
  f2 : W.frozen? ⟨bb, 2, none⟩ = false
  f3 : W.frozen? ⟨bb, 3, none⟩ = false
  own : OwnMv W b1 vr vx vy us (stN c n s).regs (stN c n s).mem
  ev : W.ownsRow b2 89 2 tr Q.length (evs Q)
  qe : Hid (Q = spN c ws n s)
  ed : ∀ q, tr.ownBlock = some q → ¬ OwnMB vr vx vy us q ∧ ¬ q = bb
  no : ∀ j, j < n → ¬ opAt c s j = 13
  chg : Chg (fun q => q = bb ∨ OwnMB vr vx vy us q ∨ b2 ≤ q) w4 W

set_option maxHeartbeats 12800000 in
set_option maxRecDepth 100000 in
theorem l11Other_any (x : Ins) (k : Nat) (p : Int) (w : World) (hk : k ≤ 1000000) :
    Calls Try.prog 123 #[.agg #[.int .i64 x.op, .int .i64 x.a, .int .i64 x.b, .int .i64 x.c, .int .i64 x.d], .int .i64 (k : Int), .int .i64 p] w fun e w' => e = .returned (.int .i64 (if p = x.b then (k : Int) + 1 else x.b)) ∧ Below w.heap.size w w' := by
  have hbx := bal (bself w) (.cells #[.int .i64 x.op, .int .i64 x.a, .int .i64 x.b, .int .i64 x.c, .int .i64 x.d] 92)
  obtain ⟨op, a, b, c, d⟩ := x
  simp only at hbx ⊢
  by_cases h : p = b
  · rw [if_pos h]
    have hq : (p == b) = true := by simp [h]
    clear h
    go_enter Try.func123, Try.ntmps123
    go_wp2
    go_ret
    exact ⟨rfl, hbx⟩
  · rw [if_neg h]
    have hq : (p == b) = false := by simp [h]
    clear h
    go_enter Try.func123, Try.ntmps123
    go_wp2
    go_ret
    exact ⟨rfl, hbx⟩
theorem l11Other_is (x : Ins) (k : Nat) (p tq : Int) (w : World) (hk : k ≤ 1000000) (h : tq = if p = x.b then (k : Int) + 1 else x.b) :
    Calls Try.prog 123 #[.agg #[.int .i64 x.op, .int .i64 x.a, .int .i64 x.b, .int .i64 x.c, .int .i64 x.d], .int .i64 (k : Int), .int .i64 p] w fun e w' => e = .returned (.int .i64 tq) ∧ Below w.heap.size w w' := by
  rw [h]; exact l11Other_any x k p w hk

set_option maxHeartbeats 12800000 in
set_option maxRecDepth 100000 in
theorem l11Run_any (va vb vc vx vy : Value) (c : Cd) (m : Mm) (w : World) (hr : ReadsC w va vb vc c) (hm : ReadsM w vx vy m) (hl : m.vals.length ≤ 1048576) (hn : m.arrs.length ≤ 1048576) (hp : pre2 m.arrs m.arrs.length ≤ 1048576) (hg : goOk c m = true) (aw : Option Addr) (cw : Nat) (ws : List Bool) (hws : Reads w 1 (.slice aw ws.length cw) ws.length (bools ws)) :
    Calls Try.prog 83 #[.agg #[va, vb, vc], .agg #[vx, vy], .slice aw ws.length cw] w fun e w' => ∃ ux uy us u, e = .returned (.tuple #[.agg #[ux, uy], u, .bool (runR c (ini m)).isSome]) ∧ w'.ownsRow w.heap.size 89 2 u (srT c ws (ini m)).length (evs (srT c ws (ini m))) ∧ OwnM w' w.heap.size ux uy us (mrN c (ini m)) ∧ Below w.heap.size w w' := by
  obtain ⟨a0, c0, a1, c1, a2, c2, rfl, rfl, rfl⟩ := hr.shape
  obtain ⟨a3, c3, a4, c4, rfl, rfl⟩ := hm.shape
  have ivr := hr.lt
  have hmk := fun u => mk_int14 u
  have HMS := ini_ok hg
  have hok := goOk_code hg
  obtain ⟨l1, l2⟩ := codeOk_len hok
  have HSN := Lib.hid (fun n => stN_ok hok HMS n)
  have HOC := Lib.hid hok
  have HRS := Lib.hid (fun n h1 h2 h3 => runR_some (c := c) (s := ini m) (n := n) h1 h2 h3)
  have HRN := Lib.hid (fun h => runR_none (c := c) (s := ini m) h)
  have HTS := Lib.hid (fun n (h : runR c (ini m) = some n) => srT_some (ws := ws) h)
  have HTN := Lib.hid (fun (h : runR c (ini m) = none) => srT_none (ws := ws) h)
  have HIR : Hid ((ini m).regs = reg0 ∧ (ini m).mem = m ∧ (ini m).pc = 0) := Lib.hid ⟨rfl, rfl, rfl⟩
  have HCP := Lib.hid (fun W (hW : Below w.heap.size w W) => l3Copy_any _ _ m W (hm.below hW).x (hm.below hW).y hl hn hp)
  have HR := Lib.hid (fun W (hW : Below w.heap.size w W) => hr.below hW)
  have HWS := Lib.hid (fun W (hW : Below w.heap.size w W) => hws.below hW)
  clear hl hn hp hr hm hg HMS hok hws
  have HMS' := Lib.hid (fun n (h : runR c (ini m) = some n) => mrN_some h)
  have HMN := Lib.hid (fun (h : runR c (ini m) = none) => mrN_none h)
  generalize srT c ws (ini m) = T at *
  generalize mrN c (ini m) = TM at *
  generalize runR c (ini m) = R at *
  generalize ini m = s at *
  go_enter Try.func83, Try.ntmps83
  go_upto_region 1 with (fail)
  obtain ⟨w1, hnw⟩ : ∃ X, X = (World.alloc (World.alloc (World.alloc w (.cells #[.slice a0 c.vars.length c0, .slice a1 c.arrays.length c1, .slice a2 c.list.length c2] 35)) (.cells #[.slice a3 m.vals.length c3, .slice a4 m.arrs.length c4] 37)) (.cells #[.slice none 0 0, .slice none 0 0] 37)) := ⟨_, rfl⟩
  have hb : Below (World.alloc (World.alloc (World.alloc w (.cells #[.slice a0 c.vars.length c0, .slice a1 c.arrays.length c1, .slice a2 c.list.length c2] 35)) (.cells #[.slice a3 m.vals.length c3, .slice a4 m.arrs.length c4] 37)) (.cells #[.slice none 0 0, .slice none 0 0] 37)).heap.size (World.alloc (World.alloc (World.alloc w (.cells #[.slice a0 c.vars.length c0, .slice a1 c.arrays.length c1, .slice a2 c.list.length c2] 35)) (.cells #[.slice a3 m.vals.length c3, .slice a4 m.arrs.length c4] 37)) (.cells #[.slice none 0 0, .slice none 0 0] 37)) w1 := by rw [hnw]; exact bself _
  have hsz1 := hb.size
  simp only [World.size_alloc] at hsz1
  have bx2 : w1.cell? ⟨w.heap.size, 0, none⟩ = some (.slice a0 c.vars.length c0) := kept_cell hb (cell_al (cell_al (cell_nw (by simp) (by rfl)) _) _)
  have bx3 : w1.cell? ⟨w.heap.size, 1, none⟩ = some (.slice a1 c.arrays.length c1) := kept_cell hb (cell_al (cell_al (cell_nw (by simp) (by rfl)) _) _)
  have bx4 : w1.cell? ⟨w.heap.size, 2, none⟩ = some (.slice a2 c.list.length c2) := kept_cell hb (cell_al (cell_al (cell_nw (by simp) (by rfl)) _) _)
  have bx5 : w1.cell? ⟨w.heap.size + 1, 0, none⟩ = some (.slice a3 m.vals.length c3) := kept_cell hb (cell_al (cell_nw (by simp) (by rfl)) _)
  have bx6 : w1.cell? ⟨w.heap.size + 1, 1, none⟩ = some (.slice a4 m.arrs.length c4) := kept_cell hb (cell_al (cell_nw (by simp) (by rfl)) _)
  have bx7 : w1.cell? ⟨w.heap.size + 1 + 1, 0, none⟩ = some (.slice none 0 0) := kept_cell hb (cell_nw (by simp) (by rfl))
  have bf8 : w1.frozen? ⟨w.heap.size + 1 + 1, 0, none⟩ = false := kept_froz hb (by simp) (froz_nw (by simp))
  have bx9 : w1.cell? ⟨w.heap.size + 1 + 1, 1, none⟩ = some (.slice none 0 0) := kept_cell hb (cell_nw (by simp) (by rfl))
  have bf10 : w1.frozen? ⟨w.heap.size + 1 + 1, 1, none⟩ = false := kept_froz hb (by simp) (froz_nw (by simp))
  have tot := btr (bal (bal (bal (bself w) (.cells #[.slice a0 c.vars.length c0, .slice a1 c.arrays.length c1, .slice a2 c.list.length c2] 35)) (.cells #[.slice a3 m.vals.length c3, .slice a4 m.arrs.length c4] 37)) (.cells #[.slice none 0 0, .slice none 0 0] 37)) hb
  clear hb
  rw [← hnw]
  clear hnw
  have lt11 := lt_of_cell bx2
  have lt12 := lt_of_cell bx5
  have lt13 := lt_of_cell bx7
  go_cut [9] (fun s wx => ∃ (bb gr : Nat) (px : Option Addr) (tx : Nat) (py : Option Addr) (ty : Nat) (us : List Value), s = .pointer (some ⟨bb, 0, none⟩) ∧ wx.cell? ⟨bb, 0, none⟩ = some (.int .i64 0) ∧ wx.cell? ⟨bb, 1, none⟩ = some (.slice (some ⟨gr, 0, none⟩) 14 14) ∧ wx.cell? ⟨bb, 2, none⟩ = some (.slice px m.vals.length tx) ∧ wx.cell? ⟨bb, 3, none⟩ = some (.slice py m.arrs.length ty) ∧ wx.frozen? ⟨bb, 0, none⟩ = false ∧ wx.frozen? ⟨bb, 1, none⟩ = false ∧ wx.frozen? ⟨bb, 2, none⟩ = false ∧ wx.frozen? ⟨bb, 3, none⟩ = false ∧ OwnMv wx w1.heap.size (.slice (some ⟨gr, 0, none⟩) 14 14) (.slice px m.vals.length tx) (.slice py m.arrs.length ty) us reg0 m ∧ w1.heap.size ≤ bb ∧ bb < wx.heap.size ∧ (∀ q, OwnMB (.slice (some ⟨gr, 0, none⟩) 14 14) (.slice px m.vals.length tx) (.slice py m.arrs.length ty) us q → ¬ q = bb) ∧ Below w1.heap.size w1 wx)
  case first =>
    have HT0 := Lib.hid tot; clear tot
    clear bx2 bx3 bx4 bx7 bf8 bx9 bf10
    have lt14 := lt_of_cell bx5
    clear lt14
    have lt15 := lt_of_cell bx5
    refine wp_region_noPanic ?_
    refine wp_region_held_drew (S := (fun W' => W'.cell? ⟨w.heap.size + 1, 0, none⟩ = some (.slice a3 m.vals.length c3) ∧ W'.cell? ⟨w.heap.size + 1, 1, none⟩ = some (.slice a4 m.arrs.length c4))) (by kernel_rfl) ⟨kept_cell (Below.drew (bself w1)) bx5, kept_cell (Below.drew (bself w1)) bx6⟩ (fun hHeld => ?_)
    obtain ⟨w2, hwd⟩ : ∃ X, X = World.drew w1 := ⟨_, rfl⟩
    rw [← hwd] at hHeld ⊢
    have hb : Below w1.heap.size w1 w2 := by rw [hwd]; exact Below.drew (bself _)
    clear hwd
    have hsz16 := hb.size
    replace bx5 : w2.cell? ⟨w.heap.size + 1, 0, none⟩ = some (.slice a3 m.vals.length c3) := kept_cell hb bx5
    replace bx6 : w2.cell? ⟨w.heap.size + 1, 1, none⟩ = some (.slice a4 m.arrs.length c4) := kept_cell hb bx6
    have tot := btr (bself w1) hb
    clear hb
    clear lt15
    have lt17 := lt_of_cell bx5
    refine take_d (i := 1) (d := 17) (v := ?_) rfl rfl (by kernel_rfl) (by kernel_rfl) (by kernel_rfl) (fun _ _ _ h => h) (Or.inl ⟨by rfl, ?_⟩) (by assumption) ?_
    rotate_left
    · intro W' hSw; (try dsimp only at hSw); obtain ⟨s0, s1⟩ := hSw; go_simp; try with_reducible rfl
    try simp only [Act.put, List.setIfInBounds_toArray, List.set]
    refine wpAnyH_ready (rs := [0, 2, 4]) (by kernel_rfl) (by simp) ?_
    refine AllReadyH.cons rfl (fun K hK => ?_) ?_
    · -- 0
      go_simp
      obtain ⟨w3, hnw⟩ : ∃ X, X = World.alloc w2 (.cells (madeCells #[.int .i64 0] 14) 3) := ⟨_, rfl⟩
      try rw [← hnw]
      have om18 := own_made w2 (.int .i64 0) 14 3 (by unfold maxLen; omega)
      rw [← ints_replicate, ← hnw] at om18
      have hb : Below w2.heap.size w2 w3 := by rw [hnw]; exact bal (bself _) _
      have hzm19 : w2.heap.size + 1 ≤ w3.heap.size := by rw [hnw]; simp
      clear hnw
      have hsz20 := hb.size
      replace bx5 : w3.cell? ⟨w.heap.size + 1, 0, none⟩ = some (.slice a3 m.vals.length c3) := kept_cell hb bx5
      replace bx6 : w3.cell? ⟨w.heap.size + 1, 1, none⟩ = some (.slice a4 m.arrs.length c4) := kept_cell hb bx6
      replace tot := btr tot hb
      clear hb
      have iv21 := om18.lt
      clear lt17
      have lt22 := lt_of_cell bx5
      refine hK.out _ _ ⟨bx5, bx6⟩ (fun hHeld => ?_)
      clear hK K
      try simp only [Act.put, List.setIfInBounds_toArray, List.set]
      refine wpAnyH_ready (rs := [2, 4]) (by kernel_rfl) (by simp) ?_
      refine AllReadyH.cons rfl (fun K hK => ?_) ?_
      · -- 2
        go_simp
        refine (HCP.out _ (btr HT0.out tot)).mono ?_
        rintro e w4 ⟨ux, uy, us, rfl, ox, oy, hap, hb⟩
        obtain ⟨px, tx, rfl⟩ := own_shape ox
        obtain ⟨py, ty, rfl⟩ := own_shape oy.out
        have oM : OwnM w4 _ _ _ _ m := ⟨ox, oy, hap⟩
        clear ox oy hap
        have hsz23 := hb.size
        replace bx5 : w4.cell? ⟨w.heap.size + 1, 0, none⟩ = some (.slice a3 m.vals.length c3) := kept_cell hb bx5
        replace bx6 : w4.cell? ⟨w.heap.size + 1, 1, none⟩ = some (.slice a4 m.arrs.length c4) := kept_cell hb bx6
        replace om18 := own_below om18 hb
        replace tot := btr tot hb
        clear hb
        have iv24 := oM.lt
        clear lt22
        have lt25 := lt_of_cell bx5
        refine hK.out _ _ ⟨bx5, bx6⟩ (fun hHeld => ?_)
        clear hK K
        try simp only [Act.put, List.setIfInBounds_toArray, List.set]
        refine take_d (i := 3) (d := 19) (v := ?_) rfl rfl (by kernel_rfl) (by kernel_rfl) (by kernel_rfl) (fun _ _ _ h => h) (Or.inl ⟨by rfl, ?_⟩) (by assumption) ?_
        rotate_left
        · intro W' hSw; (try dsimp only at hSw); obtain ⟨s0, s1⟩ := hSw; go_simp; try with_reducible rfl
        try simp only [Act.put, List.setIfInBounds_toArray, List.set]
        refine wpAnyH_ready (rs := [4]) (by kernel_rfl) (by simp) ?_
        refine AllReadyH.cons rfl (fun K hK => ?_) AllReadyH.nil
        go_simp
        obtain ⟨w5, hnw⟩ : ∃ X, X = (World.alloc w4 (.cells #[.int .i64 0, .slice none 0 0, .slice none 0 0, .slice none 0 0] 49)) := ⟨_, rfl⟩
        have hb : Below (World.alloc w4 (.cells #[.int .i64 0, .slice none 0 0, .slice none 0 0, .slice none 0 0] 49)).heap.size (World.alloc w4 (.cells #[.int .i64 0, .slice none 0 0, .slice none 0 0, .slice none 0 0] 49)) w5 := by rw [hnw]; exact bself _
        have hsz26 := hb.size
        simp only [World.size_alloc] at hsz26
        replace bx5 : w5.cell? ⟨w.heap.size + 1, 0, none⟩ = some (.slice a3 m.vals.length c3) := kept_cell hb (cell_al bx5 (.cells #[.int .i64 0, .slice none 0 0, .slice none 0 0, .slice none 0 0] 49))
        replace bx6 : w5.cell? ⟨w.heap.size + 1, 1, none⟩ = some (.slice a4 m.arrs.length c4) := kept_cell hb (cell_al bx6 (.cells #[.int .i64 0, .slice none 0 0, .slice none 0 0, .slice none 0 0] 49))
        replace om18 := own_below (own_below om18 (bal (bself _) (.cells #[.int .i64 0, .slice none 0 0, .slice none 0 0, .slice none 0 0] 49))) hb
        replace oM := (oM.below (bal (bself _) (.cells #[.int .i64 0, .slice none 0 0, .slice none 0 0, .slice none 0 0] 49))).below hb
        have bx27 : w5.cell? ⟨w4.heap.size, 0, none⟩ = some (.int .i64 0) := kept_cell hb (cell_nw (by simp) (by rfl))
        have bf28 : w5.frozen? ⟨w4.heap.size, 0, none⟩ = false := kept_froz hb (by simp) (froz_nw (by simp))
        have bx29 : w5.cell? ⟨w4.heap.size, 1, none⟩ = some (.slice none 0 0) := kept_cell hb (cell_nw (by simp) (by rfl))
        have bf30 : w5.frozen? ⟨w4.heap.size, 1, none⟩ = false := kept_froz hb (by simp) (froz_nw (by simp))
        have bx31 : w5.cell? ⟨w4.heap.size, 2, none⟩ = some (.slice none 0 0) := kept_cell hb (cell_nw (by simp) (by rfl))
        have bf32 : w5.frozen? ⟨w4.heap.size, 2, none⟩ = false := kept_froz hb (by simp) (froz_nw (by simp))
        have bx33 : w5.cell? ⟨w4.heap.size, 3, none⟩ = some (.slice none 0 0) := kept_cell hb (cell_nw (by simp) (by rfl))
        have bf34 : w5.frozen? ⟨w4.heap.size, 3, none⟩ = false := kept_froz hb (by simp) (froz_nw (by simp))
        replace tot := btr (bal tot (.cells #[.int .i64 0, .slice none 0 0, .slice none 0 0, .slice none 0 0] 49)) hb
        clear hb
        rw [← hnw]
        clear hnw
        clear lt25
        have lt35 := lt_of_cell bx5
        have lt36 := lt_of_cell bx27
        refine hK.out _ _ ⟨bx5, bx6⟩ (fun hHeld => ?_)
        clear hK K
        try simp only [Act.put, List.setIfInBounds_toArray, List.set]
        refine wpAnyH_ready (rs := [5]) (by kernel_rfl) (by simp) ?_
        refine AllReadyH.cons rfl (fun K hK => ?_) AllReadyH.nil
        go_simp
        obtain ⟨w6, hnw⟩ : ∃ X, X = (World.setCell (World.setCell (World.setCell (World.setCell w5 ⟨w4.heap.size, 0, none⟩ (.int .i64 0)) ⟨w4.heap.size, 1, none⟩ (.slice (some ⟨w2.heap.size, 0, none⟩) 14 14)) ⟨w4.heap.size, 2, none⟩ (.slice px m.vals.length tx)) ⟨w4.heap.size, 3, none⟩ (.slice py m.arrs.length ty)) := ⟨_, rfl⟩
        have hb : Below (World.setCell (World.setCell (World.setCell (World.setCell w5 ⟨w4.heap.size, 0, none⟩ (.int .i64 0)) ⟨w4.heap.size, 1, none⟩ (.slice (some ⟨w2.heap.size, 0, none⟩) 14 14)) ⟨w4.heap.size, 2, none⟩ (.slice px m.vals.length tx)) ⟨w4.heap.size, 3, none⟩ (.slice py m.arrs.length ty)).heap.size (World.setCell (World.setCell (World.setCell (World.setCell w5 ⟨w4.heap.size, 0, none⟩ (.int .i64 0)) ⟨w4.heap.size, 1, none⟩ (.slice (some ⟨w2.heap.size, 0, none⟩) 14 14)) ⟨w4.heap.size, 2, none⟩ (.slice px m.vals.length tx)) ⟨w4.heap.size, 3, none⟩ (.slice py m.arrs.length ty)) w6 := by rw [hnw]; exact bself _
        have hsz37 := hb.size
        simp only [World.size_setCell] at hsz37
        replace bf28 := kept_froz hb (lt_of_cell (cell_ne (b := (w4.heap.size)) (j := 3) (cell_ne (b := (w4.heap.size)) (j := 2) (cell_ne (b := (w4.heap.size)) (j := 1) (cell_at _ (w4.heap.size) 0 (.int .i64 0) bx27) (by omega) (.slice (some ⟨w2.heap.size, 0, none⟩) 14 14)) (by omega) (.slice px m.vals.length tx)) (by omega) (.slice py m.arrs.length ty))) (froz_st (b := ⟨(w4.heap.size), 3, none⟩) (froz_st (b := ⟨(w4.heap.size), 2, none⟩) (froz_st (b := ⟨(w4.heap.size), 1, none⟩) (froz_st (b := ⟨(w4.heap.size), 0, none⟩) bf28 (.int .i64 0)) (.slice (some ⟨w2.heap.size, 0, none⟩) 14 14)) (.slice px m.vals.length tx)) (.slice py m.arrs.length ty))
        replace bf30 := kept_froz hb (lt_of_cell (cell_ne (b := (w4.heap.size)) (j := 3) (cell_ne (b := (w4.heap.size)) (j := 2) (cell_at _ (w4.heap.size) 1 (.slice (some ⟨w2.heap.size, 0, none⟩) 14 14) (cell_ne (b := (w4.heap.size)) (j := 0) bx29 (by omega) (.int .i64 0))) (by omega) (.slice px m.vals.length tx)) (by omega) (.slice py m.arrs.length ty))) (froz_st (b := ⟨(w4.heap.size), 3, none⟩) (froz_st (b := ⟨(w4.heap.size), 2, none⟩) (froz_st (b := ⟨(w4.heap.size), 1, none⟩) (froz_st (b := ⟨(w4.heap.size), 0, none⟩) bf30 (.int .i64 0)) (.slice (some ⟨w2.heap.size, 0, none⟩) 14 14)) (.slice px m.vals.length tx)) (.slice py m.arrs.length ty))
        replace bf32 := kept_froz hb (lt_of_cell (cell_ne (b := (w4.heap.size)) (j := 3) (cell_at _ (w4.heap.size) 2 (.slice px m.vals.length tx) (cell_ne (b := (w4.heap.size)) (j := 1) (cell_ne (b := (w4.heap.size)) (j := 0) bx31 (by omega) (.int .i64 0)) (by omega) (.slice (some ⟨w2.heap.size, 0, none⟩) 14 14))) (by omega) (.slice py m.arrs.length ty))) (froz_st (b := ⟨(w4.heap.size), 3, none⟩) (froz_st (b := ⟨(w4.heap.size), 2, none⟩) (froz_st (b := ⟨(w4.heap.size), 1, none⟩) (froz_st (b := ⟨(w4.heap.size), 0, none⟩) bf32 (.int .i64 0)) (.slice (some ⟨w2.heap.size, 0, none⟩) 14 14)) (.slice px m.vals.length tx)) (.slice py m.arrs.length ty))
        replace bf34 := kept_froz hb (lt_of_cell (cell_at _ (w4.heap.size) 3 (.slice py m.arrs.length ty) (cell_ne (b := (w4.heap.size)) (j := 2) (cell_ne (b := (w4.heap.size)) (j := 1) (cell_ne (b := (w4.heap.size)) (j := 0) bx33 (by omega) (.int .i64 0)) (by omega) (.slice (some ⟨w2.heap.size, 0, none⟩) 14 14)) (by omega) (.slice px m.vals.length tx)))) (froz_st (b := ⟨(w4.heap.size), 3, none⟩) (froz_st (b := ⟨(w4.heap.size), 2, none⟩) (froz_st (b := ⟨(w4.heap.size), 1, none⟩) (froz_st (b := ⟨(w4.heap.size), 0, none⟩) bf34 (.int .i64 0)) (.slice (some ⟨w2.heap.size, 0, none⟩) 14 14)) (.slice px m.vals.length tx)) (.slice py m.arrs.length ty))
        replace bx5 : w6.cell? ⟨w.heap.size + 1, 0, none⟩ = some (.slice a3 m.vals.length c3) := kept_cell hb (cell_ne (b := (w4.heap.size)) (j := 3) (cell_ne (b := (w4.heap.size)) (j := 2) (cell_ne (b := (w4.heap.size)) (j := 1) (cell_ne (b := (w4.heap.size)) (j := 0) bx5 (by omega) (.int .i64 0)) (by omega) (.slice (some ⟨w2.heap.size, 0, none⟩) 14 14)) (by omega) (.slice px m.vals.length tx)) (by omega) (.slice py m.arrs.length ty))
        replace bx6 : w6.cell? ⟨w.heap.size + 1, 1, none⟩ = some (.slice a4 m.arrs.length c4) := kept_cell hb (cell_ne (b := (w4.heap.size)) (j := 3) (cell_ne (b := (w4.heap.size)) (j := 2) (cell_ne (b := (w4.heap.size)) (j := 1) (cell_ne (b := (w4.heap.size)) (j := 0) bx6 (by omega) (.int .i64 0)) (by omega) (.slice (some ⟨w2.heap.size, 0, none⟩) 14 14)) (by omega) (.slice px m.vals.length tx)) (by omega) (.slice py m.arrs.length ty))
        replace om18 := own_below (own_set (own_set (own_set (own_set om18 (w4.heap.size) 0 (fun h => by have := iv21 _ h; omega) (.int .i64 0)) (w4.heap.size) 1 (fun h => by have := iv21 _ h; omega) (.slice (some ⟨w2.heap.size, 0, none⟩) 14 14)) (w4.heap.size) 2 (fun h => by have := iv21 _ h; omega) (.slice px m.vals.length tx)) (w4.heap.size) 3 (fun h => by have := iv21 _ h; omega) (.slice py m.arrs.length ty)) hb
        replace oM := ((((oM.keep ((Chg.refl (fun gk => gk = (w4.heap.size)) _).setCell (w4.heap.size) 0 (.int .i64 0) (fun _ => rfl)) (fun gq h h2 => by have := iv24 gq h; omega)).keep ((Chg.refl (fun gk => gk = (w4.heap.size)) _).setCell (w4.heap.size) 1 (.slice (some ⟨w2.heap.size, 0, none⟩) 14 14) (fun _ => rfl)) (fun gq h h2 => by have := iv24 gq h; omega)).keep ((Chg.refl (fun gk => gk = (w4.heap.size)) _).setCell (w4.heap.size) 2 (.slice px m.vals.length tx) (fun _ => rfl)) (fun gq h h2 => by have := iv24 gq h; omega)).keep ((Chg.refl (fun gk => gk = (w4.heap.size)) _).setCell (w4.heap.size) 3 (.slice py m.arrs.length ty) (fun _ => rfl)) (fun gq h h2 => by have := iv24 gq h; omega)).below hb
        replace bx27 : w6.cell? ⟨w4.heap.size, 0, none⟩ = some (.int .i64 0) := kept_cell hb (cell_ne (b := (w4.heap.size)) (j := 3) (cell_ne (b := (w4.heap.size)) (j := 2) (cell_ne (b := (w4.heap.size)) (j := 1) (cell_at _ (w4.heap.size) 0 (.int .i64 0) bx27) (by omega) (.slice (some ⟨w2.heap.size, 0, none⟩) 14 14)) (by omega) (.slice px m.vals.length tx)) (by omega) (.slice py m.arrs.length ty))
        replace bx29 : w6.cell? ⟨w4.heap.size, 1, none⟩ = some (.slice (some ⟨w2.heap.size, 0, none⟩) 14 14) := kept_cell hb (cell_ne (b := (w4.heap.size)) (j := 3) (cell_ne (b := (w4.heap.size)) (j := 2) (cell_at _ (w4.heap.size) 1 (.slice (some ⟨w2.heap.size, 0, none⟩) 14 14) (cell_ne (b := (w4.heap.size)) (j := 0) bx29 (by omega) (.int .i64 0))) (by omega) (.slice px m.vals.length tx)) (by omega) (.slice py m.arrs.length ty))
        replace bx31 : w6.cell? ⟨w4.heap.size, 2, none⟩ = some (.slice px m.vals.length tx) := kept_cell hb (cell_ne (b := (w4.heap.size)) (j := 3) (cell_at _ (w4.heap.size) 2 (.slice px m.vals.length tx) (cell_ne (b := (w4.heap.size)) (j := 1) (cell_ne (b := (w4.heap.size)) (j := 0) bx31 (by omega) (.int .i64 0)) (by omega) (.slice (some ⟨w2.heap.size, 0, none⟩) 14 14))) (by omega) (.slice py m.arrs.length ty))
        replace bx33 : w6.cell? ⟨w4.heap.size, 3, none⟩ = some (.slice py m.arrs.length ty) := kept_cell hb (cell_at _ (w4.heap.size) 3 (.slice py m.arrs.length ty) (cell_ne (b := (w4.heap.size)) (j := 2) (cell_ne (b := (w4.heap.size)) (j := 1) (cell_ne (b := (w4.heap.size)) (j := 0) bx33 (by omega) (.int .i64 0)) (by omega) (.slice (some ⟨w2.heap.size, 0, none⟩) 14 14)) (by omega) (.slice px m.vals.length tx)))
        replace tot := btr (bst (bst (bst (bst tot (w4.heap.size) 0 (by omega) (.int .i64 0)) (w4.heap.size) 1 (by omega) (.slice (some ⟨w2.heap.size, 0, none⟩) 14 14)) (w4.heap.size) 2 (by omega) (.slice px m.vals.length tx)) (w4.heap.size) 3 (by omega) (.slice py m.arrs.length ty)) hb
        clear hb
        rw [← hnw]
        clear hnw
        clear lt35 lt36
        have lt38 := lt_of_cell bx5
        have lt39 := lt_of_cell bx27
        refine hK.out _ _ ⟨bx5, bx6⟩ (fun hHeld => ?_)
        clear hK K
        try simp only [Act.put, List.setIfInBounds_toArray, List.set]
        refine wpAnyH_done (by kernel_rfl) ?_ _
        refine NoPanic.normal ?_
        clear hHeld
        go_wp2_with fail
        go_meet
        have OM : OwnMv _ w1.heap.size _ (.slice px m.vals.length tx) (.slice py m.arrs.length ty) us reg0 m := ⟨own_mono om18 (by omega), own_mono oM.x (by omega), oM.y.mono (by omega), fun q h h2 => by have := iv21 q h; have := iv24 q (Or.inl h2); omega, fun q h h2 => by have := iv21 q h; have := iv24 q (Or.inr h2); omega, oM.ap⟩
        have lz40 := lt_of_cell bx27
        exact ⟨_, _, _, _, _, _, us, rfl, bx27, bx29, bx31, bx33, bf28, bf30, bf32, bf34, OM, by omega, by omega, (fun q h hq => by rcases h with h | h | h; (have := iv21 q h; omega); (have := iv24 q (Or.inl h); omega); (have := iv24 q (Or.inr h); omega)), tot⟩
      refine AllReadyH.cons rfl (fun K hK => ?_) AllReadyH.nil
      go_simp
      obtain ⟨w4, hnw⟩ : ∃ X, X = (World.alloc w3 (.cells #[.int .i64 0, .slice none 0 0, .slice none 0 0, .slice none 0 0] 49)) := ⟨_, rfl⟩
      have hb : Below (World.alloc w3 (.cells #[.int .i64 0, .slice none 0 0, .slice none 0 0, .slice none 0 0] 49)).heap.size (World.alloc w3 (.cells #[.int .i64 0, .slice none 0 0, .slice none 0 0, .slice none 0 0] 49)) w4 := by rw [hnw]; exact bself _
      have hsz41 := hb.size
      simp only [World.size_alloc] at hsz41
      replace bx5 : w4.cell? ⟨w.heap.size + 1, 0, none⟩ = some (.slice a3 m.vals.length c3) := kept_cell hb (cell_al bx5 (.cells #[.int .i64 0, .slice none 0 0, .slice none 0 0, .slice none 0 0] 49))
      replace bx6 : w4.cell? ⟨w.heap.size + 1, 1, none⟩ = some (.slice a4 m.arrs.length c4) := kept_cell hb (cell_al bx6 (.cells #[.int .i64 0, .slice none 0 0, .slice none 0 0, .slice none 0 0] 49))
      replace om18 := own_below (own_below om18 (bal (bself _) (.cells #[.int .i64 0, .slice none 0 0, .slice none 0 0, .slice none 0 0] 49))) hb
      have bx42 : w4.cell? ⟨w3.heap.size, 0, none⟩ = some (.int .i64 0) := kept_cell hb (cell_nw (by simp) (by rfl))
      have bf43 : w4.frozen? ⟨w3.heap.size, 0, none⟩ = false := kept_froz hb (by simp) (froz_nw (by simp))
      have bx44 : w4.cell? ⟨w3.heap.size, 1, none⟩ = some (.slice none 0 0) := kept_cell hb (cell_nw (by simp) (by rfl))
      have bf45 : w4.frozen? ⟨w3.heap.size, 1, none⟩ = false := kept_froz hb (by simp) (froz_nw (by simp))
      have bx46 : w4.cell? ⟨w3.heap.size, 2, none⟩ = some (.slice none 0 0) := kept_cell hb (cell_nw (by simp) (by rfl))
      have bf47 : w4.frozen? ⟨w3.heap.size, 2, none⟩ = false := kept_froz hb (by simp) (froz_nw (by simp))
      have bx48 : w4.cell? ⟨w3.heap.size, 3, none⟩ = some (.slice none 0 0) := kept_cell hb (cell_nw (by simp) (by rfl))
      have bf49 : w4.frozen? ⟨w3.heap.size, 3, none⟩ = false := kept_froz hb (by simp) (froz_nw (by simp))
      replace tot := btr (bal tot (.cells #[.int .i64 0, .slice none 0 0, .slice none 0 0, .slice none 0 0] 49)) hb
      clear hb
      rw [← hnw]
      clear hnw
      clear lt22
      have lt50 := lt_of_cell bx5
      have lt51 := lt_of_cell bx42
      refine hK.out _ _ ⟨bx5, bx6⟩ (fun hHeld => ?_)
      clear hK K
      try simp only [Act.put, List.setIfInBounds_toArray, List.set]
      refine wpAnyH_ready (rs := [2]) (by kernel_rfl) (by simp) ?_
      refine AllReadyH.cons rfl (fun K hK => ?_) AllReadyH.nil
      go_simp
      refine (HCP.out _ (btr HT0.out tot)).mono ?_
      rintro e w5 ⟨ux, uy, us, rfl, ox, oy, hap, hb⟩
      obtain ⟨px, tx, rfl⟩ := own_shape ox
      obtain ⟨py, ty, rfl⟩ := own_shape oy.out
      have oM : OwnM w5 _ _ _ _ m := ⟨ox, oy, hap⟩
      clear ox oy hap
      have hsz52 := hb.size
      replace bf43 := kept_froz hb (lt_of_cell bx42) bf43
      replace bf45 := kept_froz hb (lt_of_cell bx44) bf45
      replace bf47 := kept_froz hb (lt_of_cell bx46) bf47
      replace bf49 := kept_froz hb (lt_of_cell bx48) bf49
      replace bx5 : w5.cell? ⟨w.heap.size + 1, 0, none⟩ = some (.slice a3 m.vals.length c3) := kept_cell hb bx5
      replace bx6 : w5.cell? ⟨w.heap.size + 1, 1, none⟩ = some (.slice a4 m.arrs.length c4) := kept_cell hb bx6
      replace om18 := own_below om18 hb
      replace bx42 : w5.cell? ⟨w3.heap.size, 0, none⟩ = some (.int .i64 0) := kept_cell hb bx42
      replace bx44 : w5.cell? ⟨w3.heap.size, 1, none⟩ = some (.slice none 0 0) := kept_cell hb bx44
      replace bx46 : w5.cell? ⟨w3.heap.size, 2, none⟩ = some (.slice none 0 0) := kept_cell hb bx46
      replace bx48 : w5.cell? ⟨w3.heap.size, 3, none⟩ = some (.slice none 0 0) := kept_cell hb bx48
      replace tot := btr tot hb
      clear hb
      have iv53 := oM.lt
      clear lt50 lt51
      have lt54 := lt_of_cell bx5
      have lt55 := lt_of_cell bx42
      refine hK.out _ _ ⟨bx5, bx6⟩ (fun hHeld => ?_)
      clear hK K
      try simp only [Act.put, List.setIfInBounds_toArray, List.set]
      refine take_d (i := 3) (d := 19) (v := ?_) rfl rfl (by kernel_rfl) (by kernel_rfl) (by kernel_rfl) (fun _ _ _ h => h) (Or.inl ⟨by rfl, ?_⟩) (by assumption) ?_
      rotate_left
      · intro W' hSw; (try dsimp only at hSw); obtain ⟨s0, s1⟩ := hSw; go_simp; try with_reducible rfl
      try simp only [Act.put, List.setIfInBounds_toArray, List.set]
      refine wpAnyH_ready (rs := [5]) (by kernel_rfl) (by simp) ?_
      refine AllReadyH.cons rfl (fun K hK => ?_) AllReadyH.nil
      go_simp
      obtain ⟨w6, hnw⟩ : ∃ X, X = (World.setCell (World.setCell (World.setCell (World.setCell w5 ⟨w3.heap.size, 0, none⟩ (.int .i64 0)) ⟨w3.heap.size, 1, none⟩ (.slice (some ⟨w2.heap.size, 0, none⟩) 14 14)) ⟨w3.heap.size, 2, none⟩ (.slice px m.vals.length tx)) ⟨w3.heap.size, 3, none⟩ (.slice py m.arrs.length ty)) := ⟨_, rfl⟩
      have hb : Below (World.setCell (World.setCell (World.setCell (World.setCell w5 ⟨w3.heap.size, 0, none⟩ (.int .i64 0)) ⟨w3.heap.size, 1, none⟩ (.slice (some ⟨w2.heap.size, 0, none⟩) 14 14)) ⟨w3.heap.size, 2, none⟩ (.slice px m.vals.length tx)) ⟨w3.heap.size, 3, none⟩ (.slice py m.arrs.length ty)).heap.size (World.setCell (World.setCell (World.setCell (World.setCell w5 ⟨w3.heap.size, 0, none⟩ (.int .i64 0)) ⟨w3.heap.size, 1, none⟩ (.slice (some ⟨w2.heap.size, 0, none⟩) 14 14)) ⟨w3.heap.size, 2, none⟩ (.slice px m.vals.length tx)) ⟨w3.heap.size, 3, none⟩ (.slice py m.arrs.length ty)) w6 := by rw [hnw]; exact bself _
      have hsz56 := hb.size
      simp only [World.size_setCell] at hsz56
      replace bf43 := kept_froz hb (lt_of_cell (cell_ne (b := (w3.heap.size)) (j := 3) (cell_ne (b := (w3.heap.size)) (j := 2) (cell_ne (b := (w3.heap.size)) (j := 1) (cell_at _ (w3.heap.size) 0 (.int .i64 0) bx42) (by omega) (.slice (some ⟨w2.heap.size, 0, none⟩) 14 14)) (by omega) (.slice px m.vals.length tx)) (by omega) (.slice py m.arrs.length ty))) (froz_st (b := ⟨(w3.heap.size), 3, none⟩) (froz_st (b := ⟨(w3.heap.size), 2, none⟩) (froz_st (b := ⟨(w3.heap.size), 1, none⟩) (froz_st (b := ⟨(w3.heap.size), 0, none⟩) bf43 (.int .i64 0)) (.slice (some ⟨w2.heap.size, 0, none⟩) 14 14)) (.slice px m.vals.length tx)) (.slice py m.arrs.length ty))
      replace bf45 := kept_froz hb (lt_of_cell (cell_ne (b := (w3.heap.size)) (j := 3) (cell_ne (b := (w3.heap.size)) (j := 2) (cell_at _ (w3.heap.size) 1 (.slice (some ⟨w2.heap.size, 0, none⟩) 14 14) (cell_ne (b := (w3.heap.size)) (j := 0) bx44 (by omega) (.int .i64 0))) (by omega) (.slice px m.vals.length tx)) (by omega) (.slice py m.arrs.length ty))) (froz_st (b := ⟨(w3.heap.size), 3, none⟩) (froz_st (b := ⟨(w3.heap.size), 2, none⟩) (froz_st (b := ⟨(w3.heap.size), 1, none⟩) (froz_st (b := ⟨(w3.heap.size), 0, none⟩) bf45 (.int .i64 0)) (.slice (some ⟨w2.heap.size, 0, none⟩) 14 14)) (.slice px m.vals.length tx)) (.slice py m.arrs.length ty))
      replace bf47 := kept_froz hb (lt_of_cell (cell_ne (b := (w3.heap.size)) (j := 3) (cell_at _ (w3.heap.size) 2 (.slice px m.vals.length tx) (cell_ne (b := (w3.heap.size)) (j := 1) (cell_ne (b := (w3.heap.size)) (j := 0) bx46 (by omega) (.int .i64 0)) (by omega) (.slice (some ⟨w2.heap.size, 0, none⟩) 14 14))) (by omega) (.slice py m.arrs.length ty))) (froz_st (b := ⟨(w3.heap.size), 3, none⟩) (froz_st (b := ⟨(w3.heap.size), 2, none⟩) (froz_st (b := ⟨(w3.heap.size), 1, none⟩) (froz_st (b := ⟨(w3.heap.size), 0, none⟩) bf47 (.int .i64 0)) (.slice (some ⟨w2.heap.size, 0, none⟩) 14 14)) (.slice px m.vals.length tx)) (.slice py m.arrs.length ty))
      replace bf49 := kept_froz hb (lt_of_cell (cell_at _ (w3.heap.size) 3 (.slice py m.arrs.length ty) (cell_ne (b := (w3.heap.size)) (j := 2) (cell_ne (b := (w3.heap.size)) (j := 1) (cell_ne (b := (w3.heap.size)) (j := 0) bx48 (by omega) (.int .i64 0)) (by omega) (.slice (some ⟨w2.heap.size, 0, none⟩) 14 14)) (by omega) (.slice px m.vals.length tx)))) (froz_st (b := ⟨(w3.heap.size), 3, none⟩) (froz_st (b := ⟨(w3.heap.size), 2, none⟩) (froz_st (b := ⟨(w3.heap.size), 1, none⟩) (froz_st (b := ⟨(w3.heap.size), 0, none⟩) bf49 (.int .i64 0)) (.slice (some ⟨w2.heap.size, 0, none⟩) 14 14)) (.slice px m.vals.length tx)) (.slice py m.arrs.length ty))
      replace bx5 : w6.cell? ⟨w.heap.size + 1, 0, none⟩ = some (.slice a3 m.vals.length c3) := kept_cell hb (cell_ne (b := (w3.heap.size)) (j := 3) (cell_ne (b := (w3.heap.size)) (j := 2) (cell_ne (b := (w3.heap.size)) (j := 1) (cell_ne (b := (w3.heap.size)) (j := 0) bx5 (by omega) (.int .i64 0)) (by omega) (.slice (some ⟨w2.heap.size, 0, none⟩) 14 14)) (by omega) (.slice px m.vals.length tx)) (by omega) (.slice py m.arrs.length ty))
      replace bx6 : w6.cell? ⟨w.heap.size + 1, 1, none⟩ = some (.slice a4 m.arrs.length c4) := kept_cell hb (cell_ne (b := (w3.heap.size)) (j := 3) (cell_ne (b := (w3.heap.size)) (j := 2) (cell_ne (b := (w3.heap.size)) (j := 1) (cell_ne (b := (w3.heap.size)) (j := 0) bx6 (by omega) (.int .i64 0)) (by omega) (.slice (some ⟨w2.heap.size, 0, none⟩) 14 14)) (by omega) (.slice px m.vals.length tx)) (by omega) (.slice py m.arrs.length ty))
      replace om18 := own_below (own_set (own_set (own_set (own_set om18 (w3.heap.size) 0 (fun h => by have := iv21 _ h; omega) (.int .i64 0)) (w3.heap.size) 1 (fun h => by have := iv21 _ h; omega) (.slice (some ⟨w2.heap.size, 0, none⟩) 14 14)) (w3.heap.size) 2 (fun h => by have := iv21 _ h; omega) (.slice px m.vals.length tx)) (w3.heap.size) 3 (fun h => by have := iv21 _ h; omega) (.slice py m.arrs.length ty)) hb
      replace bx42 : w6.cell? ⟨w3.heap.size, 0, none⟩ = some (.int .i64 0) := kept_cell hb (cell_ne (b := (w3.heap.size)) (j := 3) (cell_ne (b := (w3.heap.size)) (j := 2) (cell_ne (b := (w3.heap.size)) (j := 1) (cell_at _ (w3.heap.size) 0 (.int .i64 0) bx42) (by omega) (.slice (some ⟨w2.heap.size, 0, none⟩) 14 14)) (by omega) (.slice px m.vals.length tx)) (by omega) (.slice py m.arrs.length ty))
      replace bx44 : w6.cell? ⟨w3.heap.size, 1, none⟩ = some (.slice (some ⟨w2.heap.size, 0, none⟩) 14 14) := kept_cell hb (cell_ne (b := (w3.heap.size)) (j := 3) (cell_ne (b := (w3.heap.size)) (j := 2) (cell_at _ (w3.heap.size) 1 (.slice (some ⟨w2.heap.size, 0, none⟩) 14 14) (cell_ne (b := (w3.heap.size)) (j := 0) bx44 (by omega) (.int .i64 0))) (by omega) (.slice px m.vals.length tx)) (by omega) (.slice py m.arrs.length ty))
      replace bx46 : w6.cell? ⟨w3.heap.size, 2, none⟩ = some (.slice px m.vals.length tx) := kept_cell hb (cell_ne (b := (w3.heap.size)) (j := 3) (cell_at _ (w3.heap.size) 2 (.slice px m.vals.length tx) (cell_ne (b := (w3.heap.size)) (j := 1) (cell_ne (b := (w3.heap.size)) (j := 0) bx46 (by omega) (.int .i64 0)) (by omega) (.slice (some ⟨w2.heap.size, 0, none⟩) 14 14))) (by omega) (.slice py m.arrs.length ty))
      replace bx48 : w6.cell? ⟨w3.heap.size, 3, none⟩ = some (.slice py m.arrs.length ty) := kept_cell hb (cell_at _ (w3.heap.size) 3 (.slice py m.arrs.length ty) (cell_ne (b := (w3.heap.size)) (j := 2) (cell_ne (b := (w3.heap.size)) (j := 1) (cell_ne (b := (w3.heap.size)) (j := 0) bx48 (by omega) (.int .i64 0)) (by omega) (.slice (some ⟨w2.heap.size, 0, none⟩) 14 14)) (by omega) (.slice px m.vals.length tx)))
      replace oM := ((((oM.keep ((Chg.refl (fun gk => gk = (w3.heap.size)) _).setCell (w3.heap.size) 0 (.int .i64 0) (fun _ => rfl)) (fun gq h h2 => by have := iv53 gq h; omega)).keep ((Chg.refl (fun gk => gk = (w3.heap.size)) _).setCell (w3.heap.size) 1 (.slice (some ⟨w2.heap.size, 0, none⟩) 14 14) (fun _ => rfl)) (fun gq h h2 => by have := iv53 gq h; omega)).keep ((Chg.refl (fun gk => gk = (w3.heap.size)) _).setCell (w3.heap.size) 2 (.slice px m.vals.length tx) (fun _ => rfl)) (fun gq h h2 => by have := iv53 gq h; omega)).keep ((Chg.refl (fun gk => gk = (w3.heap.size)) _).setCell (w3.heap.size) 3 (.slice py m.arrs.length ty) (fun _ => rfl)) (fun gq h h2 => by have := iv53 gq h; omega)).below hb
      replace tot := btr (bst (bst (bst (bst tot (w3.heap.size) 0 (by omega) (.int .i64 0)) (w3.heap.size) 1 (by omega) (.slice (some ⟨w2.heap.size, 0, none⟩) 14 14)) (w3.heap.size) 2 (by omega) (.slice px m.vals.length tx)) (w3.heap.size) 3 (by omega) (.slice py m.arrs.length ty)) hb
      clear hb
      rw [← hnw]
      clear hnw
      clear lt54 lt55
      have lt57 := lt_of_cell bx5
      have lt58 := lt_of_cell bx42
      refine hK.out _ _ ⟨bx5, bx6⟩ (fun hHeld => ?_)
      clear hK K
      try simp only [Act.put, List.setIfInBounds_toArray, List.set]
      refine wpAnyH_done (by kernel_rfl) ?_ _
      refine NoPanic.normal ?_
      clear hHeld
      go_wp2_with fail
      go_meet
      have OM : OwnMv _ w1.heap.size _ (.slice px m.vals.length tx) (.slice py m.arrs.length ty) us reg0 m := ⟨own_mono om18 (by omega), own_mono oM.x (by omega), oM.y.mono (by omega), fun q h h2 => by have := iv21 q h; have := iv53 q (Or.inl h2); omega, fun q h h2 => by have := iv21 q h; have := iv53 q (Or.inr h2); omega, oM.ap⟩
      have lz59 := lt_of_cell bx42
      exact ⟨_, _, _, _, _, _, us, rfl, bx42, bx44, bx46, bx48, bf43, bf45, bf47, bf49, OM, by omega, by omega, (fun q h hq => by rcases h with h | h | h; (have := iv21 q h; omega); (have := iv53 q (Or.inl h); omega); (have := iv53 q (Or.inr h); omega)), tot⟩
    refine AllReadyH.cons rfl (fun K hK => ?_) ?_
    · -- 2
      go_simp
      refine (HCP.out _ (btr HT0.out tot)).mono ?_
      rintro e w3 ⟨ux, uy, us, rfl, ox, oy, hap, hb⟩
      obtain ⟨px, tx, rfl⟩ := own_shape ox
      obtain ⟨py, ty, rfl⟩ := own_shape oy.out
      have oM : OwnM w3 _ _ _ _ m := ⟨ox, oy, hap⟩
      clear ox oy hap
      have hsz60 := hb.size
      replace bx5 : w3.cell? ⟨w.heap.size + 1, 0, none⟩ = some (.slice a3 m.vals.length c3) := kept_cell hb bx5
      replace bx6 : w3.cell? ⟨w.heap.size + 1, 1, none⟩ = some (.slice a4 m.arrs.length c4) := kept_cell hb bx6
      replace tot := btr tot hb
      clear hb
      have iv61 := oM.lt
      clear lt17
      have lt62 := lt_of_cell bx5
      refine hK.out _ _ ⟨bx5, bx6⟩ (fun hHeld => ?_)
      clear hK K
      try simp only [Act.put, List.setIfInBounds_toArray, List.set]
      refine wpAnyH_ready (rs := [0, 4]) (by kernel_rfl) (by simp) ?_
      refine AllReadyH.cons rfl (fun K hK => ?_) ?_
      · -- 0
        go_simp
        obtain ⟨w4, hnw⟩ : ∃ X, X = World.alloc w3 (.cells (madeCells #[.int .i64 0] 14) 3) := ⟨_, rfl⟩
        try rw [← hnw]
        have om63 := own_made w3 (.int .i64 0) 14 3 (by unfold maxLen; omega)
        rw [← ints_replicate, ← hnw] at om63
        have hb : Below w3.heap.size w3 w4 := by rw [hnw]; exact bal (bself _) _
        have hzm64 : w3.heap.size + 1 ≤ w4.heap.size := by rw [hnw]; simp
        clear hnw
        have hsz65 := hb.size
        replace bx5 : w4.cell? ⟨w.heap.size + 1, 0, none⟩ = some (.slice a3 m.vals.length c3) := kept_cell hb bx5
        replace bx6 : w4.cell? ⟨w.heap.size + 1, 1, none⟩ = some (.slice a4 m.arrs.length c4) := kept_cell hb bx6
        replace oM := oM.below hb
        replace tot := btr tot hb
        clear hb
        have iv66 := om63.lt
        clear lt62
        have lt67 := lt_of_cell bx5
        refine hK.out _ _ ⟨bx5, bx6⟩ (fun hHeld => ?_)
        clear hK K
        try simp only [Act.put, List.setIfInBounds_toArray, List.set]
        refine take_d (i := 3) (d := 19) (v := ?_) rfl rfl (by kernel_rfl) (by kernel_rfl) (by kernel_rfl) (fun _ _ _ h => h) (Or.inl ⟨by rfl, ?_⟩) (by assumption) ?_
        rotate_left
        · intro W' hSw; (try dsimp only at hSw); obtain ⟨s0, s1⟩ := hSw; go_simp; try with_reducible rfl
        try simp only [Act.put, List.setIfInBounds_toArray, List.set]
        refine wpAnyH_ready (rs := [4]) (by kernel_rfl) (by simp) ?_
        refine AllReadyH.cons rfl (fun K hK => ?_) AllReadyH.nil
        go_simp
        obtain ⟨w5, hnw⟩ : ∃ X, X = (World.alloc w4 (.cells #[.int .i64 0, .slice none 0 0, .slice none 0 0, .slice none 0 0] 49)) := ⟨_, rfl⟩
        have hb : Below (World.alloc w4 (.cells #[.int .i64 0, .slice none 0 0, .slice none 0 0, .slice none 0 0] 49)).heap.size (World.alloc w4 (.cells #[.int .i64 0, .slice none 0 0, .slice none 0 0, .slice none 0 0] 49)) w5 := by rw [hnw]; exact bself _
        have hsz68 := hb.size
        simp only [World.size_alloc] at hsz68
        replace bx5 : w5.cell? ⟨w.heap.size + 1, 0, none⟩ = some (.slice a3 m.vals.length c3) := kept_cell hb (cell_al bx5 (.cells #[.int .i64 0, .slice none 0 0, .slice none 0 0, .slice none 0 0] 49))
        replace bx6 : w5.cell? ⟨w.heap.size + 1, 1, none⟩ = some (.slice a4 m.arrs.length c4) := kept_cell hb (cell_al bx6 (.cells #[.int .i64 0, .slice none 0 0, .slice none 0 0, .slice none 0 0] 49))
        replace oM := (oM.below (bal (bself _) (.cells #[.int .i64 0, .slice none 0 0, .slice none 0 0, .slice none 0 0] 49))).below hb
        replace om63 := own_below (own_below om63 (bal (bself _) (.cells #[.int .i64 0, .slice none 0 0, .slice none 0 0, .slice none 0 0] 49))) hb
        have bx69 : w5.cell? ⟨w4.heap.size, 0, none⟩ = some (.int .i64 0) := kept_cell hb (cell_nw (by simp) (by rfl))
        have bf70 : w5.frozen? ⟨w4.heap.size, 0, none⟩ = false := kept_froz hb (by simp) (froz_nw (by simp))
        have bx71 : w5.cell? ⟨w4.heap.size, 1, none⟩ = some (.slice none 0 0) := kept_cell hb (cell_nw (by simp) (by rfl))
        have bf72 : w5.frozen? ⟨w4.heap.size, 1, none⟩ = false := kept_froz hb (by simp) (froz_nw (by simp))
        have bx73 : w5.cell? ⟨w4.heap.size, 2, none⟩ = some (.slice none 0 0) := kept_cell hb (cell_nw (by simp) (by rfl))
        have bf74 : w5.frozen? ⟨w4.heap.size, 2, none⟩ = false := kept_froz hb (by simp) (froz_nw (by simp))
        have bx75 : w5.cell? ⟨w4.heap.size, 3, none⟩ = some (.slice none 0 0) := kept_cell hb (cell_nw (by simp) (by rfl))
        have bf76 : w5.frozen? ⟨w4.heap.size, 3, none⟩ = false := kept_froz hb (by simp) (froz_nw (by simp))
        replace tot := btr (bal tot (.cells #[.int .i64 0, .slice none 0 0, .slice none 0 0, .slice none 0 0] 49)) hb
        clear hb
        rw [← hnw]
        clear hnw
        clear lt67
        have lt77 := lt_of_cell bx5
        have lt78 := lt_of_cell bx69
        refine hK.out _ _ ⟨bx5, bx6⟩ (fun hHeld => ?_)
        clear hK K
        try simp only [Act.put, List.setIfInBounds_toArray, List.set]
        refine wpAnyH_ready (rs := [5]) (by kernel_rfl) (by simp) ?_
        refine AllReadyH.cons rfl (fun K hK => ?_) AllReadyH.nil
        go_simp
        obtain ⟨w6, hnw⟩ : ∃ X, X = (World.setCell (World.setCell (World.setCell (World.setCell w5 ⟨w4.heap.size, 0, none⟩ (.int .i64 0)) ⟨w4.heap.size, 1, none⟩ (.slice (some ⟨w3.heap.size, 0, none⟩) 14 14)) ⟨w4.heap.size, 2, none⟩ (.slice px m.vals.length tx)) ⟨w4.heap.size, 3, none⟩ (.slice py m.arrs.length ty)) := ⟨_, rfl⟩
        have hb : Below (World.setCell (World.setCell (World.setCell (World.setCell w5 ⟨w4.heap.size, 0, none⟩ (.int .i64 0)) ⟨w4.heap.size, 1, none⟩ (.slice (some ⟨w3.heap.size, 0, none⟩) 14 14)) ⟨w4.heap.size, 2, none⟩ (.slice px m.vals.length tx)) ⟨w4.heap.size, 3, none⟩ (.slice py m.arrs.length ty)).heap.size (World.setCell (World.setCell (World.setCell (World.setCell w5 ⟨w4.heap.size, 0, none⟩ (.int .i64 0)) ⟨w4.heap.size, 1, none⟩ (.slice (some ⟨w3.heap.size, 0, none⟩) 14 14)) ⟨w4.heap.size, 2, none⟩ (.slice px m.vals.length tx)) ⟨w4.heap.size, 3, none⟩ (.slice py m.arrs.length ty)) w6 := by rw [hnw]; exact bself _
        have hsz79 := hb.size
        simp only [World.size_setCell] at hsz79
        replace bf70 := kept_froz hb (lt_of_cell (cell_ne (b := (w4.heap.size)) (j := 3) (cell_ne (b := (w4.heap.size)) (j := 2) (cell_ne (b := (w4.heap.size)) (j := 1) (cell_at _ (w4.heap.size) 0 (.int .i64 0) bx69) (by omega) (.slice (some ⟨w3.heap.size, 0, none⟩) 14 14)) (by omega) (.slice px m.vals.length tx)) (by omega) (.slice py m.arrs.length ty))) (froz_st (b := ⟨(w4.heap.size), 3, none⟩) (froz_st (b := ⟨(w4.heap.size), 2, none⟩) (froz_st (b := ⟨(w4.heap.size), 1, none⟩) (froz_st (b := ⟨(w4.heap.size), 0, none⟩) bf70 (.int .i64 0)) (.slice (some ⟨w3.heap.size, 0, none⟩) 14 14)) (.slice px m.vals.length tx)) (.slice py m.arrs.length ty))
        replace bf72 := kept_froz hb (lt_of_cell (cell_ne (b := (w4.heap.size)) (j := 3) (cell_ne (b := (w4.heap.size)) (j := 2) (cell_at _ (w4.heap.size) 1 (.slice (some ⟨w3.heap.size, 0, none⟩) 14 14) (cell_ne (b := (w4.heap.size)) (j := 0) bx71 (by omega) (.int .i64 0))) (by omega) (.slice px m.vals.length tx)) (by omega) (.slice py m.arrs.length ty))) (froz_st (b := ⟨(w4.heap.size), 3, none⟩) (froz_st (b := ⟨(w4.heap.size), 2, none⟩) (froz_st (b := ⟨(w4.heap.size), 1, none⟩) (froz_st (b := ⟨(w4.heap.size), 0, none⟩) bf72 (.int .i64 0)) (.slice (some ⟨w3.heap.size, 0, none⟩) 14 14)) (.slice px m.vals.length tx)) (.slice py m.arrs.length ty))
        replace bf74 := kept_froz hb (lt_of_cell (cell_ne (b := (w4.heap.size)) (j := 3) (cell_at _ (w4.heap.size) 2 (.slice px m.vals.length tx) (cell_ne (b := (w4.heap.size)) (j := 1) (cell_ne (b := (w4.heap.size)) (j := 0) bx73 (by omega) (.int .i64 0)) (by omega) (.slice (some ⟨w3.heap.size, 0, none⟩) 14 14))) (by omega) (.slice py m.arrs.length ty))) (froz_st (b := ⟨(w4.heap.size), 3, none⟩) (froz_st (b := ⟨(w4.heap.size), 2, none⟩) (froz_st (b := ⟨(w4.heap.size), 1, none⟩) (froz_st (b := ⟨(w4.heap.size), 0, none⟩) bf74 (.int .i64 0)) (.slice (some ⟨w3.heap.size, 0, none⟩) 14 14)) (.slice px m.vals.length tx)) (.slice py m.arrs.length ty))
        replace bf76 := kept_froz hb (lt_of_cell (cell_at _ (w4.heap.size) 3 (.slice py m.arrs.length ty) (cell_ne (b := (w4.heap.size)) (j := 2) (cell_ne (b := (w4.heap.size)) (j := 1) (cell_ne (b := (w4.heap.size)) (j := 0) bx75 (by omega) (.int .i64 0)) (by omega) (.slice (some ⟨w3.heap.size, 0, none⟩) 14 14)) (by omega) (.slice px m.vals.length tx)))) (froz_st (b := ⟨(w4.heap.size), 3, none⟩) (froz_st (b := ⟨(w4.heap.size), 2, none⟩) (froz_st (b := ⟨(w4.heap.size), 1, none⟩) (froz_st (b := ⟨(w4.heap.size), 0, none⟩) bf76 (.int .i64 0)) (.slice (some ⟨w3.heap.size, 0, none⟩) 14 14)) (.slice px m.vals.length tx)) (.slice py m.arrs.length ty))
        replace bx5 : w6.cell? ⟨w.heap.size + 1, 0, none⟩ = some (.slice a3 m.vals.length c3) := kept_cell hb (cell_ne (b := (w4.heap.size)) (j := 3) (cell_ne (b := (w4.heap.size)) (j := 2) (cell_ne (b := (w4.heap.size)) (j := 1) (cell_ne (b := (w4.heap.size)) (j := 0) bx5 (by omega) (.int .i64 0)) (by omega) (.slice (some ⟨w3.heap.size, 0, none⟩) 14 14)) (by omega) (.slice px m.vals.length tx)) (by omega) (.slice py m.arrs.length ty))
        replace bx6 : w6.cell? ⟨w.heap.size + 1, 1, none⟩ = some (.slice a4 m.arrs.length c4) := kept_cell hb (cell_ne (b := (w4.heap.size)) (j := 3) (cell_ne (b := (w4.heap.size)) (j := 2) (cell_ne (b := (w4.heap.size)) (j := 1) (cell_ne (b := (w4.heap.size)) (j := 0) bx6 (by omega) (.int .i64 0)) (by omega) (.slice (some ⟨w3.heap.size, 0, none⟩) 14 14)) (by omega) (.slice px m.vals.length tx)) (by omega) (.slice py m.arrs.length ty))
        replace oM := ((((oM.keep ((Chg.refl (fun gk => gk = (w4.heap.size)) _).setCell (w4.heap.size) 0 (.int .i64 0) (fun _ => rfl)) (fun gq h h2 => by have := iv61 gq h; omega)).keep ((Chg.refl (fun gk => gk = (w4.heap.size)) _).setCell (w4.heap.size) 1 (.slice (some ⟨w3.heap.size, 0, none⟩) 14 14) (fun _ => rfl)) (fun gq h h2 => by have := iv61 gq h; omega)).keep ((Chg.refl (fun gk => gk = (w4.heap.size)) _).setCell (w4.heap.size) 2 (.slice px m.vals.length tx) (fun _ => rfl)) (fun gq h h2 => by have := iv61 gq h; omega)).keep ((Chg.refl (fun gk => gk = (w4.heap.size)) _).setCell (w4.heap.size) 3 (.slice py m.arrs.length ty) (fun _ => rfl)) (fun gq h h2 => by have := iv61 gq h; omega)).below hb
        replace om63 := own_below (own_set (own_set (own_set (own_set om63 (w4.heap.size) 0 (fun h => by have := iv66 _ h; omega) (.int .i64 0)) (w4.heap.size) 1 (fun h => by have := iv66 _ h; omega) (.slice (some ⟨w3.heap.size, 0, none⟩) 14 14)) (w4.heap.size) 2 (fun h => by have := iv66 _ h; omega) (.slice px m.vals.length tx)) (w4.heap.size) 3 (fun h => by have := iv66 _ h; omega) (.slice py m.arrs.length ty)) hb
        replace bx69 : w6.cell? ⟨w4.heap.size, 0, none⟩ = some (.int .i64 0) := kept_cell hb (cell_ne (b := (w4.heap.size)) (j := 3) (cell_ne (b := (w4.heap.size)) (j := 2) (cell_ne (b := (w4.heap.size)) (j := 1) (cell_at _ (w4.heap.size) 0 (.int .i64 0) bx69) (by omega) (.slice (some ⟨w3.heap.size, 0, none⟩) 14 14)) (by omega) (.slice px m.vals.length tx)) (by omega) (.slice py m.arrs.length ty))
        replace bx71 : w6.cell? ⟨w4.heap.size, 1, none⟩ = some (.slice (some ⟨w3.heap.size, 0, none⟩) 14 14) := kept_cell hb (cell_ne (b := (w4.heap.size)) (j := 3) (cell_ne (b := (w4.heap.size)) (j := 2) (cell_at _ (w4.heap.size) 1 (.slice (some ⟨w3.heap.size, 0, none⟩) 14 14) (cell_ne (b := (w4.heap.size)) (j := 0) bx71 (by omega) (.int .i64 0))) (by omega) (.slice px m.vals.length tx)) (by omega) (.slice py m.arrs.length ty))
        replace bx73 : w6.cell? ⟨w4.heap.size, 2, none⟩ = some (.slice px m.vals.length tx) := kept_cell hb (cell_ne (b := (w4.heap.size)) (j := 3) (cell_at _ (w4.heap.size) 2 (.slice px m.vals.length tx) (cell_ne (b := (w4.heap.size)) (j := 1) (cell_ne (b := (w4.heap.size)) (j := 0) bx73 (by omega) (.int .i64 0)) (by omega) (.slice (some ⟨w3.heap.size, 0, none⟩) 14 14))) (by omega) (.slice py m.arrs.length ty))
        replace bx75 : w6.cell? ⟨w4.heap.size, 3, none⟩ = some (.slice py m.arrs.length ty) := kept_cell hb (cell_at _ (w4.heap.size) 3 (.slice py m.arrs.length ty) (cell_ne (b := (w4.heap.size)) (j := 2) (cell_ne (b := (w4.heap.size)) (j := 1) (cell_ne (b := (w4.heap.size)) (j := 0) bx75 (by omega) (.int .i64 0)) (by omega) (.slice (some ⟨w3.heap.size, 0, none⟩) 14 14)) (by omega) (.slice px m.vals.length tx)))
        replace tot := btr (bst (bst (bst (bst tot (w4.heap.size) 0 (by omega) (.int .i64 0)) (w4.heap.size) 1 (by omega) (.slice (some ⟨w3.heap.size, 0, none⟩) 14 14)) (w4.heap.size) 2 (by omega) (.slice px m.vals.length tx)) (w4.heap.size) 3 (by omega) (.slice py m.arrs.length ty)) hb
        clear hb
        rw [← hnw]
        clear hnw
        clear lt77 lt78
        have lt80 := lt_of_cell bx5
        have lt81 := lt_of_cell bx69
        refine hK.out _ _ ⟨bx5, bx6⟩ (fun hHeld => ?_)
        clear hK K
        try simp only [Act.put, List.setIfInBounds_toArray, List.set]
        refine wpAnyH_done (by kernel_rfl) ?_ _
        refine NoPanic.normal ?_
        clear hHeld
        go_wp2_with fail
        go_meet
        have OM : OwnMv _ w1.heap.size _ (.slice px m.vals.length tx) (.slice py m.arrs.length ty) us reg0 m := ⟨own_mono om63 (by omega), own_mono oM.x (by omega), oM.y.mono (by omega), fun q h h2 => by have := iv66 q h; have := iv61 q (Or.inl h2); omega, fun q h h2 => by have := iv66 q h; have := iv61 q (Or.inr h2); omega, oM.ap⟩
        have lz82 := lt_of_cell bx69
        exact ⟨_, _, _, _, _, _, us, rfl, bx69, bx71, bx73, bx75, bf70, bf72, bf74, bf76, OM, by omega, by omega, (fun q h hq => by rcases h with h | h | h; (have := iv66 q h; omega); (have := iv61 q (Or.inl h); omega); (have := iv61 q (Or.inr h); omega)), tot⟩
      refine AllReadyH.cons rfl (fun K hK => ?_) AllReadyH.nil
      go_simp
      obtain ⟨w4, hnw⟩ : ∃ X, X = (World.alloc w3 (.cells #[.int .i64 0, .slice none 0 0, .slice none 0 0, .slice none 0 0] 49)) := ⟨_, rfl⟩
      have hb : Below (World.alloc w3 (.cells #[.int .i64 0, .slice none 0 0, .slice none 0 0, .slice none 0 0] 49)).heap.size (World.alloc w3 (.cells #[.int .i64 0, .slice none 0 0, .slice none 0 0, .slice none 0 0] 49)) w4 := by rw [hnw]; exact bself _
      have hsz83 := hb.size
      simp only [World.size_alloc] at hsz83
      replace bx5 : w4.cell? ⟨w.heap.size + 1, 0, none⟩ = some (.slice a3 m.vals.length c3) := kept_cell hb (cell_al bx5 (.cells #[.int .i64 0, .slice none 0 0, .slice none 0 0, .slice none 0 0] 49))
      replace bx6 : w4.cell? ⟨w.heap.size + 1, 1, none⟩ = some (.slice a4 m.arrs.length c4) := kept_cell hb (cell_al bx6 (.cells #[.int .i64 0, .slice none 0 0, .slice none 0 0, .slice none 0 0] 49))
      replace oM := (oM.below (bal (bself _) (.cells #[.int .i64 0, .slice none 0 0, .slice none 0 0, .slice none 0 0] 49))).below hb
      have bx84 : w4.cell? ⟨w3.heap.size, 0, none⟩ = some (.int .i64 0) := kept_cell hb (cell_nw (by simp) (by rfl))
      have bf85 : w4.frozen? ⟨w3.heap.size, 0, none⟩ = false := kept_froz hb (by simp) (froz_nw (by simp))
      have bx86 : w4.cell? ⟨w3.heap.size, 1, none⟩ = some (.slice none 0 0) := kept_cell hb (cell_nw (by simp) (by rfl))
      have bf87 : w4.frozen? ⟨w3.heap.size, 1, none⟩ = false := kept_froz hb (by simp) (froz_nw (by simp))
      have bx88 : w4.cell? ⟨w3.heap.size, 2, none⟩ = some (.slice none 0 0) := kept_cell hb (cell_nw (by simp) (by rfl))
      have bf89 : w4.frozen? ⟨w3.heap.size, 2, none⟩ = false := kept_froz hb (by simp) (froz_nw (by simp))
      have bx90 : w4.cell? ⟨w3.heap.size, 3, none⟩ = some (.slice none 0 0) := kept_cell hb (cell_nw (by simp) (by rfl))
      have bf91 : w4.frozen? ⟨w3.heap.size, 3, none⟩ = false := kept_froz hb (by simp) (froz_nw (by simp))
      replace tot := btr (bal tot (.cells #[.int .i64 0, .slice none 0 0, .slice none 0 0, .slice none 0 0] 49)) hb
      clear hb
      rw [← hnw]
      clear hnw
      clear lt62
      have lt92 := lt_of_cell bx5
      have lt93 := lt_of_cell bx84
      refine hK.out _ _ ⟨bx5, bx6⟩ (fun hHeld => ?_)
      clear hK K
      try simp only [Act.put, List.setIfInBounds_toArray, List.set]
      refine wpAnyH_ready (rs := [0]) (by kernel_rfl) (by simp) ?_
      refine AllReadyH.cons rfl (fun K hK => ?_) AllReadyH.nil
      go_simp
      obtain ⟨w5, hnw⟩ : ∃ X, X = World.alloc w4 (.cells (madeCells #[.int .i64 0] 14) 3) := ⟨_, rfl⟩
      try rw [← hnw]
      have om94 := own_made w4 (.int .i64 0) 14 3 (by unfold maxLen; omega)
      rw [← ints_replicate, ← hnw] at om94
      have hb : Below w4.heap.size w4 w5 := by rw [hnw]; exact bal (bself _) _
      have hzm95 : w4.heap.size + 1 ≤ w5.heap.size := by rw [hnw]; simp
      clear hnw
      have hsz96 := hb.size
      replace bf85 := kept_froz hb (lt_of_cell bx84) bf85
      replace bf87 := kept_froz hb (lt_of_cell bx86) bf87
      replace bf89 := kept_froz hb (lt_of_cell bx88) bf89
      replace bf91 := kept_froz hb (lt_of_cell bx90) bf91
      replace bx5 : w5.cell? ⟨w.heap.size + 1, 0, none⟩ = some (.slice a3 m.vals.length c3) := kept_cell hb bx5
      replace bx6 : w5.cell? ⟨w.heap.size + 1, 1, none⟩ = some (.slice a4 m.arrs.length c4) := kept_cell hb bx6
      replace oM := oM.below hb
      replace bx84 : w5.cell? ⟨w3.heap.size, 0, none⟩ = some (.int .i64 0) := kept_cell hb bx84
      replace bx86 : w5.cell? ⟨w3.heap.size, 1, none⟩ = some (.slice none 0 0) := kept_cell hb bx86
      replace bx88 : w5.cell? ⟨w3.heap.size, 2, none⟩ = some (.slice none 0 0) := kept_cell hb bx88
      replace bx90 : w5.cell? ⟨w3.heap.size, 3, none⟩ = some (.slice none 0 0) := kept_cell hb bx90
      replace tot := btr tot hb
      clear hb
      have iv97 := om94.lt
      clear lt92 lt93
      have lt98 := lt_of_cell bx5
      have lt99 := lt_of_cell bx84
      refine hK.out _ _ ⟨bx5, bx6⟩ (fun hHeld => ?_)
      clear hK K
      try simp only [Act.put, List.setIfInBounds_toArray, List.set]
      refine take_d (i := 3) (d := 19) (v := ?_) rfl rfl (by kernel_rfl) (by kernel_rfl) (by kernel_rfl) (fun _ _ _ h => h) (Or.inl ⟨by rfl, ?_⟩) (by assumption) ?_
      rotate_left
      · intro W' hSw; (try dsimp only at hSw); obtain ⟨s0, s1⟩ := hSw; go_simp; try with_reducible rfl
      try simp only [Act.put, List.setIfInBounds_toArray, List.set]
      refine wpAnyH_ready (rs := [5]) (by kernel_rfl) (by simp) ?_
      refine AllReadyH.cons rfl (fun K hK => ?_) AllReadyH.nil
      go_simp
      obtain ⟨w6, hnw⟩ : ∃ X, X = (World.setCell (World.setCell (World.setCell (World.setCell w5 ⟨w3.heap.size, 0, none⟩ (.int .i64 0)) ⟨w3.heap.size, 1, none⟩ (.slice (some ⟨w4.heap.size, 0, none⟩) 14 14)) ⟨w3.heap.size, 2, none⟩ (.slice px m.vals.length tx)) ⟨w3.heap.size, 3, none⟩ (.slice py m.arrs.length ty)) := ⟨_, rfl⟩
      have hb : Below (World.setCell (World.setCell (World.setCell (World.setCell w5 ⟨w3.heap.size, 0, none⟩ (.int .i64 0)) ⟨w3.heap.size, 1, none⟩ (.slice (some ⟨w4.heap.size, 0, none⟩) 14 14)) ⟨w3.heap.size, 2, none⟩ (.slice px m.vals.length tx)) ⟨w3.heap.size, 3, none⟩ (.slice py m.arrs.length ty)).heap.size (World.setCell (World.setCell (World.setCell (World.setCell w5 ⟨w3.heap.size, 0, none⟩ (.int .i64 0)) ⟨w3.heap.size, 1, none⟩ (.slice (some ⟨w4.heap.size, 0, none⟩) 14 14)) ⟨w3.heap.size, 2, none⟩ (.slice px m.vals.length tx)) ⟨w3.heap.size, 3, none⟩ (.slice py m.arrs.length ty)) w6 := by rw [hnw]; exact bself _
      have hsz100 := hb.size
      simp only [World.size_setCell] at hsz100
      replace bf85 := kept_froz hb (lt_of_cell (cell_ne (b := (w3.heap.size)) (j := 3) (cell_ne (b := (w3.heap.size)) (j := 2) (cell_ne (b := (w3.heap.size)) (j := 1) (cell_at _ (w3.heap.size) 0 (.int .i64 0) bx84) (by omega) (.slice (some ⟨w4.heap.size, 0, none⟩) 14 14)) (by omega) (.slice px m.vals.length tx)) (by omega) (.slice py m.arrs.length ty))) (froz_st (b := ⟨(w3.heap.size), 3, none⟩) (froz_st (b := ⟨(w3.heap.size), 2, none⟩) (froz_st (b := ⟨(w3.heap.size), 1, none⟩) (froz_st (b := ⟨(w3.heap.size), 0, none⟩) bf85 (.int .i64 0)) (.slice (some ⟨w4.heap.size, 0, none⟩) 14 14)) (.slice px m.vals.length tx)) (.slice py m.arrs.length ty))
      replace bf87 := kept_froz hb (lt_of_cell (cell_ne (b := (w3.heap.size)) (j := 3) (cell_ne (b := (w3.heap.size)) (j := 2) (cell_at _ (w3.heap.size) 1 (.slice (some ⟨w4.heap.size, 0, none⟩) 14 14) (cell_ne (b := (w3.heap.size)) (j := 0) bx86 (by omega) (.int .i64 0))) (by omega) (.slice px m.vals.length tx)) (by omega) (.slice py m.arrs.length ty))) (froz_st (b := ⟨(w3.heap.size), 3, none⟩) (froz_st (b := ⟨(w3.heap.size), 2, none⟩) (froz_st (b := ⟨(w3.heap.size), 1, none⟩) (froz_st (b := ⟨(w3.heap.size), 0, none⟩) bf87 (.int .i64 0)) (.slice (some ⟨w4.heap.size, 0, none⟩) 14 14)) (.slice px m.vals.length tx)) (.slice py m.arrs.length ty))
      replace bf89 := kept_froz hb (lt_of_cell (cell_ne (b := (w3.heap.size)) (j := 3) (cell_at _ (w3.heap.size) 2 (.slice px m.vals.length tx) (cell_ne (b := (w3.heap.size)) (j := 1) (cell_ne (b := (w3.heap.size)) (j := 0) bx88 (by omega) (.int .i64 0)) (by omega) (.slice (some ⟨w4.heap.size, 0, none⟩) 14 14))) (by omega) (.slice py m.arrs.length ty))) (froz_st (b := ⟨(w3.heap.size), 3, none⟩) (froz_st (b := ⟨(w3.heap.size), 2, none⟩) (froz_st (b := ⟨(w3.heap.size), 1, none⟩) (froz_st (b := ⟨(w3.heap.size), 0, none⟩) bf89 (.int .i64 0)) (.slice (some ⟨w4.heap.size, 0, none⟩) 14 14)) (.slice px m.vals.length tx)) (.slice py m.arrs.length ty))
      replace bf91 := kept_froz hb (lt_of_cell (cell_at _ (w3.heap.size) 3 (.slice py m.arrs.length ty) (cell_ne (b := (w3.heap.size)) (j := 2) (cell_ne (b := (w3.heap.size)) (j := 1) (cell_ne (b := (w3.heap.size)) (j := 0) bx90 (by omega) (.int .i64 0)) (by omega) (.slice (some ⟨w4.heap.size, 0, none⟩) 14 14)) (by omega) (.slice px m.vals.length tx)))) (froz_st (b := ⟨(w3.heap.size), 3, none⟩) (froz_st (b := ⟨(w3.heap.size), 2, none⟩) (froz_st (b := ⟨(w3.heap.size), 1, none⟩) (froz_st (b := ⟨(w3.heap.size), 0, none⟩) bf91 (.int .i64 0)) (.slice (some ⟨w4.heap.size, 0, none⟩) 14 14)) (.slice px m.vals.length tx)) (.slice py m.arrs.length ty))
      replace bx5 : w6.cell? ⟨w.heap.size + 1, 0, none⟩ = some (.slice a3 m.vals.length c3) := kept_cell hb (cell_ne (b := (w3.heap.size)) (j := 3) (cell_ne (b := (w3.heap.size)) (j := 2) (cell_ne (b := (w3.heap.size)) (j := 1) (cell_ne (b := (w3.heap.size)) (j := 0) bx5 (by omega) (.int .i64 0)) (by omega) (.slice (some ⟨w4.heap.size, 0, none⟩) 14 14)) (by omega) (.slice px m.vals.length tx)) (by omega) (.slice py m.arrs.length ty))
      replace bx6 : w6.cell? ⟨w.heap.size + 1, 1, none⟩ = some (.slice a4 m.arrs.length c4) := kept_cell hb (cell_ne (b := (w3.heap.size)) (j := 3) (cell_ne (b := (w3.heap.size)) (j := 2) (cell_ne (b := (w3.heap.size)) (j := 1) (cell_ne (b := (w3.heap.size)) (j := 0) bx6 (by omega) (.int .i64 0)) (by omega) (.slice (some ⟨w4.heap.size, 0, none⟩) 14 14)) (by omega) (.slice px m.vals.length tx)) (by omega) (.slice py m.arrs.length ty))
      replace oM := ((((oM.keep ((Chg.refl (fun gk => gk = (w3.heap.size)) _).setCell (w3.heap.size) 0 (.int .i64 0) (fun _ => rfl)) (fun gq h h2 => by have := iv61 gq h; omega)).keep ((Chg.refl (fun gk => gk = (w3.heap.size)) _).setCell (w3.heap.size) 1 (.slice (some ⟨w4.heap.size, 0, none⟩) 14 14) (fun _ => rfl)) (fun gq h h2 => by have := iv61 gq h; omega)).keep ((Chg.refl (fun gk => gk = (w3.heap.size)) _).setCell (w3.heap.size) 2 (.slice px m.vals.length tx) (fun _ => rfl)) (fun gq h h2 => by have := iv61 gq h; omega)).keep ((Chg.refl (fun gk => gk = (w3.heap.size)) _).setCell (w3.heap.size) 3 (.slice py m.arrs.length ty) (fun _ => rfl)) (fun gq h h2 => by have := iv61 gq h; omega)).below hb
      replace bx84 : w6.cell? ⟨w3.heap.size, 0, none⟩ = some (.int .i64 0) := kept_cell hb (cell_ne (b := (w3.heap.size)) (j := 3) (cell_ne (b := (w3.heap.size)) (j := 2) (cell_ne (b := (w3.heap.size)) (j := 1) (cell_at _ (w3.heap.size) 0 (.int .i64 0) bx84) (by omega) (.slice (some ⟨w4.heap.size, 0, none⟩) 14 14)) (by omega) (.slice px m.vals.length tx)) (by omega) (.slice py m.arrs.length ty))
      replace bx86 : w6.cell? ⟨w3.heap.size, 1, none⟩ = some (.slice (some ⟨w4.heap.size, 0, none⟩) 14 14) := kept_cell hb (cell_ne (b := (w3.heap.size)) (j := 3) (cell_ne (b := (w3.heap.size)) (j := 2) (cell_at _ (w3.heap.size) 1 (.slice (some ⟨w4.heap.size, 0, none⟩) 14 14) (cell_ne (b := (w3.heap.size)) (j := 0) bx86 (by omega) (.int .i64 0))) (by omega) (.slice px m.vals.length tx)) (by omega) (.slice py m.arrs.length ty))
      replace bx88 : w6.cell? ⟨w3.heap.size, 2, none⟩ = some (.slice px m.vals.length tx) := kept_cell hb (cell_ne (b := (w3.heap.size)) (j := 3) (cell_at _ (w3.heap.size) 2 (.slice px m.vals.length tx) (cell_ne (b := (w3.heap.size)) (j := 1) (cell_ne (b := (w3.heap.size)) (j := 0) bx88 (by omega) (.int .i64 0)) (by omega) (.slice (some ⟨w4.heap.size, 0, none⟩) 14 14))) (by omega) (.slice py m.arrs.length ty))
      replace bx90 : w6.cell? ⟨w3.heap.size, 3, none⟩ = some (.slice py m.arrs.length ty) := kept_cell hb (cell_at _ (w3.heap.size) 3 (.slice py m.arrs.length ty) (cell_ne (b := (w3.heap.size)) (j := 2) (cell_ne (b := (w3.heap.size)) (j := 1) (cell_ne (b := (w3.heap.size)) (j := 0) bx90 (by omega) (.int .i64 0)) (by omega) (.slice (some ⟨w4.heap.size, 0, none⟩) 14 14)) (by omega) (.slice px m.vals.length tx)))
      replace om94 := own_below (own_set (own_set (own_set (own_set om94 (w3.heap.size) 0 (fun h => by have := iv97 _ h; omega) (.int .i64 0)) (w3.heap.size) 1 (fun h => by have := iv97 _ h; omega) (.slice (some ⟨w4.heap.size, 0, none⟩) 14 14)) (w3.heap.size) 2 (fun h => by have := iv97 _ h; omega) (.slice px m.vals.length tx)) (w3.heap.size) 3 (fun h => by have := iv97 _ h; omega) (.slice py m.arrs.length ty)) hb
      replace tot := btr (bst (bst (bst (bst tot (w3.heap.size) 0 (by omega) (.int .i64 0)) (w3.heap.size) 1 (by omega) (.slice (some ⟨w4.heap.size, 0, none⟩) 14 14)) (w3.heap.size) 2 (by omega) (.slice px m.vals.length tx)) (w3.heap.size) 3 (by omega) (.slice py m.arrs.length ty)) hb
      clear hb
      rw [← hnw]
      clear hnw
      clear lt98 lt99
      have lt101 := lt_of_cell bx5
      have lt102 := lt_of_cell bx84
      refine hK.out _ _ ⟨bx5, bx6⟩ (fun hHeld => ?_)
      clear hK K
      try simp only [Act.put, List.setIfInBounds_toArray, List.set]
      refine wpAnyH_done (by kernel_rfl) ?_ _
      refine NoPanic.normal ?_
      clear hHeld
      go_wp2_with fail
      go_meet
      have OM : OwnMv _ w1.heap.size _ (.slice px m.vals.length tx) (.slice py m.arrs.length ty) us reg0 m := ⟨own_mono om94 (by omega), own_mono oM.x (by omega), oM.y.mono (by omega), fun q h h2 => by have := iv97 q h; have := iv61 q (Or.inl h2); omega, fun q h h2 => by have := iv97 q h; have := iv61 q (Or.inr h2); omega, oM.ap⟩
      have lz103 := lt_of_cell bx84
      exact ⟨_, _, _, _, _, _, us, rfl, bx84, bx86, bx88, bx90, bf85, bf87, bf89, bf91, OM, by omega, by omega, (fun q h hq => by rcases h with h | h | h; (have := iv97 q h; omega); (have := iv61 q (Or.inl h); omega); (have := iv61 q (Or.inr h); omega)), tot⟩
    refine AllReadyH.cons rfl (fun K hK => ?_) AllReadyH.nil
    go_simp
    obtain ⟨w3, hnw⟩ : ∃ X, X = (World.alloc w2 (.cells #[.int .i64 0, .slice none 0 0, .slice none 0 0, .slice none 0 0] 49)) := ⟨_, rfl⟩
    have hb : Below (World.alloc w2 (.cells #[.int .i64 0, .slice none 0 0, .slice none 0 0, .slice none 0 0] 49)).heap.size (World.alloc w2 (.cells #[.int .i64 0, .slice none 0 0, .slice none 0 0, .slice none 0 0] 49)) w3 := by rw [hnw]; exact bself _
    have hsz104 := hb.size
    simp only [World.size_alloc] at hsz104
    replace bx5 : w3.cell? ⟨w.heap.size + 1, 0, none⟩ = some (.slice a3 m.vals.length c3) := kept_cell hb (cell_al bx5 (.cells #[.int .i64 0, .slice none 0 0, .slice none 0 0, .slice none 0 0] 49))
    replace bx6 : w3.cell? ⟨w.heap.size + 1, 1, none⟩ = some (.slice a4 m.arrs.length c4) := kept_cell hb (cell_al bx6 (.cells #[.int .i64 0, .slice none 0 0, .slice none 0 0, .slice none 0 0] 49))
    have bx105 : w3.cell? ⟨w2.heap.size, 0, none⟩ = some (.int .i64 0) := kept_cell hb (cell_nw (by simp) (by rfl))
    have bf106 : w3.frozen? ⟨w2.heap.size, 0, none⟩ = false := kept_froz hb (by simp) (froz_nw (by simp))
    have bx107 : w3.cell? ⟨w2.heap.size, 1, none⟩ = some (.slice none 0 0) := kept_cell hb (cell_nw (by simp) (by rfl))
    have bf108 : w3.frozen? ⟨w2.heap.size, 1, none⟩ = false := kept_froz hb (by simp) (froz_nw (by simp))
    have bx109 : w3.cell? ⟨w2.heap.size, 2, none⟩ = some (.slice none 0 0) := kept_cell hb (cell_nw (by simp) (by rfl))
    have bf110 : w3.frozen? ⟨w2.heap.size, 2, none⟩ = false := kept_froz hb (by simp) (froz_nw (by simp))
    have bx111 : w3.cell? ⟨w2.heap.size, 3, none⟩ = some (.slice none 0 0) := kept_cell hb (cell_nw (by simp) (by rfl))
    have bf112 : w3.frozen? ⟨w2.heap.size, 3, none⟩ = false := kept_froz hb (by simp) (froz_nw (by simp))
    replace tot := btr (bal tot (.cells #[.int .i64 0, .slice none 0 0, .slice none 0 0, .slice none 0 0] 49)) hb
    clear hb
    rw [← hnw]
    clear hnw
    clear lt17
    have lt113 := lt_of_cell bx5
    have lt114 := lt_of_cell bx105
    refine hK.out _ _ ⟨bx5, bx6⟩ (fun hHeld => ?_)
    clear hK K
    try simp only [Act.put, List.setIfInBounds_toArray, List.set]
    refine wpAnyH_ready (rs := [0, 2]) (by kernel_rfl) (by simp) ?_
    refine AllReadyH.cons rfl (fun K hK => ?_) ?_
    · -- 0
      go_simp
      obtain ⟨w4, hnw⟩ : ∃ X, X = World.alloc w3 (.cells (madeCells #[.int .i64 0] 14) 3) := ⟨_, rfl⟩
      try rw [← hnw]
      have om115 := own_made w3 (.int .i64 0) 14 3 (by unfold maxLen; omega)
      rw [← ints_replicate, ← hnw] at om115
      have hb : Below w3.heap.size w3 w4 := by rw [hnw]; exact bal (bself _) _
      have hzm116 : w3.heap.size + 1 ≤ w4.heap.size := by rw [hnw]; simp
      clear hnw
      have hsz117 := hb.size
      replace bf106 := kept_froz hb (lt_of_cell bx105) bf106
      replace bf108 := kept_froz hb (lt_of_cell bx107) bf108
      replace bf110 := kept_froz hb (lt_of_cell bx109) bf110
      replace bf112 := kept_froz hb (lt_of_cell bx111) bf112
      replace bx5 : w4.cell? ⟨w.heap.size + 1, 0, none⟩ = some (.slice a3 m.vals.length c3) := kept_cell hb bx5
      replace bx6 : w4.cell? ⟨w.heap.size + 1, 1, none⟩ = some (.slice a4 m.arrs.length c4) := kept_cell hb bx6
      replace bx105 : w4.cell? ⟨w2.heap.size, 0, none⟩ = some (.int .i64 0) := kept_cell hb bx105
      replace bx107 : w4.cell? ⟨w2.heap.size, 1, none⟩ = some (.slice none 0 0) := kept_cell hb bx107
      replace bx109 : w4.cell? ⟨w2.heap.size, 2, none⟩ = some (.slice none 0 0) := kept_cell hb bx109
      replace bx111 : w4.cell? ⟨w2.heap.size, 3, none⟩ = some (.slice none 0 0) := kept_cell hb bx111
      replace tot := btr tot hb
      clear hb
      have iv118 := om115.lt
      clear lt113 lt114
      have lt119 := lt_of_cell bx5
      have lt120 := lt_of_cell bx105
      refine hK.out _ _ ⟨bx5, bx6⟩ (fun hHeld => ?_)
      clear hK K
      try simp only [Act.put, List.setIfInBounds_toArray, List.set]
      refine wpAnyH_ready (rs := [2]) (by kernel_rfl) (by simp) ?_
      refine AllReadyH.cons rfl (fun K hK => ?_) AllReadyH.nil
      go_simp
      refine (HCP.out _ (btr HT0.out tot)).mono ?_
      rintro e w5 ⟨ux, uy, us, rfl, ox, oy, hap, hb⟩
      obtain ⟨px, tx, rfl⟩ := own_shape ox
      obtain ⟨py, ty, rfl⟩ := own_shape oy.out
      have oM : OwnM w5 _ _ _ _ m := ⟨ox, oy, hap⟩
      clear ox oy hap
      have hsz121 := hb.size
      replace bf106 := kept_froz hb (lt_of_cell bx105) bf106
      replace bf108 := kept_froz hb (lt_of_cell bx107) bf108
      replace bf110 := kept_froz hb (lt_of_cell bx109) bf110
      replace bf112 := kept_froz hb (lt_of_cell bx111) bf112
      replace bx5 : w5.cell? ⟨w.heap.size + 1, 0, none⟩ = some (.slice a3 m.vals.length c3) := kept_cell hb bx5
      replace bx6 : w5.cell? ⟨w.heap.size + 1, 1, none⟩ = some (.slice a4 m.arrs.length c4) := kept_cell hb bx6
      replace bx105 : w5.cell? ⟨w2.heap.size, 0, none⟩ = some (.int .i64 0) := kept_cell hb bx105
      replace bx107 : w5.cell? ⟨w2.heap.size, 1, none⟩ = some (.slice none 0 0) := kept_cell hb bx107
      replace bx109 : w5.cell? ⟨w2.heap.size, 2, none⟩ = some (.slice none 0 0) := kept_cell hb bx109
      replace bx111 : w5.cell? ⟨w2.heap.size, 3, none⟩ = some (.slice none 0 0) := kept_cell hb bx111
      replace om115 := own_below om115 hb
      replace tot := btr tot hb
      clear hb
      have iv122 := oM.lt
      clear lt119 lt120
      have lt123 := lt_of_cell bx5
      have lt124 := lt_of_cell bx105
      refine hK.out _ _ ⟨bx5, bx6⟩ (fun hHeld => ?_)
      clear hK K
      try simp only [Act.put, List.setIfInBounds_toArray, List.set]
      refine take_d (i := 3) (d := 19) (v := ?_) rfl rfl (by kernel_rfl) (by kernel_rfl) (by kernel_rfl) (fun _ _ _ h => h) (Or.inl ⟨by rfl, ?_⟩) (by assumption) ?_
      rotate_left
      · intro W' hSw; (try dsimp only at hSw); obtain ⟨s0, s1⟩ := hSw; go_simp; try with_reducible rfl
      try simp only [Act.put, List.setIfInBounds_toArray, List.set]
      refine wpAnyH_ready (rs := [5]) (by kernel_rfl) (by simp) ?_
      refine AllReadyH.cons rfl (fun K hK => ?_) AllReadyH.nil
      go_simp
      obtain ⟨w6, hnw⟩ : ∃ X, X = (World.setCell (World.setCell (World.setCell (World.setCell w5 ⟨w2.heap.size, 0, none⟩ (.int .i64 0)) ⟨w2.heap.size, 1, none⟩ (.slice (some ⟨w3.heap.size, 0, none⟩) 14 14)) ⟨w2.heap.size, 2, none⟩ (.slice px m.vals.length tx)) ⟨w2.heap.size, 3, none⟩ (.slice py m.arrs.length ty)) := ⟨_, rfl⟩
      have hb : Below (World.setCell (World.setCell (World.setCell (World.setCell w5 ⟨w2.heap.size, 0, none⟩ (.int .i64 0)) ⟨w2.heap.size, 1, none⟩ (.slice (some ⟨w3.heap.size, 0, none⟩) 14 14)) ⟨w2.heap.size, 2, none⟩ (.slice px m.vals.length tx)) ⟨w2.heap.size, 3, none⟩ (.slice py m.arrs.length ty)).heap.size (World.setCell (World.setCell (World.setCell (World.setCell w5 ⟨w2.heap.size, 0, none⟩ (.int .i64 0)) ⟨w2.heap.size, 1, none⟩ (.slice (some ⟨w3.heap.size, 0, none⟩) 14 14)) ⟨w2.heap.size, 2, none⟩ (.slice px m.vals.length tx)) ⟨w2.heap.size, 3, none⟩ (.slice py m.arrs.length ty)) w6 := by rw [hnw]; exact bself _
      have hsz125 := hb.size
      simp only [World.size_setCell] at hsz125
      replace bf106 := kept_froz hb (lt_of_cell (cell_ne (b := (w2.heap.size)) (j := 3) (cell_ne (b := (w2.heap.size)) (j := 2) (cell_ne (b := (w2.heap.size)) (j := 1) (cell_at _ (w2.heap.size) 0 (.int .i64 0) bx105) (by omega) (.slice (some ⟨w3.heap.size, 0, none⟩) 14 14)) (by omega) (.slice px m.vals.length tx)) (by omega) (.slice py m.arrs.length ty))) (froz_st (b := ⟨(w2.heap.size), 3, none⟩) (froz_st (b := ⟨(w2.heap.size), 2, none⟩) (froz_st (b := ⟨(w2.heap.size), 1, none⟩) (froz_st (b := ⟨(w2.heap.size), 0, none⟩) bf106 (.int .i64 0)) (.slice (some ⟨w3.heap.size, 0, none⟩) 14 14)) (.slice px m.vals.length tx)) (.slice py m.arrs.length ty))
      replace bf108 := kept_froz hb (lt_of_cell (cell_ne (b := (w2.heap.size)) (j := 3) (cell_ne (b := (w2.heap.size)) (j := 2) (cell_at _ (w2.heap.size) 1 (.slice (some ⟨w3.heap.size, 0, none⟩) 14 14) (cell_ne (b := (w2.heap.size)) (j := 0) bx107 (by omega) (.int .i64 0))) (by omega) (.slice px m.vals.length tx)) (by omega) (.slice py m.arrs.length ty))) (froz_st (b := ⟨(w2.heap.size), 3, none⟩) (froz_st (b := ⟨(w2.heap.size), 2, none⟩) (froz_st (b := ⟨(w2.heap.size), 1, none⟩) (froz_st (b := ⟨(w2.heap.size), 0, none⟩) bf108 (.int .i64 0)) (.slice (some ⟨w3.heap.size, 0, none⟩) 14 14)) (.slice px m.vals.length tx)) (.slice py m.arrs.length ty))
      replace bf110 := kept_froz hb (lt_of_cell (cell_ne (b := (w2.heap.size)) (j := 3) (cell_at _ (w2.heap.size) 2 (.slice px m.vals.length tx) (cell_ne (b := (w2.heap.size)) (j := 1) (cell_ne (b := (w2.heap.size)) (j := 0) bx109 (by omega) (.int .i64 0)) (by omega) (.slice (some ⟨w3.heap.size, 0, none⟩) 14 14))) (by omega) (.slice py m.arrs.length ty))) (froz_st (b := ⟨(w2.heap.size), 3, none⟩) (froz_st (b := ⟨(w2.heap.size), 2, none⟩) (froz_st (b := ⟨(w2.heap.size), 1, none⟩) (froz_st (b := ⟨(w2.heap.size), 0, none⟩) bf110 (.int .i64 0)) (.slice (some ⟨w3.heap.size, 0, none⟩) 14 14)) (.slice px m.vals.length tx)) (.slice py m.arrs.length ty))
      replace bf112 := kept_froz hb (lt_of_cell (cell_at _ (w2.heap.size) 3 (.slice py m.arrs.length ty) (cell_ne (b := (w2.heap.size)) (j := 2) (cell_ne (b := (w2.heap.size)) (j := 1) (cell_ne (b := (w2.heap.size)) (j := 0) bx111 (by omega) (.int .i64 0)) (by omega) (.slice (some ⟨w3.heap.size, 0, none⟩) 14 14)) (by omega) (.slice px m.vals.length tx)))) (froz_st (b := ⟨(w2.heap.size), 3, none⟩) (froz_st (b := ⟨(w2.heap.size), 2, none⟩) (froz_st (b := ⟨(w2.heap.size), 1, none⟩) (froz_st (b := ⟨(w2.heap.size), 0, none⟩) bf112 (.int .i64 0)) (.slice (some ⟨w3.heap.size, 0, none⟩) 14 14)) (.slice px m.vals.length tx)) (.slice py m.arrs.length ty))
      replace bx5 : w6.cell? ⟨w.heap.size + 1, 0, none⟩ = some (.slice a3 m.vals.length c3) := kept_cell hb (cell_ne (b := (w2.heap.size)) (j := 3) (cell_ne (b := (w2.heap.size)) (j := 2) (cell_ne (b := (w2.heap.size)) (j := 1) (cell_ne (b := (w2.heap.size)) (j := 0) bx5 (by omega) (.int .i64 0)) (by omega) (.slice (some ⟨w3.heap.size, 0, none⟩) 14 14)) (by omega) (.slice px m.vals.length tx)) (by omega) (.slice py m.arrs.length ty))
      replace bx6 : w6.cell? ⟨w.heap.size + 1, 1, none⟩ = some (.slice a4 m.arrs.length c4) := kept_cell hb (cell_ne (b := (w2.heap.size)) (j := 3) (cell_ne (b := (w2.heap.size)) (j := 2) (cell_ne (b := (w2.heap.size)) (j := 1) (cell_ne (b := (w2.heap.size)) (j := 0) bx6 (by omega) (.int .i64 0)) (by omega) (.slice (some ⟨w3.heap.size, 0, none⟩) 14 14)) (by omega) (.slice px m.vals.length tx)) (by omega) (.slice py m.arrs.length ty))
      replace bx105 : w6.cell? ⟨w2.heap.size, 0, none⟩ = some (.int .i64 0) := kept_cell hb (cell_ne (b := (w2.heap.size)) (j := 3) (cell_ne (b := (w2.heap.size)) (j := 2) (cell_ne (b := (w2.heap.size)) (j := 1) (cell_at _ (w2.heap.size) 0 (.int .i64 0) bx105) (by omega) (.slice (some ⟨w3.heap.size, 0, none⟩) 14 14)) (by omega) (.slice px m.vals.length tx)) (by omega) (.slice py m.arrs.length ty))
      replace bx107 : w6.cell? ⟨w2.heap.size, 1, none⟩ = some (.slice (some ⟨w3.heap.size, 0, none⟩) 14 14) := kept_cell hb (cell_ne (b := (w2.heap.size)) (j := 3) (cell_ne (b := (w2.heap.size)) (j := 2) (cell_at _ (w2.heap.size) 1 (.slice (some ⟨w3.heap.size, 0, none⟩) 14 14) (cell_ne (b := (w2.heap.size)) (j := 0) bx107 (by omega) (.int .i64 0))) (by omega) (.slice px m.vals.length tx)) (by omega) (.slice py m.arrs.length ty))
      replace bx109 : w6.cell? ⟨w2.heap.size, 2, none⟩ = some (.slice px m.vals.length tx) := kept_cell hb (cell_ne (b := (w2.heap.size)) (j := 3) (cell_at _ (w2.heap.size) 2 (.slice px m.vals.length tx) (cell_ne (b := (w2.heap.size)) (j := 1) (cell_ne (b := (w2.heap.size)) (j := 0) bx109 (by omega) (.int .i64 0)) (by omega) (.slice (some ⟨w3.heap.size, 0, none⟩) 14 14))) (by omega) (.slice py m.arrs.length ty))
      replace bx111 : w6.cell? ⟨w2.heap.size, 3, none⟩ = some (.slice py m.arrs.length ty) := kept_cell hb (cell_at _ (w2.heap.size) 3 (.slice py m.arrs.length ty) (cell_ne (b := (w2.heap.size)) (j := 2) (cell_ne (b := (w2.heap.size)) (j := 1) (cell_ne (b := (w2.heap.size)) (j := 0) bx111 (by omega) (.int .i64 0)) (by omega) (.slice (some ⟨w3.heap.size, 0, none⟩) 14 14)) (by omega) (.slice px m.vals.length tx)))
      replace om115 := own_below (own_set (own_set (own_set (own_set om115 (w2.heap.size) 0 (fun h => by have := iv118 _ h; omega) (.int .i64 0)) (w2.heap.size) 1 (fun h => by have := iv118 _ h; omega) (.slice (some ⟨w3.heap.size, 0, none⟩) 14 14)) (w2.heap.size) 2 (fun h => by have := iv118 _ h; omega) (.slice px m.vals.length tx)) (w2.heap.size) 3 (fun h => by have := iv118 _ h; omega) (.slice py m.arrs.length ty)) hb
      replace oM := ((((oM.keep ((Chg.refl (fun gk => gk = (w2.heap.size)) _).setCell (w2.heap.size) 0 (.int .i64 0) (fun _ => rfl)) (fun gq h h2 => by have := iv122 gq h; omega)).keep ((Chg.refl (fun gk => gk = (w2.heap.size)) _).setCell (w2.heap.size) 1 (.slice (some ⟨w3.heap.size, 0, none⟩) 14 14) (fun _ => rfl)) (fun gq h h2 => by have := iv122 gq h; omega)).keep ((Chg.refl (fun gk => gk = (w2.heap.size)) _).setCell (w2.heap.size) 2 (.slice px m.vals.length tx) (fun _ => rfl)) (fun gq h h2 => by have := iv122 gq h; omega)).keep ((Chg.refl (fun gk => gk = (w2.heap.size)) _).setCell (w2.heap.size) 3 (.slice py m.arrs.length ty) (fun _ => rfl)) (fun gq h h2 => by have := iv122 gq h; omega)).below hb
      replace tot := btr (bst (bst (bst (bst tot (w2.heap.size) 0 (by omega) (.int .i64 0)) (w2.heap.size) 1 (by omega) (.slice (some ⟨w3.heap.size, 0, none⟩) 14 14)) (w2.heap.size) 2 (by omega) (.slice px m.vals.length tx)) (w2.heap.size) 3 (by omega) (.slice py m.arrs.length ty)) hb
      clear hb
      rw [← hnw]
      clear hnw
      clear lt123 lt124
      have lt126 := lt_of_cell bx5
      have lt127 := lt_of_cell bx105
      refine hK.out _ _ ⟨bx5, bx6⟩ (fun hHeld => ?_)
      clear hK K
      try simp only [Act.put, List.setIfInBounds_toArray, List.set]
      refine wpAnyH_done (by kernel_rfl) ?_ _
      refine NoPanic.normal ?_
      clear hHeld
      go_wp2_with fail
      go_meet
      have OM : OwnMv _ w1.heap.size _ (.slice px m.vals.length tx) (.slice py m.arrs.length ty) us reg0 m := ⟨own_mono om115 (by omega), own_mono oM.x (by omega), oM.y.mono (by omega), fun q h h2 => by have := iv118 q h; have := iv122 q (Or.inl h2); omega, fun q h h2 => by have := iv118 q h; have := iv122 q (Or.inr h2); omega, oM.ap⟩
      have lz128 := lt_of_cell bx105
      exact ⟨_, _, _, _, _, _, us, rfl, bx105, bx107, bx109, bx111, bf106, bf108, bf110, bf112, OM, by omega, by omega, (fun q h hq => by rcases h with h | h | h; (have := iv118 q h; omega); (have := iv122 q (Or.inl h); omega); (have := iv122 q (Or.inr h); omega)), tot⟩
    refine AllReadyH.cons rfl (fun K hK => ?_) AllReadyH.nil
    go_simp
    refine (HCP.out _ (btr HT0.out tot)).mono ?_
    rintro e w4 ⟨ux, uy, us, rfl, ox, oy, hap, hb⟩
    obtain ⟨px, tx, rfl⟩ := own_shape ox
    obtain ⟨py, ty, rfl⟩ := own_shape oy.out
    have oM : OwnM w4 _ _ _ _ m := ⟨ox, oy, hap⟩
    clear ox oy hap
    have hsz129 := hb.size
    replace bf106 := kept_froz hb (lt_of_cell bx105) bf106
    replace bf108 := kept_froz hb (lt_of_cell bx107) bf108
    replace bf110 := kept_froz hb (lt_of_cell bx109) bf110
    replace bf112 := kept_froz hb (lt_of_cell bx111) bf112
    replace bx5 : w4.cell? ⟨w.heap.size + 1, 0, none⟩ = some (.slice a3 m.vals.length c3) := kept_cell hb bx5
    replace bx6 : w4.cell? ⟨w.heap.size + 1, 1, none⟩ = some (.slice a4 m.arrs.length c4) := kept_cell hb bx6
    replace bx105 : w4.cell? ⟨w2.heap.size, 0, none⟩ = some (.int .i64 0) := kept_cell hb bx105
    replace bx107 : w4.cell? ⟨w2.heap.size, 1, none⟩ = some (.slice none 0 0) := kept_cell hb bx107
    replace bx109 : w4.cell? ⟨w2.heap.size, 2, none⟩ = some (.slice none 0 0) := kept_cell hb bx109
    replace bx111 : w4.cell? ⟨w2.heap.size, 3, none⟩ = some (.slice none 0 0) := kept_cell hb bx111
    replace tot := btr tot hb
    clear hb
    have iv130 := oM.lt
    clear lt113 lt114
    have lt131 := lt_of_cell bx5
    have lt132 := lt_of_cell bx105
    refine hK.out _ _ ⟨bx5, bx6⟩ (fun hHeld => ?_)
    clear hK K
    try simp only [Act.put, List.setIfInBounds_toArray, List.set]
    refine wpAnyH_ready (rs := [0]) (by kernel_rfl) (by simp) ?_
    refine AllReadyH.cons rfl (fun K hK => ?_) AllReadyH.nil
    go_simp
    obtain ⟨w5, hnw⟩ : ∃ X, X = World.alloc w4 (.cells (madeCells #[.int .i64 0] 14) 3) := ⟨_, rfl⟩
    try rw [← hnw]
    have om133 := own_made w4 (.int .i64 0) 14 3 (by unfold maxLen; omega)
    rw [← ints_replicate, ← hnw] at om133
    have hb : Below w4.heap.size w4 w5 := by rw [hnw]; exact bal (bself _) _
    have hzm134 : w4.heap.size + 1 ≤ w5.heap.size := by rw [hnw]; simp
    clear hnw
    have hsz135 := hb.size
    replace bf106 := kept_froz hb (lt_of_cell bx105) bf106
    replace bf108 := kept_froz hb (lt_of_cell bx107) bf108
    replace bf110 := kept_froz hb (lt_of_cell bx109) bf110
    replace bf112 := kept_froz hb (lt_of_cell bx111) bf112
    replace bx5 : w5.cell? ⟨w.heap.size + 1, 0, none⟩ = some (.slice a3 m.vals.length c3) := kept_cell hb bx5
    replace bx6 : w5.cell? ⟨w.heap.size + 1, 1, none⟩ = some (.slice a4 m.arrs.length c4) := kept_cell hb bx6
    replace bx105 : w5.cell? ⟨w2.heap.size, 0, none⟩ = some (.int .i64 0) := kept_cell hb bx105
    replace bx107 : w5.cell? ⟨w2.heap.size, 1, none⟩ = some (.slice none 0 0) := kept_cell hb bx107
    replace bx109 : w5.cell? ⟨w2.heap.size, 2, none⟩ = some (.slice none 0 0) := kept_cell hb bx109
    replace bx111 : w5.cell? ⟨w2.heap.size, 3, none⟩ = some (.slice none 0 0) := kept_cell hb bx111
    replace oM := oM.below hb
    replace tot := btr tot hb
    clear hb
    have iv136 := om133.lt
    clear lt131 lt132
    have lt137 := lt_of_cell bx5
    have lt138 := lt_of_cell bx105
    refine hK.out _ _ ⟨bx5, bx6⟩ (fun hHeld => ?_)
    clear hK K
    try simp only [Act.put, List.setIfInBounds_toArray, List.set]
    refine take_d (i := 3) (d := 19) (v := ?_) rfl rfl (by kernel_rfl) (by kernel_rfl) (by kernel_rfl) (fun _ _ _ h => h) (Or.inl ⟨by rfl, ?_⟩) (by assumption) ?_
    rotate_left
    · intro W' hSw; (try dsimp only at hSw); obtain ⟨s0, s1⟩ := hSw; go_simp; try with_reducible rfl
    try simp only [Act.put, List.setIfInBounds_toArray, List.set]
    refine wpAnyH_ready (rs := [5]) (by kernel_rfl) (by simp) ?_
    refine AllReadyH.cons rfl (fun K hK => ?_) AllReadyH.nil
    go_simp
    obtain ⟨w6, hnw⟩ : ∃ X, X = (World.setCell (World.setCell (World.setCell (World.setCell w5 ⟨w2.heap.size, 0, none⟩ (.int .i64 0)) ⟨w2.heap.size, 1, none⟩ (.slice (some ⟨w4.heap.size, 0, none⟩) 14 14)) ⟨w2.heap.size, 2, none⟩ (.slice px m.vals.length tx)) ⟨w2.heap.size, 3, none⟩ (.slice py m.arrs.length ty)) := ⟨_, rfl⟩
    have hb : Below (World.setCell (World.setCell (World.setCell (World.setCell w5 ⟨w2.heap.size, 0, none⟩ (.int .i64 0)) ⟨w2.heap.size, 1, none⟩ (.slice (some ⟨w4.heap.size, 0, none⟩) 14 14)) ⟨w2.heap.size, 2, none⟩ (.slice px m.vals.length tx)) ⟨w2.heap.size, 3, none⟩ (.slice py m.arrs.length ty)).heap.size (World.setCell (World.setCell (World.setCell (World.setCell w5 ⟨w2.heap.size, 0, none⟩ (.int .i64 0)) ⟨w2.heap.size, 1, none⟩ (.slice (some ⟨w4.heap.size, 0, none⟩) 14 14)) ⟨w2.heap.size, 2, none⟩ (.slice px m.vals.length tx)) ⟨w2.heap.size, 3, none⟩ (.slice py m.arrs.length ty)) w6 := by rw [hnw]; exact bself _
    have hsz139 := hb.size
    simp only [World.size_setCell] at hsz139
    replace bf106 := kept_froz hb (lt_of_cell (cell_ne (b := (w2.heap.size)) (j := 3) (cell_ne (b := (w2.heap.size)) (j := 2) (cell_ne (b := (w2.heap.size)) (j := 1) (cell_at _ (w2.heap.size) 0 (.int .i64 0) bx105) (by omega) (.slice (some ⟨w4.heap.size, 0, none⟩) 14 14)) (by omega) (.slice px m.vals.length tx)) (by omega) (.slice py m.arrs.length ty))) (froz_st (b := ⟨(w2.heap.size), 3, none⟩) (froz_st (b := ⟨(w2.heap.size), 2, none⟩) (froz_st (b := ⟨(w2.heap.size), 1, none⟩) (froz_st (b := ⟨(w2.heap.size), 0, none⟩) bf106 (.int .i64 0)) (.slice (some ⟨w4.heap.size, 0, none⟩) 14 14)) (.slice px m.vals.length tx)) (.slice py m.arrs.length ty))
    replace bf108 := kept_froz hb (lt_of_cell (cell_ne (b := (w2.heap.size)) (j := 3) (cell_ne (b := (w2.heap.size)) (j := 2) (cell_at _ (w2.heap.size) 1 (.slice (some ⟨w4.heap.size, 0, none⟩) 14 14) (cell_ne (b := (w2.heap.size)) (j := 0) bx107 (by omega) (.int .i64 0))) (by omega) (.slice px m.vals.length tx)) (by omega) (.slice py m.arrs.length ty))) (froz_st (b := ⟨(w2.heap.size), 3, none⟩) (froz_st (b := ⟨(w2.heap.size), 2, none⟩) (froz_st (b := ⟨(w2.heap.size), 1, none⟩) (froz_st (b := ⟨(w2.heap.size), 0, none⟩) bf108 (.int .i64 0)) (.slice (some ⟨w4.heap.size, 0, none⟩) 14 14)) (.slice px m.vals.length tx)) (.slice py m.arrs.length ty))
    replace bf110 := kept_froz hb (lt_of_cell (cell_ne (b := (w2.heap.size)) (j := 3) (cell_at _ (w2.heap.size) 2 (.slice px m.vals.length tx) (cell_ne (b := (w2.heap.size)) (j := 1) (cell_ne (b := (w2.heap.size)) (j := 0) bx109 (by omega) (.int .i64 0)) (by omega) (.slice (some ⟨w4.heap.size, 0, none⟩) 14 14))) (by omega) (.slice py m.arrs.length ty))) (froz_st (b := ⟨(w2.heap.size), 3, none⟩) (froz_st (b := ⟨(w2.heap.size), 2, none⟩) (froz_st (b := ⟨(w2.heap.size), 1, none⟩) (froz_st (b := ⟨(w2.heap.size), 0, none⟩) bf110 (.int .i64 0)) (.slice (some ⟨w4.heap.size, 0, none⟩) 14 14)) (.slice px m.vals.length tx)) (.slice py m.arrs.length ty))
    replace bf112 := kept_froz hb (lt_of_cell (cell_at _ (w2.heap.size) 3 (.slice py m.arrs.length ty) (cell_ne (b := (w2.heap.size)) (j := 2) (cell_ne (b := (w2.heap.size)) (j := 1) (cell_ne (b := (w2.heap.size)) (j := 0) bx111 (by omega) (.int .i64 0)) (by omega) (.slice (some ⟨w4.heap.size, 0, none⟩) 14 14)) (by omega) (.slice px m.vals.length tx)))) (froz_st (b := ⟨(w2.heap.size), 3, none⟩) (froz_st (b := ⟨(w2.heap.size), 2, none⟩) (froz_st (b := ⟨(w2.heap.size), 1, none⟩) (froz_st (b := ⟨(w2.heap.size), 0, none⟩) bf112 (.int .i64 0)) (.slice (some ⟨w4.heap.size, 0, none⟩) 14 14)) (.slice px m.vals.length tx)) (.slice py m.arrs.length ty))
    replace bx5 : w6.cell? ⟨w.heap.size + 1, 0, none⟩ = some (.slice a3 m.vals.length c3) := kept_cell hb (cell_ne (b := (w2.heap.size)) (j := 3) (cell_ne (b := (w2.heap.size)) (j := 2) (cell_ne (b := (w2.heap.size)) (j := 1) (cell_ne (b := (w2.heap.size)) (j := 0) bx5 (by omega) (.int .i64 0)) (by omega) (.slice (some ⟨w4.heap.size, 0, none⟩) 14 14)) (by omega) (.slice px m.vals.length tx)) (by omega) (.slice py m.arrs.length ty))
    replace bx6 : w6.cell? ⟨w.heap.size + 1, 1, none⟩ = some (.slice a4 m.arrs.length c4) := kept_cell hb (cell_ne (b := (w2.heap.size)) (j := 3) (cell_ne (b := (w2.heap.size)) (j := 2) (cell_ne (b := (w2.heap.size)) (j := 1) (cell_ne (b := (w2.heap.size)) (j := 0) bx6 (by omega) (.int .i64 0)) (by omega) (.slice (some ⟨w4.heap.size, 0, none⟩) 14 14)) (by omega) (.slice px m.vals.length tx)) (by omega) (.slice py m.arrs.length ty))
    replace bx105 : w6.cell? ⟨w2.heap.size, 0, none⟩ = some (.int .i64 0) := kept_cell hb (cell_ne (b := (w2.heap.size)) (j := 3) (cell_ne (b := (w2.heap.size)) (j := 2) (cell_ne (b := (w2.heap.size)) (j := 1) (cell_at _ (w2.heap.size) 0 (.int .i64 0) bx105) (by omega) (.slice (some ⟨w4.heap.size, 0, none⟩) 14 14)) (by omega) (.slice px m.vals.length tx)) (by omega) (.slice py m.arrs.length ty))
    replace bx107 : w6.cell? ⟨w2.heap.size, 1, none⟩ = some (.slice (some ⟨w4.heap.size, 0, none⟩) 14 14) := kept_cell hb (cell_ne (b := (w2.heap.size)) (j := 3) (cell_ne (b := (w2.heap.size)) (j := 2) (cell_at _ (w2.heap.size) 1 (.slice (some ⟨w4.heap.size, 0, none⟩) 14 14) (cell_ne (b := (w2.heap.size)) (j := 0) bx107 (by omega) (.int .i64 0))) (by omega) (.slice px m.vals.length tx)) (by omega) (.slice py m.arrs.length ty))
    replace bx109 : w6.cell? ⟨w2.heap.size, 2, none⟩ = some (.slice px m.vals.length tx) := kept_cell hb (cell_ne (b := (w2.heap.size)) (j := 3) (cell_at _ (w2.heap.size) 2 (.slice px m.vals.length tx) (cell_ne (b := (w2.heap.size)) (j := 1) (cell_ne (b := (w2.heap.size)) (j := 0) bx109 (by omega) (.int .i64 0)) (by omega) (.slice (some ⟨w4.heap.size, 0, none⟩) 14 14))) (by omega) (.slice py m.arrs.length ty))
    replace bx111 : w6.cell? ⟨w2.heap.size, 3, none⟩ = some (.slice py m.arrs.length ty) := kept_cell hb (cell_at _ (w2.heap.size) 3 (.slice py m.arrs.length ty) (cell_ne (b := (w2.heap.size)) (j := 2) (cell_ne (b := (w2.heap.size)) (j := 1) (cell_ne (b := (w2.heap.size)) (j := 0) bx111 (by omega) (.int .i64 0)) (by omega) (.slice (some ⟨w4.heap.size, 0, none⟩) 14 14)) (by omega) (.slice px m.vals.length tx)))
    replace oM := ((((oM.keep ((Chg.refl (fun gk => gk = (w2.heap.size)) _).setCell (w2.heap.size) 0 (.int .i64 0) (fun _ => rfl)) (fun gq h h2 => by have := iv130 gq h; omega)).keep ((Chg.refl (fun gk => gk = (w2.heap.size)) _).setCell (w2.heap.size) 1 (.slice (some ⟨w4.heap.size, 0, none⟩) 14 14) (fun _ => rfl)) (fun gq h h2 => by have := iv130 gq h; omega)).keep ((Chg.refl (fun gk => gk = (w2.heap.size)) _).setCell (w2.heap.size) 2 (.slice px m.vals.length tx) (fun _ => rfl)) (fun gq h h2 => by have := iv130 gq h; omega)).keep ((Chg.refl (fun gk => gk = (w2.heap.size)) _).setCell (w2.heap.size) 3 (.slice py m.arrs.length ty) (fun _ => rfl)) (fun gq h h2 => by have := iv130 gq h; omega)).below hb
    replace om133 := own_below (own_set (own_set (own_set (own_set om133 (w2.heap.size) 0 (fun h => by have := iv136 _ h; omega) (.int .i64 0)) (w2.heap.size) 1 (fun h => by have := iv136 _ h; omega) (.slice (some ⟨w4.heap.size, 0, none⟩) 14 14)) (w2.heap.size) 2 (fun h => by have := iv136 _ h; omega) (.slice px m.vals.length tx)) (w2.heap.size) 3 (fun h => by have := iv136 _ h; omega) (.slice py m.arrs.length ty)) hb
    replace tot := btr (bst (bst (bst (bst tot (w2.heap.size) 0 (by omega) (.int .i64 0)) (w2.heap.size) 1 (by omega) (.slice (some ⟨w4.heap.size, 0, none⟩) 14 14)) (w2.heap.size) 2 (by omega) (.slice px m.vals.length tx)) (w2.heap.size) 3 (by omega) (.slice py m.arrs.length ty)) hb
    clear hb
    rw [← hnw]
    clear hnw
    clear lt137 lt138
    have lt140 := lt_of_cell bx5
    have lt141 := lt_of_cell bx105
    refine hK.out _ _ ⟨bx5, bx6⟩ (fun hHeld => ?_)
    clear hK K
    try simp only [Act.put, List.setIfInBounds_toArray, List.set]
    refine wpAnyH_done (by kernel_rfl) ?_ _
    refine NoPanic.normal ?_
    clear hHeld
    go_wp2_with fail
    go_meet
    have OM : OwnMv _ w1.heap.size _ (.slice px m.vals.length tx) (.slice py m.arrs.length ty) us reg0 m := ⟨own_mono om133 (by omega), own_mono oM.x (by omega), oM.y.mono (by omega), fun q h h2 => by have := iv136 q h; have := iv130 q (Or.inl h2); omega, fun q h h2 => by have := iv136 q h; have := iv130 q (Or.inr h2); omega, oM.ap⟩
    have lz142 := lt_of_cell bx105
    exact ⟨_, _, _, _, _, _, us, rfl, bx105, bx107, bx109, bx111, bf106, bf108, bf110, bf112, OM, by omega, by omega, (fun q h hq => by rcases h with h | h | h; (have := iv136 q h; omega); (have := iv130 q (Or.inl h); omega); (have := iv130 q (Or.inr h); omega)), tot⟩
  obtain ⟨w3, rfl⟩ : ∃ W, W = wc := ⟨_, rfl⟩
  obtain ⟨bb, gr, px, tx, py, ty, us, rfl, d0, d1, d2, d3, f0, f1, f2, f3, OM, hbb, hbz, nM, hb⟩ := hcut
  have iM := OM.lt
  have hsz143 := hb.size
  replace bf8 := kept_froz hb (lt_of_cell bx7) bf8
  replace bf10 := kept_froz hb (lt_of_cell bx9) bf10
  replace bx2 : w3.cell? ⟨w.heap.size, 0, none⟩ = some (.slice a0 c.vars.length c0) := kept_cell hb bx2
  replace bx3 : w3.cell? ⟨w.heap.size, 1, none⟩ = some (.slice a1 c.arrays.length c1) := kept_cell hb bx3
  replace bx4 : w3.cell? ⟨w.heap.size, 2, none⟩ = some (.slice a2 c.list.length c2) := kept_cell hb bx4
  replace bx5 : w3.cell? ⟨w.heap.size + 1, 0, none⟩ = some (.slice a3 m.vals.length c3) := kept_cell hb bx5
  replace bx6 : w3.cell? ⟨w.heap.size + 1, 1, none⟩ = some (.slice a4 m.arrs.length c4) := kept_cell hb bx6
  replace bx7 : w3.cell? ⟨w.heap.size + 1 + 1, 0, none⟩ = some (.slice none 0 0) := kept_cell hb bx7
  replace bx9 : w3.cell? ⟨w.heap.size + 1 + 1, 1, none⟩ = some (.slice none 0 0) := kept_cell hb bx9
  replace tot := btr tot hb
  clear hb
  clear lt11 lt12 lt13
  have lt144 := lt_of_cell bx2
  have lt145 := lt_of_cell bx5
  have lt146 := lt_of_cell bx7
  have lt147 := lt_of_cell d0
  go_upto_region 4 with (fail)
  obtain ⟨w4, hnw⟩ : ∃ X, X = (World.alloc w3 (.cells #[] 89)) := ⟨_, rfl⟩
  have hb : Below (World.alloc w3 (.cells #[] 89)).heap.size (World.alloc w3 (.cells #[] 89)) w4 := by rw [hnw]; exact bself _
  have ol148 := own_below (World.ownsRow_lit (base := (w3).heap.size) (e := 89) (size := 2) (w3) #[] 0 (Nat.le_refl _) (by unfold maxLen; omega) (by simp)) hb
  try simp only [World.size_alloc, World.size_setCell] at ol148
  have hsz149 := hb.size
  simp only [World.size_alloc] at hsz149
  replace bf8 := kept_froz hb (lt_of_cell (cell_al bx7 (.cells #[] 89))) (froz_al (lt_of_cell bx7) bf8 (.cells #[] 89))
  replace bf10 := kept_froz hb (lt_of_cell (cell_al bx9 (.cells #[] 89))) (froz_al (lt_of_cell bx9) bf10 (.cells #[] 89))
  replace f0 := kept_froz hb (lt_of_cell (cell_al d0 (.cells #[] 89))) (froz_al (lt_of_cell d0) f0 (.cells #[] 89))
  replace f1 := kept_froz hb (lt_of_cell (cell_al d1 (.cells #[] 89))) (froz_al (lt_of_cell d1) f1 (.cells #[] 89))
  replace f2 := kept_froz hb (lt_of_cell (cell_al d2 (.cells #[] 89))) (froz_al (lt_of_cell d2) f2 (.cells #[] 89))
  replace f3 := kept_froz hb (lt_of_cell (cell_al d3 (.cells #[] 89))) (froz_al (lt_of_cell d3) f3 (.cells #[] 89))
  replace bx2 : w4.cell? ⟨w.heap.size, 0, none⟩ = some (.slice a0 c.vars.length c0) := kept_cell hb (cell_al bx2 (.cells #[] 89))
  replace bx3 : w4.cell? ⟨w.heap.size, 1, none⟩ = some (.slice a1 c.arrays.length c1) := kept_cell hb (cell_al bx3 (.cells #[] 89))
  replace bx4 : w4.cell? ⟨w.heap.size, 2, none⟩ = some (.slice a2 c.list.length c2) := kept_cell hb (cell_al bx4 (.cells #[] 89))
  replace bx5 : w4.cell? ⟨w.heap.size + 1, 0, none⟩ = some (.slice a3 m.vals.length c3) := kept_cell hb (cell_al bx5 (.cells #[] 89))
  replace bx6 : w4.cell? ⟨w.heap.size + 1, 1, none⟩ = some (.slice a4 m.arrs.length c4) := kept_cell hb (cell_al bx6 (.cells #[] 89))
  replace bx7 : w4.cell? ⟨w.heap.size + 1 + 1, 0, none⟩ = some (.slice none 0 0) := kept_cell hb (cell_al bx7 (.cells #[] 89))
  replace bx9 : w4.cell? ⟨w.heap.size + 1 + 1, 1, none⟩ = some (.slice none 0 0) := kept_cell hb (cell_al bx9 (.cells #[] 89))
  replace d0 : w4.cell? ⟨bb, 0, none⟩ = some (.int .i64 0) := kept_cell hb (cell_al d0 (.cells #[] 89))
  replace d1 : w4.cell? ⟨bb, 1, none⟩ = some (.slice (some ⟨gr, 0, none⟩) 14 14) := kept_cell hb (cell_al d1 (.cells #[] 89))
  replace d2 : w4.cell? ⟨bb, 2, none⟩ = some (.slice px m.vals.length tx) := kept_cell hb (cell_al d2 (.cells #[] 89))
  replace d3 : w4.cell? ⟨bb, 3, none⟩ = some (.slice py m.arrs.length ty) := kept_cell hb (cell_al d3 (.cells #[] 89))
  replace OM := (OM.below (bal (bself _) (.cells #[] 89))).below hb
  replace tot := btr (bal tot (.cells #[] 89)) hb
  clear hb
  have iv150 := ol148.lt
  try simp only [World.size_alloc] at iv150
  rw [← hnw]
  clear hnw
  clear bx5 bx6
  clear lt144 lt145 lt146 lt147
  have lt151 := lt_of_cell bx2
  have lt152 := lt_of_cell bx7
  have lt153 := lt_of_cell d0
  have tot4h := Lib.hid tot
  have OM4 : OwnMv w4 w1.heap.size (.slice (some ⟨gr, 0, none⟩) 14 14) (.slice px m.vals.length tx) (.slice py m.arrs.length ty) us (stN c 0 s).regs (stN c 0 s).mem := by show OwnMv _ _ _ _ _ _ s.regs s.mem; rw [HIR.out.1, HIR.out.2.1]; exact OM
  have L0 : L11 c ws s w4 w4 w1.heap.size w3.heap.size bb (.slice (some ⟨gr, 0, none⟩) 14 14) (.slice px m.vals.length tx) (.slice py m.arrs.length ty) us (.slice (some ⟨w3.heap.size, 0, none⟩) 0 0) 0 [] := ⟨by show _ = some (Value.int .i64 s.pc); rw [HIR.out.2.2]; exact d0, d1, d2, d3, f0, f1, f2, f3, OM4, ol148, Lib.hid rfl, fun q h => by have e1 : w3.heap.size = q := Option.some.inj h; exact ⟨fun h2 => by have := iM _ h2; omega, by omega⟩, fun j h => by omega, Chg.refl _ _⟩
  have hnf : ∀ q, q < w1.heap.size → ¬ (q = bb ∨ OwnMB (.slice (some ⟨gr, 0, none⟩) 14 14) (.slice px m.vals.length tx) (.slice py m.arrs.length ty) us q ∨ w3.heap.size ≤ q) := fun q hq h => by rcases h with h | h | h; omega; (have := iM _ h; omega); omega
  have hxn := hnf w.heap.size (by omega); have hrn := hnf (w.heap.size + 1 + 1) (by omega)
  have HNF := Lib.hid hnf; have HIM := Lib.hid iM; have HNM := Lib.hid nM; have HL0 := Lib.hid L0
  clear hnf iM nM L0 OM4 OM ol148 d0 d1 d2 d3 f0 f1 f2 f3
  clear lt151 lt152 lt153
  go_wp2_with fail
  go_loopw [10, 11, 12] (fun tr bt t wr => ∃ (n bn : Nat) (Q : List Ev), n ≤ 20000 ∧ t = .int .i64 n ∧ bt = .int .i64 bn ∧ bn ≤ n ∧ Hid (bn = brN c n s) ∧ L11 c ws s w4 wr w1.heap.size w3.heap.size bb (.slice (some ⟨gr, 0, none⟩) 14 14) (.slice px m.vals.length tx) (.slice py m.arrs.length ty) us tr n Q) (fun _ _ t _ => 20000 - (intOf t).toNat)
  case atStart => exact ⟨0, 0, [], by omega, rfl, rfl, by omega, Lib.hid rfl, HL0.out⟩
  case round =>
    obtain ⟨n, bn, Q, hn2, rfl, rfl, hbn, HBN, hL⟩ := hrel
    have HL := Lib.hid hL; clear hL HL0
    obtain ⟨pu, tu, rfl⟩ := own_shape HL.out.ev
    have hzr := HL.out.chg.size
    have totr := tot.trans (HL.out.chg.below w.heap.size tot.size (fun q hq h => HNF.out q (by omega) h))
    replace bx2 := chg_cell HL.out.chg bx2 hxn; replace bx3 := chg_cell HL.out.chg bx3 hxn; replace bx4 := chg_cell HL.out.chg bx4 hxn
    replace bf8 := chg_froz HL.out.chg (lt_of_cell bx7) bf8 hrn; replace bf10 := chg_froz HL.out.chg (lt_of_cell bx9) bf10 hrn
    replace bx7 := chg_cell HL.out.chg bx7 hrn; replace bx9 := chg_cell HL.out.chg bx9 hrn
    clear tot
    by_cases hlt : n < 20000
    · have hMn := HSN.out n
      obtain ⟨k, hk⟩ : ∃ k : Nat, (stN c n s).pc = k := ⟨(stN c n s).pc.toNat, by have := hMn.pc0; omega⟩
      have hkl : k < c.list.length := by have := hMn.pc1; omega
      have HAT : Hid (insAt c (stN c n s).pc = c.list[k]) := Lib.hid (by unfold insAt; rw [hk, Int.toNat_natCast, List.getElem?_eq_getElem hkl]; rfl)
      have HOP : Hid (opAt c s n = c.list[k].op) := Lib.hid (by unfold opAt; rw [HAT.out])
      have hrl := (HR.out wr totr).l
      obtain ⟨_, hn, aa, cap, b0, off, hv, hcap, ha, hca⟩ := hrl
      simp only [Value.slice.injEq, true_and] at hv
      obtain ⟨rfl, rfl⟩ := hv
      obtain ⟨rfl, hbs⟩ := ha (by omega)
      obtain ⟨e0, e1, e2, e3, e4⟩ := reads_Instr hca k hkl
      have ke := lt_of_cell e0
      have hqk : (k : Int) < (c.list.length : Int) := by omega
      clear hca ha hbs
      have hvp : (Value.int .i64 (stN c n s).pc) = .int .i64 (k : Int) := by rw [hk]
      have hQl : Q.length ≤ 1048576 := by rw [HL.out.qe.out]; have := spN_len c ws s n; omega
      have HMN := Lib.hid hMn
      clear hMn
      have d0 : wr.cell? ⟨bb, 0, none⟩ = some (.int .i64 (k : Int)) := by rw [← hk]; exact HL.out.d0
      have d1 := HL.out.d1; have d2 := HL.out.d2; have d3 := HL.out.d3
      have HPCK := Lib.hid hk
      clear hk
      obtain ⟨x, HX⟩ : ∃ x : Ins, Hid (x = c.list[k]) := ⟨c.list[k], Lib.hid rfl⟩
      rw [← HX.out] at e0 e1 e2 e3 e4 HOP HAT
      have f0 := HL.out.f0
      have f1 := HL.out.f1
      have f2 := HL.out.f2
      have f3 := HL.out.f3
      have OMr := HL.out.own; have EVr := HL.out.ev; have hCa := HL.out.chg
      have iOM := OMr.lt; have iEV := EVr.lt
      have lt154 := lt_of_cell bx2
      have lt155 := lt_of_cell bx7
      have lt156 := lt_of_cell d0
      have lt157 := lt_of_cell e0
      go_upto_region 9 with (fail)
      obtain ⟨wx8, hnw⟩ : ∃ X, X = (World.alloc wr (.cells #[.int .i64 x.op, .int .i64 x.a, .int .i64 x.b, .int .i64 x.c, .int .i64 x.d] 92)) := ⟨_, rfl⟩
      have hb : Below (World.alloc wr (.cells #[.int .i64 x.op, .int .i64 x.a, .int .i64 x.b, .int .i64 x.c, .int .i64 x.d] 92)).heap.size (World.alloc wr (.cells #[.int .i64 x.op, .int .i64 x.a, .int .i64 x.b, .int .i64 x.c, .int .i64 x.d] 92)) wx8 := by rw [hnw]; exact bself _
      have hsz158 := hb.size
      simp only [World.size_alloc] at hsz158
      replace bf8 := kept_froz hb (lt_of_cell (cell_al bx7 (.cells #[.int .i64 x.op, .int .i64 x.a, .int .i64 x.b, .int .i64 x.c, .int .i64 x.d] 92))) (froz_al (lt_of_cell bx7) bf8 (.cells #[.int .i64 x.op, .int .i64 x.a, .int .i64 x.b, .int .i64 x.c, .int .i64 x.d] 92))
      replace bf10 := kept_froz hb (lt_of_cell (cell_al bx9 (.cells #[.int .i64 x.op, .int .i64 x.a, .int .i64 x.b, .int .i64 x.c, .int .i64 x.d] 92))) (froz_al (lt_of_cell bx9) bf10 (.cells #[.int .i64 x.op, .int .i64 x.a, .int .i64 x.b, .int .i64 x.c, .int .i64 x.d] 92))
      replace f0 := kept_froz hb (lt_of_cell (cell_al d0 (.cells #[.int .i64 x.op, .int .i64 x.a, .int .i64 x.b, .int .i64 x.c, .int .i64 x.d] 92))) (froz_al (lt_of_cell d0) f0 (.cells #[.int .i64 x.op, .int .i64 x.a, .int .i64 x.b, .int .i64 x.c, .int .i64 x.d] 92))
      replace f1 := kept_froz hb (lt_of_cell (cell_al d1 (.cells #[.int .i64 x.op, .int .i64 x.a, .int .i64 x.b, .int .i64 x.c, .int .i64 x.d] 92))) (froz_al (lt_of_cell d1) f1 (.cells #[.int .i64 x.op, .int .i64 x.a, .int .i64 x.b, .int .i64 x.c, .int .i64 x.d] 92))
      replace f2 := kept_froz hb (lt_of_cell (cell_al d2 (.cells #[.int .i64 x.op, .int .i64 x.a, .int .i64 x.b, .int .i64 x.c, .int .i64 x.d] 92))) (froz_al (lt_of_cell d2) f2 (.cells #[.int .i64 x.op, .int .i64 x.a, .int .i64 x.b, .int .i64 x.c, .int .i64 x.d] 92))
      replace f3 := kept_froz hb (lt_of_cell (cell_al d3 (.cells #[.int .i64 x.op, .int .i64 x.a, .int .i64 x.b, .int .i64 x.c, .int .i64 x.d] 92))) (froz_al (lt_of_cell d3) f3 (.cells #[.int .i64 x.op, .int .i64 x.a, .int .i64 x.b, .int .i64 x.c, .int .i64 x.d] 92))
      replace bx2 : wx8.cell? ⟨w.heap.size, 0, none⟩ = some (.slice a0 c.vars.length c0) := kept_cell hb (cell_al bx2 (.cells #[.int .i64 x.op, .int .i64 x.a, .int .i64 x.b, .int .i64 x.c, .int .i64 x.d] 92))
      replace bx3 : wx8.cell? ⟨w.heap.size, 1, none⟩ = some (.slice a1 c.arrays.length c1) := kept_cell hb (cell_al bx3 (.cells #[.int .i64 x.op, .int .i64 x.a, .int .i64 x.b, .int .i64 x.c, .int .i64 x.d] 92))
      replace bx4 : wx8.cell? ⟨w.heap.size, 2, none⟩ = some (.slice (some ⟨b0, off, none⟩) c.list.length c2) := kept_cell hb (cell_al bx4 (.cells #[.int .i64 x.op, .int .i64 x.a, .int .i64 x.b, .int .i64 x.c, .int .i64 x.d] 92))
      replace bx7 : wx8.cell? ⟨w.heap.size + 1 + 1, 0, none⟩ = some (.slice none 0 0) := kept_cell hb (cell_al bx7 (.cells #[.int .i64 x.op, .int .i64 x.a, .int .i64 x.b, .int .i64 x.c, .int .i64 x.d] 92))
      replace bx9 : wx8.cell? ⟨w.heap.size + 1 + 1, 1, none⟩ = some (.slice none 0 0) := kept_cell hb (cell_al bx9 (.cells #[.int .i64 x.op, .int .i64 x.a, .int .i64 x.b, .int .i64 x.c, .int .i64 x.d] 92))
      replace d0 : wx8.cell? ⟨bb, 0, none⟩ = some (.int .i64 k) := kept_cell hb (cell_al d0 (.cells #[.int .i64 x.op, .int .i64 x.a, .int .i64 x.b, .int .i64 x.c, .int .i64 x.d] 92))
      replace d1 : wx8.cell? ⟨bb, 1, none⟩ = some (.slice (some ⟨gr, 0, none⟩) 14 14) := kept_cell hb (cell_al d1 (.cells #[.int .i64 x.op, .int .i64 x.a, .int .i64 x.b, .int .i64 x.c, .int .i64 x.d] 92))
      replace d2 : wx8.cell? ⟨bb, 2, none⟩ = some (.slice px m.vals.length tx) := kept_cell hb (cell_al d2 (.cells #[.int .i64 x.op, .int .i64 x.a, .int .i64 x.b, .int .i64 x.c, .int .i64 x.d] 92))
      replace d3 : wx8.cell? ⟨bb, 3, none⟩ = some (.slice py m.arrs.length ty) := kept_cell hb (cell_al d3 (.cells #[.int .i64 x.op, .int .i64 x.a, .int .i64 x.b, .int .i64 x.c, .int .i64 x.d] 92))
      replace e0 : wx8.cell? ⟨b0, off + k * 5, none⟩ = some (.int .i64 x.op) := kept_cell hb (cell_al e0 (.cells #[.int .i64 x.op, .int .i64 x.a, .int .i64 x.b, .int .i64 x.c, .int .i64 x.d] 92))
      replace e1 : wx8.cell? ⟨b0, off + k * 5 + 1, none⟩ = some (.int .i64 x.a) := kept_cell hb (cell_al e1 (.cells #[.int .i64 x.op, .int .i64 x.a, .int .i64 x.b, .int .i64 x.c, .int .i64 x.d] 92))
      replace e2 : wx8.cell? ⟨b0, off + k * 5 + 2, none⟩ = some (.int .i64 x.b) := kept_cell hb (cell_al e2 (.cells #[.int .i64 x.op, .int .i64 x.a, .int .i64 x.b, .int .i64 x.c, .int .i64 x.d] 92))
      replace e3 : wx8.cell? ⟨b0, off + k * 5 + 3, none⟩ = some (.int .i64 x.c) := kept_cell hb (cell_al e3 (.cells #[.int .i64 x.op, .int .i64 x.a, .int .i64 x.b, .int .i64 x.c, .int .i64 x.d] 92))
      replace e4 : wx8.cell? ⟨b0, off + k * 5 + 4, none⟩ = some (.int .i64 x.d) := kept_cell hb (cell_al e4 (.cells #[.int .i64 x.op, .int .i64 x.a, .int .i64 x.b, .int .i64 x.c, .int .i64 x.d] 92))
      replace OMr := (OMr.below (bal (bself _) (.cells #[.int .i64 x.op, .int .i64 x.a, .int .i64 x.b, .int .i64 x.c, .int .i64 x.d] 92))).below hb
      replace EVr := own_below (own_below EVr (bal (bself _) (.cells #[.int .i64 x.op, .int .i64 x.a, .int .i64 x.b, .int .i64 x.c, .int .i64 x.d] 92))) hb
      replace hCa := (hCa.trans (Chg.of_below (bal (bself _) (.cells #[.int .i64 x.op, .int .i64 x.a, .int .i64 x.b, .int .i64 x.c, .int .i64 x.d] 92)))).trans (Chg.of_below hb)
      have bx159 : wx8.cell? ⟨wr.heap.size, 0, none⟩ = some (.int .i64 x.op) := kept_cell hb (cell_nw (by simp) (by rfl))
      have bf160 : wx8.frozen? ⟨wr.heap.size, 0, none⟩ = false := kept_froz hb (by simp) (froz_nw (by simp))
      have bx161 : wx8.cell? ⟨wr.heap.size, 1, none⟩ = some (.int .i64 x.a) := kept_cell hb (cell_nw (by simp) (by rfl))
      have bf162 : wx8.frozen? ⟨wr.heap.size, 1, none⟩ = false := kept_froz hb (by simp) (froz_nw (by simp))
      have bx163 : wx8.cell? ⟨wr.heap.size, 2, none⟩ = some (.int .i64 x.b) := kept_cell hb (cell_nw (by simp) (by rfl))
      have bf164 : wx8.frozen? ⟨wr.heap.size, 2, none⟩ = false := kept_froz hb (by simp) (froz_nw (by simp))
      have bx165 : wx8.cell? ⟨wr.heap.size, 3, none⟩ = some (.int .i64 x.c) := kept_cell hb (cell_nw (by simp) (by rfl))
      have bf166 : wx8.frozen? ⟨wr.heap.size, 3, none⟩ = false := kept_froz hb (by simp) (froz_nw (by simp))
      have bx167 : wx8.cell? ⟨wr.heap.size, 4, none⟩ = some (.int .i64 x.d) := kept_cell hb (cell_nw (by simp) (by rfl))
      have bf168 : wx8.frozen? ⟨wr.heap.size, 4, none⟩ = false := kept_froz hb (by simp) (froz_nw (by simp))
      replace tot := btr (bal totr (.cells #[.int .i64 x.op, .int .i64 x.a, .int .i64 x.b, .int .i64 x.c, .int .i64 x.d] 92)) hb
      clear hb
      rw [← hnw]
      clear hnw
      clear e0 e1 e2 e3 e4
      clear lt154 lt155 lt156 lt157
      have lt169 := lt_of_cell bx2
      have lt170 := lt_of_cell bx7
      have lt171 := lt_of_cell d0
      have lt172 := lt_of_cell bx159
      have HXE := Lib.hid (exec_any w3.heap.size w1.heap.size _ _ _ _ _ _ _ us c (stN c n s) Q wx8 (HR.out wx8 tot) OMr EVr (fun q h => (HL.out.ed q h).1) (by omega) hQl HMN.out HOC.out)
      have HXE2 := Lib.hid (with_list (by have h := HXE.out; rw [hvp] at h; exact h))
      clear HXE hvp OMr EVr
      have iS : ∀ q, (OwnMB (.slice (some ⟨gr, 0, none⟩) 14 14) (.slice px m.vals.length tx) (.slice py m.arrs.length ty) us q ∨ (Value.slice pu Q.length tu).ownBlock = some q) → w1.heap.size ≤ q ∧ q < wr.heap.size ∧ ¬ q = bb := fun q h => by rcases h with h | h; (have h2 := iOM q h; exact ⟨h2.1, h2.2, HNM.out _ h⟩); (have h2 := iEV q h; exact ⟨by omega, h2.2, (HL.out.ed q h).2⟩)
      have HIEV := Lib.hid iEV
      clear iOM iEV
      go_wp2_with fail
      refine (HXE2.out).mono ?_
      rintro e w6 ⟨u', Q', HQ', rfl, O5, E5, hd5, hC5⟩
      obtain ⟨pu', tu', rfl⟩ := own_shape E5
      replace hCa := chg_then hCa hC5 (fun q _ h => by rcases h with h | h; exact Or.inr (Or.inl h); exact Or.inr (Or.inr (HIEV.out _ h).1))
      have hsz173 := hC5.size
      replace bf8 := chg_froz hC5 (lt_of_cell bx7) bf8 (fun h => by have := iS _ h; omega)
      replace bf10 := chg_froz hC5 (lt_of_cell bx9) bf10 (fun h => by have := iS _ h; omega)
      replace f0 := chg_froz hC5 (lt_of_cell d0) f0 (fun h => by have := iS _ h; omega)
      replace f1 := chg_froz hC5 (lt_of_cell d1) f1 (fun h => by have := iS _ h; omega)
      replace f2 := chg_froz hC5 (lt_of_cell d2) f2 (fun h => by have := iS _ h; omega)
      replace f3 := chg_froz hC5 (lt_of_cell d3) f3 (fun h => by have := iS _ h; omega)
      replace bf160 := chg_froz hC5 (lt_of_cell bx159) bf160 (fun h => by have := iS _ h; omega)
      replace bf162 := chg_froz hC5 (lt_of_cell bx161) bf162 (fun h => by have := iS _ h; omega)
      replace bf164 := chg_froz hC5 (lt_of_cell bx163) bf164 (fun h => by have := iS _ h; omega)
      replace bf166 := chg_froz hC5 (lt_of_cell bx165) bf166 (fun h => by have := iS _ h; omega)
      replace bf168 := chg_froz hC5 (lt_of_cell bx167) bf168 (fun h => by have := iS _ h; omega)
      replace bx2 : w6.cell? ⟨w.heap.size, 0, none⟩ = some (.slice a0 c.vars.length c0) := chg_cell hC5 bx2 (fun h => by have := iS _ h; omega)
      replace bx3 : w6.cell? ⟨w.heap.size, 1, none⟩ = some (.slice a1 c.arrays.length c1) := chg_cell hC5 bx3 (fun h => by have := iS _ h; omega)
      replace bx4 : w6.cell? ⟨w.heap.size, 2, none⟩ = some (.slice (some ⟨b0, off, none⟩) c.list.length c2) := chg_cell hC5 bx4 (fun h => by have := iS _ h; omega)
      replace bx7 : w6.cell? ⟨w.heap.size + 1 + 1, 0, none⟩ = some (.slice none 0 0) := chg_cell hC5 bx7 (fun h => by have := iS _ h; omega)
      replace bx9 : w6.cell? ⟨w.heap.size + 1 + 1, 1, none⟩ = some (.slice none 0 0) := chg_cell hC5 bx9 (fun h => by have := iS _ h; omega)
      replace d0 : w6.cell? ⟨bb, 0, none⟩ = some (.int .i64 k) := chg_cell hC5 d0 (fun h => by have := iS _ h; omega)
      replace d1 : w6.cell? ⟨bb, 1, none⟩ = some (.slice (some ⟨gr, 0, none⟩) 14 14) := chg_cell hC5 d1 (fun h => by have := iS _ h; omega)
      replace d2 : w6.cell? ⟨bb, 2, none⟩ = some (.slice px m.vals.length tx) := chg_cell hC5 d2 (fun h => by have := iS _ h; omega)
      replace d3 : w6.cell? ⟨bb, 3, none⟩ = some (.slice py m.arrs.length ty) := chg_cell hC5 d3 (fun h => by have := iS _ h; omega)
      replace bx159 : w6.cell? ⟨wr.heap.size, 0, none⟩ = some (.int .i64 x.op) := chg_cell hC5 bx159 (fun h => by have := iS _ h; omega)
      replace bx161 : w6.cell? ⟨wr.heap.size, 1, none⟩ = some (.int .i64 x.a) := chg_cell hC5 bx161 (fun h => by have := iS _ h; omega)
      replace bx163 : w6.cell? ⟨wr.heap.size, 2, none⟩ = some (.int .i64 x.b) := chg_cell hC5 bx163 (fun h => by have := iS _ h; omega)
      replace bx165 : w6.cell? ⟨wr.heap.size, 3, none⟩ = some (.int .i64 x.c) := chg_cell hC5 bx165 (fun h => by have := iS _ h; omega)
      replace bx167 : w6.cell? ⟨wr.heap.size, 4, none⟩ = some (.int .i64 x.d) := chg_cell hC5 bx167 (fun h => by have := iS _ h; omega)
      replace tot := tot.trans (hC5.below w.heap.size (by have := tot.size; omega) (fun gq hgq h => by have := iS gq h; omega))
      clear hC5
      clear lt169 lt170 lt171 lt172
      have lt174 := lt_of_cell bx2
      have lt175 := lt_of_cell bx7
      have lt176 := lt_of_cell d0
      have lt177 := lt_of_cell bx159
      have iO5 : ∀ q, OwnMB (.slice (some ⟨gr, 0, none⟩) 14 14) (.slice px m.vals.length tx) (.slice py m.arrs.length ty) us q → w1.heap.size ≤ q ∧ q < w3.heap.size ∧ ¬ q = bb := fun q h => ⟨(HIM.out q h).1, (HIM.out q h).2, HNM.out q h⟩
      have iE5 : ∀ q, (Value.slice pu' Q'.length tu').ownBlock = some q → w3.heap.size ≤ q ∧ q < w6.heap.size ∧ ¬ q = bb ∧ ¬ q = wr.heap.size := fun q h => by have h1 := E5.lt q h; rcases (hd5 q h).2 with h2 | h2; (have h3 := iS q (Or.inr h2); exact ⟨h1.1, h1.2, h3.2.2, by omega⟩); (have := lt_of_cell d0; exact ⟨h1.1, h1.2, by omega, by omega⟩)
      have HED := Lib.hid (fun q h => (hd5 q h).1)
      clear hd5 HXE2 iS
      go_upto_region 10 with (fail)
      obtain ⟨wx10, hnw⟩ : ∃ X, X = (World.setCell (World.setCell (World.setCell (World.setCell w6 ⟨bb, 0, none⟩ (.int .i64 (stPc (insAt c (stN c n s).pc) (stN c n s)))) ⟨bb, 1, none⟩ (.slice (some ⟨gr, 0, none⟩) 14 14)) ⟨bb, 2, none⟩ (.slice px m.vals.length tx)) ⟨bb, 3, none⟩ (.slice py m.arrs.length ty)) := ⟨_, rfl⟩
      have hb : Below (World.setCell (World.setCell (World.setCell (World.setCell w6 ⟨bb, 0, none⟩ (.int .i64 (stPc (insAt c (stN c n s).pc) (stN c n s)))) ⟨bb, 1, none⟩ (.slice (some ⟨gr, 0, none⟩) 14 14)) ⟨bb, 2, none⟩ (.slice px m.vals.length tx)) ⟨bb, 3, none⟩ (.slice py m.arrs.length ty)).heap.size (World.setCell (World.setCell (World.setCell (World.setCell w6 ⟨bb, 0, none⟩ (.int .i64 (stPc (insAt c (stN c n s).pc) (stN c n s)))) ⟨bb, 1, none⟩ (.slice (some ⟨gr, 0, none⟩) 14 14)) ⟨bb, 2, none⟩ (.slice px m.vals.length tx)) ⟨bb, 3, none⟩ (.slice py m.arrs.length ty)) wx10 := by rw [hnw]; exact bself _
      have hsz178 := hb.size
      simp only [World.size_setCell] at hsz178
      replace bf8 := kept_froz hb (lt_of_cell (cell_ne (b := (bb)) (j := 3) (cell_ne (b := (bb)) (j := 2) (cell_ne (b := (bb)) (j := 1) (cell_ne (b := (bb)) (j := 0) bx7 (by omega) (.int .i64 (stPc (insAt c (stN c n s).pc) (stN c n s)))) (by omega) (.slice (some ⟨gr, 0, none⟩) 14 14)) (by omega) (.slice px m.vals.length tx)) (by omega) (.slice py m.arrs.length ty))) (froz_st (b := ⟨(bb), 3, none⟩) (froz_st (b := ⟨(bb), 2, none⟩) (froz_st (b := ⟨(bb), 1, none⟩) (froz_st (b := ⟨(bb), 0, none⟩) bf8 (.int .i64 (stPc (insAt c (stN c n s).pc) (stN c n s)))) (.slice (some ⟨gr, 0, none⟩) 14 14)) (.slice px m.vals.length tx)) (.slice py m.arrs.length ty))
      replace bf10 := kept_froz hb (lt_of_cell (cell_ne (b := (bb)) (j := 3) (cell_ne (b := (bb)) (j := 2) (cell_ne (b := (bb)) (j := 1) (cell_ne (b := (bb)) (j := 0) bx9 (by omega) (.int .i64 (stPc (insAt c (stN c n s).pc) (stN c n s)))) (by omega) (.slice (some ⟨gr, 0, none⟩) 14 14)) (by omega) (.slice px m.vals.length tx)) (by omega) (.slice py m.arrs.length ty))) (froz_st (b := ⟨(bb), 3, none⟩) (froz_st (b := ⟨(bb), 2, none⟩) (froz_st (b := ⟨(bb), 1, none⟩) (froz_st (b := ⟨(bb), 0, none⟩) bf10 (.int .i64 (stPc (insAt c (stN c n s).pc) (stN c n s)))) (.slice (some ⟨gr, 0, none⟩) 14 14)) (.slice px m.vals.length tx)) (.slice py m.arrs.length ty))
      replace f0 := kept_froz hb (lt_of_cell (cell_ne (b := (bb)) (j := 3) (cell_ne (b := (bb)) (j := 2) (cell_ne (b := (bb)) (j := 1) (cell_at _ (bb) 0 (.int .i64 (stPc (insAt c (stN c n s).pc) (stN c n s))) d0) (by omega) (.slice (some ⟨gr, 0, none⟩) 14 14)) (by omega) (.slice px m.vals.length tx)) (by omega) (.slice py m.arrs.length ty))) (froz_st (b := ⟨(bb), 3, none⟩) (froz_st (b := ⟨(bb), 2, none⟩) (froz_st (b := ⟨(bb), 1, none⟩) (froz_st (b := ⟨(bb), 0, none⟩) f0 (.int .i64 (stPc (insAt c (stN c n s).pc) (stN c n s)))) (.slice (some ⟨gr, 0, none⟩) 14 14)) (.slice px m.vals.length tx)) (.slice py m.arrs.length ty))
      replace f1 := kept_froz hb (lt_of_cell (cell_ne (b := (bb)) (j := 3) (cell_ne (b := (bb)) (j := 2) (cell_at _ (bb) 1 (.slice (some ⟨gr, 0, none⟩) 14 14) (cell_ne (b := (bb)) (j := 0) d1 (by omega) (.int .i64 (stPc (insAt c (stN c n s).pc) (stN c n s))))) (by omega) (.slice px m.vals.length tx)) (by omega) (.slice py m.arrs.length ty))) (froz_st (b := ⟨(bb), 3, none⟩) (froz_st (b := ⟨(bb), 2, none⟩) (froz_st (b := ⟨(bb), 1, none⟩) (froz_st (b := ⟨(bb), 0, none⟩) f1 (.int .i64 (stPc (insAt c (stN c n s).pc) (stN c n s)))) (.slice (some ⟨gr, 0, none⟩) 14 14)) (.slice px m.vals.length tx)) (.slice py m.arrs.length ty))
      replace f2 := kept_froz hb (lt_of_cell (cell_ne (b := (bb)) (j := 3) (cell_at _ (bb) 2 (.slice px m.vals.length tx) (cell_ne (b := (bb)) (j := 1) (cell_ne (b := (bb)) (j := 0) d2 (by omega) (.int .i64 (stPc (insAt c (stN c n s).pc) (stN c n s)))) (by omega) (.slice (some ⟨gr, 0, none⟩) 14 14))) (by omega) (.slice py m.arrs.length ty))) (froz_st (b := ⟨(bb), 3, none⟩) (froz_st (b := ⟨(bb), 2, none⟩) (froz_st (b := ⟨(bb), 1, none⟩) (froz_st (b := ⟨(bb), 0, none⟩) f2 (.int .i64 (stPc (insAt c (stN c n s).pc) (stN c n s)))) (.slice (some ⟨gr, 0, none⟩) 14 14)) (.slice px m.vals.length tx)) (.slice py m.arrs.length ty))
      replace f3 := kept_froz hb (lt_of_cell (cell_at _ (bb) 3 (.slice py m.arrs.length ty) (cell_ne (b := (bb)) (j := 2) (cell_ne (b := (bb)) (j := 1) (cell_ne (b := (bb)) (j := 0) d3 (by omega) (.int .i64 (stPc (insAt c (stN c n s).pc) (stN c n s)))) (by omega) (.slice (some ⟨gr, 0, none⟩) 14 14)) (by omega) (.slice px m.vals.length tx)))) (froz_st (b := ⟨(bb), 3, none⟩) (froz_st (b := ⟨(bb), 2, none⟩) (froz_st (b := ⟨(bb), 1, none⟩) (froz_st (b := ⟨(bb), 0, none⟩) f3 (.int .i64 (stPc (insAt c (stN c n s).pc) (stN c n s)))) (.slice (some ⟨gr, 0, none⟩) 14 14)) (.slice px m.vals.length tx)) (.slice py m.arrs.length ty))
      replace bf160 := kept_froz hb (lt_of_cell (cell_ne (b := (bb)) (j := 3) (cell_ne (b := (bb)) (j := 2) (cell_ne (b := (bb)) (j := 1) (cell_ne (b := (bb)) (j := 0) bx159 (by omega) (.int .i64 (stPc (insAt c (stN c n s).pc) (stN c n s)))) (by omega) (.slice (some ⟨gr, 0, none⟩) 14 14)) (by omega) (.slice px m.vals.length tx)) (by omega) (.slice py m.arrs.length ty))) (froz_st (b := ⟨(bb), 3, none⟩) (froz_st (b := ⟨(bb), 2, none⟩) (froz_st (b := ⟨(bb), 1, none⟩) (froz_st (b := ⟨(bb), 0, none⟩) bf160 (.int .i64 (stPc (insAt c (stN c n s).pc) (stN c n s)))) (.slice (some ⟨gr, 0, none⟩) 14 14)) (.slice px m.vals.length tx)) (.slice py m.arrs.length ty))
      replace bf162 := kept_froz hb (lt_of_cell (cell_ne (b := (bb)) (j := 3) (cell_ne (b := (bb)) (j := 2) (cell_ne (b := (bb)) (j := 1) (cell_ne (b := (bb)) (j := 0) bx161 (by omega) (.int .i64 (stPc (insAt c (stN c n s).pc) (stN c n s)))) (by omega) (.slice (some ⟨gr, 0, none⟩) 14 14)) (by omega) (.slice px m.vals.length tx)) (by omega) (.slice py m.arrs.length ty))) (froz_st (b := ⟨(bb), 3, none⟩) (froz_st (b := ⟨(bb), 2, none⟩) (froz_st (b := ⟨(bb), 1, none⟩) (froz_st (b := ⟨(bb), 0, none⟩) bf162 (.int .i64 (stPc (insAt c (stN c n s).pc) (stN c n s)))) (.slice (some ⟨gr, 0, none⟩) 14 14)) (.slice px m.vals.length tx)) (.slice py m.arrs.length ty))
      replace bf164 := kept_froz hb (lt_of_cell (cell_ne (b := (bb)) (j := 3) (cell_ne (b := (bb)) (j := 2) (cell_ne (b := (bb)) (j := 1) (cell_ne (b := (bb)) (j := 0) bx163 (by omega) (.int .i64 (stPc (insAt c (stN c n s).pc) (stN c n s)))) (by omega) (.slice (some ⟨gr, 0, none⟩) 14 14)) (by omega) (.slice px m.vals.length tx)) (by omega) (.slice py m.arrs.length ty))) (froz_st (b := ⟨(bb), 3, none⟩) (froz_st (b := ⟨(bb), 2, none⟩) (froz_st (b := ⟨(bb), 1, none⟩) (froz_st (b := ⟨(bb), 0, none⟩) bf164 (.int .i64 (stPc (insAt c (stN c n s).pc) (stN c n s)))) (.slice (some ⟨gr, 0, none⟩) 14 14)) (.slice px m.vals.length tx)) (.slice py m.arrs.length ty))
      replace bf166 := kept_froz hb (lt_of_cell (cell_ne (b := (bb)) (j := 3) (cell_ne (b := (bb)) (j := 2) (cell_ne (b := (bb)) (j := 1) (cell_ne (b := (bb)) (j := 0) bx165 (by omega) (.int .i64 (stPc (insAt c (stN c n s).pc) (stN c n s)))) (by omega) (.slice (some ⟨gr, 0, none⟩) 14 14)) (by omega) (.slice px m.vals.length tx)) (by omega) (.slice py m.arrs.length ty))) (froz_st (b := ⟨(bb), 3, none⟩) (froz_st (b := ⟨(bb), 2, none⟩) (froz_st (b := ⟨(bb), 1, none⟩) (froz_st (b := ⟨(bb), 0, none⟩) bf166 (.int .i64 (stPc (insAt c (stN c n s).pc) (stN c n s)))) (.slice (some ⟨gr, 0, none⟩) 14 14)) (.slice px m.vals.length tx)) (.slice py m.arrs.length ty))
      replace bf168 := kept_froz hb (lt_of_cell (cell_ne (b := (bb)) (j := 3) (cell_ne (b := (bb)) (j := 2) (cell_ne (b := (bb)) (j := 1) (cell_ne (b := (bb)) (j := 0) bx167 (by omega) (.int .i64 (stPc (insAt c (stN c n s).pc) (stN c n s)))) (by omega) (.slice (some ⟨gr, 0, none⟩) 14 14)) (by omega) (.slice px m.vals.length tx)) (by omega) (.slice py m.arrs.length ty))) (froz_st (b := ⟨(bb), 3, none⟩) (froz_st (b := ⟨(bb), 2, none⟩) (froz_st (b := ⟨(bb), 1, none⟩) (froz_st (b := ⟨(bb), 0, none⟩) bf168 (.int .i64 (stPc (insAt c (stN c n s).pc) (stN c n s)))) (.slice (some ⟨gr, 0, none⟩) 14 14)) (.slice px m.vals.length tx)) (.slice py m.arrs.length ty))
      replace bx2 : wx10.cell? ⟨w.heap.size, 0, none⟩ = some (.slice a0 c.vars.length c0) := kept_cell hb (cell_ne (b := (bb)) (j := 3) (cell_ne (b := (bb)) (j := 2) (cell_ne (b := (bb)) (j := 1) (cell_ne (b := (bb)) (j := 0) bx2 (by omega) (.int .i64 (stPc (insAt c (stN c n s).pc) (stN c n s)))) (by omega) (.slice (some ⟨gr, 0, none⟩) 14 14)) (by omega) (.slice px m.vals.length tx)) (by omega) (.slice py m.arrs.length ty))
      replace bx3 : wx10.cell? ⟨w.heap.size, 1, none⟩ = some (.slice a1 c.arrays.length c1) := kept_cell hb (cell_ne (b := (bb)) (j := 3) (cell_ne (b := (bb)) (j := 2) (cell_ne (b := (bb)) (j := 1) (cell_ne (b := (bb)) (j := 0) bx3 (by omega) (.int .i64 (stPc (insAt c (stN c n s).pc) (stN c n s)))) (by omega) (.slice (some ⟨gr, 0, none⟩) 14 14)) (by omega) (.slice px m.vals.length tx)) (by omega) (.slice py m.arrs.length ty))
      replace bx4 : wx10.cell? ⟨w.heap.size, 2, none⟩ = some (.slice (some ⟨b0, off, none⟩) c.list.length c2) := kept_cell hb (cell_ne (b := (bb)) (j := 3) (cell_ne (b := (bb)) (j := 2) (cell_ne (b := (bb)) (j := 1) (cell_ne (b := (bb)) (j := 0) bx4 (by omega) (.int .i64 (stPc (insAt c (stN c n s).pc) (stN c n s)))) (by omega) (.slice (some ⟨gr, 0, none⟩) 14 14)) (by omega) (.slice px m.vals.length tx)) (by omega) (.slice py m.arrs.length ty))
      replace bx7 : wx10.cell? ⟨w.heap.size + 1 + 1, 0, none⟩ = some (.slice none 0 0) := kept_cell hb (cell_ne (b := (bb)) (j := 3) (cell_ne (b := (bb)) (j := 2) (cell_ne (b := (bb)) (j := 1) (cell_ne (b := (bb)) (j := 0) bx7 (by omega) (.int .i64 (stPc (insAt c (stN c n s).pc) (stN c n s)))) (by omega) (.slice (some ⟨gr, 0, none⟩) 14 14)) (by omega) (.slice px m.vals.length tx)) (by omega) (.slice py m.arrs.length ty))
      replace bx9 : wx10.cell? ⟨w.heap.size + 1 + 1, 1, none⟩ = some (.slice none 0 0) := kept_cell hb (cell_ne (b := (bb)) (j := 3) (cell_ne (b := (bb)) (j := 2) (cell_ne (b := (bb)) (j := 1) (cell_ne (b := (bb)) (j := 0) bx9 (by omega) (.int .i64 (stPc (insAt c (stN c n s).pc) (stN c n s)))) (by omega) (.slice (some ⟨gr, 0, none⟩) 14 14)) (by omega) (.slice px m.vals.length tx)) (by omega) (.slice py m.arrs.length ty))
      replace d0 : wx10.cell? ⟨bb, 0, none⟩ = some (.int .i64 (stPc (insAt c (stN c n s).pc) (stN c n s))) := kept_cell hb (cell_ne (b := (bb)) (j := 3) (cell_ne (b := (bb)) (j := 2) (cell_ne (b := (bb)) (j := 1) (cell_at _ (bb) 0 (.int .i64 (stPc (insAt c (stN c n s).pc) (stN c n s))) d0) (by omega) (.slice (some ⟨gr, 0, none⟩) 14 14)) (by omega) (.slice px m.vals.length tx)) (by omega) (.slice py m.arrs.length ty))
      replace d1 : wx10.cell? ⟨bb, 1, none⟩ = some (.slice (some ⟨gr, 0, none⟩) 14 14) := kept_cell hb (cell_ne (b := (bb)) (j := 3) (cell_ne (b := (bb)) (j := 2) (cell_at _ (bb) 1 (.slice (some ⟨gr, 0, none⟩) 14 14) (cell_ne (b := (bb)) (j := 0) d1 (by omega) (.int .i64 (stPc (insAt c (stN c n s).pc) (stN c n s))))) (by omega) (.slice px m.vals.length tx)) (by omega) (.slice py m.arrs.length ty))
      replace d2 : wx10.cell? ⟨bb, 2, none⟩ = some (.slice px m.vals.length tx) := kept_cell hb (cell_ne (b := (bb)) (j := 3) (cell_at _ (bb) 2 (.slice px m.vals.length tx) (cell_ne (b := (bb)) (j := 1) (cell_ne (b := (bb)) (j := 0) d2 (by omega) (.int .i64 (stPc (insAt c (stN c n s).pc) (stN c n s)))) (by omega) (.slice (some ⟨gr, 0, none⟩) 14 14))) (by omega) (.slice py m.arrs.length ty))
      replace d3 : wx10.cell? ⟨bb, 3, none⟩ = some (.slice py m.arrs.length ty) := kept_cell hb (cell_at _ (bb) 3 (.slice py m.arrs.length ty) (cell_ne (b := (bb)) (j := 2) (cell_ne (b := (bb)) (j := 1) (cell_ne (b := (bb)) (j := 0) d3 (by omega) (.int .i64 (stPc (insAt c (stN c n s).pc) (stN c n s)))) (by omega) (.slice (some ⟨gr, 0, none⟩) 14 14)) (by omega) (.slice px m.vals.length tx)))
      replace hCa := ((((hCa.setCell (bb) 0 (.int .i64 (stPc (insAt c (stN c n s).pc) (stN c n s))) (fun _ => (by first | exact Or.inl rfl | (refine Or.inr (Or.inr ?_); omega)))).setCell (bb) 1 (.slice (some ⟨gr, 0, none⟩) 14 14) (fun _ => (by first | exact Or.inl rfl | (refine Or.inr (Or.inr ?_); omega)))).setCell (bb) 2 (.slice px m.vals.length tx) (fun _ => (by first | exact Or.inl rfl | (refine Or.inr (Or.inr ?_); omega)))).setCell (bb) 3 (.slice py m.arrs.length ty) (fun _ => (by first | exact Or.inl rfl | (refine Or.inr (Or.inr ?_); omega)))).trans (Chg.of_below hb)
      replace bx159 : wx10.cell? ⟨wr.heap.size, 0, none⟩ = some (.int .i64 x.op) := kept_cell hb (cell_ne (b := (bb)) (j := 3) (cell_ne (b := (bb)) (j := 2) (cell_ne (b := (bb)) (j := 1) (cell_ne (b := (bb)) (j := 0) bx159 (by omega) (.int .i64 (stPc (insAt c (stN c n s).pc) (stN c n s)))) (by omega) (.slice (some ⟨gr, 0, none⟩) 14 14)) (by omega) (.slice px m.vals.length tx)) (by omega) (.slice py m.arrs.length ty))
      replace bx161 : wx10.cell? ⟨wr.heap.size, 1, none⟩ = some (.int .i64 x.a) := kept_cell hb (cell_ne (b := (bb)) (j := 3) (cell_ne (b := (bb)) (j := 2) (cell_ne (b := (bb)) (j := 1) (cell_ne (b := (bb)) (j := 0) bx161 (by omega) (.int .i64 (stPc (insAt c (stN c n s).pc) (stN c n s)))) (by omega) (.slice (some ⟨gr, 0, none⟩) 14 14)) (by omega) (.slice px m.vals.length tx)) (by omega) (.slice py m.arrs.length ty))
      replace bx163 : wx10.cell? ⟨wr.heap.size, 2, none⟩ = some (.int .i64 x.b) := kept_cell hb (cell_ne (b := (bb)) (j := 3) (cell_ne (b := (bb)) (j := 2) (cell_ne (b := (bb)) (j := 1) (cell_ne (b := (bb)) (j := 0) bx163 (by omega) (.int .i64 (stPc (insAt c (stN c n s).pc) (stN c n s)))) (by omega) (.slice (some ⟨gr, 0, none⟩) 14 14)) (by omega) (.slice px m.vals.length tx)) (by omega) (.slice py m.arrs.length ty))
      replace bx165 : wx10.cell? ⟨wr.heap.size, 3, none⟩ = some (.int .i64 x.c) := kept_cell hb (cell_ne (b := (bb)) (j := 3) (cell_ne (b := (bb)) (j := 2) (cell_ne (b := (bb)) (j := 1) (cell_ne (b := (bb)) (j := 0) bx165 (by omega) (.int .i64 (stPc (insAt c (stN c n s).pc) (stN c n s)))) (by omega) (.slice (some ⟨gr, 0, none⟩) 14 14)) (by omega) (.slice px m.vals.length tx)) (by omega) (.slice py m.arrs.length ty))
      replace bx167 : wx10.cell? ⟨wr.heap.size, 4, none⟩ = some (.int .i64 x.d) := kept_cell hb (cell_ne (b := (bb)) (j := 3) (cell_ne (b := (bb)) (j := 2) (cell_ne (b := (bb)) (j := 1) (cell_ne (b := (bb)) (j := 0) bx167 (by omega) (.int .i64 (stPc (insAt c (stN c n s).pc) (stN c n s)))) (by omega) (.slice (some ⟨gr, 0, none⟩) 14 14)) (by omega) (.slice px m.vals.length tx)) (by omega) (.slice py m.arrs.length ty))
      replace O5 := ((((O5.keep ((Chg.refl (fun gk => gk = (bb)) _).setCell (bb) 0 (.int .i64 (stPc (insAt c (stN c n s).pc) (stN c n s))) (fun _ => rfl)) (fun gq h h2 => by have := iO5 gq h; omega)).keep ((Chg.refl (fun gk => gk = (bb)) _).setCell (bb) 1 (.slice (some ⟨gr, 0, none⟩) 14 14) (fun _ => rfl)) (fun gq h h2 => by have := iO5 gq h; omega)).keep ((Chg.refl (fun gk => gk = (bb)) _).setCell (bb) 2 (.slice px m.vals.length tx) (fun _ => rfl)) (fun gq h h2 => by have := iO5 gq h; omega)).keep ((Chg.refl (fun gk => gk = (bb)) _).setCell (bb) 3 (.slice py m.arrs.length ty) (fun _ => rfl)) (fun gq h h2 => by have := iO5 gq h; omega)).below hb
      replace E5 := own_below (own_set (own_set (own_set (own_set E5 (bb) 0 (fun h => by have := iE5 _ h; omega) (.int .i64 (stPc (insAt c (stN c n s).pc) (stN c n s)))) (bb) 1 (fun h => by have := iE5 _ h; omega) (.slice (some ⟨gr, 0, none⟩) 14 14)) (bb) 2 (fun h => by have := iE5 _ h; omega) (.slice px m.vals.length tx)) (bb) 3 (fun h => by have := iE5 _ h; omega) (.slice py m.arrs.length ty)) hb
      replace tot := btr (bst (bst (bst (bst tot (bb) 0 (by omega) (.int .i64 (stPc (insAt c (stN c n s).pc) (stN c n s)))) (bb) 1 (by omega) (.slice (some ⟨gr, 0, none⟩) 14 14)) (bb) 2 (by omega) (.slice px m.vals.length tx)) (bb) 3 (by omega) (.slice py m.arrs.length ty)) hb
      clear hb
      rw [← hnw]
      clear hnw
      clear lt174 lt175 lt176 lt177
      have lt179 := lt_of_cell bx2
      have lt180 := lt_of_cell bx7
      have lt181 := lt_of_cell d0
      have lt182 := lt_of_cell bx159
      have HQ2 : Hid (Q' = spN c ws n s ++ stEvs (insAt c (stN c n s).pc) (stN c n s)) := Lib.hid (by rw [HQ'.out, HL.out.qe.out])
      clear HQ'
      have hQl2 : Q'.length ≤ 1000000 := by rw [HQ2.out, List.length_append]; have := spN_len c ws s n; have := (stEvs_len (insAt c (stN c n s).pc) (stN c n s)).1; omega
      have HSX : Hid (spX c ws s n = if isBr x.op = true then (if wrAt ws bn = true then pathE c (othS c (stN c n s)) else []) else []) := Lib.hid (by unfold spX; rw [HAT.out, HBN.out])
      have HB1 : Hid ((brN c (n + 1) s : Int) = (bn : Int) + brI (isBr x.op)) := Lib.hid (by rw [brN_succ, HOP.out, HBN.out])
      have O5' : OwnMv wx10 w1.heap.size (.slice (some ⟨gr, 0, none⟩) 14 14) (.slice px m.vals.length tx) (.slice py m.arrs.length ty) us (stN c (n + 1) s).regs (stN c (n + 1) s).mem := O5
      clear O5
      have d0' : wx10.cell? ⟨bb, 0, none⟩ = some (.int .i64 (stN c (n + 1) s).pc) := d0
      clear d0
      have HMN1 : Hid (MsOk c (stN c (n + 1) s)) := Lib.hid (HSN.out (n + 1))
      have hbn1 : (bn : Int) + 1 ≤ 1000000 := by omega
      have HL9 := Lib.hid HL.out.no
      have HMNN := Lib.hid HMN.out
      clear HL HMN
      by_cases h13 : x.op = 13
      · have hx : (x.op == 13) = true := by simp [h13]
        have HRR := Lib.hid (HRS.out n hlt HL9.out (by rw [HOP.out]; exact h13))
        have HTT : Hid (T = Q') := Lib.hid (by rw [HTS.out n HRR.out, HQ2.out]; show (spN c ws n s ++ _) ++ spX c ws s n = _; rw [HSX.out, h13]; exact List.append_nil _)
        have HMM := Lib.hid (HMS'.out n HRR.out)
        clear h13 hCa
        have OF := Lib.hid ((O5'.keep ((Chg.refl (fun gk => gk = (w.heap.size + 1 + 1)) _).setCell (w.heap.size + 1 + 1) 0 (.slice px m.vals.length tx) (fun _ => rfl)) (fun gq h h2 => by have := iO5 gq h; omega)).keep ((Chg.refl (fun gk => gk = (w.heap.size + 1 + 1)) _).setCell (w.heap.size + 1 + 1) 1 (.slice py m.arrs.length ty) (fun _ => rfl)) (fun gq h h2 => by have := iO5 gq h; omega)); have EF := Lib.hid (own_set (own_set E5 (w.heap.size + 1 + 1) 0 (fun h => by have := iE5 _ h; omega) (.slice px m.vals.length tx)) (w.heap.size + 1 + 1) 1 (fun h => by have := iE5 _ h; omega) (.slice py m.arrs.length ty))
        clear O5' E5
        have x183 := (cell_ne (b := (w.heap.size + 1 + 1)) (j := 1) (cell_at _ (w.heap.size + 1 + 1) 0 (.slice px m.vals.length tx) bx7) (by omega) (.slice py m.arrs.length ty))
        have x184 := (cell_at _ (w.heap.size + 1 + 1) 1 (.slice py m.arrs.length ty) (cell_ne (b := (w.heap.size + 1 + 1)) (j := 0) bx9 (by omega) (.slice px m.vals.length tx)))
        have tt := (bst (bst tot (w.heap.size + 1 + 1) 0 (by omega) (.slice px m.vals.length tx)) (w.heap.size + 1 + 1) 1 (by omega) (.slice py m.arrs.length ty))
        go_wp2
        exact bodyPost_ret (v := .tuple #[.agg #[.slice px m.vals.length tx, .slice py m.arrs.length ty], .slice (pu') (Q'.length) (tu'), .bool true]) (by simp [results, Try.results83, go_sem, x183, x184]) rfl (by exact by rw [HRR.out, HTT.out, HMM.out]; exact ⟨_, _, _, _, rfl, own_mono EF.out (by omega), OF.out.toM.mono (by omega), tt⟩)
      · have hx : (x.op == 13) = false := by simp [h13]
        have HNO1 : Hid (∀ j, j < n + 1 → ¬ opAt c s j = 13) := Lib.hid (fun j hj => by (by_cases e : j = n); (subst e; rw [HOP.out]; exact h13); exact HL9.out j (by omega))
        clear h13 HL9
        go_wp2_with fail
        refine (l11Branch_i x _).mono ?_
        rintro e w8 ⟨rfl, hb⟩
        have hsz185 := hb.size
        replace bf8 := kept_froz hb (lt_of_cell bx7) bf8
        replace bf10 := kept_froz hb (lt_of_cell bx9) bf10
        replace f0 := kept_froz hb (lt_of_cell d0') f0
        replace f1 := kept_froz hb (lt_of_cell d1) f1
        replace f2 := kept_froz hb (lt_of_cell d2) f2
        replace f3 := kept_froz hb (lt_of_cell d3) f3
        replace bf160 := kept_froz hb (lt_of_cell bx159) bf160
        replace bf162 := kept_froz hb (lt_of_cell bx161) bf162
        replace bf164 := kept_froz hb (lt_of_cell bx163) bf164
        replace bf166 := kept_froz hb (lt_of_cell bx165) bf166
        replace bf168 := kept_froz hb (lt_of_cell bx167) bf168
        replace bx2 : w8.cell? ⟨w.heap.size, 0, none⟩ = some (.slice a0 c.vars.length c0) := kept_cell hb bx2
        replace bx3 : w8.cell? ⟨w.heap.size, 1, none⟩ = some (.slice a1 c.arrays.length c1) := kept_cell hb bx3
        replace bx4 : w8.cell? ⟨w.heap.size, 2, none⟩ = some (.slice (some ⟨b0, off, none⟩) c.list.length c2) := kept_cell hb bx4
        replace bx7 : w8.cell? ⟨w.heap.size + 1 + 1, 0, none⟩ = some (.slice none 0 0) := kept_cell hb bx7
        replace bx9 : w8.cell? ⟨w.heap.size + 1 + 1, 1, none⟩ = some (.slice none 0 0) := kept_cell hb bx9
        replace d1 : w8.cell? ⟨bb, 1, none⟩ = some (.slice (some ⟨gr, 0, none⟩) 14 14) := kept_cell hb d1
        replace d2 : w8.cell? ⟨bb, 2, none⟩ = some (.slice px m.vals.length tx) := kept_cell hb d2
        replace d3 : w8.cell? ⟨bb, 3, none⟩ = some (.slice py m.arrs.length ty) := kept_cell hb d3
        replace hCa := hCa.trans (Chg.of_below hb)
        replace bx159 : w8.cell? ⟨wr.heap.size, 0, none⟩ = some (.int .i64 x.op) := kept_cell hb bx159
        replace bx161 : w8.cell? ⟨wr.heap.size, 1, none⟩ = some (.int .i64 x.a) := kept_cell hb bx161
        replace bx163 : w8.cell? ⟨wr.heap.size, 2, none⟩ = some (.int .i64 x.b) := kept_cell hb bx163
        replace bx165 : w8.cell? ⟨wr.heap.size, 3, none⟩ = some (.int .i64 x.c) := kept_cell hb bx165
        replace bx167 : w8.cell? ⟨wr.heap.size, 4, none⟩ = some (.int .i64 x.d) := kept_cell hb bx167
        replace E5 := own_below E5 hb
        replace O5' := O5'.below hb
        replace d0' : w8.cell? ⟨bb, 0, none⟩ = some (.int .i64 ((stN c (n + 1) s).pc)) := kept_cell hb d0'
        replace tot := btr tot hb
        clear hb
        clear lt179 lt180 lt181 lt182
        have lt186 := lt_of_cell bx2
        have lt187 := lt_of_cell bx7
        have lt188 := lt_of_cell d1
        have lt189 := lt_of_cell bx159
        cases hbr : isBr x.op with
        | false =>
          have HEDx : Hid (∀ q, (Value.slice pu' Q'.length tu').ownBlock = some q → ¬ OwnMB (.slice (some ⟨gr, 0, none⟩) 14 14) (.slice px m.vals.length tx) (.slice py m.arrs.length ty) us q ∧ ¬ q = bb) := Lib.hid (fun q h => ⟨HED.out q h, (iE5 q h).2.2.1⟩)
          skip
          have hqe : Hid (Q' = spN c ws (n + 1) s) := Lib.hid (by rw [HQ2.out]; show _ = (spN c ws n s ++ _) ++ spX c ws s n; rw [HSX.out, hbr]; exact (List.append_nil _).symm)
          have LN : Hid (L11 c ws s w4 w8 w1.heap.size w3.heap.size bb (.slice (some ⟨gr, 0, none⟩) 14 14) (.slice px m.vals.length tx) (.slice py m.arrs.length ty) us (Value.slice pu' Q'.length tu') (n + 1) Q') := Lib.hid ⟨d0', d1, d2, d3, f0, f1, f2, f3, O5', E5, hqe, HEDx.out, HNO1.out, hCa⟩
          clear E5 O5' hCa f0 f1 f2 f3 hqe
          go_wp2
          go_roundw
          case rel => exact ⟨n + 1, bn, Q', by omega, by go_num, rfl, by omega, Lib.hid (by have h := HB1.out; rw [hbr] at h; unfold brI at h; rw [if_neg (by decide)] at h; omega), LN.out⟩
          case measure => simp [intOf]; omega
        | true =>
          by_cases hlw : bn < ws.length
          · obtain ⟨bw, ow, rfl, hwn⟩ := reads_wr (HWS.out _ tot) hlw
            have hbwl := lt_of_cell hwn
            have hlq : (bn : Int) < (ws.length : Int) := by omega
            cases hw : wrAt ws bn with
            | false =>
              rw [hw] at hwn; have HWR := Lib.hid hw; clear hw
              clear lt186 lt187 lt188 lt189
              have lt190 := lt_of_cell bx2
              have lt191 := lt_of_cell bx7
              have lt192 := lt_of_cell d1
              have lt193 := lt_of_cell bx159
              have lt194 := lt_of_cell hwn
              have HEDx : Hid (∀ q, (Value.slice pu' Q'.length tu').ownBlock = some q → ¬ OwnMB (.slice (some ⟨gr, 0, none⟩) 14 14) (.slice px m.vals.length tx) (.slice py m.arrs.length ty) us q ∧ ¬ q = bb) := Lib.hid (fun q h => ⟨HED.out q h, (iE5 q h).2.2.1⟩)
              skip
              have hqe : Hid (Q' = spN c ws (n + 1) s) := Lib.hid (by rw [HQ2.out]; show _ = (spN c ws n s ++ _) ++ spX c ws s n; rw [HSX.out, hbr, HWR.out]; exact (List.append_nil _).symm)
              have LN : Hid (L11 c ws s w4 w8 w1.heap.size w3.heap.size bb (.slice (some ⟨gr, 0, none⟩) 14 14) (.slice px m.vals.length tx) (.slice py m.arrs.length ty) us (Value.slice pu' Q'.length tu') (n + 1) Q') := Lib.hid ⟨d0', d1, d2, d3, f0, f1, f2, f3, O5', E5, hqe, HEDx.out, HNO1.out, hCa⟩
              clear E5 O5' hCa f0 f1 f2 f3 hqe
              go_wp2
              go_roundw
              case rel => exact ⟨n + 1, bn + 1, Q', by omega, by go_num, by go_num, by omega, Lib.hid (by have h := HB1.out; rw [hbr] at h; unfold brI at h; rw [if_pos rfl] at h; omega), LN.out⟩
              case measure => simp [intOf]; omega
            | true =>
              rw [hw] at hwn; have HWR := Lib.hid hw; clear hw
              clear lt186 lt187 lt188 lt189
              have lt195 := lt_of_cell bx2
              have lt196 := lt_of_cell bx7
              have lt197 := lt_of_cell d1
              have lt198 := lt_of_cell bx159
              have lt199 := lt_of_cell hwn
              have HSM := Lib.hid (mem_small HOC.out HMN1.out)
              have HBO : Hid (isBr (insAt c (stN c n s).pc).op = true) := Lib.hid (by rw [HAT.out]; exact hbr)
              go_wp2_with fail
              refine (sMOwn_any _ _ _ (stN c (n + 1) s) _ (own_readsS O5' HSM.out.1 HSM.out.2.1 HSM.out.2.2.1 HSM.out.2.2.2) HSM.out.1 HSM.out.2.1 HSM.out.2.2.1 HSM.out.2.2.2).mono ?_
              rintro e w9 ⟨vr, vx, vy, us2, rfl, O6, hb⟩
              obtain ⟨qr, sr, rfl⟩ := own_shape O6.r
              obtain ⟨qx, sx, rfl⟩ := own_shape O6.v
              obtain ⟨qy, sy, rfl⟩ := own_shape O6.a.out
              have hsz200 := hb.size
              replace bf8 := kept_froz hb (lt_of_cell bx7) bf8
              replace bf10 := kept_froz hb (lt_of_cell bx9) bf10
              replace f0 := kept_froz hb (lt_of_cell d0') f0
              replace f1 := kept_froz hb (lt_of_cell d1) f1
              replace f2 := kept_froz hb (lt_of_cell d2) f2
              replace f3 := kept_froz hb (lt_of_cell d3) f3
              replace bf160 := kept_froz hb (lt_of_cell bx159) bf160
              replace bf162 := kept_froz hb (lt_of_cell bx161) bf162
              replace bf164 := kept_froz hb (lt_of_cell bx163) bf164
              replace bf166 := kept_froz hb (lt_of_cell bx165) bf166
              replace bf168 := kept_froz hb (lt_of_cell bx167) bf168
              replace bx2 : w9.cell? ⟨w.heap.size, 0, none⟩ = some (.slice a0 c.vars.length c0) := kept_cell hb bx2
              replace bx3 : w9.cell? ⟨w.heap.size, 1, none⟩ = some (.slice a1 c.arrays.length c1) := kept_cell hb bx3
              replace bx4 : w9.cell? ⟨w.heap.size, 2, none⟩ = some (.slice (some ⟨b0, off, none⟩) c.list.length c2) := kept_cell hb bx4
              replace bx7 : w9.cell? ⟨w.heap.size + 1 + 1, 0, none⟩ = some (.slice none 0 0) := kept_cell hb bx7
              replace bx9 : w9.cell? ⟨w.heap.size + 1 + 1, 1, none⟩ = some (.slice none 0 0) := kept_cell hb bx9
              replace d1 : w9.cell? ⟨bb, 1, none⟩ = some (.slice (some ⟨gr, 0, none⟩) 14 14) := kept_cell hb d1
              replace d2 : w9.cell? ⟨bb, 2, none⟩ = some (.slice px m.vals.length tx) := kept_cell hb d2
              replace d3 : w9.cell? ⟨bb, 3, none⟩ = some (.slice py m.arrs.length ty) := kept_cell hb d3
              replace hCa := hCa.trans (Chg.of_below hb)
              replace bx159 : w9.cell? ⟨wr.heap.size, 0, none⟩ = some (.int .i64 x.op) := kept_cell hb bx159
              replace bx161 : w9.cell? ⟨wr.heap.size, 1, none⟩ = some (.int .i64 x.a) := kept_cell hb bx161
              replace bx163 : w9.cell? ⟨wr.heap.size, 2, none⟩ = some (.int .i64 x.b) := kept_cell hb bx163
              replace bx165 : w9.cell? ⟨wr.heap.size, 3, none⟩ = some (.int .i64 x.c) := kept_cell hb bx165
              replace bx167 : w9.cell? ⟨wr.heap.size, 4, none⟩ = some (.int .i64 x.d) := kept_cell hb bx167
              replace E5 := own_below E5 hb
              replace O5' := O5'.below hb
              replace d0' : w9.cell? ⟨bb, 0, none⟩ = some (.int .i64 ((stN c (n + 1) s).pc)) := kept_cell hb d0'
              replace hwn : w9.cell? ⟨bw, ow + bn, none⟩ = some (.bool true) := kept_cell hb hwn
              replace tot := btr tot hb
              clear hb
              clear lt195 lt196 lt197 lt198 lt199
              have lt201 := lt_of_cell bx2
              have lt202 := lt_of_cell bx7
              have lt203 := lt_of_cell d1
              have lt204 := lt_of_cell bx159
              have lt205 := lt_of_cell hwn
              have iv206 := O6.lt
              obtain ⟨tq, HTQ⟩ : ∃ y : Int, Hid (y = if (stN c (n + 1) s).pc = x.b then (k : Int) + 1 else x.b) := ⟨_, Lib.hid rfl⟩
              have hk1 : k ≤ 1000000 := by omega
              have HLO := Lib.hid (fun W => l11Other_is x k (stN c (n + 1) s).pc tq W hk1 HTQ.out)
              go_wp2_with fail
              refine (HLO.out _).mono ?_
              rintro e w10 ⟨rfl, hb⟩
              have hsz207 := hb.size
              simp only [World.size_alloc] at hsz207
              replace bf8 := kept_froz hb (lt_of_cell (cell_al bx7 (.cells #[.int .i64 (stN c (n + 1) s).pc, .slice qr ((stN c (n + 1) s).regs.length) sr, .slice qx ((stN c (n + 1) s).mem.vals.length) sx, .slice qy ((stN c (n + 1) s).mem.arrs.length) sy] 49))) (froz_al (lt_of_cell bx7) bf8 (.cells #[.int .i64 (stN c (n + 1) s).pc, .slice qr ((stN c (n + 1) s).regs.length) sr, .slice qx ((stN c (n + 1) s).mem.vals.length) sx, .slice qy ((stN c (n + 1) s).mem.arrs.length) sy] 49))
              replace bf10 := kept_froz hb (lt_of_cell (cell_al bx9 (.cells #[.int .i64 (stN c (n + 1) s).pc, .slice qr ((stN c (n + 1) s).regs.length) sr, .slice qx ((stN c (n + 1) s).mem.vals.length) sx, .slice qy ((stN c (n + 1) s).mem.arrs.length) sy] 49))) (froz_al (lt_of_cell bx9) bf10 (.cells #[.int .i64 (stN c (n + 1) s).pc, .slice qr ((stN c (n + 1) s).regs.length) sr, .slice qx ((stN c (n + 1) s).mem.vals.length) sx, .slice qy ((stN c (n + 1) s).mem.arrs.length) sy] 49))
              replace f0 := kept_froz hb (lt_of_cell (cell_al d0' (.cells #[.int .i64 (stN c (n + 1) s).pc, .slice qr ((stN c (n + 1) s).regs.length) sr, .slice qx ((stN c (n + 1) s).mem.vals.length) sx, .slice qy ((stN c (n + 1) s).mem.arrs.length) sy] 49))) (froz_al (lt_of_cell d0') f0 (.cells #[.int .i64 (stN c (n + 1) s).pc, .slice qr ((stN c (n + 1) s).regs.length) sr, .slice qx ((stN c (n + 1) s).mem.vals.length) sx, .slice qy ((stN c (n + 1) s).mem.arrs.length) sy] 49))
              replace f1 := kept_froz hb (lt_of_cell (cell_al d1 (.cells #[.int .i64 (stN c (n + 1) s).pc, .slice qr ((stN c (n + 1) s).regs.length) sr, .slice qx ((stN c (n + 1) s).mem.vals.length) sx, .slice qy ((stN c (n + 1) s).mem.arrs.length) sy] 49))) (froz_al (lt_of_cell d1) f1 (.cells #[.int .i64 (stN c (n + 1) s).pc, .slice qr ((stN c (n + 1) s).regs.length) sr, .slice qx ((stN c (n + 1) s).mem.vals.length) sx, .slice qy ((stN c (n + 1) s).mem.arrs.length) sy] 49))
              replace f2 := kept_froz hb (lt_of_cell (cell_al d2 (.cells #[.int .i64 (stN c (n + 1) s).pc, .slice qr ((stN c (n + 1) s).regs.length) sr, .slice qx ((stN c (n + 1) s).mem.vals.length) sx, .slice qy ((stN c (n + 1) s).mem.arrs.length) sy] 49))) (froz_al (lt_of_cell d2) f2 (.cells #[.int .i64 (stN c (n + 1) s).pc, .slice qr ((stN c (n + 1) s).regs.length) sr, .slice qx ((stN c (n + 1) s).mem.vals.length) sx, .slice qy ((stN c (n + 1) s).mem.arrs.length) sy] 49))
              replace f3 := kept_froz hb (lt_of_cell (cell_al d3 (.cells #[.int .i64 (stN c (n + 1) s).pc, .slice qr ((stN c (n + 1) s).regs.length) sr, .slice qx ((stN c (n + 1) s).mem.vals.length) sx, .slice qy ((stN c (n + 1) s).mem.arrs.length) sy] 49))) (froz_al (lt_of_cell d3) f3 (.cells #[.int .i64 (stN c (n + 1) s).pc, .slice qr ((stN c (n + 1) s).regs.length) sr, .slice qx ((stN c (n + 1) s).mem.vals.length) sx, .slice qy ((stN c (n + 1) s).mem.arrs.length) sy] 49))
              replace bf160 := kept_froz hb (lt_of_cell (cell_al bx159 (.cells #[.int .i64 (stN c (n + 1) s).pc, .slice qr ((stN c (n + 1) s).regs.length) sr, .slice qx ((stN c (n + 1) s).mem.vals.length) sx, .slice qy ((stN c (n + 1) s).mem.arrs.length) sy] 49))) (froz_al (lt_of_cell bx159) bf160 (.cells #[.int .i64 (stN c (n + 1) s).pc, .slice qr ((stN c (n + 1) s).regs.length) sr, .slice qx ((stN c (n + 1) s).mem.vals.length) sx, .slice qy ((stN c (n + 1) s).mem.arrs.length) sy] 49))
              replace bf162 := kept_froz hb (lt_of_cell (cell_al bx161 (.cells #[.int .i64 (stN c (n + 1) s).pc, .slice qr ((stN c (n + 1) s).regs.length) sr, .slice qx ((stN c (n + 1) s).mem.vals.length) sx, .slice qy ((stN c (n + 1) s).mem.arrs.length) sy] 49))) (froz_al (lt_of_cell bx161) bf162 (.cells #[.int .i64 (stN c (n + 1) s).pc, .slice qr ((stN c (n + 1) s).regs.length) sr, .slice qx ((stN c (n + 1) s).mem.vals.length) sx, .slice qy ((stN c (n + 1) s).mem.arrs.length) sy] 49))
              replace bf164 := kept_froz hb (lt_of_cell (cell_al bx163 (.cells #[.int .i64 (stN c (n + 1) s).pc, .slice qr ((stN c (n + 1) s).regs.length) sr, .slice qx ((stN c (n + 1) s).mem.vals.length) sx, .slice qy ((stN c (n + 1) s).mem.arrs.length) sy] 49))) (froz_al (lt_of_cell bx163) bf164 (.cells #[.int .i64 (stN c (n + 1) s).pc, .slice qr ((stN c (n + 1) s).regs.length) sr, .slice qx ((stN c (n + 1) s).mem.vals.length) sx, .slice qy ((stN c (n + 1) s).mem.arrs.length) sy] 49))
              replace bf166 := kept_froz hb (lt_of_cell (cell_al bx165 (.cells #[.int .i64 (stN c (n + 1) s).pc, .slice qr ((stN c (n + 1) s).regs.length) sr, .slice qx ((stN c (n + 1) s).mem.vals.length) sx, .slice qy ((stN c (n + 1) s).mem.arrs.length) sy] 49))) (froz_al (lt_of_cell bx165) bf166 (.cells #[.int .i64 (stN c (n + 1) s).pc, .slice qr ((stN c (n + 1) s).regs.length) sr, .slice qx ((stN c (n + 1) s).mem.vals.length) sx, .slice qy ((stN c (n + 1) s).mem.arrs.length) sy] 49))
              replace bf168 := kept_froz hb (lt_of_cell (cell_al bx167 (.cells #[.int .i64 (stN c (n + 1) s).pc, .slice qr ((stN c (n + 1) s).regs.length) sr, .slice qx ((stN c (n + 1) s).mem.vals.length) sx, .slice qy ((stN c (n + 1) s).mem.arrs.length) sy] 49))) (froz_al (lt_of_cell bx167) bf168 (.cells #[.int .i64 (stN c (n + 1) s).pc, .slice qr ((stN c (n + 1) s).regs.length) sr, .slice qx ((stN c (n + 1) s).mem.vals.length) sx, .slice qy ((stN c (n + 1) s).mem.arrs.length) sy] 49))
              replace bx2 : w10.cell? ⟨w.heap.size, 0, none⟩ = some (.slice a0 c.vars.length c0) := kept_cell hb (cell_al bx2 (.cells #[.int .i64 (stN c (n + 1) s).pc, .slice qr ((stN c (n + 1) s).regs.length) sr, .slice qx ((stN c (n + 1) s).mem.vals.length) sx, .slice qy ((stN c (n + 1) s).mem.arrs.length) sy] 49))
              replace bx3 : w10.cell? ⟨w.heap.size, 1, none⟩ = some (.slice a1 c.arrays.length c1) := kept_cell hb (cell_al bx3 (.cells #[.int .i64 (stN c (n + 1) s).pc, .slice qr ((stN c (n + 1) s).regs.length) sr, .slice qx ((stN c (n + 1) s).mem.vals.length) sx, .slice qy ((stN c (n + 1) s).mem.arrs.length) sy] 49))
              replace bx4 : w10.cell? ⟨w.heap.size, 2, none⟩ = some (.slice (some ⟨b0, off, none⟩) c.list.length c2) := kept_cell hb (cell_al bx4 (.cells #[.int .i64 (stN c (n + 1) s).pc, .slice qr ((stN c (n + 1) s).regs.length) sr, .slice qx ((stN c (n + 1) s).mem.vals.length) sx, .slice qy ((stN c (n + 1) s).mem.arrs.length) sy] 49))
              replace bx7 : w10.cell? ⟨w.heap.size + 1 + 1, 0, none⟩ = some (.slice none 0 0) := kept_cell hb (cell_al bx7 (.cells #[.int .i64 (stN c (n + 1) s).pc, .slice qr ((stN c (n + 1) s).regs.length) sr, .slice qx ((stN c (n + 1) s).mem.vals.length) sx, .slice qy ((stN c (n + 1) s).mem.arrs.length) sy] 49))
              replace bx9 : w10.cell? ⟨w.heap.size + 1 + 1, 1, none⟩ = some (.slice none 0 0) := kept_cell hb (cell_al bx9 (.cells #[.int .i64 (stN c (n + 1) s).pc, .slice qr ((stN c (n + 1) s).regs.length) sr, .slice qx ((stN c (n + 1) s).mem.vals.length) sx, .slice qy ((stN c (n + 1) s).mem.arrs.length) sy] 49))
              replace d1 : w10.cell? ⟨bb, 1, none⟩ = some (.slice (some ⟨gr, 0, none⟩) 14 14) := kept_cell hb (cell_al d1 (.cells #[.int .i64 (stN c (n + 1) s).pc, .slice qr ((stN c (n + 1) s).regs.length) sr, .slice qx ((stN c (n + 1) s).mem.vals.length) sx, .slice qy ((stN c (n + 1) s).mem.arrs.length) sy] 49))
              replace d2 : w10.cell? ⟨bb, 2, none⟩ = some (.slice px m.vals.length tx) := kept_cell hb (cell_al d2 (.cells #[.int .i64 (stN c (n + 1) s).pc, .slice qr ((stN c (n + 1) s).regs.length) sr, .slice qx ((stN c (n + 1) s).mem.vals.length) sx, .slice qy ((stN c (n + 1) s).mem.arrs.length) sy] 49))
              replace d3 : w10.cell? ⟨bb, 3, none⟩ = some (.slice py m.arrs.length ty) := kept_cell hb (cell_al d3 (.cells #[.int .i64 (stN c (n + 1) s).pc, .slice qr ((stN c (n + 1) s).regs.length) sr, .slice qx ((stN c (n + 1) s).mem.vals.length) sx, .slice qy ((stN c (n + 1) s).mem.arrs.length) sy] 49))
              replace hCa := (hCa.trans (Chg.of_below (bal (bself _) (.cells #[.int .i64 (stN c (n + 1) s).pc, .slice qr ((stN c (n + 1) s).regs.length) sr, .slice qx ((stN c (n + 1) s).mem.vals.length) sx, .slice qy ((stN c (n + 1) s).mem.arrs.length) sy] 49)))).trans (Chg.of_below hb)
              replace bx159 : w10.cell? ⟨wr.heap.size, 0, none⟩ = some (.int .i64 x.op) := kept_cell hb (cell_al bx159 (.cells #[.int .i64 (stN c (n + 1) s).pc, .slice qr ((stN c (n + 1) s).regs.length) sr, .slice qx ((stN c (n + 1) s).mem.vals.length) sx, .slice qy ((stN c (n + 1) s).mem.arrs.length) sy] 49))
              replace bx161 : w10.cell? ⟨wr.heap.size, 1, none⟩ = some (.int .i64 x.a) := kept_cell hb (cell_al bx161 (.cells #[.int .i64 (stN c (n + 1) s).pc, .slice qr ((stN c (n + 1) s).regs.length) sr, .slice qx ((stN c (n + 1) s).mem.vals.length) sx, .slice qy ((stN c (n + 1) s).mem.arrs.length) sy] 49))
              replace bx163 : w10.cell? ⟨wr.heap.size, 2, none⟩ = some (.int .i64 x.b) := kept_cell hb (cell_al bx163 (.cells #[.int .i64 (stN c (n + 1) s).pc, .slice qr ((stN c (n + 1) s).regs.length) sr, .slice qx ((stN c (n + 1) s).mem.vals.length) sx, .slice qy ((stN c (n + 1) s).mem.arrs.length) sy] 49))
              replace bx165 : w10.cell? ⟨wr.heap.size, 3, none⟩ = some (.int .i64 x.c) := kept_cell hb (cell_al bx165 (.cells #[.int .i64 (stN c (n + 1) s).pc, .slice qr ((stN c (n + 1) s).regs.length) sr, .slice qx ((stN c (n + 1) s).mem.vals.length) sx, .slice qy ((stN c (n + 1) s).mem.arrs.length) sy] 49))
              replace bx167 : w10.cell? ⟨wr.heap.size, 4, none⟩ = some (.int .i64 x.d) := kept_cell hb (cell_al bx167 (.cells #[.int .i64 (stN c (n + 1) s).pc, .slice qr ((stN c (n + 1) s).regs.length) sr, .slice qx ((stN c (n + 1) s).mem.vals.length) sx, .slice qy ((stN c (n + 1) s).mem.arrs.length) sy] 49))
              replace E5 := own_below (own_below E5 (bal (bself _) (.cells #[.int .i64 (stN c (n + 1) s).pc, .slice qr ((stN c (n + 1) s).regs.length) sr, .slice qx ((stN c (n + 1) s).mem.vals.length) sx, .slice qy ((stN c (n + 1) s).mem.arrs.length) sy] 49))) hb
              replace O5' := (O5'.below (bal (bself _) (.cells #[.int .i64 (stN c (n + 1) s).pc, .slice qr ((stN c (n + 1) s).regs.length) sr, .slice qx ((stN c (n + 1) s).mem.vals.length) sx, .slice qy ((stN c (n + 1) s).mem.arrs.length) sy] 49))).below hb
              replace d0' : w10.cell? ⟨bb, 0, none⟩ = some (.int .i64 ((stN c (n + 1) s).pc)) := kept_cell hb (cell_al d0' (.cells #[.int .i64 (stN c (n + 1) s).pc, .slice qr ((stN c (n + 1) s).regs.length) sr, .slice qx ((stN c (n + 1) s).mem.vals.length) sx, .slice qy ((stN c (n + 1) s).mem.arrs.length) sy] 49))
              replace hwn : w10.cell? ⟨bw, ow + bn, none⟩ = some (.bool true) := kept_cell hb (cell_al hwn (.cells #[.int .i64 (stN c (n + 1) s).pc, .slice qr ((stN c (n + 1) s).regs.length) sr, .slice qx ((stN c (n + 1) s).mem.vals.length) sx, .slice qy ((stN c (n + 1) s).mem.arrs.length) sy] 49))
              replace O6 := (O6.below (bal (bself _) (.cells #[.int .i64 (stN c (n + 1) s).pc, .slice qr ((stN c (n + 1) s).regs.length) sr, .slice qx ((stN c (n + 1) s).mem.vals.length) sx, .slice qy ((stN c (n + 1) s).mem.arrs.length) sy] 49))).below hb
              have bx208 : w10.cell? ⟨w9.heap.size, 0, none⟩ = some (.int .i64 (stN c (n + 1) s).pc) := kept_cell hb (cell_nw (by simp) (by rfl))
              have bf209 : w10.frozen? ⟨w9.heap.size, 0, none⟩ = false := kept_froz hb (by simp) (froz_nw (by simp))
              have bx210 : w10.cell? ⟨w9.heap.size, 1, none⟩ = some (.slice qr ((stN c (n + 1) s).regs.length) sr) := kept_cell hb (cell_nw (by simp) (by rfl))
              have bf211 : w10.frozen? ⟨w9.heap.size, 1, none⟩ = false := kept_froz hb (by simp) (froz_nw (by simp))
              have bx212 : w10.cell? ⟨w9.heap.size, 2, none⟩ = some (.slice qx ((stN c (n + 1) s).mem.vals.length) sx) := kept_cell hb (cell_nw (by simp) (by rfl))
              have bf213 : w10.frozen? ⟨w9.heap.size, 2, none⟩ = false := kept_froz hb (by simp) (froz_nw (by simp))
              have bx214 : w10.cell? ⟨w9.heap.size, 3, none⟩ = some (.slice qy ((stN c (n + 1) s).mem.arrs.length) sy) := kept_cell hb (cell_nw (by simp) (by rfl))
              have bf215 : w10.frozen? ⟨w9.heap.size, 3, none⟩ = false := kept_froz hb (by simp) (froz_nw (by simp))
              replace tot := btr (bal tot (.cells #[.int .i64 (stN c (n + 1) s).pc, .slice qr ((stN c (n + 1) s).regs.length) sr, .slice qx ((stN c (n + 1) s).mem.vals.length) sx, .slice qy ((stN c (n + 1) s).mem.arrs.length) sy] 49)) hb
              clear hb
              clear bx159 bf160 bx161 bf162 bx163 bf164 bx165 bf166 bx167 bf168
              clear lt201 lt202 lt203 lt204 lt205
              have lt216 := lt_of_cell bx2
              have lt217 := lt_of_cell bx7
              have lt218 := lt_of_cell d1
              have lt219 := lt_of_cell hwn
              have lt220 := lt_of_cell bx208
              go_upto_region 16 with (fail)
              obtain ⟨wx20, hnw⟩ : ∃ X, X = (World.setCell w10 ⟨w9.heap.size, 0, none⟩ (.int .i64 tq)) := ⟨_, rfl⟩
              have hb : Below (World.setCell w10 ⟨w9.heap.size, 0, none⟩ (.int .i64 tq)).heap.size (World.setCell w10 ⟨w9.heap.size, 0, none⟩ (.int .i64 tq)) wx20 := by rw [hnw]; exact bself _
              have hsz221 := hb.size
              simp only [World.size_setCell] at hsz221
              replace bf8 := kept_froz hb (lt_of_cell (cell_ne (b := (w9.heap.size)) (j := 0) bx7 (by omega) (.int .i64 tq))) (froz_st (b := ⟨(w9.heap.size), 0, none⟩) bf8 (.int .i64 tq))
              replace bf10 := kept_froz hb (lt_of_cell (cell_ne (b := (w9.heap.size)) (j := 0) bx9 (by omega) (.int .i64 tq))) (froz_st (b := ⟨(w9.heap.size), 0, none⟩) bf10 (.int .i64 tq))
              replace f0 := kept_froz hb (lt_of_cell (cell_ne (b := (w9.heap.size)) (j := 0) d0' (by omega) (.int .i64 tq))) (froz_st (b := ⟨(w9.heap.size), 0, none⟩) f0 (.int .i64 tq))
              replace f1 := kept_froz hb (lt_of_cell (cell_ne (b := (w9.heap.size)) (j := 0) d1 (by omega) (.int .i64 tq))) (froz_st (b := ⟨(w9.heap.size), 0, none⟩) f1 (.int .i64 tq))
              replace f2 := kept_froz hb (lt_of_cell (cell_ne (b := (w9.heap.size)) (j := 0) d2 (by omega) (.int .i64 tq))) (froz_st (b := ⟨(w9.heap.size), 0, none⟩) f2 (.int .i64 tq))
              replace f3 := kept_froz hb (lt_of_cell (cell_ne (b := (w9.heap.size)) (j := 0) d3 (by omega) (.int .i64 tq))) (froz_st (b := ⟨(w9.heap.size), 0, none⟩) f3 (.int .i64 tq))
              replace bf209 := kept_froz hb (lt_of_cell (cell_at _ (w9.heap.size) 0 (.int .i64 tq) bx208)) (froz_st (b := ⟨(w9.heap.size), 0, none⟩) bf209 (.int .i64 tq))
              replace bf211 := kept_froz hb (lt_of_cell (cell_ne (b := (w9.heap.size)) (j := 0) bx210 (by omega) (.int .i64 tq))) (froz_st (b := ⟨(w9.heap.size), 0, none⟩) bf211 (.int .i64 tq))
              replace bf213 := kept_froz hb (lt_of_cell (cell_ne (b := (w9.heap.size)) (j := 0) bx212 (by omega) (.int .i64 tq))) (froz_st (b := ⟨(w9.heap.size), 0, none⟩) bf213 (.int .i64 tq))
              replace bf215 := kept_froz hb (lt_of_cell (cell_ne (b := (w9.heap.size)) (j := 0) bx214 (by omega) (.int .i64 tq))) (froz_st (b := ⟨(w9.heap.size), 0, none⟩) bf215 (.int .i64 tq))
              replace bx2 : wx20.cell? ⟨w.heap.size, 0, none⟩ = some (.slice a0 c.vars.length c0) := kept_cell hb (cell_ne (b := (w9.heap.size)) (j := 0) bx2 (by omega) (.int .i64 tq))
              replace bx3 : wx20.cell? ⟨w.heap.size, 1, none⟩ = some (.slice a1 c.arrays.length c1) := kept_cell hb (cell_ne (b := (w9.heap.size)) (j := 0) bx3 (by omega) (.int .i64 tq))
              replace bx4 : wx20.cell? ⟨w.heap.size, 2, none⟩ = some (.slice (some ⟨b0, off, none⟩) c.list.length c2) := kept_cell hb (cell_ne (b := (w9.heap.size)) (j := 0) bx4 (by omega) (.int .i64 tq))
              replace bx7 : wx20.cell? ⟨w.heap.size + 1 + 1, 0, none⟩ = some (.slice none 0 0) := kept_cell hb (cell_ne (b := (w9.heap.size)) (j := 0) bx7 (by omega) (.int .i64 tq))
              replace bx9 : wx20.cell? ⟨w.heap.size + 1 + 1, 1, none⟩ = some (.slice none 0 0) := kept_cell hb (cell_ne (b := (w9.heap.size)) (j := 0) bx9 (by omega) (.int .i64 tq))
              replace d1 : wx20.cell? ⟨bb, 1, none⟩ = some (.slice (some ⟨gr, 0, none⟩) 14 14) := kept_cell hb (cell_ne (b := (w9.heap.size)) (j := 0) d1 (by omega) (.int .i64 tq))
              replace d2 : wx20.cell? ⟨bb, 2, none⟩ = some (.slice px m.vals.length tx) := kept_cell hb (cell_ne (b := (w9.heap.size)) (j := 0) d2 (by omega) (.int .i64 tq))
              replace d3 : wx20.cell? ⟨bb, 3, none⟩ = some (.slice py m.arrs.length ty) := kept_cell hb (cell_ne (b := (w9.heap.size)) (j := 0) d3 (by omega) (.int .i64 tq))
              replace hCa := (hCa.setCell (w9.heap.size) 0 (.int .i64 tq) (fun _ => (by first | exact Or.inl rfl | (refine Or.inr (Or.inr ?_); omega)))).trans (Chg.of_below hb)
              replace E5 := own_below (own_set E5 (w9.heap.size) 0 (fun h => by have := iE5 _ h; omega) (.int .i64 tq)) hb
              replace O5' := (O5'.keep ((Chg.refl (fun gk => gk = (w9.heap.size)) _).setCell (w9.heap.size) 0 (.int .i64 tq) (fun _ => rfl)) (fun gq h h2 => by have := iO5 gq h; omega)).below hb
              replace d0' : wx20.cell? ⟨bb, 0, none⟩ = some (.int .i64 ((stN c (n + 1) s).pc)) := kept_cell hb (cell_ne (b := (w9.heap.size)) (j := 0) d0' (by omega) (.int .i64 tq))
              replace hwn : wx20.cell? ⟨bw, ow + bn, none⟩ = some (.bool true) := kept_cell hb (cell_ne (b := (w9.heap.size)) (j := 0) hwn (by omega) (.int .i64 tq))
              replace O6 := (O6.keep ((Chg.refl (fun gk => gk = (w9.heap.size)) _).setCell (w9.heap.size) 0 (.int .i64 tq) (fun _ => rfl)) (fun gq h h2 => by have := iv206 gq h; omega)).below hb
              replace bx208 : wx20.cell? ⟨w9.heap.size, 0, none⟩ = some (.int .i64 tq) := kept_cell hb (cell_at _ (w9.heap.size) 0 (.int .i64 tq) bx208)
              replace bx210 : wx20.cell? ⟨w9.heap.size, 1, none⟩ = some (.slice qr ((stN c (n + 1) s).regs.length) sr) := kept_cell hb (cell_ne (b := (w9.heap.size)) (j := 0) bx210 (by omega) (.int .i64 tq))
              replace bx212 : wx20.cell? ⟨w9.heap.size, 2, none⟩ = some (.slice qx ((stN c (n + 1) s).mem.vals.length) sx) := kept_cell hb (cell_ne (b := (w9.heap.size)) (j := 0) bx212 (by omega) (.int .i64 tq))
              replace bx214 : wx20.cell? ⟨w9.heap.size, 3, none⟩ = some (.slice qy ((stN c (n + 1) s).mem.arrs.length) sy) := kept_cell hb (cell_ne (b := (w9.heap.size)) (j := 0) bx214 (by omega) (.int .i64 tq))
              replace tot := btr (bst tot (w9.heap.size) 0 (by omega) (.int .i64 tq)) hb
              clear hb
              rw [← hnw]
              clear hnw
              clear lt216 lt217 lt218 lt219 lt220
              have lt222 := lt_of_cell bx2
              have lt223 := lt_of_cell bx7
              have lt224 := lt_of_cell d1
              have lt225 := lt_of_cell hwn
              have lt226 := lt_of_cell bx208
              clear hwn
              have HOT : Hid ((othS c (stN c n s)).pc = tq) := Lib.hid (by have h := oth_spec (c := c) (s := stN c n s) HBO.out; rw [HAT.out, HPCK.out] at h; rw [HTQ.out]; show othPc (insAt c (stN c n s).pc) (stN c n s).pc _ = _; rw [HAT.out, HPCK.out, ← h]; rw [← HAT.out]; rfl)
              have HP := Lib.hid (with_list2 (by have h := sPath_any _ _ _ _ _ _ us2 _ c (othS c (stN c n s)) _ w3.heap.size Q' _ (HR.out wx20 tot) O6 E5 (fun q h h2 => by have h3 := iv206 q h2; have h4 := iE5 q h; omega) (by omega) hQl2 (fun q h => ⟨fun h2 => by have h3 := iv206 q h2; have h4 := ivr q h; omega, fun h2 => by have h4 := iE5 q h2; have h5 := ivr q h; omega⟩) (oth_ok HOC.out HMNN.out HBO.out) HOC.out; rw [HOT.out] at h; exact h))
              have iS : ∀ q, (OwnMB (.slice qr (stN c (n + 1) s).regs.length sr) (.slice qx (stN c (n + 1) s).mem.vals.length sx) (.slice qy (stN c (n + 1) s).mem.arrs.length sy) us2 q ∨ (Value.slice pu' Q'.length tu').ownBlock = some q) → w3.heap.size ≤ q ∧ ¬ q = bb ∧ ¬ q = wr.heap.size ∧ ¬ q = w9.heap.size ∧ (q < wx20.heap.size → ¬ OwnMB (.slice (some ⟨gr, 0, none⟩) 14 14) (.slice px m.vals.length tx) (.slice py m.arrs.length ty) us q) := fun q h => by rcases h with h | h; (have h3 := iv206 q h; exact ⟨by omega, by omega, by omega, by omega, fun h4 h5 => by have := iO5 q h5; omega⟩); (have h3 := iE5 q h; exact ⟨h3.1, h3.2.2.1, h3.2.2.2, by omega, fun _ h5 => HED.out q h h5⟩)
              clear O6 E5
              go_wp2_with fail
              refine (HP.out).mono ?_
              rintro e w12 ⟨v', Q2, HQ3, rfl, E6, hd6, hC6⟩
              obtain ⟨pv', tv', rfl⟩ := own_shape E6
              replace hCa := chg_then hCa hC6 (fun q _ h => Or.inr (Or.inr (iS q h).1))
              have hsz227 := hC6.size
              replace bf8 := chg_froz hC6 (lt_of_cell bx7) bf8 (fun h => by have := iS _ h; omega)
              replace bf10 := chg_froz hC6 (lt_of_cell bx9) bf10 (fun h => by have := iS _ h; omega)
              replace f0 := chg_froz hC6 (lt_of_cell d0') f0 (fun h => by have := iS _ h; omega)
              replace f1 := chg_froz hC6 (lt_of_cell d1) f1 (fun h => by have := iS _ h; omega)
              replace f2 := chg_froz hC6 (lt_of_cell d2) f2 (fun h => by have := iS _ h; omega)
              replace f3 := chg_froz hC6 (lt_of_cell d3) f3 (fun h => by have := iS _ h; omega)
              replace bf209 := chg_froz hC6 (lt_of_cell bx208) bf209 (fun h => by have := iS _ h; omega)
              replace bf211 := chg_froz hC6 (lt_of_cell bx210) bf211 (fun h => by have := iS _ h; omega)
              replace bf213 := chg_froz hC6 (lt_of_cell bx212) bf213 (fun h => by have := iS _ h; omega)
              replace bf215 := chg_froz hC6 (lt_of_cell bx214) bf215 (fun h => by have := iS _ h; omega)
              replace bx2 : w12.cell? ⟨w.heap.size, 0, none⟩ = some (.slice a0 c.vars.length c0) := chg_cell hC6 bx2 (fun h => by have := iS _ h; omega)
              replace bx3 : w12.cell? ⟨w.heap.size, 1, none⟩ = some (.slice a1 c.arrays.length c1) := chg_cell hC6 bx3 (fun h => by have := iS _ h; omega)
              replace bx4 : w12.cell? ⟨w.heap.size, 2, none⟩ = some (.slice (some ⟨b0, off, none⟩) c.list.length c2) := chg_cell hC6 bx4 (fun h => by have := iS _ h; omega)
              replace bx7 : w12.cell? ⟨w.heap.size + 1 + 1, 0, none⟩ = some (.slice none 0 0) := chg_cell hC6 bx7 (fun h => by have := iS _ h; omega)
              replace bx9 : w12.cell? ⟨w.heap.size + 1 + 1, 1, none⟩ = some (.slice none 0 0) := chg_cell hC6 bx9 (fun h => by have := iS _ h; omega)
              replace d1 : w12.cell? ⟨bb, 1, none⟩ = some (.slice (some ⟨gr, 0, none⟩) 14 14) := chg_cell hC6 d1 (fun h => by have := iS _ h; omega)
              replace d2 : w12.cell? ⟨bb, 2, none⟩ = some (.slice px m.vals.length tx) := chg_cell hC6 d2 (fun h => by have := iS _ h; omega)
              replace d3 : w12.cell? ⟨bb, 3, none⟩ = some (.slice py m.arrs.length ty) := chg_cell hC6 d3 (fun h => by have := iS _ h; omega)
              replace O5' := O5'.keep hC6 (fun gq h h2 => (fun gq h h2 => (iS gq h2).2.2.2.2 (by have := iO5 gq h; omega) h) gq h h2)
              replace d0' : w12.cell? ⟨bb, 0, none⟩ = some (.int .i64 ((stN c (n + 1) s).pc)) := chg_cell hC6 d0' (fun h => by have := iS _ h; omega)
              replace bx208 : w12.cell? ⟨w9.heap.size, 0, none⟩ = some (.int .i64 tq) := chg_cell hC6 bx208 (fun h => by have := iS _ h; omega)
              replace bx210 : w12.cell? ⟨w9.heap.size, 1, none⟩ = some (.slice qr ((stN c (n + 1) s).regs.length) sr) := chg_cell hC6 bx210 (fun h => by have := iS _ h; omega)
              replace bx212 : w12.cell? ⟨w9.heap.size, 2, none⟩ = some (.slice qx ((stN c (n + 1) s).mem.vals.length) sx) := chg_cell hC6 bx212 (fun h => by have := iS _ h; omega)
              replace bx214 : w12.cell? ⟨w9.heap.size, 3, none⟩ = some (.slice qy ((stN c (n + 1) s).mem.arrs.length) sy) := chg_cell hC6 bx214 (fun h => by have := iS _ h; omega)
              replace tot := tot.trans (hC6.below w.heap.size (by have := tot.size; omega) (fun gq hgq h => by have := iS gq h; omega))
              clear hC6
              clear bx208 bf209 bx210 bf211 bx212 bf213 bx214 bf215
              clear lt222 lt223 lt224 lt225 lt226
              have lt228 := lt_of_cell bx2
              have lt229 := lt_of_cell bx7
              have lt230 := lt_of_cell d1
              have HEDx : Hid (∀ q, (Value.slice pv' Q2.length tv').ownBlock = some q → ¬ OwnMB (.slice (some ⟨gr, 0, none⟩) 14 14) (.slice px m.vals.length tx) (.slice py m.arrs.length ty) us q ∧ ¬ q = bb) := Lib.hid (fun q h => by rcases (hd6 q h).2 with h2 | h2; exact ⟨HED.out q h2, (iE5 q h2).2.2.1⟩; exact ⟨fun h3 => by have := iO5 q h3; omega, by have := lt_of_cell d0'; omega⟩)
              have iv231 := E6.lt
              skip
              have hqe : Hid (Q2 = spN c ws (n + 1) s) := Lib.hid (by rw [HQ3.out, HQ2.out]; show _ = (spN c ws n s ++ _) ++ spX c ws s n; rw [HSX.out, hbr, HWR.out]; rfl)
              have LN : Hid (L11 c ws s w4 w12 w1.heap.size w3.heap.size bb (.slice (some ⟨gr, 0, none⟩) 14 14) (.slice px m.vals.length tx) (.slice py m.arrs.length ty) us (Value.slice pv' Q2.length tv') (n + 1) Q2) := Lib.hid ⟨d0', d1, d2, d3, f0, f1, f2, f3, O5', E6, hqe, HEDx.out, HNO1.out, hCa⟩
              clear E6 O5' hCa f0 f1 f2 f3 hqe
              go_wp2
              go_roundw
              case rel => exact ⟨n + 1, bn + 1, Q2, by omega, by go_num, by go_num, by omega, Lib.hid (by have h := HB1.out; rw [hbr] at h; unfold brI at h; rw [if_pos rfl] at h; omega), LN.out⟩
              case measure => simp [intOf]; omega
          · have HWR := Lib.hid (wr_out hlw)
            have hlq : ¬ (bn : Int) < (ws.length : Int) := by omega
            have HEDx : Hid (∀ q, (Value.slice pu' Q'.length tu').ownBlock = some q → ¬ OwnMB (.slice (some ⟨gr, 0, none⟩) 14 14) (.slice px m.vals.length tx) (.slice py m.arrs.length ty) us q ∧ ¬ q = bb) := Lib.hid (fun q h => ⟨HED.out q h, (iE5 q h).2.2.1⟩)
            skip
            have hqe : Hid (Q' = spN c ws (n + 1) s) := Lib.hid (by rw [HQ2.out]; show _ = (spN c ws n s ++ _) ++ spX c ws s n; rw [HSX.out, hbr, HWR.out]; exact (List.append_nil _).symm)
            have LN : Hid (L11 c ws s w4 w8 w1.heap.size w3.heap.size bb (.slice (some ⟨gr, 0, none⟩) 14 14) (.slice px m.vals.length tx) (.slice py m.arrs.length ty) us (Value.slice pu' Q'.length tu') (n + 1) Q') := Lib.hid ⟨d0', d1, d2, d3, f0, f1, f2, f3, O5', E5, hqe, HEDx.out, HNO1.out, hCa⟩
            clear E5 O5' hCa f0 f1 f2 f3 hqe
            go_wp2
            go_roundw
            case rel => exact ⟨n + 1, bn + 1, Q', by omega, by go_num, by go_num, by omega, Lib.hid (by have h := HB1.out; rw [hbr] at h; unfold brI at h; rw [if_pos rfl] at h; omega), LN.out⟩
            case measure => simp [intOf]; omega
    · have en : n = 20000 := by omega
      subst en
      have HRR := Lib.hid (HRN.out HL.out.no); have HTT := Lib.hid (HTN.out HRR.out); have HMM := Lib.hid (HMN.out HRR.out)
      clear HL
      have lt232 := lt_of_cell bx2
      have lt233 := lt_of_cell bx7
      have ef := (World.ownsRow_lit (base := ((World.setCell (World.setCell wr ⟨w.heap.size + 1 + 1, 0, none⟩ (.slice none 0 0)) ⟨w.heap.size + 1 + 1, 1, none⟩ (.slice none 0 0))).heap.size) (e := 89) (size := 2) ((World.setCell (World.setCell wr ⟨w.heap.size + 1 + 1, 0, none⟩ (.slice none 0 0)) ⟨w.heap.size + 1 + 1, 1, none⟩ (.slice none 0 0))) #[] 0 (Nat.le_refl _) (by unfold maxLen; omega) (by simp))
      try simp only [World.size_alloc, World.size_setCell] at ef
      have EF := Lib.hid ef; clear ef
      have x235 := (cell_al (cell_ne (b := (w.heap.size + 1 + 1)) (j := 1) (cell_at _ (w.heap.size + 1 + 1) 0 (.slice none 0 0) bx7) (by omega) (.slice none 0 0)) (.cells #[] 89))
      have x236 := (cell_al (cell_at _ (w.heap.size + 1 + 1) 1 (.slice none 0 0) (cell_ne (b := (w.heap.size + 1 + 1)) (j := 0) bx9 (by omega) (.slice none 0 0))) (.cells #[] 89))
      have tt := (bal (bst (bst totr (w.heap.size + 1 + 1) 0 (by omega) (.slice none 0 0)) (w.heap.size + 1 + 1) 1 (by omega) (.slice none 0 0)) (.cells #[] 89))
      go_wp2
      exact bodyPost_ret (v := .tuple #[.agg #[.slice none 0 0, .slice none 0 0], .slice (some ⟨wr.heap.size, 0, none⟩) 0 0, .bool false]) (by simp [results, Try.results83, go_sem, x235, x236]) rfl (by exact by rw [HRR.out, HTT.out, HMM.out]; exact ⟨_, _, [], _, rfl, own_mono EF.out (by omega), noMem_own _ _, tt⟩)
end Go.Proofs.Ytbglogjamfdmpaa
