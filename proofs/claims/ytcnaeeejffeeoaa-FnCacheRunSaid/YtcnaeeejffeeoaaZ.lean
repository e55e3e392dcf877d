import Derived.Test.YtcnaeeejffeeoaaY
namespace Go.Proofs.Ytcnaeeejffeeoaa
open Go.RowKit

theorem num_any (v : Value) (xs : List Int) (w : World) (B g p : Nat) (hr : Rnd w B g p) (hx : Reads w 1 v xs.length (ints xs)) (hd : ∀ b o c, v = .slice (some ⟨b, o, none⟩) xs.length c → ¬ b = g) (h1 : 1 ≤ xs.length) (h2 : xs.length ≤ 1073741824) (hp : p ≤ 1099511627776) :
    Calls Try.prog 53 #[.pointer (some ⟨g, 0, none⟩), v] w fun e w' => ∃ r : Int, r ∈ xs ∧ e = .returned (.int .i64 r) ∧ Rnd w' B g (p + 1) ∧ Chg (fun k => k = g) w w' := by
  have hx0 := hx
  obtain ⟨_, hn, a, cap, b, off, rfl, hcap, ha, hca⟩ := hx
  obtain ⟨rfl, hb⟩ := ha h1
  have hbg := hd b off cap rfl
  clear hd
  go_enter Try.func53, Try.ntmps53
  go_wp2_with fail
  refine (pick_any _ w B g p hr (by omega) (by omega) hp).mono ?_
  rintro e w1 ⟨r, hr0, hr1, rfl, hr', hc⟩
  obtain ⟨k, rfl⟩ := Int.eq_ofNat_of_zero_le hr0
  have hk : k < xs.length := by omega
  have hc1 := (hc.cell (off + k) hb hbg).trans (hca k (by simpa [ints] using hk))
  rw [ints_get] at hc1
  have hmem : xs[k] ∈ xs := List.getElem_mem hk
  clear hca hx0
  go_wp2
  go_ret
  exact ⟨xs[k], hmem, rfl, hr', hc⟩

theorem rnd_new (w : World) (a : Option Addr) (b off L cap : Nat) (t : TypeId) (vs : List Int) (hl : L ≤ vs.length) (hL : L ≤ 1048576) (hv : ∀ x ∈ vs, 0 ≤ x ∧ x < 256) (ha : 0 < L → a = some ⟨b, off, none⟩ ∧ b < w.heap.size)
    (hc : ∀ j (h : j < vs.length), w.cell? ⟨b, off + j, none⟩ = some (.int .u8 vs[j])) : Rnd (w.alloc (.cells #[.slice a L cap, .int .i64 0] t)) w.heap.size w.heap.size 0 := by
  have hb := bal (bself w) (.cells #[.slice a L cap, .int .i64 0] t)
  refine ⟨a, L, cap, ?_, ?_, froz_new _ _ _ _, hL, Nat.le_refl _, hb.size, fun h0 => ?_⟩
  · rw [cell_of_row _ _ 0 _ t (0, 0) (heap_alloc_new w _)]; rfl
  · rw [cell_of_row _ _ 1 _ t (0, 0) (heap_alloc_new w _)]; rfl
  · obtain ⟨h1, h2⟩ := ha h0
    refine ⟨b, off, h1, h2, fun j hj => ⟨vs[j]'(by omega), (hv _ (List.getElem_mem _)).1, (hv _ (List.getElem_mem _)).2, ?_⟩⟩
    exact (hb.cell (p := ⟨b, off + j, none⟩) h2).trans (hc j (by omega))

theorem reads_lit (w : World) (xs : List Int) (e : TypeId) (h : xs.length ≤ 1073741824) : Reads (w.alloc (.cells (ints xs).toArray e)) 1 (.slice (some ⟨w.heap.size, 0, none⟩) xs.length xs.length) xs.length (ints xs) := by
  have ho := World.ownsRow_lit (base := w.heap.size) (e := e) (size := 1) w (ints xs).toArray xs.length (Nat.le_refl _) (by unfold maxLen; omega) (by simp [ints])
  have hr := reads_of_owns ho (by omega)
  simpa using hr

theorem l17Open_any (v : Value) (n : Nat) (vs : List Int) (w : World) (hr : Reads w 1 v n (vs.map (Value.int .u8))) (hv : ∀ x ∈ vs, 0 ≤ x ∧ x < 256) (hn : n ≤ 1048576) :
    Calls Try.prog 51 #[v] w fun e w' => ∃ g, e = .returned (.pointer (some ⟨g, 0, none⟩)) ∧ Rnd w' w.heap.size g 0 ∧ Below w.heap.size w w' := by
  obtain ⟨hl, _, a, cap, b, off, rfl, ⟨hcap, hnil⟩, ha, hca⟩ := hr
  have hc : ∀ j (h : j < vs.length), w.cell? ⟨b, off + j, none⟩ = some (.int .u8 vs[j]) := fun j h => by
    rw [hca j (by simpa using h)]; simp
  clear hca
  by_cases h2 : 2000 < n
  · obtain ⟨rfl, hb⟩ := ha (by omega)
    have h3 : (2000 : Int) < (n : Int) := by omega
    have hcc : 2000 ≤ cap := by omega
    go_enter Try.func51, Try.ntmps51
    go_wp2
    go_ret
    exact ⟨_, rfl, rnd_new w _ b off 2000 cap _ vs (by simp at hl; omega) (by omega) hv (fun _ => ⟨rfl, hb⟩) hc, bal (bself w) _⟩
  · have h3 : ¬ (2000 : Int) < (n : Int) := by omega
    go_enter Try.func51, Try.ntmps51
    go_wp2
    go_ret
    exact ⟨_, rfl, rnd_new w _ b off n cap _ vs (by simp at hl; omega) hn hv ha hc, bal (bself w) _⟩

theorem num_lit (xs : List Int) (w : World) (B g p : Nat) (e : TypeId) (hr : Rnd w B g p) (h1 : 1 ≤ xs.length) (h2 : xs.length ≤ 1073741824) (hp : p ≤ 1099511627776) :
    Calls Try.prog 53 #[.pointer (some ⟨g, 0, none⟩), .slice (some ⟨w.heap.size, 0, none⟩) xs.length xs.length] (w.alloc (.cells (ints xs).toArray e)) fun e' w' => ∃ r : Int, r ∈ xs ∧ e' = .returned (.int .i64 r) ∧ Rnd w' B g (p + 1) ∧ Chg (fun k => k = g) w w' := by
  have hg := hr.lt
  refine (num_any _ xs _ B g p (hr.below (bal (bself w) _)) (reads_lit w xs e h2) (fun b o c hb => ?_) h1 h2 hp).mono ?_
  · simp at hb; omega
  · rintro e' w' ⟨r, hm, he, hr', hc⟩
    exact ⟨r, hm, he, hr', (Chg.of_below (bal (bself w) _)).trans hc⟩
end Go.Proofs.Ytcnaeeejffeeoaa
