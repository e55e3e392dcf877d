/-
  Registers that an instruction writes and reads.
-/
import Derived.Test.YtkbbpnfhenoihaaVB
namespace Go.Proofs.Ytkbbpnfhenoihaa
open Go.RowKit

def wrt (x : Ins) : Int := if x.op = 1 then x.a else if x.op = 2 then x.a else if x.op = 4 then x.a else if x.op = 6 then x.a else if x.op = 7 then x.a else if x.op = 10 then x.a else -1
def use (x : Ins) : List Int := if x.op = 3 then [x.b] else if x.op = 4 then [x.c] else if x.op = 5 then [x.b, x.c] else if x.op = 6 then [x.c, x.d] else if x.op = 7 then [x.b, x.c, x.d] else if x.op = 9 then [x.a] else if x.op = 10 then [x.a] else if x.op = 11 then [x.a] else []
def knl (op : Int) : List UInt8 := if op = 1 then [50, 48] else if op = 2 then [50, 48] else if op = 3 then [48, 49] else if op = 4 then [50, 48, 49] else if op = 5 then [48, 49, 49] else if op = 6 then [50, 48, 49, 49] else if op = 7 then [50, 49, 49, 49] else if op = 8 then [48] else if op = 9 then [49, 48] else if op = 10 then [51, 48] else if op = 11 then [49] else []

set_option maxHeartbeats 6400000 in
theorem writes_any (x : Ins) (w : World) (hop : ¬ (x.op < 1 ∨ 13 < x.op)) :
    Calls Try.prog 152 #[.agg #[.int .i64 x.op, .int .i64 x.a, .int .i64 x.b, .int .i64 x.c, .int .i64 x.d]] w fun e w' => e = .returned (.int .i64 (wrt x)) ∧ Below w.heap.size w w' := by
  obtain ⟨op, a, b, c, d⟩ := x
  simp only at hop ⊢
  rcases shp_cases op with h | rfl | rfl | rfl | rfl | rfl | rfl | rfl | rfl | rfl | rfl | rfl | rfl | rfl
  · exact absurd h hop
  · clear hop
    go_enter Try.func152, Try.ntmps152
    go_wp2
    go_ret
    exact ⟨rfl, bal (bself w) _⟩
  · clear hop
    go_enter Try.func152, Try.ntmps152
    go_wp2
    go_ret
    exact ⟨rfl, bal (bself w) _⟩
  · clear hop
    go_enter Try.func152, Try.ntmps152
    go_wp2
    go_ret
    exact ⟨rfl, bal (bself w) _⟩
  · clear hop
    go_enter Try.func152, Try.ntmps152
    go_wp2
    go_ret
    exact ⟨rfl, bal (bself w) _⟩
  · clear hop
    go_enter Try.func152, Try.ntmps152
    go_wp2
    go_ret
    exact ⟨rfl, bal (bself w) _⟩
  · clear hop
    go_enter Try.func152, Try.ntmps152
    go_wp2
    go_ret
    exact ⟨rfl, bal (bself w) _⟩
  · clear hop
    go_enter Try.func152, Try.ntmps152
    go_wp2
    go_ret
    exact ⟨rfl, bal (bself w) _⟩
  · clear hop
    go_enter Try.func152, Try.ntmps152
    go_wp2
    go_ret
    exact ⟨rfl, bal (bself w) _⟩
  · clear hop
    go_enter Try.func152, Try.ntmps152
    go_wp2
    go_ret
    exact ⟨rfl, bal (bself w) _⟩
  · clear hop
    go_enter Try.func152, Try.ntmps152
    go_wp2
    go_ret
    exact ⟨rfl, bal (bself w) _⟩
  · clear hop
    go_enter Try.func152, Try.ntmps152
    go_wp2
    go_ret
    exact ⟨rfl, bal (bself w) _⟩
  · clear hop
    go_enter Try.func152, Try.ntmps152
    go_wp2
    go_ret
    exact ⟨rfl, bal (bself w) _⟩
  · clear hop
    go_enter Try.func152, Try.ntmps152
    go_wp2
    go_ret
    exact ⟨rfl, bal (bself w) _⟩

set_option maxHeartbeats 6400000 in
theorem uses_any (x : Ins) (w : World) (hop : ¬ (x.op < 1 ∨ 13 < x.op)) :
    Calls Try.prog 153 #[.agg #[.int .i64 x.op, .int .i64 x.a, .int .i64 x.b, .int .i64 x.c, .int .i64 x.d]] w fun e w' => ∃ u, e = .returned u ∧ w'.ownsRow w.heap.size 3 1 u (use x).length (ints (use x)) ∧ Below w.heap.size w w' := by
  obtain ⟨op, a, b, c, d⟩ := x
  simp only at hop ⊢
  rcases shp_cases op with h | rfl | rfl | rfl | rfl | rfl | rfl | rfl | rfl | rfl | rfl | rfl | rfl | rfl
  · exact absurd h hop
  · clear hop
    go_enter Try.func153, Try.ntmps153
    go_wp2
    go_ret
    exact ⟨_, rfl, World.ownsRow_nil _ _ _ _, bal (bself w) _⟩
  · clear hop
    go_enter Try.func153, Try.ntmps153
    go_wp2
    go_ret
    exact ⟨_, rfl, World.ownsRow_nil _ _ _ _, bal (bself w) _⟩
  · clear hop
    have ho := own_lit (w.alloc (.cells #[.int .i64 3, .int .i64 a, .int .i64 b, .int .i64 c, .int .i64 d] 98)) #[.int .i64 b] 1 3 rfl (by omega)
    simp only [World.size_alloc] at ho
    go_enter Try.func153, Try.ntmps153
    go_wp2
    go_ret
    exact ⟨_, rfl, own_mono ho (by omega), bal (bal (bself w) _) _⟩
  · clear hop
    have ho := own_lit (w.alloc (.cells #[.int .i64 4, .int .i64 a, .int .i64 b, .int .i64 c, .int .i64 d] 98)) #[.int .i64 c] 1 3 rfl (by omega)
    simp only [World.size_alloc] at ho
    go_enter Try.func153, Try.ntmps153
    go_wp2
    go_ret
    exact ⟨_, rfl, own_mono ho (by omega), bal (bal (bself w) _) _⟩
  · clear hop
    have ho := own_lit (w.alloc (.cells #[.int .i64 5, .int .i64 a, .int .i64 b, .int .i64 c, .int .i64 d] 98)) #[.int .i64 b, .int .i64 c] 2 3 rfl (by omega)
    simp only [World.size_alloc] at ho
    go_enter Try.func153, Try.ntmps153
    go_wp2
    go_ret
    exact ⟨_, rfl, own_mono ho (by omega), bal (bal (bself w) _) _⟩
  · clear hop
    have ho := own_lit (w.alloc (.cells #[.int .i64 6, .int .i64 a, .int .i64 b, .int .i64 c, .int .i64 d] 98)) #[.int .i64 c, .int .i64 d] 2 3 rfl (by omega)
    simp only [World.size_alloc] at ho
    go_enter Try.func153, Try.ntmps153
    go_wp2
    go_ret
    exact ⟨_, rfl, own_mono ho (by omega), bal (bal (bself w) _) _⟩
  · clear hop
    have ho := own_lit (w.alloc (.cells #[.int .i64 7, .int .i64 a, .int .i64 b, .int .i64 c, .int .i64 d] 98)) #[.int .i64 b, .int .i64 c, .int .i64 d] 3 3 rfl (by omega)
    simp only [World.size_alloc] at ho
    go_enter Try.func153, Try.ntmps153
    go_wp2
    go_ret
    exact ⟨_, rfl, own_mono ho (by omega), bal (bal (bself w) _) _⟩
  · clear hop
    go_enter Try.func153, Try.ntmps153
    go_wp2
    go_ret
    exact ⟨_, rfl, World.ownsRow_nil _ _ _ _, bal (bself w) _⟩
  · clear hop
    have ho := own_lit (w.alloc (.cells #[.int .i64 9, .int .i64 a, .int .i64 b, .int .i64 c, .int .i64 d] 98)) #[.int .i64 a] 1 3 rfl (by omega)
    simp only [World.size_alloc] at ho
    go_enter Try.func153, Try.ntmps153
    go_wp2
    go_ret
    exact ⟨_, rfl, own_mono ho (by omega), bal (bal (bself w) _) _⟩
  · clear hop
    have ho := own_lit (w.alloc (.cells #[.int .i64 10, .int .i64 a, .int .i64 b, .int .i64 c, .int .i64 d] 98)) #[.int .i64 a] 1 3 rfl (by omega)
    simp only [World.size_alloc] at ho
    go_enter Try.func153, Try.ntmps153
    go_wp2
    go_ret
    exact ⟨_, rfl, own_mono ho (by omega), bal (bal (bself w) _) _⟩
  · clear hop
    have ho := own_lit (w.alloc (.cells #[.int .i64 11, .int .i64 a, .int .i64 b, .int .i64 c, .int .i64 d] 98)) #[.int .i64 a] 1 3 rfl (by omega)
    simp only [World.size_alloc] at ho
    go_enter Try.func153, Try.ntmps153
    go_wp2
    go_ret
    exact ⟨_, rfl, own_mono ho (by omega), bal (bal (bself w) _) _⟩
  · clear hop
    go_enter Try.func153, Try.ntmps153
    go_wp2
    go_ret
    exact ⟨_, rfl, World.ownsRow_nil _ _ _ _, bal (bself w) _⟩
  · clear hop
    go_enter Try.func153, Try.ntmps153
    go_wp2
    go_ret
    exact ⟨_, rfl, World.ownsRow_nil _ _ _ _, bal (bself w) _⟩

set_option maxHeartbeats 6400000 in
theorem l12Kind_any (op : Int) (w : World) (hop : ¬ (op < 1 ∨ 13 < op)) :
    Calls Try.prog 96 #[.int .i64 op] w fun e w' => e = .returned (.string ⟨(knl op).toArray⟩) ∧ Below w.heap.size w w' := by
  rcases shp_cases op with h | rfl | rfl | rfl | rfl | rfl | rfl | rfl | rfl | rfl | rfl | rfl | rfl | rfl
  · exact absurd h hop
  all_goals
    clear hop
    go_enter Try.func96, Try.ntmps96
    go_wp2
    go_ret
    exact ⟨rfl, bal (bself w) _⟩

end Go.Proofs.Ytkbbpnfhenoihaa
