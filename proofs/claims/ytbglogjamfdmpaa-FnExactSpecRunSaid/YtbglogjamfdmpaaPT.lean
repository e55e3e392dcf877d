/-
  Parts of the proof of the law FnExactSpecRun.
-/
import Derived.Test.YtbglogjamfdmpaaRW
namespace Go.Proofs.Ytbglogjamfdmpaa
open Go.RowKit

/-- an expression, plain -/
inductive Ex where
  | mk (k v : Int) (kids : List Ex)
/-- a statement, plain -/
inductive St where
  | mk (k t : Int) (ix val : Ex) (c : Int) (body els : List St)
def Ex.k : Ex → Int | .mk k _ _ => k
def Ex.v : Ex → Int | .mk _ v _ => v
def Ex.kids : Ex → List Ex | .mk _ _ l => l

/-- a node of an expression as its cells say -/
structure En where
  k : Int
  v : Int
  p : Option Addr
  n : Nat
  c : Nat
def En.u (e : En) : Value := .slice e.p e.n e.c
def enc (e : En) : List Value := [.int .i64 e.k, .int .i64 e.v, .slice e.p e.n e.c]
/-- a statement's cells -/
structure Sn where
  k : Int
  t : Int
  ix : En
  val : En
  c : Int
  bp : Option Addr
  bn : Nat
  bc : Nat
  ep : Option Addr
  en : Nat
  ec : Nat
def snc (s : Sn) : List Value := [.int .i64 s.k, .int .i64 s.t, .int .i64 s.ix.k, .int .i64 s.ix.v, .slice s.ix.p s.ix.n s.ix.c, .int .i64 s.val.k, .int .i64 s.val.v, .slice s.val.p s.val.n s.val.c, .int .i64 s.c, .slice s.bp s.bn s.bc, .slice s.ep s.en s.ec]
/-- u is a slice that reads as a row of nodes, each of which is as the list says; its block is one of B -/
def RowOf {α β : Type} (f : α → List Value) (sz : Nat) (w : World) (B : Nat → Prop) (R : α → β → Prop) (u : Value) (l : List β) : Prop :=
  ∃ rs : List α, rs.length = l.length ∧ Reads w sz u l.length (rows f rs) ∧ (∀ b o c, 0 < l.length → u = .slice (some ⟨b, o, none⟩) l.length c → B b) ∧ ∀ j (h : j < rs.length) (h' : j < l.length), R rs[j] l[j]
theorem RowOf.keep {α β : Type} {f : α → List Value} {sz : Nat} {w w' : World} {B B' : Nat → Prop} {R R' : α → β → Prop} {u : Value} {l : List β} (h : RowOf f sz w B R u l) {S : Nat → Prop} (hc : Chg S w w') (hS : ∀ q, B q → q < w.heap.size → ¬ S q) (hB : ∀ q, B q → q < w.heap.size → B' q) (hR : ∀ a b, R a b → R' a b) : RowOf f sz w' B' R' u l := by
  obtain ⟨rs, h1, h2, h3, h4⟩ := h
  exact ⟨rs, h1, h2.keep hc (fun b o c h0 hv => hS b (h3 b o c h0 hv) (reads_lt h2 b o c h0 hv)), fun b o c h0 hv => hB b (h3 b o c h0 hv) (reads_lt h2 b o c h0 hv), fun j h h' => hR _ _ (h4 j h h')⟩
theorem RowOf.nil {α β : Type} {f : α → List Value} {sz : Nat} {w : World} {B : Nat → Prop} {R : α → β → Prop} : RowOf f sz w B R (.slice none 0 0) [] :=
  ⟨[], rfl, reads_of_owns (base := 0) (e := 0) (World.ownsRow_nil w 0 0 sz) (by simp), (fun b o c h0 => by simp at h0), (fun j h => by simp at h)⟩
theorem RowOf.shape {α β : Type} {f : α → List Value} {sz : Nat} {w : World} {B : Nat → Prop} {R : α → β → Prop} {u : Value} {l : List β} (h : RowOf f sz w B R u l) : ∃ a c, u = .slice a l.length c := by
  obtain ⟨_, _, h, _⟩ := h; exact reads_shape h
/-- the node n, in w, is the expression, of depth at most d; its blocks are of B -/
def ExAt (w : World) (B : Nat → Prop) : Nat → En → Ex → Prop
  | 0, _, _ => False
  | d + 1, n, e => n.k = e.k ∧ n.v = e.v ∧ RowOf enc 3 w B (ExAt w B d) n.u e.kids
theorem ExAt.keep {w w' : World} {B B' : Nat → Prop} {S : Nat → Prop} (hc : Chg S w w') (hS : ∀ q, B q → q < w.heap.size → ¬ S q) (hB : ∀ q, B q → q < w.heap.size → B' q) : ∀ {d d' : Nat} {n : En} {e : Ex}, d ≤ d' → ExAt w B d n e → ExAt w' B' d' n e := by
  intro d
  induction d with
  | zero => intro d' n e _ h; cases h
  | succ d ih =>
    intro d' n e hd h
    cases d' with
    | zero => omega
    | succ d' =>
      obtain ⟨h1, h2, h3⟩ := h
      exact ⟨h1, h2, h3.keep hc hS hB (fun a b hab => ih (by omega) hab)⟩
theorem ExAt.below {w w' : World} {B : Nat → Prop} {d : Nat} {n : En} {e : Ex} (h : ExAt w B d n e) (hb : Below w.heap.size w w') : ExAt w' B d n e := ExAt.keep (S := fun _ => False) (Chg.of_below hb) (fun _ _ _ => id) (fun _ h _ => h) (Nat.le_refl _) h
theorem ExAt.shape {w : World} {B : Nat → Prop} {d : Nat} {n : En} {e : Ex} (h : ExAt w B d n e) : n.k = e.k ∧ n.v = e.v ∧ n.n = e.kids.length := by
  cases d with
  | zero => cases h
  | succ d =>
    obtain ⟨h1, h2, h3⟩ := h
    obtain ⟨a, c, hu⟩ := h3.shape
    simp only [En.u, Value.slice.injEq] at hu
    exact ⟨h1, h2, hu.2.1⟩
/-- a statement's node -/
def StAt (w : World) (B : Nat → Prop) : Nat → Sn → St → Prop
  | 0, _, _ => False
  | d + 1, n, .mk k t ix val c body els => n.k = k ∧ n.t = t ∧ n.c = c ∧ (∃ D, ExAt w B D n.ix ix) ∧ (∃ D, ExAt w B D n.val val) ∧ RowOf snc 11 w B (StAt w B d) (.slice n.bp n.bn n.bc) body ∧ RowOf snc 11 w B (StAt w B d) (.slice n.ep n.en n.ec) els
theorem StAt.keep {w w' : World} {B B' : Nat → Prop} {S : Nat → Prop} (hc : Chg S w w') (hS : ∀ q, B q → q < w.heap.size → ¬ S q) (hB : ∀ q, B q → q < w.heap.size → B' q) : ∀ {d d' : Nat} {n : Sn} {s : St}, d ≤ d' → StAt w B d n s → StAt w' B' d' n s := by
  intro d
  induction d with
  | zero => intro d' n s _ h; cases h
  | succ d ih =>
    intro d' n s hd h
    cases d' with
    | zero => omega
    | succ d' =>
      obtain ⟨k, t, ix, val, c, body, els⟩ := s
      obtain ⟨h1, h2, h3, ⟨D1, h4⟩, ⟨D2, h5⟩, h6, h7⟩ := h
      exact ⟨h1, h2, h3, ⟨D1, ExAt.keep hc hS hB (Nat.le_refl _) h4⟩, ⟨D2, ExAt.keep hc hS hB (Nat.le_refl _) h5⟩, h6.keep hc hS hB (fun a b hab => ih (by omega) hab), h7.keep hc hS hB (fun a b hab => ih (by omega) hab)⟩
/-- a block of statements -/
def BlAt (w : World) (B : Nat → Prop) (d : Nat) (u : Value) (l : List St) : Prop := RowOf snc 11 w B (StAt w B d) u l
theorem BlAt.keep {w w' : World} {B B' : Nat → Prop} {d d' : Nat} {u : Value} {l : List St} {S : Nat → Prop} (h : BlAt w B d u l) (hc : Chg S w w') (hS : ∀ q, B q → q < w.heap.size → ¬ S q) (hB : ∀ q, B q → q < w.heap.size → B' q) (hd : d ≤ d') : BlAt w' B' d' u l := RowOf.keep h hc hS hB (fun _ _ hab => StAt.keep hc hS hB hd hab)
theorem BlAt.below {w w' : World} {B : Nat → Prop} {d : Nat} {u : Value} {l : List St} (h : BlAt w B d u l) (hb : Below w.heap.size w w') : BlAt w' B d u l := h.keep (S := fun _ => False) (Chg.of_below hb) (fun _ _ _ => id) (fun _ h _ => h) (Nat.le_refl _)
end Go.Proofs.Ytbglogjamfdmpaa
