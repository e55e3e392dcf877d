/-
  Parts of the proof of the law FnExactSpecPath.
-/
import Derived.Test.YtbglogjamfdmpaaVP
namespace Go.Proofs.Ytbglogjamfdmpaa
open Go.RowKit

/-- a memory -/
structure Mm where
  vals : List Int
  arrs : List (List Int)
deriving DecidableEq
/-- a state of the machine -/
structure Ms where
  pc : Int
  regs : List Int
  mem : Mm
deriving DecidableEq

def valOk (n : Int) : Bool := wi n 0 255
def valsOk (xs : List Int) : Bool := xs.all valOk
/-- the memory is one for so many variables and arrays -/
def memOk (nv na : Nat) (m : Mm) : Bool := decide (m.vals.length = nv) && (decide (m.arrs.length = na) && (valsOk m.vals && m.arrs.all (fun a => decide (a.length = 4) && valsOk a)))

/-- element i of a row, 0 outside it -/
def gi (xs : List Int) (i : Int) : Int := (xs[i.toNat]?).getD 0
def gr (rs : List (List Int)) (i : Int) : List Int := (rs[i.toNat]?).getD []
def tru (b : Bool) : Int := if b then 1 else 0
def opr (k a b : Int) : Int :=
  if k = 4 then (a + b) % 256 else if k = 5 then (a - b + 256) % 256 else if k = 6 then (a * b) % 256 else if k = 7 then bits .and .i64 a b else if k = 8 then bits .xor .i64 a b
  else if k = 9 then tru (a == b) else tru (decide (a < b))
def adr (a i : Int) : Int := a * 4 + i % 4

/-- what an instruction does -/
def stRegs (x : Ins) (s : Ms) : List Int :=
  if x.op = 1 then s.regs.set x.a.toNat x.b
  else if x.op = 2 then s.regs.set x.a.toNat (gi s.mem.vals x.b)
  else if x.op = 4 then s.regs.set x.a.toNat (gi (gr s.mem.arrs x.b) (gi s.regs x.c % 4))
  else if x.op = 6 then s.regs.set x.a.toNat (opr x.b (gi s.regs x.c) (gi s.regs x.d))
  else if x.op = 7 then s.regs.set x.a.toNat (if gi s.regs x.b ≠ 0 then gi s.regs x.c else gi s.regs x.d)
  else if x.op = 10 then s.regs.set x.a.toNat ((gi s.regs x.a + 255) % 256)
  else s.regs
def stMem (x : Ins) (s : Ms) : Mm :=
  if x.op = 3 then ⟨s.mem.vals.set x.a.toNat (gi s.regs x.b), s.mem.arrs⟩
  else if x.op = 5 then ⟨s.mem.vals, s.mem.arrs.set x.a.toNat ((gr s.mem.arrs x.a).set (gi s.regs x.b % 4).toNat (gi s.regs x.c))⟩
  else s.mem
def stPc (x : Ins) (s : Ms) : Int :=
  if x.op = 8 then x.a
  else if x.op = 9 then (if gi s.regs x.a = 0 then x.b else s.pc + 1)
  else if x.op = 10 then (if (gi s.regs x.a + 255) % 256 ≠ 0 then x.b else s.pc + 1)
  else if x.op = 13 then s.pc
  else s.pc + 1
def stEvs (x : Ins) (s : Ms) : List Ev :=
  (5, s.pc) :: (if x.op = 4 then [(2, adr x.b (gi s.regs x.c))] else if x.op = 5 then [(3, adr x.a (gi s.regs x.b))] else if x.op = 11 then [(4, gi s.regs x.a)] else [])
def stp (x : Ins) (s : Ms) : Ms := ⟨stPc x s, stRegs x s, stMem x s⟩
def insAt (c : Cd) (pc : Int) : Ins := (c.list[pc.toNat]?).getD ⟨13, 0, 0, 0, 0⟩

/-- a state that code may be in -/
structure MsOk (c : Cd) (s : Ms) : Prop where
  pc0 : 0 ≤ s.pc
  pc1 : s.pc < c.list.length
  regs : s.regs.length = 14
  rv : ∀ n ∈ s.regs, 0 ≤ n ∧ n < 256
  mem : memOk c.vars.length c.arrays.length s.mem = true
end Go.Proofs.Ytbglogjamfdmpaa
