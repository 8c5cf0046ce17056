/-
  CondChoice: values of the program that lie in memory: lists of numbers, events, expressions.
-/
import Derived.Test.YtmgakpnejbembaaLibE
namespace Go.Proofs.Ytmgakpnejbembaa
open Go Go.Proofs.Ytmgakpnejbembaa.L

/-- A slice of integers, where it lies. -/
structure LS where
  a : Option Addr
  cap : Nat
  xs : List Int

def LS.ok (n : Nat) (w : World) (s : LS) : Prop := Row n 3 1 intCs w s.a s.xs ∧ s.xs.length ≤ 9223372036854775807
theorem LS.ok.pres {n : Nat} {w w' : World} {s : LS} (h : s.ok n w) (k : Pres n 3 w w') : s.ok n w' := ⟨h.1.pres k, h.2⟩
theorem LS.ok.mono {n m : Nat} {w : World} {s : LS} (h : s.ok n w) (k : n ≤ m) : s.ok m w := ⟨h.1.mono k, h.2⟩

/-- An event, where it lies. -/
structure LE where
  deed : Int
  n : Int
  val : Int
  h : LS
  r : LS

structure Ev where
  deed : Int
  n : Int
  val : Int
  h : List Int
  r : List Int
deriving DecidableEq

def LE.ev (e : LE) : Ev := ⟨e.deed, e.n, e.val, e.h.xs, e.r.xs⟩
def evCs (e : LE) : List Value := [.int .i64 e.deed, .int .i64 e.n, .int .i64 e.val, .slice e.h.a e.h.xs.length e.h.cap, .slice e.r.a e.r.xs.length e.r.cap]
def LE.ok (n : Nat) (w : World) (e : LE) : Prop := e.h.ok n w ∧ e.r.ok n w
def EvsOk (n : Nat) (w : World) (l : List LE) : Prop := ∀ e, e ∈ l → e.ok n w
theorem LE.ok.pres {n : Nat} {w w' : World} {s : LE} (h : s.ok n w) (k : Pres n 3 w w') : s.ok n w' := ⟨h.1.pres k, h.2.pres k⟩
theorem LE.ok.mono {n m : Nat} {w : World} {s : LE} (h : s.ok n w) (k : n ≤ m) : s.ok m w := ⟨h.1.mono k, h.2.mono k⟩
theorem EvsOk.pres {n : Nat} {w w' : World} {l : List LE} (h : EvsOk n w l) (k : Pres n 3 w w') : EvsOk n w' l := fun e he => (h e he).pres k
theorem EvsOk.mono {n m : Nat} {w : World} {l : List LE} (h : EvsOk n w l) (k : n ≤ m) : EvsOk m w l := fun e he => (h e he).mono k

/-- Expressions. -/
abbrev X := Tr (Int × Int)
def xCs (x : X) : List Value := [.int .i64 x.d.1, .int .i64 x.d.2, .slice x.a x.len x.cap]
def XOk (n : Nat) (w : World) (x : X) : Prop := RT n 0 3 xCs (fun _ _ => True) w x
theorem XOk.pres {n : Nat} {w w' : World} {x : X} (h : XOk n w x) (k : Pres n 0 w w') : XOk n w' x := RT.pres h k fun _ h => h
theorem XOk.mono {n m : Nat} {w : World} {x : X} (h : XOk n w x) (k : n ≤ m) : XOk m w x := RT.mono h k
theorem XOk.row {n : Nat} {w : World} {x : X} (h : XOk n w x) : Row n 0 3 xCs w x.a x.kids := by cases h; assumption
theorem XOk.len {n : Nat} {w : World} {x : X} (h : XOk n w x) : x.kids.length = x.len := by cases h; assumption
theorem XOk.big {n : Nat} {w : World} {x : X} (h : XOk n w x) : x.len ≤ 9223372036854775807 := by cases h; assumption
theorem XOk.kid {n : Nat} {w : World} {x y : X} (h : XOk n w x) (hy : y ∈ x.kids) : XOk n w y := by
  cases h with
  | mk d a len cap kids hl hb hd hr hk => exact hk y hy
/-- A list of expressions. -/
structure LP where
  a : Option Addr
  cap : Nat
  xs : List X
def LP.ok (n : Nat) (w : World) (p : LP) : Prop := Row n 0 3 xCs w p.a p.xs ∧ p.xs.length ≤ 9223372036854775807 ∧ ∀ x, x ∈ p.xs → XOk n w x
theorem LP.ok.pres {n : Nat} {w w' : World} {p : LP} (h : p.ok n w) (k : Pres n 0 w w') : p.ok n w' := ⟨h.1.pres k, h.2.1, fun x hx => (h.2.2 x hx).pres k⟩
theorem LP.ok.mono {n m : Nat} {w : World} {p : LP} (h : p.ok n w) (k : n ≤ m) : p.ok m w := ⟨h.1.mono k, h.2.1, fun x hx => (h.2.2 x hx).mono k⟩
def X.prog (x : X) : LP := ⟨x.a, x.cap, x.kids⟩
theorem XOk.prog {n : Nat} {w : World} {x : X} (h : XOk n w x) : x.prog.ok n w := by
  cases h with
  | mk d a len cap kids hl hb hd hr hk => exact ⟨hr, by subst hl; exact hb, hk⟩

/-! ### Lists compared -/
theorem all2_len {α : Type} [BEq α] [LawfulBEq α] {β : Type} {f : β → α} {xs ys : List β} (h : xs.length ≠ ys.length) : (xs.map f == ys.map f) = false := by
  rw [beq_eq_false_iff_ne]; intro e; exact h (by simpa using congrArg List.length e)
theorem all2_diff {α : Type} [BEq α] [LawfulBEq α] {β : Type} {f : β → α} {xs ys : List β} {i : Nat} {x y : β} (hx : xs[i]? = some x) (hy : ys[i]? = some y) (h : f x ≠ f y) : (xs.map f == ys.map f) = false := by
  rw [beq_eq_false_iff_ne]; intro e
  have := congrArg (·[i]?) e
  simp only [List.getElem?_map, hx, hy, Option.map_some, Option.some.injEq] at this
  exact h this
theorem all2_all {α : Type} [BEq α] [LawfulBEq α] {β : Type} {f : β → α} {xs ys : List β} {i : Nat} (hl : xs.length = ys.length) (h : ∀ j, j < i → (xs[j]?).map f = (ys[j]?).map f) (hi : xs.length ≤ i) : (xs.map f == ys.map f) = true := by
  rw [beq_iff_eq]
  refine List.ext_getElem? fun j => ?_
  simp only [List.getElem?_map]
  by_cases hj : j < i
  · exact h j hj
  · rw [List.getElem?_eq_none (by omega), List.getElem?_eq_none (by omega)]
theorem all2_step {α : Type} {β : Type} {f : β → α} {xs ys : List β} {i : Nat} {x y : β} (h : ∀ j, j < i → (xs[j]?).map f = (ys[j]?).map f) (hx : xs[i]? = some x) (hy : ys[i]? = some y) (e : f x = f y) :
    ∀ j, j < i + 1 → (xs[j]?).map f = (ys[j]?).map f := by
  intro j hj
  by_cases hji : j < i
  · exact h j hji
  · obtain rfl : j = i := by omega
    rw [hx, hy, Option.map_some, Option.map_some, e]
end Go.Proofs.Ytmgakpnejbembaa
