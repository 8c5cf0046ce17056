/-
  What is kept of memory; numbers and trees that lie in memory.
-/
import Derived.Test.YtmgakpnejbembaaLibD
import Derived.IntWalk
namespace Go.Proofs.Ytmgakpnejbembaa.L
open Go Go.RowKit

/-- What is no block of cells of the types T from n₀ on lies as it lay. -/
structure Xt (n₀ : Nat) (T : List Nat) (w w' : World) : Prop where
  os : w'.os = w.os
  tape : w'.tape = w.tape
  output : w'.output = w.output
  size : w.heap.size ≤ w'.heap.size
  block : ∀ b o, w.heap[b]? = some o → (∀ cs e fr, o = .cells cs e fr → e ∈ T → b < n₀) → w'.heap[b]? = some o

theorem Xt.refl {n₀ : Nat} {T : List Nat} (w : World) : Xt n₀ T w w := ⟨rfl, rfl, rfl, Nat.le_refl _, fun _ _ h _ => h⟩
theorem Xt.trans {n₀ : Nat} {T : List Nat} {a b c : World} (h : Xt n₀ T a b) (k : Xt n₀ T b c) : Xt n₀ T a c :=
  ⟨k.os.trans h.os, k.tape.trans h.tape, k.output.trans h.output, Nat.le_trans h.size k.size, fun i o ho hx => k.block i o (h.block i o ho hx) hx⟩
theorem Xt.of0 {n₀ : Nat} {T : List Nat} {w w' : World} (h : Ext E0 w w') : Xt n₀ T w w' :=
  ⟨h.os, h.tape, h.output, h.size, fun b o ho _ => (h.block b (Array.getElem?_eq_some_iff.1 ho).1 id).trans ho⟩
theorem Xt.tick {n₀ : Nat} {T : List Nat} {w : World} : Xt n₀ T w w.tick := Xt.of0 Ext.tick
theorem Xt.ofS {n₀ : Nat} {T : List Nat} {w w' : World} {b : Nat} {cs : List Value} {e : TypeId} (h : Ext (· = b) w w') (hB : Blk w b cs e) (he : e ∈ T) (hn : n₀ ≤ b) : Xt n₀ T w w' :=
  ⟨h.os, h.tape, h.output, h.size, fun i o ho hx => by
    by_cases hi : i = b
    · subst hi
      have e1 : o = .cells cs.toArray e (0, 0) := Option.some.inj (ho.symm.trans hB)
      have := hx _ _ _ e1 he
      omega
    · exact (h.block i (Array.getElem?_eq_some_iff.1 ho).1 hi).trans ho⟩
/-- A step that turns new blocks alone. -/
theorem Xt.ofNew {n₀ : Nat} {T : List Nat} {a w w' : World} {M : Nat → Prop} (h : Xt n₀ T a w) (k : Ext M w w') (hM : ∀ b, M b → a.heap.size ≤ b) : Xt n₀ T a w' :=
  ⟨k.os.trans h.os, k.tape.trans h.tape, k.output.trans h.output, Nat.le_trans h.size k.size, fun i o ho hx =>
    (k.block i (Array.getElem?_eq_some_iff.1 (h.block i o ho hx)).1 fun hm => by
      have := hM i hm
      have := (Array.getElem?_eq_some_iff.1 ho).1
      omega).trans (h.block i o ho hx)⟩
theorem Xt.mono {n₀ n₁ : Nat} {T T' : List Nat} {w w' : World} (h : Xt n₀ T w w') (hn : n₁ ≤ n₀) (hT : ∀ e, e ∈ T → e ∈ T') : Xt n₁ T' w w' :=
  ⟨h.os, h.tape, h.output, h.size, fun b o ho hx => h.block b o ho fun cs e fr he hm => Nat.lt_of_lt_of_le (hx cs e fr he (hT e hm)) hn⟩
theorem Xt.ext0 {n₀ : Nat} {T : List Nat} {w w' : World} (h : Xt n₀ T w w') (hn : w.heap.size ≤ n₀) : Ext E0 w w' :=
  ⟨h.os, h.tape, h.output, h.size, fun b hb _ => by
    rw [Array.getElem?_eq_getElem hb]
    exact h.block b _ (Array.getElem?_eq_getElem hb) fun _ _ _ _ _ => by omega⟩
theorem Xt.ext0' {n₀ : Nat} {w w' : World} (h : Xt n₀ [] w w') : Ext E0 w w' :=
  ⟨h.os, h.tape, h.output, h.size, fun b hb _ => by
    rw [Array.getElem?_eq_getElem hb]
    exact h.block b _ (Array.getElem?_eq_getElem hb) fun _ _ _ _ hm => by simp at hm⟩

theorem Blk.xt {n₀ : Nat} {T : List Nat} {w w' : World} {b : Nat} {cs : List Value} {e : TypeId} (h : Blk w b cs e) (hx : Xt n₀ T w w') (he : T.contains e = false) : Blk w' b cs e :=
  hx.block b _ h fun cs' e' fr ho hm => by
    simp only [Obj.cells.injEq] at ho
    obtain ⟨-, rfl, -⟩ := ho
    rw [List.contains_eq_mem] at he
    simp [hm] at he
theorem LoopAt.xt {n₀ : Nat} {T : List Nat} {w w' : World} {l : Nat} {r : Loop} (h : LoopAt w l r) (hx : Xt n₀ T w w') : LoopAt w' l r :=
  hx.block l _ h fun _ _ _ ho => by cases ho
theorem Xt.obj {n₀ : Nat} {T : List Nat} {w w' : World} {l : Nat} {o : Obj} (hx : Xt n₀ T w w') (h : w.heap[l]? = some o) (ho : Obj.isC o = false) : w'.heap[l]? = some o :=
  hx.block l _ h fun _ _ _ h' => by subst h'; simp [Obj.isC] at ho

/-! ### Rows of cells -/
/-- A block's type; 0 stands for whatever type. -/
def tyB (e e' : TypeId) : Bool := Nat.beq e 0 || Nat.beq e e'
theorem tyB_self (e : TypeId) : tyB e e = true := by simp [tyB, Nat.beq_refl]
theorem tyB_ne {e e' : TypeId} (h : tyB e e' = true) (h0 : Nat.beq e 0 = false) : e' = e := by
  simp only [tyB, h0, Bool.false_or] at h
  exact (Nat.eq_of_beq_eq_true h).symm
/-- Blocks of cells of the type e below n lie as they lay. -/
def Pres (n : Nat) (e : TypeId) (w w' : World) : Prop := ∀ b cs e' fr, b < n → tyB e e' = true → w.heap[b]? = some (.cells cs e' fr) → w'.heap[b]? = some (.cells cs e' fr)

theorem Pres.refl {n : Nat} {e : TypeId} (w : World) : Pres n e w w := fun _ _ _ _ _ _ h => h
theorem Pres.trans {n : Nat} {e : TypeId} {a b c : World} (h : Pres n e a b) (k : Pres n e b c) : Pres n e a c := fun i cs e' fr hi he ho => k i cs e' fr hi he (h i cs e' fr hi he ho)
theorem Pres.of0 {n : Nat} {e : TypeId} {w w' : World} (h : Ext E0 w w') : Pres n e w w' := fun b _ _ _ _ _ ho => (h.block b (Array.getElem?_eq_some_iff.1 ho).1 id).trans ho
theorem Pres.ofS {n : Nat} {e : TypeId} {w w' : World} {b' : Nat} (h : Ext (· = b') w w') (hn : n ≤ b') : Pres n e w w' :=
  fun b _ _ _ hb _ ho => (h.block b (Array.getElem?_eq_some_iff.1 ho).1 (by intro hx; have : b = b' := hx; omega)).trans ho
theorem Pres.ofE {n : Nat} {e e' : TypeId} {w w' : World} {b' : Nat} {cs : List Value} (h : Ext (· = b') w w') (hB : Blk w b' cs e') (he : (Nat.beq e 0 || Nat.beq e' e) = false) : Pres n e w w' :=
  fun b _ t _ _ ht ho => (h.block b (Array.getElem?_eq_some_iff.1 ho).1 (by
    intro hx
    have : b = b' := hx
    subst this
    have h2 := Option.some.inj (hB.symm.trans ho)
    simp only [Obj.cells.injEq] at h2
    rw [Bool.or_eq_false_iff] at he
    have h3 := tyB_ne ht he.1
    rw [h2.2.1, h3] at he
    simp [Nat.beq_refl] at he)).trans ho
theorem Pres.ofX {n n₀ : Nat} {T : List Nat} {e : TypeId} {w w' : World} (h : Xt n₀ T w w') (he : (Nat.beq e 0 || T.contains e) = false) : Pres n e w w' :=
  fun b cs t fr _ ht ho => h.block b _ ho fun cs' e' fr' h' hm => by
    simp only [Obj.cells.injEq] at h'
    obtain ⟨-, rfl, -⟩ := h'
    rw [Bool.or_eq_false_iff] at he
    have h3 := tyB_ne ht he.1
    subst h3
    rw [List.contains_eq_mem] at he
    simp [hm] at he
theorem Pres.ofXn {n n₀ : Nat} {T : List Nat} {e : TypeId} {w w' : World} (h : Xt n₀ T w w') (hn : n ≤ n₀) : Pres n e w w' :=
  fun b cs t fr hb _ ho => h.block b _ ho fun cs' e' fr' h' hm => by omega
theorem Pres.mono {n n' : Nat} {e : TypeId} {w w' : World} (h : Pres n' e w w') (hn : n ≤ n') : Pres n e w w' := fun b cs t fr hb ht ho => h b cs t fr (by omega) ht ho
/-- All that lies below n. -/
def Low (n : Nat) (w w' : World) : Prop := ∀ b o, b < n → w.heap[b]? = some o → w'.heap[b]? = some o
theorem Low.refl {n : Nat} (w : World) : Low n w w := fun _ _ _ h => h
theorem Low.trans {n : Nat} {a b c : World} (h : Low n a b) (k : Low n b c) : Low n a c := fun i o hi ho => k i o hi (h i o hi ho)
theorem Low.of0 {n : Nat} {w w' : World} (h : Ext E0 w w') : Low n w w' := fun b _ _ ho => (h.block b (Array.getElem?_eq_some_iff.1 ho).1 id).trans ho
theorem Low.ofS {n : Nat} {w w' : World} {b' : Nat} (h : Ext (· = b') w w') (hn : n ≤ b') : Low n w w' :=
  fun b _ hb ho => (h.block b (Array.getElem?_eq_some_iff.1 ho).1 (by intro hx; have : b = b' := hx; omega)).trans ho
theorem Low.ofX {n n₀ : Nat} {T : List Nat} {w w' : World} (h : Xt n₀ T w w') (hn : n ≤ n₀) : Low n w w' := fun b o hb ho => h.block b o ho fun _ _ _ _ _ => by omega
theorem Low.pres {n : Nat} {e : TypeId} {w w' : World} (h : Low n w w') : Pres n e w w' := fun b _ _ _ hb _ ho => h b _ hb ho
theorem Low.mono {n n' : Nat} {w w' : World} (h : Low n' w w') (hn : n ≤ n') : Low n w w' := fun b o hb ho => h b o (by omega) ho

/-- These cells stand there, in a block of the type e, below n. -/
def At (n : Nat) (e : TypeId) (w : World) (b off : Nat) (vs : List Value) : Prop :=
  b < n ∧ ∃ cs e' fr, tyB e e' = true ∧ w.heap[b]? = some (.cells cs e' fr) ∧ ∀ j v, vs[j]? = some v → cs[off + j]? = some v

theorem At.cell {n : Nat} {e : TypeId} {w : World} {b off : Nat} {vs : List Value} (h : At n e w b off vs) (j : Nat) {v : Value} (hv : vs[j]? = some v) : w.cell? ⟨b, off + j, none⟩ = some v := by
  obtain ⟨-, cs, e', fr, -, h1, h2⟩ := h
  have := h2 j v hv
  simp [World.cell?, h1, this]
theorem At.cell0 {n : Nat} {e : TypeId} {w : World} {b off : Nat} {vs : List Value} (h : At n e w b off vs) {v : Value} (hv : vs[0]? = some v) : w.cell? ⟨b, off, none⟩ = some v := h.cell 0 hv
theorem At.pres {n : Nat} {e : TypeId} {w w' : World} {b off : Nat} {vs : List Value} (h : At n e w b off vs) (k : Pres n e w w') : At n e w' b off vs :=
  ⟨h.1, let ⟨cs, e', fr, ht, h1, h2⟩ := h.2; ⟨cs, e', fr, ht, k b cs e' fr h.1 ht h1, h2⟩⟩
theorem At.mono {n n' : Nat} {e : TypeId} {w : World} {b off : Nat} {vs : List Value} (h : At n e w b off vs) (hn : n ≤ n') : At n' e w b off vs := ⟨Nat.lt_of_lt_of_le h.1 hn, h.2⟩
theorem At.lt {n : Nat} {e : TypeId} {w : World} {b off : Nat} {vs : List Value} (h : At n e w b off vs) : b < w.heap.size := by
  obtain ⟨-, cs, e', fr, -, h1, -⟩ := h
  exact (Array.getElem?_eq_some_iff.1 h1).1
theorem At.any {n : Nat} {e : TypeId} {w : World} {b off : Nat} {vs : List Value} (h : At n e w b off vs) : At n 0 w b off vs := ⟨h.1, let ⟨cs, e', fr, _, h1, h2⟩ := h.2; ⟨cs, e', fr, rfl, h1, h2⟩⟩

/-- A row of elements of sz cells each. -/
def Row {α : Type} (n : Nat) (e : TypeId) (sz : Nat) (cs : α → List Value) (w : World) (a : Option Addr) (xs : List α) : Prop :=
  ∀ i x, xs[i]? = some x → ∃ b off, a = some ⟨b, off, none⟩ ∧ At n e w b (off + i * sz) (cs x)

theorem Row.pres {α : Type} {n : Nat} {e : TypeId} {sz : Nat} {cs : α → List Value} {w w' : World} {a : Option Addr} {xs : List α} (h : Row n e sz cs w a xs) (k : Pres n e w w') : Row n e sz cs w' a xs :=
  fun i x hx => let ⟨b, off, h1, h2⟩ := h i x hx; ⟨b, off, h1, h2.pres k⟩
theorem Row.mono {α : Type} {n n' : Nat} {e : TypeId} {sz : Nat} {cs : α → List Value} {w : World} {a : Option Addr} {xs : List α} (h : Row n e sz cs w a xs) (hn : n ≤ n') : Row n' e sz cs w a xs :=
  fun i x hx => let ⟨b, off, h1, h2⟩ := h i x hx; ⟨b, off, h1, h2.mono hn⟩
theorem Row.nil {α : Type} {n : Nat} {e : TypeId} {sz : Nat} {cs : α → List Value} {w : World} {a : Option Addr} : Row n e sz cs w a [] := fun i x hx => by simp at hx
theorem Row.any {α : Type} {n : Nat} {e : TypeId} {sz : Nat} {cs : α → List Value} {w : World} {a : Option Addr} {xs : List α} (h : Row n e sz cs w a xs) : Row n 0 sz cs w a xs :=
  fun i x hx => let ⟨b, off, h1, h2⟩ := h i x hx; ⟨b, off, h1, h2.any⟩
/-- A row that is read: the element, where it lies. -/
theorem Row.get {α : Type} {n : Nat} {e : TypeId} {sz : Nat} {cs : α → List Value} {w : World} {a : Option Addr} {xs : List α} (h : Row n e sz cs w a xs) (i : Nat) (hi : i < xs.length) :
    ∃ x b off, xs[i]? = some x ∧ a = some ⟨b, off, none⟩ ∧ At n e w b (off + i * sz) (cs x) :=
  let ⟨b, off, h1, h2⟩ := h i xs[i] (List.getElem?_eq_getElem hi)
  ⟨xs[i], b, off, List.getElem?_eq_getElem hi, h1, h2⟩

def intCs (x : Int) : List Value := [.int .i64 x]

theorem wrap_i64 {x : Int} (h1 : -9223372036854775808 ≤ x) (h2 : x ≤ 9223372036854775807) : IntKind.i64.wrap x = x :=
  IntWalk.i64_in x ⟨h1, h2⟩
/-! ### Trees in memory -/
/-- A tree, each node with the address, the length and the capacity of the row of its children. -/
inductive Tr (α : Type) where
  | mk (d : α) (a : Option Addr) (len cap : Nat) (kids : List (Tr α))

def Tr.d {α : Type} : Tr α → α | .mk d _ _ _ _ => d
def Tr.a {α : Type} : Tr α → Option Addr | .mk _ a _ _ _ => a
def Tr.len {α : Type} : Tr α → Nat | .mk _ _ l _ _ => l
def Tr.cap {α : Type} : Tr α → Nat | .mk _ _ _ c _ => c
def Tr.kids {α : Type} : Tr α → List (Tr α) | .mk _ _ _ _ k => k
def Tr.kv {α : Type} (t : Tr α) : Value := .slice t.a t.len t.cap


/-- It lies in memory below n: rows of the type e, sz cells an element, 'cs' an element's cells; 'ra' what is asked of its data. -/
inductive RT {α : Type} (n : Nat) (e : TypeId) (sz : Nat) (cs : Tr α → List Value) (ra : World → α → Prop) (w : World) : Tr α → Prop
  | mk (d : α) (a : Option Addr) (len cap : Nat) (kids : List (Tr α)) (hl : kids.length = len) (hb : len ≤ 9223372036854775807) (hd : ra w d) (hr : Row n e sz cs w a kids)
      (hk : ∀ x, x ∈ kids → RT n e sz cs ra w x) : RT n e sz cs ra w (.mk d a len cap kids)

theorem RT.pres {α : Type} {n : Nat} {e : TypeId} {sz : Nat} {cs : Tr α → List Value} {ra : World → α → Prop} {w w' : World} {t : Tr α} (h : RT n e sz cs ra w t) (k : Pres n e w w') (hra : ∀ d, ra w d → ra w' d) :
    RT n e sz cs ra w' t := by
  induction h with
  | mk d a len cap kids hl hb hd hr hk ih => exact .mk d a len cap kids hl hb (hra d hd) (hr.pres k) ih
theorem RT.mono {α : Type} {n n' : Nat} {e : TypeId} {sz : Nat} {cs : Tr α → List Value} {ra : World → α → Prop} {w : World} {t : Tr α} (h : RT n e sz cs ra w t) (hn : n ≤ n') : RT n' e sz cs ra w t := by
  induction h with
  | mk d a len cap kids hl hb hd hr hk ih => exact .mk d a len cap kids hl hb hd (hr.mono hn) ih
end Go.Proofs.Ytmgakpnejbembaa.L
