/-
  A library of my own over the kit's fenced calculus (wpIn at a fence without bars): frames known by lists of slots, straight code carried out by the kernel as a trace of requests to memory, a stack of what is still to be done. Generic: no program in sight.
-/
import Derived.RangeFuncIn
import Derived.RangeFuncLeaves
import Derived.OrdersIn
import Derived.Recover
import Derived.KernelRfl
namespace Go.Proofs.Ytmgakpnejbembaa.L
open Go

/-- A pointer to a block; an integer. -/
abbrev pT (b : Nat) : Value := .pointer (some ⟨b, 0, none⟩)
abbrev iV (n : Int) : Value := .int .i64 n
/-- The fence without bars, in a frame of the round 'ro'. -/
abbrev FW (ro : Option Nat) : Fence := { fn := fun _ => True, depth := none, alive := false, round := ro }

theorem room_FW (ro : Option Nat) (n : Nat) : (FW ro).room n := fun _ h => by simp at h

theorem callsIn_FW {ro : Option Nat} {n : Nat} {P : Program} {f : FuncId} {args : Array Value} {w : World} {R : Ending → World → Prop} :
    CallsIn (FW ro) n P f args w R ↔ Calls P f args w R :=
  callsIn_wide (n := n)

theorem notT {b : Bool} (h : (!b) = true) : b = false := by cases b <;> simp_all
theorem notF {b : Bool} (h : (!b) = false) : b = true := by cases b <;> simp_all

/-! ### Frames -/
def look : List (Nat × Value) → Nat → Option Value
  | [], _ => none
  | (t, v) :: r, x => bif Nat.beq t x then some v else look r x

def Has (κ : List (Nat × Value)) (tmps : Array Value) : Prop := ∀ t v, look κ t = some v → tmps.getD t undef = v

theorem Has.nil (tmps : Array Value) : Has [] tmps := fun _ _ h => by simp [look] at h

theorem Has.put {κ : List (Nat × Value)} {tmps : Array Value} {d : Nat} {v : Value} (h : Has κ tmps) (hd : d < tmps.size) :
    Has ((d, v) :: κ) (tmps.setIfInBounds d v) := by
  intro t u ht
  simp only [look] at ht
  cases hb : Nat.beq d t with
  | true =>
    rw [hb] at ht
    have hdt : d = t := Nat.eq_of_beq_eq_true hb
    subst hdt
    simp only [cond_true, Option.some.injEq] at ht
    subst ht
    simp [hd]
  | false =>
    rw [hb] at ht
    have hdt : d ≠ t := fun e => by subst e; simp [Nat.beq_refl] at hb
    have := h t u ht
    simpa [Array.getElem?_setIfInBounds_ne hdt] using this

/-- The slots that are still wanted. -/
def keep (ks : List Nat) (κ : List (Nat × Value)) : List (Nat × Value) :=
  match ks with
  | [] => []
  | t :: r => match look κ t with
    | some v => (t, v) :: keep r κ
    | none => keep r κ

theorem Has.keep {κ : List (Nat × Value)} {tmps : Array Value} (h : Has κ tmps) (ks : List Nat) : Has (keep ks κ) tmps := by
  induction ks with
  | nil => exact Has.nil _
  | cons t r ih =>
    simp only [L.keep]
    cases ht : look κ t with
    | none => exact ih
    | some v =>
      intro x u hx
      simp only [look] at hx
      cases hb : Nat.beq t x with
      | true =>
        rw [hb] at hx
        have := Nat.eq_of_beq_eq_true hb
        subst this
        simp only [cond_true, Option.some.injEq] at hx
        subst hx
        exact h _ _ ht
      | false => rw [hb] at hx; exact ih x u hx

/-- An operand, as far as the slots are known. -/
def evK (κ : List (Nat × Value)) : Operand → Option Value
  | .tmp t => look κ t
  | .const v => some v
  | .global g => some (.pointer (some ⟨g, 0, none⟩))
  | .func f => some (.func (.func f) #[] #[])

def rho (κ : List (Nat × Value)) (x : Operand) : Value := (evK κ x).getD undef

theorem Has.eval {κ : List (Nat × Value)} {a : Act} (h : Has κ a.tmps) {x : Operand} {v : Value} (hx : evK κ x = some v) : a.eval x = v := by
  cases x with
  | tmp t => exact h t v hx
  | const u => simp [evK] at hx; simp [Act.eval, hx]
  | global g => simp [evK] at hx; simp [Act.eval, hx]
  | func f => simp [evK] at hx; simp [Act.eval, hx]

theorem Has.evals {κ : List (Nat × Value)} {a : Act} (h : Has κ a.tmps) {x : Operand} (hx : (evK κ x).isSome = true) : a.eval x = rho κ x := by
  obtain ⟨v, hv⟩ := Option.isSome_iff_exists.1 hx
  rw [h.eval hv, rho, hv]
  rfl

/-! ### Traces -/
inductive Ans where
  | v (v : Value)
  | b (n : Nat)
  | s (x : Option (TypeId × Nat))
  | t (x : Bool)
  | o (x : Obj)

inductive Rq where
  | load (a : Addr) (v : Value)
  | store (a : Addr) (v : Value)
  | new (o : Obj) (b : Nat)
  | shape (r : Nat) (x : Option (TypeId × Nat))
  | freeze (a : Addr) (n : Nat)
  | frozen (a : Addr) (x : Bool)
  | getObj (r : Nat) (o : Obj)
  | setObj (r : Nat) (o : Obj)
  | choose (q : Question) (n : Nat)

/-- A computation, the answers of memory handed in: its requests, the answers left, its result. -/
def runI (P : Program) {α : Type} : Sem α → List Ans → Option (List Rq × List Ans × α)
  | .pure a, A => some ([], A, a)
  | .load _ a k, .v v :: A => (runI P (k v) A).map fun x => (.load a v :: x.1, x.2)
  | .store _ a v k, A => (runI P k A).map fun x => (.store a v :: x.1, x.2)
  | .new o k, .b n :: A => (runI P (k n) A).map fun x => (.new o n :: x.1, x.2)
  | .shape r k, .s y :: A => (runI P (k y) A).map fun x => (.shape r y :: x.1, x.2)
  | .freeze a n k, A => (runI P k A).map fun x => (.freeze a n :: x.1, x.2)
  | .frozen a k, .t y :: A => (runI P (k y) A).map fun x => (.frozen a y :: x.1, x.2)
  | .getObj r k, .o y :: A => (runI P (k y) A).map fun x => (.getObj r y :: x.1, x.2)
  | .setObj r o k, A => (runI P k A).map fun x => (.setObj r o :: x.1, x.2)
  | .choose q k, .b n :: A => (runI P (k n) A).map fun x => (.choose q n :: x.1, x.2)
  | .program k, A => runI P (k P) A
  | .mark _ k, A => runI P k A
  | _, _ => none

def Value.scal : Value → Bool
  | .agg _ => false
  | .tuple _ => false
  | _ => true

def _root_.Go.World.push (w : World) (o : Obj) : World := { w with heap := w.heap.push o }
def _root_.Go.World.tick (w : World) : World := { w with drawn := w.drawn + 1 }
def _root_.Go.World.putO (w : World) (r : Nat) (o : Obj) : World := { w with heap := w.heap.setIfInBounds r o }
def Obj.isC : Obj → Bool
  | .cells .. => true
  | _ => false

def okRq (w : World) : Rq → Prop
  | .load a v => w.cell? a = some v
  | .store a v => (∃ u, w.cell? a = some u) ∧ w.frozen? a = false ∧ Value.scal v = true
  | .new _ b => b = w.heap.size
  | .shape r x => x = w.shape? r
  | .freeze _ _ => True
  | .frozen a x => x = w.frozen? a
  | .getObj r o => w.heap[r]? = some o ∧ Obj.isC o = false
  | .setObj r _ => ∃ o, w.heap[r]? = some o ∧ Obj.isC o = false
  | .choose q n => n = if q.forced then 0 else q.cut (w.tape w.drawn q)

def nextW (w : World) : Rq → World
  | .store a v => w.setCell a v
  | .new o _ => w.push o
  | .freeze a n => w.freeze a n
  | .setObj r o => w.putO r o
  | .choose q _ => if q.forced then w else w.tick
  | _ => w

def Acts : List Rq → World → World → Prop
  | [], w, w' => w' = w
  | r :: rs, w, w' => okRq w r ∧ Acts rs (nextW w r) w'

theorem runI_sound {P : Program} {α : Type} : ∀ (s : Sem α) (A A' : List Ans) (rs : List Rq) (x : α) (w w' : World),
    runI P s A = some (rs, A', x) → Acts rs w w' → s.run P w = .ok x w' := by
  intro s
  induction s with
  | pure a =>
    intro A A' rs x w w' h ha
    simp only [runI, Option.some.injEq, Prod.mk.injEq] at h
    obtain ⟨rfl, -, rfl⟩ := h
    simp only [Acts] at ha
    subst ha
    rfl
  | load m a k ih =>
    intro A A' rs x w w' h ha
    cases A with
    | nil => simp [runI] at h
    | cons y A =>
      cases y <;> simp only [runI, Option.map_eq_some_iff, reduceCtorEq] at h
      rename_i v
      obtain ⟨⟨r, B, z⟩, h1, h2⟩ := h
      simp only [Prod.mk.injEq] at h2
      obtain ⟨rfl, rfl, rfl⟩ := h2
      obtain ⟨h3, h4⟩ := ha
      simp only [okRq] at h3
      simp only [Sem.run, h3]
      exact ih v A _ _ _ w w' h1 h4
  | store m a v k ih =>
    intro A A' rs x w w' h ha
    simp only [runI, Option.map_eq_some_iff] at h
    obtain ⟨⟨r, B, z⟩, h1, h2⟩ := h
    simp only [Prod.mk.injEq] at h2
    obtain ⟨rfl, rfl, rfl⟩ := h2
    obtain ⟨⟨⟨u, h3⟩, h5, h6⟩, h4⟩ := ha
    have := ih A _ _ _ (w.setCell a v) w' h1 h4
    cases v <;> first | (simp only [Sem.run, h3, h5]; exact this) | simp [Value.scal] at h6
  | new o k ih =>
    intro A A' rs x w w' h ha
    cases A with
    | nil => simp [runI] at h
    | cons y A =>
      cases y <;> simp only [runI, Option.map_eq_some_iff, reduceCtorEq] at h
      rename_i v
      obtain ⟨⟨r, B, z⟩, h1, h2⟩ := h
      simp only [Prod.mk.injEq] at h2
      obtain ⟨rfl, rfl, rfl⟩ := h2
      obtain ⟨h3, h4⟩ := ha
      simp only [okRq] at h3
      subst h3
      simp only [Sem.run]
      exact ih _ A _ _ _ _ w' h1 h4
  | shape r k ih =>
    intro A A' rs x w w' h ha
    cases A with
    | nil => simp [runI] at h
    | cons y A =>
      cases y <;> simp only [runI, Option.map_eq_some_iff, reduceCtorEq] at h
      obtain ⟨⟨r, B, z⟩, h1, h2⟩ := h
      simp only [Prod.mk.injEq] at h2
      obtain ⟨rfl, rfl, rfl⟩ := h2
      obtain ⟨h3, h4⟩ := ha
      simp only [okRq] at h3
      subst h3
      simp only [Sem.run]
      exact ih _ A _ _ _ _ w' h1 h4
  | freeze a n k ih =>
    intro A A' rs x w w' h ha
    simp only [runI, Option.map_eq_some_iff] at h
    obtain ⟨⟨r, B, z⟩, h1, h2⟩ := h
    simp only [Prod.mk.injEq] at h2
    obtain ⟨rfl, rfl, rfl⟩ := h2
    exact ih A _ _ _ _ w' h1 ha.2
  | frozen a k ih =>
    intro A A' rs x w w' h ha
    cases A with
    | nil => simp [runI] at h
    | cons y A =>
      cases y <;> simp only [runI, Option.map_eq_some_iff, reduceCtorEq] at h
      obtain ⟨⟨r, B, z⟩, h1, h2⟩ := h
      simp only [Prod.mk.injEq] at h2
      obtain ⟨rfl, rfl, rfl⟩ := h2
      obtain ⟨h3, h4⟩ := ha
      simp only [okRq] at h3
      subst h3
      simp only [Sem.run]
      exact ih _ A _ _ _ _ w' h1 h4
  | getObj r k ih =>
    intro A A' rs x w w' h ha
    cases A with
    | nil => simp [runI] at h
    | cons y A =>
      cases y <;> simp only [runI, Option.map_eq_some_iff, reduceCtorEq] at h
      rename_i ob
      obtain ⟨⟨r, B, z⟩, h1, h2⟩ := h
      simp only [Prod.mk.injEq] at h2
      obtain ⟨rfl, rfl, rfl⟩ := h2
      obtain ⟨⟨h3, h5⟩, h4⟩ := ha
      have := ih _ A _ _ _ _ w' h1 h4
      simp only [Sem.run, h3]
      cases ob <;> first | exact this | simp [Obj.isC] at h5
  | setObj r o k ih =>
    intro A A' rs x w w' h ha
    simp only [runI, Option.map_eq_some_iff] at h
    obtain ⟨⟨r, B, z⟩, h1, h2⟩ := h
    simp only [Prod.mk.injEq] at h2
    obtain ⟨rfl, rfl, rfl⟩ := h2
    obtain ⟨⟨o', h3, h5⟩, h4⟩ := ha
    have := ih A _ _ _ _ w' h1 h4
    simp only [Sem.run, h3]
    cases o' <;> first | exact this | simp [Obj.isC] at h5
  | choose q k ih =>
    intro A A' rs x w w' h ha
    cases A with
    | nil => simp [runI] at h
    | cons y A =>
      cases y <;> simp only [runI, Option.map_eq_some_iff, reduceCtorEq] at h
      obtain ⟨⟨r, B, z⟩, h1, h2⟩ := h
      simp only [Prod.mk.injEq] at h2
      obtain ⟨rfl, rfl, rfl⟩ := h2
      obtain ⟨h3, h4⟩ := ha
      simp only [okRq] at h3
      subst h3
      simp only [nextW] at h4
      simp only [Sem.run]
      by_cases hq : q.forced = true
      · simp only [hq, if_true] at h1 h4 ⊢
        exact ih _ A _ _ _ _ w' h1 h4
      · simp only [hq, if_false, Bool.false_eq_true] at h1 h4 ⊢
        exact ih _ A _ _ _ _ w' h1 h4
  | sys c k ih => intro A A' rs x w w' h ha; simp [runI] at h
  | program k ih =>
    intro A A' rs x w w' h ha
    simp only [runI] at h
    simp only [Sem.run]
    exact ih _ A _ _ _ _ w' h ha
  | mark m k ih =>
    intro A A' rs x w w' h ha
    simp only [runI] at h
    simp only [Sem.run]
    exact ih A _ _ _ _ w' h ha
  | halt h' => intro A A' rs x w w' h ha; simp [runI] at h

/-! ### Operations -/
def yK (κ : List (Nat × Value)) (ops : Array Oper) (j : Nat) : Option (Option Bool) :=
  match (ops[j]?).bind (·.dst) with
  | none => some none
  | some d => match look κ d with
    | none => none
    | some (.bool b) => some (some b)
    | some _ => some none

def wantK (κ : List (Nat × Value)) (ops : Array Oper) (o : Oper) : Option Bool :=
  match o.guard with
  | none => some true
  | some (j, x) => match yK κ ops j with
    | none => none
    | some none => some false
    | some (some b) => some (b == x)

theorem yK_sound {κ : List (Nat × Value)} {ops : Array Oper} {j : Nat} {tmps : Array Value} {r : Option Bool} (h : Has κ tmps) (hy : yK κ ops j = some r) : yielded ops tmps j = r := by
  unfold yK at hy
  unfold yielded
  cases hd : (ops[j]?).bind (·.dst) with
  | none => rw [hd] at hy; simp at hy; simp [← hy]
  | some d =>
    rw [hd] at hy
    simp only at hy
    cases hl : look κ d with
    | none => rw [hl] at hy; simp at hy
    | some v =>
      have hv := h d v hl
      rw [hl] at hy
      simp only [Option.bind_some]
      cases ht : tmps[d]? with
      | none =>
        have : v = undef := by rw [← hv]; simp [ht]
        subst this
        simp only [undef, Option.some.injEq] at hy
        exact hy
      | some u =>
        have : u = v := by rw [← hv]; simp [ht]
        subst this
        cases u <;> simp_all

theorem wantK_sound {κ : List (Nat × Value)} {ops : Array Oper} {o : Oper} {tmps : Array Value} {r : Bool} (h : Has κ tmps) (hy : wantK κ ops o = some r) :
    Region.wanted o (yielded ops tmps) = r := by
  unfold wantK at hy
  unfold Region.wanted
  cases hg : o.guard with
  | none => rw [hg] at hy; simp at hy; simp [hy]
  | some g =>
    obtain ⟨j, x⟩ := g
    rw [hg] at hy
    simp only at hy
    cases hk : yK κ ops j with
    | none => rw [hk] at hy; simp at hy
    | some z =>
      rw [hk] at hy
      simp only [yK_sound h hk]
      cases z with
      | none => simp at hy; simp [hy]
      | some b => simp only [Option.some.injEq] at hy; rw [← hy]; cases b <;> cases x <;> rfl

def isDefer : Op → Bool
  | .defer _ => true
  | .select _ _ => true
  | _ => false

def putK (n : Nat) (κ : List (Nat × Value)) : Option Tmp → Value → Option (List (Nat × Value))
  | none, _ => some κ
  | some d, v => bif Nat.blt d n then some ((d, v) :: κ) else none

/-- One operation on known slots. -/
def stepK (P : Program) (n : Nat) (ops : Array Oper) (κ : List (Nat × Value)) (i : Nat) (A : List Ans) : Option (List Rq × List Ans × List (Nat × Value)) :=
  match ops[i]? with
  | none => none
  | some o =>
    match wantK κ ops o with
    | none => none
    | some false => (putK n κ o.dst undef).map fun κ' => ([], A, κ')
    | some true =>
      bif isDefer o.op then none else
      bif o.op.operands.toList.all (fun x => (evK κ x).isSome) then
        match runI P (execOp (rho κ) o) A with
        | some (rs, A', .value v) => (putK n κ o.dst v).map fun κ' => (rs, A', κ')
        | some (rs, A', .skip) => (putK n κ o.dst undef).map fun κ' => (rs, A', κ')
        | _ => none
      else none

/-- Several, one behind the other. -/
def execK (P : Program) (n : Nat) (ops : Array Oper) : (m i : Nat) → (κ : List (Nat × Value)) → List Ans → Option (List Rq × List (Nat × Value))
  | 0, _, κ, [] => some ([], κ)
  | 0, _, _, _ :: _ => none
  | m + 1, i, κ, A =>
    match stepK P n ops κ i A with
    | none => none
    | some (rs, A', κ') => (execK P n ops m (i + 1) κ' A').map fun x => (rs ++ x.1, x.2)

def runK (P : Program) (n : Nat) (ops : Array Oper) (m i : Nat) (κ : List (Nat × Value)) (A : List Ans) (ks : List Nat) : Option (List Rq × List (Nat × Value)) :=
  (execK P n ops m i κ A).map fun x => (x.1, keep ks x.2)

theorem putK_sound {n : Nat} {κ κ' : List (Nat × Value)} {dst : Option Tmp} {v : Value} {a : Act} (hs : a.tmps.size = n) (h : Has κ a.tmps) (hp : putK n κ dst v = some κ') :
    (a.put dst v).tmps.size = n ∧ Has κ' (a.put dst v).tmps ∧ (a.put dst v).defers = a.defers := by
  cases dst with
  | none => simp [putK] at hp; subst hp; exact ⟨hs, h, rfl⟩
  | some d =>
    simp only [putK] at hp
    cases hb : Nat.blt d n with
    | false => rw [hb] at hp; simp at hp
    | true =>
      rw [hb] at hp
      simp at hp
      subst hp
      have hd : d < n := by simpa [Nat.blt_eq] using hb
      exact ⟨by simp [Act.put, hs], h.put (by rw [hs]; exact hd), rfl⟩

theorem Acts.append {rs rs' : List Rq} : ∀ {w w' : World}, Acts (rs ++ rs') w w' ↔ ∃ w1, Acts rs w w1 ∧ Acts rs' w1 w' := by
  induction rs with
  | nil => intro w w'; simp [Acts]
  | cons r rs ih =>
    intro w w'
    simp only [List.cons_append, Acts, ih]
    constructor
    · rintro ⟨h, w1, h1, h2⟩; exact ⟨w1, ⟨h, h1⟩, h2⟩
    · rintro ⟨w1, ⟨h, h1⟩, h2⟩; exact ⟨h, w1, h1, h2⟩


/-! ### Regions that draw their order -/
section
variable {F : Fence} {n : Nat} {P : Program} {ops : Array Oper} {Q : Exit → Act → World → Prop} {md : Region.Mode} {C : Array Bool → World → Prop} {D : World → Prop}

/-- The kit's 'wpAnyIn', every world on the way in a class that hangs on what is done. -/
def wpAnyC (F : Fence) (n : Nat) (P : Program) (md : Region.Mode) (ops : Array Oper) (Q : Exit → Act → World → Prop) (C : Array Bool → World → Prop) : Nat → Array Bool → Act → World → Prop
  | 0, listed, a, w => C listed w ∧ Region.ready md ops listed = [] ∧ Q .normal a w
  | fuel + 1, listed, a, w =>
    C listed w ∧ (Region.ready md ops listed = [] → Q .normal a w) ∧
    ∀ i ∈ Region.ready md ops listed, wpOpIn F n P ops Q i (wpAnyC F n P md ops Q C fuel (listed.setIfInBounds i true)) a w

theorem wpAnyC.inC : ∀ {fuel : Nat} {listed : Array Bool} {a : Act} {w : World}, wpAnyC F n P md ops Q C fuel listed a w → C listed w
  | 0, _, _, _, h => h.1
  | _ + 1, _, _, _, h => h.1

theorem wpAnyIn_of_C : ∀ (fuel : Nat) (listed : Array Bool) (a : Act) (w : World), wpAnyC F n P md ops Q C fuel listed a w → wpAnyIn F n P md ops Q fuel listed a w
  | 0, _, _, _, h => h.2
  | fuel + 1, _, _, _, h => ⟨h.2.1, fun i hi => wpOpIn_mono (fun a w => wpAnyIn_of_C fuel _ a w) (h.2.2 i hi)⟩

/-- In every world of the class the operation yields this value, and leaves the world. -/
def YieldsC (P : Program) (ops : Array Oper) (C : World → Prop) (o : Oper) (v : Value) (a : Act) : Prop :=
  (Region.wanted o (yielded ops a.tmps) = true ∧ ∀ w, C w → (execOp a.eval o).run P w = .ok (.value v) w) ∨ (Region.wanted o (yielded ops a.tmps) = false ∧ v = undef)

theorem YieldsC.of_same {o : Oper} {v : Value} {a a' : Act} (hy : YieldsC P ops D o v a) (he : execOp a'.eval o = execOp a.eval o)
    (hw : Region.wanted o (yielded ops a'.tmps) = Region.wanted o (yielded ops a.tmps)) : YieldsC P ops D o v a' := by
  unfold YieldsC at *
  rw [he, hw]
  exact hy

theorem YieldsC.wpOpIn (hfn : ∀ f, F.fn f) {i : Nat} {o : Oper} {v : Value} {a : Act} (hd : ∀ c, o.op ≠ .defer c) (hi : ops[i]? = some o) (hy : YieldsC P ops D o v a)
    {K : Act → World → Prop} {w : World} (hC : D w) (h : K (a.put o.dst v) w) : wpOpIn F n P ops Q i K a w := by
  unfold Go.wpOpIn
  simp only [hi]
  rcases hy with ⟨hw, hv⟩ | ⟨hw, rfl⟩
  · simp only [hw, if_true, Oper.wpIn, Oper.semAt_eq _ _ _ hd, hv w hC, Oper.uponIn]; exact ⟨fun f _ => hfn f, h⟩
  · simp only [hw, Bool.false_eq_true, if_false]; exact ⟨fun f _ => hfn f, h⟩

theorem wpOpC_put {j : Nat} {oi oj : Oper} {v : Value} (hj : ops[j]? = some oj) (hap : oi.apart ops oj = true)
    (hsi : ∀ cs b, oi.op ≠ .select cs b) (hsj : ∀ cs b, oj.op ≠ .select cs b) (hdj : ∀ c, oj.op ≠ .defer c)
    (hQ : ∀ c a w, Q (.panic c) (a.put oi.dst v) w → Q (.panic c) a w) {K : Act → World → Prop} {a : Act} {w : World}
    (hy : YieldsC P ops D oi v a) (h : wpOpIn F n P ops Q j K (a.put oi.dst v) w) :
    wpOpIn F n P ops Q j (fun a' w' => YieldsC P ops D oi v a' ∧ K (a'.put oi.dst v) w') a w := by
  obtain ⟨h1, h2, h3⟩ := Oper.apart_spec hap
  have keep : ∀ (a : Act), YieldsC P ops D oi v a → ∀ u, YieldsC P ops D oi v (a.put oj.dst u) := fun a hy u =>
    hy.of_same (execOp_put oi hsi a oj.dst u h3) (wanted_put oi a oj.dst u h3)
  unfold wpOpIn at *
  simp only [hj] at *
  rw [wanted_put oj a oi.dst v h1, about_put oj w a oi.dst v h1] at h
  split
  · rename_i hw
    simp only [hw, if_true] at h
    unfold Oper.wpIn at *
    rw [about_put oj w a oi.dst v h1] at h
    refine ⟨h.1, ?_⟩
    have h := h.2
    rw [Oper.semAt_eq _ _ _ hdj, execOp_put oj hsj a oi.dst v h1] at h
    rw [Oper.semAt_eq _ _ _ hdj]
    generalize (execOp a.eval oj).run P w = r at *
    cases r with
    | ok x w' =>
      cases x <;> simp only [Oper.uponIn] at h ⊢
      case value u => exact ⟨keep a hy u, by rw [← Act.put_comm a v u h2]; exact h⟩
      case skip => exact ⟨keep a hy _, by rw [← Act.put_comm a v undef h2]; exact h⟩
      case defer d =>
        refine ⟨keep { a with defers := d :: a.defers } (hy.of_same rfl rfl) _, ?_⟩
        rw [← Act.put_comm _ v undef h2, ← Act.put_defers]
        exact h
      case enter f args =>
        refine ⟨h.1, CallsIn.mono h.2 fun e w'' he => ?_⟩
        cases e with
        | returned u => exact ⟨keep a hy u, by rw [← Act.put_comm a v u h2]; exact he⟩
        | panicked c => exact hQ _ _ _ he
        | outgrown => exact he
      case row row args => exact ⟨h.1, RowsIn.mono h.2 fun u w'' he => ⟨keep a hy u, by rw [← Act.put_comm a v u h2]; exact he⟩⟩
      case round l f tmps assign body =>
        refine ⟨h.1, RoundIn.mono h.2 fun e w'' he => ?_⟩
        cases e with
        | returned u => exact ⟨keep a hy u, by rw [← Act.put_comm a v u h2]; exact he⟩
        | panicked c => exact hQ _ _ _ he
        | outgrown => exact he
    | halt x w' =>
      cases x <;> simp only [Oper.uponIn] at h ⊢
      case panic u => exact hQ _ _ _ h
  · rename_i hw
    simp only [hw] at h
    exact ⟨h.1, keep a hy _, by rw [← Act.put_comm a v undef h2]; exact h.2⟩

theorem unl {l : Array Bool} {i : Nat} (h0 : l.getD i true = false) (h1 : l.getD i false = true) : False := by
  rcases Nat.lt_or_ge i l.size with h' | h'
  · simp [h'] at h0 h1; rw [h0] at h1; cases h1
  · simp [Array.getElem?_eq_none h'] at h1

theorem wpAnyC_first (hfn : ∀ f, F.fn f) {i : Nat} {oi : Oper} {v : Value} (hi : ops[i]? = some oi) (hsel : ∀ (j : Nat) (o : Oper) cs b, ops[j]? = some o → o.op ≠ .select cs b)
    (hdef : ∀ (j : Nat) (o : Oper) c, ops[j]? = some o → o.op ≠ .defer c) (hQ : ∀ c a w, Q (.panic c) (a.put oi.dst v) w → Q (.panic c) a w)
    (Inv : Array Bool → Prop) (hInv : ∀ l j, Inv l → l.getD i true = false → j ∈ Region.ready md ops l → j ≠ i → Inv (l.setIfInBounds j true))
    (hCi : ∀ l w, C (l.setIfInBounds i true) w → C l w) (hD : ∀ l w, Inv l → C l w → D w) :
    ∀ (fuel : Nat) (listed : Array Bool) (a : Act) (w : World), Inv listed →
      (∀ j oj, ops[j]? = some oj → j ≠ i → listed.getD j true = false → (∀ e ∈ oj.after, Region.binds md e = true → e.on ≠ i) → oi.apart ops oj = true) →
      i ∈ Region.ready md ops listed → YieldsC P ops D oi v a →
      wpAnyC F n P md ops Q C fuel (listed.setIfInBounds i true) (a.put oi.dst v) w → wpAnyC F n P md ops Q C (fuel + 1) listed a w := by
  intro fuel
  induction fuel with
  | zero =>
    intro listed a w hI _ hr hy H
    have hC := hCi _ _ H.inC
    refine ⟨hC, fun h => (by rw [h] at hr; cases hr), fun j hj => ?_⟩
    by_cases hji : j = i
    · subst hji; exact hy.wpOpIn hfn (fun c => hdef _ _ c hi) hi (hD _ _ hI hC) H
    · have := ready_mono hj hji
      rw [H.2.1] at this
      cases this
  | succ fuel ih =>
    intro listed a w hI hfree hr hy H
    have hC := hCi _ _ H.inC
    refine ⟨hC, fun h => (by rw [h] at hr; cases hr), fun j hj => ?_⟩
    by_cases hji : j = i
    · subst hji; exact hy.wpOpIn hfn (fun c => hdef _ _ c hi) hi (hD _ _ hI hC) H
    · have h1 := H.2.2 j (ready_mono hj hji)
      obtain ⟨hjun, oj, hoj, hall⟩ := mem_ready.1 hj
      have hnot : ∀ e ∈ oj.after, Region.binds md e = true → e.on ≠ i := fun e he hb heq => by
        have h1 := hall e he hb
        have h0 := (mem_ready.1 hr).1
        rw [heq] at h1
        rcases Nat.lt_or_ge i listed.size with h' | h'
        · simp [h'] at h0 h1; rw [h0] at h1; cases h1
        · simp [Array.getElem?_eq_none h'] at h1
      have h2 := wpOpC_put hoj (hfree j oj hoj hji hjun hnot) (fun cs b => hsel i oi cs b hi) (fun cs b => hsel j oj cs b hoj) (fun c => hdef j oj c hoj) hQ hy h1
      have hfree' : ∀ k ok, ops[k]? = some ok → k ≠ i → (listed.setIfInBounds j true).getD k true = false →
          (∀ e ∈ ok.after, Region.binds md e = true → e.on ≠ i) → oi.apart ops ok = true := fun k ok hk hki hun hno => by
        refine hfree k ok hk hki ?_ hno
        by_cases hjk : j = k
        · subst hjk; exact hjun
        · rw [getD_set_ne true hjk] at hun; exact hun
      refine wpOpIn_mono (fun a' w' h3 => ?_) h2
      have h4 := h3.2
      rw [Array.setIfInBounds_comm _ _ (Ne.symm hji)] at h4
      exact ih (listed.setIfInBounds j true) a' w' (hInv _ _ hI (mem_ready.1 hr).1 hj hji) hfree' (ready_mono hr (Ne.symm hji)) h3.1 h4
end

/-- Two classes: ahead of an operation, and behind it. -/
def sw (e : Nat) (C₁ C₂ : World → Prop) (l : Array Bool) (w : World) : Prop := (l.getD e false = false → C₁ w) ∧ (l.getD e false = true → C₂ w)
theorem sw1 {e : Nat} {C₁ C₂ : World → Prop} {l : Array Bool} {w : World} (h : l.getD e false = false) (hC : C₁ w) : sw e C₁ C₂ l w := ⟨fun _ => hC, fun h' => Bool.noConfusion (h.symm.trans h')⟩
theorem sw2 {e : Nat} {C₁ C₂ : World → Prop} {l : Array Bool} {w : World} (h : l.getD e false = true) (hC : C₂ w) : sw e C₁ C₂ l w := ⟨fun h' => Bool.noConfusion (h.symm.trans h'), fun _ => hC⟩
theorem sw_set {e i : Nat} {C₁ C₂ : World → Prop} (hne : Nat.beq i e = false) (l : Array Bool) (w : World) (h : sw e C₁ C₂ (l.setIfInBounds i true) w) : sw e C₁ C₂ l w := by
  have hne' : i ≠ e := fun h => by subst h; simp [Nat.beq_refl] at hne
  unfold sw at *
  rwa [getD_set_ne false hne'] at h

/-- None of B can be done ahead of i. -/
def held (ops : Array Oper) (i : Nat) (B : List Nat) : Bool :=
  B.all fun b => match ops[b]? with
    | some o => o.after.any fun e => Region.binds .any e && (Nat.beq e.on i || B.contains e.on)
    | none => false
def unlisted (B : List Nat) (l : Array Bool) : Prop := ∀ b, b ∈ B → l.getD b true = false
theorem unlisted_step {ops : Array Oper} {i : Nat} {B : List Nat} (h : held ops i B = true) (l : Array Bool) (j : Nat) (hI : unlisted B l) (hi : l.getD i true = false) (hj : j ∈ Region.ready .any ops l) (hne : j ≠ i) : unlisted B (l.setIfInBounds j true) := by
  intro b hb
  by_cases hjb : j = b
  · subst hjb
    exfalso
    obtain ⟨-, oj, hoj, hall⟩ := mem_ready.1 hj
    have := List.all_eq_true.1 h j hb
    rw [hoj] at this
    simp only [Array.any_eq_true] at this
    obtain ⟨x, hx, he⟩ := this
    simp only [Bool.and_eq_true, Bool.or_eq_true] at he
    have h1 := hall _ (Array.getElem_mem hx) he.1
    rcases he.2 with h2 | h2
    · rw [Nat.eq_of_beq_eq_true h2] at h1; exact unl hi h1
    · exact unl (hI _ (List.contains_iff_mem.1 h2)) h1
  · rw [getD_set_ne true hjb]; exact hI b hb

/-! ### A frame of one function -/
/-- The kit's 'wpIn', of frames of the function f₀ alone. -/
def wpF (P : Program) (ro : Option Nat) (f₀ : FuncId) (c : Code) (Q : Exit → Act → World → Prop) (a : Act) (w : World) : Prop :=
  ∀ (b : Frame) (k : List Item) (cs : List Frame), b.roundOf = ro → b.fn = f₀ →
    ∃ e a' w', Q e a' w' ∧ ArrivesIn (Machine.fenced P (FW ro)) P (lone (b.atR a (.code c :: k)) cs w) b k cs e a' w'

section
variable {P : Program} {ro : Option Nat} {f₀ : FuncId} {Q : Exit → Act → World → Prop} {a : Act} {w : World}
theorem wpF_of {c : Code} (h : c.wpIn (FW ro) 0 P Q a w) : wpF P ro f₀ c Q a w := fun b k cs hro _ => h b k cs hro trivial (room_FW _ _)
theorem wpF_seq {x y : Code} (h : x.wpIn (FW ro) 0 P (Exit.then (wpF P ro f₀ y Q) Q) a w) : wpF P ro f₀ (.seq x y) Q a w := by
  intro b k cs hro hb
  have h0 : (lone (b.atR a (.code (.seq x y) :: k)) cs w).fenced P (FW ro) := fenced_wide P _
  obtain ⟨e, a₁, w₁, hq, harr⟩ := h b (.code y :: k) cs hro trivial (room_FW _ _)
  cases e with
  | normal =>
    obtain ⟨e₂, a₂, w₂, hq₂, harr₂⟩ := hq b k cs hro hb
    exact ⟨e₂, a₂, w₂, hq₂, .of_steps (.head h0 stepR_seq harr) harr₂⟩
  | _ => exact ⟨_, a₁, w₁, hq, .of_steps (.one h0 stepR_seq) (.pass (x := .code y) rfl (fun _ _ => .inl (by simp)) harr)⟩
theorem wpF_seqF {x y : Code} (h : wpF P ro f₀ x (Exit.then (y.wpIn (FW ro) 0 P Q) Q) a w) : wpF P ro f₀ (.seq x y) Q a w := by
  intro b k cs hro hb
  have h0 : (lone (b.atR a (.code (.seq x y) :: k)) cs w).fenced P (FW ro) := fenced_wide P _
  obtain ⟨e, a₁, w₁, hq, harr⟩ := h b (.code y :: k) cs hro hb
  cases e with
  | normal =>
    obtain ⟨e₂, a₂, w₂, hq₂, harr₂⟩ := hq b k cs hro trivial (room_FW _ _)
    exact ⟨e₂, a₂, w₂, hq₂, .of_steps (.head h0 stepR_seq harr) harr₂⟩
  | _ => exact ⟨_, a₁, w₁, hq, .of_steps (.one h0 stepR_seq) (.pass (x := .code y) rfl (fun _ _ => .inl (by simp)) harr)⟩
theorem wpF_block {id : Nat} {c : Code} (h : wpF P ro f₀ c (Exit.inBlock id Q) a w) : wpF P ro f₀ (.block id c) Q a w := by
  intro b k cs hro hb
  have h0 : (lone (b.atR a (.code (.block id c) :: k)) cs w).fenced P (FW ro) := fenced_wide P _
  obtain ⟨e, a₁, w₁, hq, harr⟩ := h b (.inBlock id :: k) cs hro hb
  cases e with
  | normal => exact ⟨.normal, a₁, w₁, hq, .head h0 stepR_block (StepsIn.trans harr (.one (fenced_wide P _) stepR_inBlock))⟩
  | exit id' =>
    by_cases hid : id' = id
    · simp only [Exit.inBlock, hid, if_true] at hq
      exact ⟨.normal, a₁, w₁, hq, .head h0 stepR_block (harr.1 k (by simp [exitTo, hid]))⟩
    · simp only [Exit.inBlock, hid, if_false] at hq
      have this : (id == id') = false := by simp; exact fun h => hid h.symm
      have hx : exitTo id' (.inBlock id :: k) = exitTo id' k := by simp [exitTo, this]
      exact ⟨.exit id', a₁, w₁, hq, fun k' hk => .head h0 stepR_block (harr.1 k' (by rw [hx]; exact hk)),
        fun hr' hk => let ⟨k₁, h1, h2⟩ := harr.2 hr' (by rw [hx]; exact hk); ⟨k₁, h1, .head h0 stepR_block h2⟩⟩
  | goto l =>
    have hx : gotoIn l (.inBlock id :: k) = gotoIn l k := by simp [gotoIn]
    exact ⟨_, a₁, w₁, hq, fun k' hk => .head h0 stepR_block (harr.1 k' (by rw [hx]; exact hk)),
      fun hr' hk => let ⟨k₁, h1, h2⟩ := harr.2 hr' (by rw [hx]; exact hk); ⟨k₁, h1, .head h0 stepR_block h2⟩⟩
  | _ => exact ⟨_, a₁, w₁, hq, .of_steps (.one h0 stepR_block) harr⟩
theorem wpF_rangeFunc {g : Operand} {ps : Array Tmp} {assign body : Code}
    (h : ∃ (l : Nat) (mark : List Deferred) (w₁ : World) (d : Deferred) (w₁' : World) (f : FuncId) (args : Array Value) (w₂ : World),
      (Instr.enterLoop f₀ a.tmps ps assign body ro).run P w = .ok (l, mark) w₁ ∧
      (resolve a.eval (rangeCall g l) 0).run P w₁ = .ok d w₁' ∧
      (invoke d.target d.args).run P w₁' = .ok (.enter f args) w₂ ∧
      CallsIn (FW ro) 0 P f args w₂ (rangePost (FW ro) 0 P l Q { a with defers := mark ++ a.defers })) : wpF P ro f₀ (.rangeFunc g ps assign body) Q a w := by
  intro b k cs hro hb
  obtain ⟨l, mark, w₁, d, w₁', f, args, w₂, he, hres, hinv, hF, hcall⟩ := h
  rw [← hro, ← hb] at he
  have henter := stepR_rangeFunc (P := P) (b := b) (a := a) (k := k) (cs := cs) (w := w) he hres hinv
  obtain ⟨e, w₃, fr, hR, hsteps, hfn, hleave⟩ := hcall (b.atR { a with defers := mark ++ a.defers } (.inRangeFunc l :: k) :: cs) (room_FW _ _)
  cases e with
  | outgrown =>
    obtain ⟨a₀, w₀, hq⟩ := hR
    exact ⟨.outgrown, a₀, w₀, hq, .inr (Outgrown.of_steps (.one henter) hsteps)⟩
  | returned v =>
    obtain ⟨jump, w₄, hend, hj⟩ := hR
    have sback : StepsIn (Machine.fenced P (FW ro)) P (lone (b.atR a (.code (.rangeFunc g ps assign body) :: k)) cs w) (lone (b.atR { a with defers := mark ++ a.defers } ((jump.map Item.code).toList ++ k)) cs w₄) := by
      refine .head (fenced_wide P _) henter (StepsIn.trans hsteps (.head (fenced_wide P _) ?_ (.one (fenced_wide P _) (stepR_endRangeFunc hend))))
      rw [← finish_atR_inRangeFunc l v]; exact step_leave_returned hleave
    cases jump with
    | none => exact ⟨.normal, _, w₄, hj, sback⟩
    | some c =>
      obtain ⟨e', a'', w₅, hq, harr⟩ := hj b k cs hro trivial (room_FW _ _)
      exact ⟨e', a'', w₅, hq, .of_steps sback harr⟩
  | panicked chain =>
    refine ⟨.panic chain, _, w₃, hR, .inRangeFunc l :: k, .head (fenced_wide P _) henter (StepsIn.trans hsteps (.one (fenced_wide P _) ?_))⟩
    rw [← Frame.raise_atR]; exact step_leave_panicked hleave
theorem calls_of_wpF {f : FuncId} {fn : Func} {c : Code} {args : Array Value} {R : Ending → World → Prop} (hf : P.funcs[f]? = some fn) (hb : fn.body = some c)
    (h : wpF P none f c (bodyPostM (FW none) 0 P fn R) { tmps := args ++ Array.replicate (fn.ntmps - args.size) undef, defers := [] } w) : Calls P f args w R := by
  refine (callsIn_FW (ro := none) (n := 0)).1 ⟨trivial, fun cs hr => ?_⟩
  let b : Frame := { (default : Frame) with fn := f, kind := .normal, roundOf := none }
  have henter : Frame.enter P f args .normal = b.atR { tmps := args ++ Array.replicate (fn.ntmps - args.size) undef, defers := [] } [.code c] := by
    simp [Frame.enter, Frame.atR, hf, hb, b]
  obtain ⟨e, a', w', hq, harr⟩ := h b [] cs rfl rfl
  rw [← henter] at harr
  cases e with
  | normal =>
    obtain ⟨e', w'', fr', hR, hs, hfn, hl⟩ := leaves_stepsInM a'.defers .returning w' { b.atR a' [] with mode := .returning } cs rfl rfl rfl hf rfl trivial hr hq
    exact ⟨e', w'', fr', hR, ComesIn.of_steps (StepsIn.trans harr (.one (fenced_wide P _) (stepR_end rfl))) hs, hfn, hl⟩
  | ret =>
    obtain ⟨todo, hs₀⟩ := harr.1 rfl
    obtain ⟨e', w'', fr', hR, hs, hfn, hl⟩ := leaves_stepsInM a'.defers .returning w' { b.atR a' todo with mode := .returning } cs rfl rfl rfl hf rfl trivial hr hq
    exact ⟨e', w'', fr', hR, ComesIn.of_steps hs₀ hs, hfn, hl⟩
  | panic chain =>
    obtain ⟨todo, hs₀⟩ := harr
    obtain ⟨e', w'', fr', hR, hs, hfn, hl⟩ := leaves_stepsInM a'.defers (.panicking chain) w' { b.atR a' todo with mode := .panicking chain } cs rfl rfl rfl hf rfl trivial hr hq
    exact ⟨e', w'', fr', hR, ComesIn.of_steps hs₀ hs, hfn, hl⟩
  | exit id => exact hq.elim
  | goto l => exact hq.elim
  | outgrown => exact ⟨.outgrown, w', b, hq, harr.resolve_left (by simp [b]), rfl, trivial⟩
end

/-! ### The stack -/
inductive KI where
  | code (c : Code)
  | codeF (f₀ : Nat) (c : Code)
  | block (id : Nat)
  | reg (ops : Array Oper) (i : Nat)
  | one (ops : Array Oper) (i : Nat)
  | dreg (ops : Array Oper) (listed : Array Bool) (fuel : Nat) (C : Array Bool → World → Prop)
  | stop (X : Act → World → Prop)

section
variable (P : Program) (ro : Option Nat) (Qf : Exit → Act → World → Prop)

/-- What is asked of an exit, when this is still to be done. -/
def QK : List KI → Exit → Act → World → Prop
  | [], e, a, w => Qf e a w
  | x :: k, .normal, a, w => match x with
    | .code c => c.wpIn (FW ro) 0 P (QK k) a w
    | .codeF f₀ c => wpF P ro f₀ c (QK k) a w
    | .block _ => QK k .normal a w
    | .reg ops i => wpOpsIn (FW ro) 0 P ops (QK k) (List.range' i (ops.size - i)) a w
    | .one ops i => wpOpIn (FW ro) 0 P ops (QK k) i (QK k .normal) a w
    | .dreg ops listed fuel C => wpAnyC (FW ro) 0 P .any ops (QK k) C fuel listed a w
    | .stop X => X a w
  | x :: k, .exit id, a, w => match x with
    | .block id' => if id = id' then QK k .normal a w else QK k (.exit id) a w
    | _ => QK k (.exit id) a w
  | _ :: k, e, a, w => QK k e a w

/-- From every frame of n slots in which these are known. -/
def S (n : Nat) (ds : List Deferred) (k : List KI) (κ : List (Nat × Value)) (w : World) : Prop :=
  ∀ a : Act, a.tmps.size = n → Has κ a.tmps → a.defers = ds → QK P ro Qf k .normal a w
end

section
variable {P : Program} {ro : Option Nat} {Qf : Exit → Act → World → Prop} {n : Nat} {ds : List Deferred} {k : List KI} {κ : List (Nat × Value)} {w : World}

theorem QK_ret : ∀ (k : List KI) (a : Act) (w : World), QK P ro Qf k .ret a w = Qf .ret a w
  | [], _, _ => rfl
  | _ :: k, a, w => by simp only [QK]; exact QK_ret k a w

theorem QK_panic (ch : List PanicEntry) : ∀ (k : List KI) (a : Act) (w : World), QK P ro Qf k (.panic ch) a w = Qf (.panic ch) a w
  | [], _, _ => rfl
  | _ :: k, a, w => by simp only [QK]; exact QK_panic ch k a w

theorem QK_outgrown : ∀ (k : List KI) (a : Act) (w : World), QK P ro Qf k .outgrown a w = Qf .outgrown a w
  | [], _, _ => rfl
  | _ :: k, a, w => by simp only [QK]; exact QK_outgrown k a w

theorem S.weaken {ks : List Nat} (h : S P ro Qf n ds k (keep ks κ) w) : S P ro Qf n ds k κ w :=
  fun a hs hh hd => h a hs (hh.keep ks) hd

theorem S.seq {x y : Code} (h : S P ro Qf n ds (.code x :: .code y :: k) κ w) : S P ro Qf n ds (.code (.seq x y) :: k) κ w := by
  intro a hs hh hd
  refine wpIn_seq (wpIn_mono (h a hs hh hd) ?_)
  intro e a w hq
  cases e <;> exact hq

theorem S.block {id : Nat} {c : Code} (h : S P ro Qf n ds (.code c :: .block id :: k) κ w) : S P ro Qf n ds (.code (.block id c) :: k) κ w := by
  intro a hs hh hd
  refine wpIn_block (wpIn_mono (h a hs hh hd) ?_)
  intro e a w hq
  cases e <;> exact hq

theorem S.out {id : Nat} (h : S P ro Qf n ds k κ w) : S P ro Qf n ds (.block id :: k) κ w := h

theorem S.skip (h : S P ro Qf n ds k κ w) : S P ro Qf n ds (.code .skip :: k) κ w :=
  fun a hs hh hd => wpIn_skip (h a hs hh hd)

theorem S.label {l : Nat} (h : S P ro Qf n ds k κ w) : S P ro Qf n ds (.code (.label l) :: k) κ w :=
  fun a hs hh hd => wpIn_label (h a hs hh hd)

theorem S.yes {c : Operand} {x y : Code} (hc : evK κ c = some (.bool true)) (h : S P ro Qf n ds (.code x :: k) κ w) : S P ro Qf n ds (.code (.cond c x y) :: k) κ w :=
  fun a hs hh hd => wpIn_cond_true (hh.eval hc) (h a hs hh hd)

theorem S.no {c : Operand} {x y : Code} (hc : evK κ c = some (.bool false)) (h : S P ro Qf n ds (.code y :: k) κ w) : S P ro Qf n ds (.code (.cond c x y) :: k) κ w :=
  fun a hs hh hd => wpIn_cond_false (hh.eval hc) (h a hs hh hd)

def exitK (id : Nat) : List KI → Option (List KI)
  | [] => none
  | .block id' :: k => bif Nat.beq id id' then some k else exitK id k
  | _ :: k => exitK id k

theorem QK_exit {id : Nat} : ∀ {k k' : List KI} (a : Act) (w : World), exitK id k = some k' → QK P ro Qf k (.exit id) a w = QK P ro Qf k' .normal a w
  | [], _, _, _, h => by simp [exitK] at h
  | .block id' :: k, k', a, w, h => by
    simp only [exitK] at h
    cases hb : Nat.beq id id' with
    | true =>
      rw [hb] at h
      simp at h
      subst h
      have := Nat.eq_of_beq_eq_true hb
      simp [QK, this]
    | false =>
      rw [hb] at h
      have hne : id ≠ id' := fun e => by subst e; simp [Nat.beq_refl] at hb
      simp only [QK, if_neg hne]
      exact QK_exit a w h
  | .code _ :: k, k', a, w, h => by simp only [exitK] at h; simp only [QK]; exact QK_exit a w h
  | .codeF _ _ :: k, k', a, w, h => by simp only [exitK] at h; simp only [QK]; exact QK_exit a w h
  | .reg _ _ :: k, k', a, w, h => by simp only [exitK] at h; simp only [QK]; exact QK_exit a w h
  | .one _ _ :: k, k', a, w, h => by simp only [exitK] at h; simp only [QK]; exact QK_exit a w h
  | .dreg _ _ _ _ :: k, k', a, w, h => by simp only [exitK] at h; simp only [QK]; exact QK_exit a w h
  | .stop _ :: k, k', a, w, h => by simp only [exitK] at h; simp only [QK]; exact QK_exit a w h

theorem QK_exit_out {id : Nat} : ∀ {k : List KI} (a : Act) (w : World), exitK id k = none → QK P ro Qf k (.exit id) a w = Qf (.exit id) a w
  | [], _, _, _ => rfl
  | .block id' :: k, a, w, h => by
    simp only [exitK] at h
    cases hb : Nat.beq id id' with
    | true => rw [hb] at h; simp at h
    | false =>
      rw [hb] at h
      have hne : id ≠ id' := fun e => by subst e; simp [Nat.beq_refl] at hb
      simp only [QK, if_neg hne]
      exact QK_exit_out a w h
  | .code _ :: k, a, w, h => by simp only [exitK] at h; simp only [QK]; exact QK_exit_out a w h
  | .codeF _ _ :: k, a, w, h => by simp only [exitK] at h; simp only [QK]; exact QK_exit_out a w h
  | .reg _ _ :: k, a, w, h => by simp only [exitK] at h; simp only [QK]; exact QK_exit_out a w h
  | .one _ _ :: k, a, w, h => by simp only [exitK] at h; simp only [QK]; exact QK_exit_out a w h
  | .dreg _ _ _ _ :: k, a, w, h => by simp only [exitK] at h; simp only [QK]; exact QK_exit_out a w h
  | .stop _ :: k, a, w, h => by simp only [exitK] at h; simp only [QK]; exact QK_exit_out a w h

theorem S.exit {id : Nat} {k' : List KI} (hk : exitK id k = some k') (h : S P ro Qf n ds k' κ w) : S P ro Qf n ds (.code (.exit id) :: k) κ w :=
  fun a hs hh hd => wpIn_exit (by rw [QK_exit a w hk]; exact h a hs hh hd)

theorem S.exitOut {id : Nat} (hk : exitK id k = none) (h : ∀ a : Act, a.tmps.size = n → Has κ a.tmps → a.defers = ds → Qf (.exit id) a w) : S P ro Qf n ds (.code (.exit id) :: k) κ w :=
  fun a hs hh hd => wpIn_exit (by rw [QK_exit_out a w hk]; exact h a hs hh hd)

theorem S.plainF {f₀ : Nat} {c : Code} (h : S P ro Qf n ds (.code c :: k) κ w) : S P ro Qf n ds (.codeF f₀ c :: k) κ w := fun a hs hh hd => wpF_of (h a hs hh hd)
theorem S.seqF {f₀ : Nat} {x y : Code} (h : S P ro Qf n ds (.code x :: .codeF f₀ y :: k) κ w) : S P ro Qf n ds (.codeF f₀ (.seq x y) :: k) κ w := fun a hs hh hd =>
  wpF_seq (wpIn_mono (h a hs hh hd) fun e a w hq => by cases e <;> exact hq)
theorem S.seqF1 {f₀ : Nat} {x y : Code} (h : S P ro Qf n ds (.codeF f₀ x :: .code y :: k) κ w) : S P ro Qf n ds (.codeF f₀ (.seq x y) :: k) κ w := fun a hs hh hd =>
  wpF_seqF fun b k' cs hro hb => let ⟨e, a', w', hq, r⟩ := h a hs hh hd b k' cs hro hb; ⟨e, a', w', by cases e <;> exact hq, r⟩
theorem S.blockF {f₀ id : Nat} {c : Code} (h : S P ro Qf n ds (.codeF f₀ c :: .block id :: k) κ w) : S P ro Qf n ds (.codeF f₀ (.block id c) :: k) κ w := fun a hs hh hd =>
  wpF_block fun b k' cs hro hb => let ⟨e, a', w', hq, r⟩ := h a hs hh hd b k' cs hro hb; ⟨e, a', w', by cases e <;> exact hq, r⟩

theorem S.ret (h : ∀ a : Act, a.tmps.size = n → Has κ a.tmps → a.defers = ds → Qf .ret a w) : S P ro Qf n ds (.code .ret :: k) κ w :=
  fun a hs hh hd => wpIn_ret (by rw [QK_ret]; exact h a hs hh hd)

theorem S.fin (h : ∀ a : Act, a.tmps.size = n → Has κ a.tmps → a.defers = ds → Qf .normal a w) : S P ro Qf n ds [] κ w := h

theorem S.region {id : Nat} {ops : Array Oper} (h : S P ro Qf n ds (.reg ops 0 :: k) κ w) : S P ro Qf n ds (.code (.region id ops false) :: k) κ w := by
  intro a hs hh hd
  have := h a hs hh hd
  simp only [QK, Nat.sub_zero] at this
  exact wpIn_region (by rw [List.range_eq_range']; exact this)

theorem S.regEnd {ops : Array Oper} {i : Nat} (hi : ops.size = i) (h : S P ro Qf n ds k κ w) : S P ro Qf n ds (.reg ops i :: k) κ w := by
  intro a hs hh hd
  subst hi
  have := h a hs hh hd
  simpa [QK, wpOpsIn] using this

theorem about_FW (o : Oper) (a : Act) (w : World) : ∀ f, o.about P w a.eval = some f → (FW ro).fn f := fun _ _ => trivial

/-- What one operation does, as the calculus asks it. -/
theorem stepK_sound {ops : Array Oper} {Q : Exit → Act → World → Prop} {i : Nat} {rest : List Nat} {κ' : List (Nat × Value)} {A A' : List Ans} {rs : List Rq} {w' : World}
    (hx : stepK P n ops κ i A = some (rs, A', κ')) (ha : Acts rs w w')
    (h : ∀ a : Act, a.tmps.size = n → Has κ' a.tmps → a.defers = ds → wpOpsIn (FW ro) 0 P ops Q rest a w') :
    ∀ a : Act, a.tmps.size = n → Has κ a.tmps → a.defers = ds → wpOpsIn (FW ro) 0 P ops Q (i :: rest) a w := by
  intro a hs hh hd
  unfold stepK at hx
  simp only [wpOpsIn]
  cases ho : ops[i]? with
  | none => rw [ho] at hx; simp at hx
  | some o =>
    rw [ho] at hx
    simp only at hx ⊢
    cases hw : wantK κ ops o with
    | none => rw [hw] at hx; simp at hx
    | some b =>
      rw [hw] at hx
      have hwant := wantK_sound hh hw
      cases b with
      | false =>
        simp only [Option.map_eq_some_iff, Prod.mk.injEq] at hx
        obtain ⟨κ1, hp, rfl, rfl, rfl⟩ := hx
        simp only [Acts] at ha
        subst ha
        rw [if_neg (by simp [hwant])]
        obtain ⟨h1, h2, h3⟩ := putK_sound hs hh hp
        exact ⟨fun _ _ => trivial, h _ h1 h2 (h3.trans hd)⟩
      | true =>
        simp only at hx
        cases hdf : isDefer o.op with
        | true => rw [hdf] at hx; simp at hx
        | false =>
          rw [hdf] at hx
          simp only [cond_false] at hx
          cases hall : o.op.operands.toList.all (fun x => (evK κ x).isSome) with
          | false => rw [hall] at hx; simp at hx
          | true =>
            rw [hall] at hx
            simp only [cond_true] at hx
            rw [if_pos hwant]
            have hsel : ∀ cs b, o.op ≠ .select cs b := fun cs b e => by rw [e] at hdf; simp [isDefer] at hdf
            have hdef : ∀ c, o.op ≠ .defer c := fun c e => by rw [e] at hdf; simp [isDefer] at hdf
            have hcongr : execOp a.eval o = execOp (rho κ) o := execOp_congr o hsel fun x hx => hh.evals (List.all_eq_true.1 hall x (Array.mem_toList_iff.2 hx))
            refine ⟨about_FW o a w, ?_⟩
            rw [Oper.semAt_eq _ _ _ hdef, hcongr]
            cases hr : runI P (execOp (rho κ) o) A with
            | none => rw [hr] at hx; simp at hx
            | some r =>
              obtain ⟨rs1, A1, nx⟩ := r
              rw [hr] at hx
              cases nx <;> simp only [reduceCtorEq] at hx
              case value v =>
                simp only [Option.map_eq_some_iff, Prod.mk.injEq] at hx
                obtain ⟨κ1, hp, rfl, rfl, rfl⟩ := hx
                rw [runI_sound _ _ _ _ _ _ _ hr ha]
                obtain ⟨h1, h2, h3⟩ := putK_sound hs hh hp
                exact h _ h1 h2 (h3.trans hd)
              case skip =>
                simp only [Option.map_eq_some_iff, Prod.mk.injEq] at hx
                obtain ⟨κ1, hp, rfl, rfl, rfl⟩ := hx
                rw [runI_sound _ _ _ _ _ _ _ hr ha]
                obtain ⟨h1, h2, h3⟩ := putK_sound hs hh hp
                exact h _ h1 h2 (h3.trans hd)

theorem execK_sound {ops : Array Oper} {Q : Exit → Act → World → Prop} : ∀ (m i : Nat) (κ κ' : List (Nat × Value)) (A : List Ans) (rs : List Rq) (w w' : World) (rest : List Nat),
    execK P n ops m i κ A = some (rs, κ') → Acts rs w w' →
    (∀ a : Act, a.tmps.size = n → Has κ' a.tmps → a.defers = ds → wpOpsIn (FW ro) 0 P ops Q rest a w') →
    ∀ a : Act, a.tmps.size = n → Has κ a.tmps → a.defers = ds → wpOpsIn (FW ro) 0 P ops Q (List.range' i m ++ rest) a w := by
  intro m
  induction m with
  | zero =>
    intro i κ κ' A rs w w' rest hx ha h
    cases A with
    | nil =>
      simp only [execK, Option.some.injEq, Prod.mk.injEq] at hx
      obtain ⟨rfl, rfl⟩ := hx
      simp only [Acts] at ha
      subst ha
      simpa using h
    | cons y A => simp [execK] at hx
  | succ m ih =>
    intro i κ κ' A rs w w' rest hx ha h
    simp only [execK] at hx
    cases hst : stepK P n ops κ i A with
    | none => rw [hst] at hx; simp at hx
    | some r =>
      obtain ⟨rs1, A1, κ1⟩ := r
      rw [hst] at hx
      simp only [Option.map_eq_some_iff, Prod.mk.injEq] at hx
      obtain ⟨⟨rs2, κ2⟩, hx2, rfl, rfl⟩ := hx
      obtain ⟨w1, ha1, ha2⟩ := Acts.append.1 ha
      simp only [List.range'_succ, List.cons_append]
      exact stepK_sound hst ha1 (ih (i + 1) κ1 _ A1 rs2 w1 w' rest hx2 ha2 h)

theorem S.run (m : Nat) {ops : Array Oper} {i : Nat} (A : List Ans) (ks : List Nat) {rs : List Rq} {κ' : List (Nat × Value)} {w' : World}
    (hx : runK P n ops m i κ A ks = some (rs, κ')) (hm : Nat.ble (i + m) ops.size = true) (ha : Acts rs w w')
    (h : S P ro Qf n ds (.reg ops (i + m) :: k) κ' w') : S P ro Qf n ds (.reg ops i :: k) κ w := by
  intro a hs hh hd
  simp only [runK, Option.map_eq_some_iff, Prod.mk.injEq] at hx
  obtain ⟨⟨rs1, κ1⟩, hx1, rfl, rfl⟩ := hx
  have hle := Nat.le_of_ble_eq_true hm
  simp only [QK]
  have e : List.range' i (ops.size - i) = List.range' i m ++ List.range' (i + m) (ops.size - (i + m)) := by
    rw [show ops.size - i = m + (ops.size - (i + m)) by omega, ← List.range'_append_1]
  rw [e]
  exact execK_sound m i κ κ1 A rs1 w w' _ hx1 ha (fun a' hs' hh' hd' => h a' hs' (hh'.keep ks) hd') a hs hh hd

/-- A slot's value in another spelling. -/
theorem S.subst (t : Nat) (v v' : Value) (hl : look κ t = some v) (hv : v = v') (h : S P ro Qf n ds k ((t, v') :: κ) w) : S P ro Qf n ds k κ w := by
  intro a hs hh hd
  refine h a hs ?_ hd
  subst hv
  intro x u hx
  simp only [look] at hx
  cases hb : Nat.beq t x with
  | true =>
    rw [hb] at hx
    have := Nat.eq_of_beq_eq_true hb
    subst this
    simp only [cond_true, Option.some.injEq] at hx
    subst hx
    exact hh _ _ hl
  | false => rw [hb] at hx; exact hh _ _ hx

/-- A slot holds a Bool: both ways. -/
theorem S.both (t : Nat) (c : Bool) (hl : look κ t = some (.bool c)) (h1 : c = true → S P ro Qf n ds k ((t, .bool true) :: κ) w)
    (h2 : c = false → S P ro Qf n ds k ((t, .bool false) :: κ) w) : S P ro Qf n ds k κ w := by
  cases c with
  | true => exact S.subst t _ _ hl rfl (h1 rfl)
  | false => exact S.subst t _ _ hl rfl (h2 rfl)

/-- Where ways meet. -/
theorem S.cut (X : Act → World → Prop) (h1 : ∀ a w, X a w → QK P ro Qf k .normal a w) {c : Code} (h : S P ro Qf n ds (.code c :: .stop X :: k) κ w) : S P ro Qf n ds (.code c :: k) κ w := by
  intro a hs hh hd
  refine wpIn_mono (h a hs hh hd) ?_
  intro e a w hq
  cases e with
  | normal => exact h1 a w hq
  | _ => exact hq

theorem S.stop {X : Act → World → Prop} (h : ∀ a : Act, a.tmps.size = n → Has κ a.tmps → a.defers = ds → X a w) : S P ro Qf n ds (.stop X :: k) κ w := h

/-! ### One operation -/
theorem wpOpIn_mono2 {F : Fence} {m : Nat} {ops : Array Oper} {Q Q' : Exit → Act → World → Prop} {i : Nat} {K K' : Act → World → Prop} {a : Act} (hK : ∀ a w, K a w → K' a w)
    (hp : ∀ c a w, Q (.panic c) a w → Q' (.panic c) a w) (ho : ∀ a w, Q .outgrown a w → Q' .outgrown a w) (h : wpOpIn F m P ops Q i K a w) : wpOpIn F m P ops Q' i K' a w := by
  unfold wpOpIn at *
  cases hi : ops[i]? with
  | none => simp only [hi] at h ⊢; exact hK _ _ h
  | some o =>
    simp only [hi] at h ⊢
    by_cases hw : Region.wanted o (yielded ops a.tmps) = true
    · rw [if_pos hw] at h ⊢
      unfold Oper.wpIn at *
      refine ⟨h.1, ?_⟩
      have h := h.2
      generalize (o.semAt F.round a.eval).run P w = r at *
      have hl : LetsOut Q → LetsOut Q' := fun ⟨a, w, h⟩ => ⟨a, w, ho a w h⟩
      cases r with
      | ok x w' =>
        cases x <;> simp only [Oper.uponIn] at h ⊢ <;>
          first
            | exact hK _ _ h
            | exact ⟨h.1, CallsIn.mono h.2 (fun e w'' he => by cases e <;> first | exact hK _ _ he | exact hp _ _ _ he | exact hl he)⟩
            | exact ⟨h.1, RowsIn.mono h.2 (fun _ _ he => hK _ _ he)⟩
            | exact ⟨h.1, RoundIn.mono h.2 (fun e w'' he => by cases e <;> first | exact hK _ _ he | exact hp _ _ _ he | exact hl he)⟩
      | halt x w' => cases x <;> simp only [Oper.uponIn] at h ⊢ <;> first | exact hp _ _ _ h | exact h.elim
    · rw [if_neg hw] at h ⊢
      exact ⟨h.1, hK _ _ h.2⟩

/-- The next operation of a region, alone. -/
theorem S.one {ops : Array Oper} {i : Nat} (hi : Nat.blt i ops.size = true) (h : S P ro Qf n ds (.one ops i :: .reg ops (i + 1) :: k) κ w) : S P ro Qf n ds (.reg ops i :: k) κ w := by
  intro a hs hh hd
  have hlt : i < ops.size := by simpa [Nat.blt_eq] using hi
  have := h a hs hh hd
  simp only [QK] at this ⊢
  rw [show ops.size - i = (ops.size - (i + 1)) + 1 by omega, List.range'_succ, wpOpsIn_cons]
  exact wpOpIn_mono2 (fun _ _ h => h) (fun _ _ _ h => h) (fun _ _ h => h) this

/-- A region that draws: all orders. -/
theorem S.draw {id : Nat} {ops : Array Oper} {m : Nat} (C : Array Bool → World → Prop) (hm : P.follows .mixedOrders = true) (hs : ops.size = m)
    (h : S P ro Qf n ds (.dreg ops (Array.replicate m false) m C :: k) κ w.tick) : S P ro Qf n ds (.code (.region id ops true) :: k) κ w := by
  intro a hs' hh hd
  subst hs
  exact wpIn_region_any hm (wpAnyIn_of_C _ _ _ _ (h a hs' hh hd))

def noDefer (ops : Array Oper) : Bool := ops.toList.all fun o => !isDefer o.op

def hoists (ops : Array Oper) : List Nat → Array Bool → Bool
  | [], _ => true
  | i :: r, l => Region.free .any ops l i && (Region.ready .any ops l).contains i && hoists ops r (l.setIfInBounds i true)

def listAll : List Nat → Array Bool → Array Bool
  | [], l => l
  | i :: r, l => listAll r (l.setIfInBounds i true)

/-- Operations that only read, in a given order. -/
def stepR (P : Program) (n : Nat) (ops : Array Oper) (κ : List (Nat × Value)) (i : Nat) (A : List Ans) : Option (List Rq × List Ans × List (Nat × Value)) :=
  match ops[i]? with
  | none => none
  | some o =>
    match wantK κ ops o with
    | none => none
    | some false => (putK n κ o.dst undef).map fun κ' => ([], A, κ')
    | some true =>
      bif o.op.operands.toList.all (fun x => (evK κ x).isSome) then
        match runI P (execOp (rho κ) o) A with
        | some (rs, A', .value v) => (putK n κ o.dst v).map fun κ' => (rs, A', κ')
        | _ => none
      else none

def execR (P : Program) (n : Nat) (ops : Array Oper) : List Nat → (κ : List (Nat × Value)) → List Ans → Option (List Rq × List (Nat × Value))
  | [], κ, [] => some ([], κ)
  | [], _, _ :: _ => none
  | i :: r, κ, A =>
    match stepR P n ops κ i A with
    | none => none
    | some (rs, A', κ') => (execR P n ops r κ' A').map fun x => (rs ++ x.1, x.2)

def runR (P : Program) (n : Nat) (ops : Array Oper) (is : List Nat) (κ : List (Nat × Value)) (A : List Ans) (ks : List Nat) : Option (List Rq × List (Nat × Value)) :=
  (execR P n ops is κ A).map fun x => (x.1, keep ks x.2)

theorem Acts.split_same {rs rs' : List Rq} : Acts (rs ++ rs') w w → (∀ w1, Acts rs w w1 → w1 = w) → Acts rs w w ∧ Acts rs' w w := by
  intro h hs
  obtain ⟨w1, h1, h2⟩ := Acts.append.1 h
  have := hs w1 h1
  subst this
  exact ⟨h1, h2⟩

/-- Requests that leave the world alone. -/
def Rq.reads : Rq → Bool
  | .load .. | .shape .. | .frozen .. | .getObj .. => true
  | _ => false

theorem Acts.same {rs : List Rq} (hr : rs.all Rq.reads = true) : ∀ {w w1 : World}, Acts rs w w1 → w1 = w := by
  induction rs with
  | nil => intro w w1 h; exact h
  | cons r rs ih =>
    intro w w1 h
    simp only [List.all_cons, Bool.and_eq_true] at hr
    have : nextW w r = w := by cases r <;> simp_all [Rq.reads, nextW]
    have h2 := h.2
    rw [this] at h2
    exact ih hr.2 h2

/-- How a frame's panic is answered hangs on no slot. -/
def PanicOk (Qf : Exit → Act → World → Prop) : Prop := ∀ c a a' w, a'.defers = a.defers → Qf (.panic c) a w → Qf (.panic c) a' w

theorem dreads_aux (hq : PanicOk Qf) {ops : Array Oper} {C : Array Bool → World → Prop} {D : World → Prop} {Inv : Array Bool → Prop} (hD : ∀ l w, Inv l → C l w → D w) (hns : Region.noSelect ops = true) (hnd : noDefer ops = true) :
    ∀ (is : List Nat) (κ κ' : List (Nat × Value)) (A : List Ans) (rs : List Rq) (l : Array Bool) (f : Nat) (a : Act),
      execR P n ops is κ A = some (rs, κ') → rs.all Rq.reads = true → hoists ops is l = true →
      (∀ i, i ∈ is → (∀ l j, Inv l → l.getD i true = false → j ∈ Region.ready .any ops l → j ≠ i → Inv (l.setIfInBounds j true)) ∧ ∀ l, Inv l → Inv (l.setIfInBounds i true)) →
      (∀ i, i ∈ is → ∀ l w, C (l.setIfInBounds i true) w → C l w) → Inv l → (∀ w', D w' → Acts rs w' w') →
      (∀ a : Act, a.tmps.size = n → Has κ' a.tmps → a.defers = ds → wpAnyC (FW ro) 0 P .any ops (QK P ro Qf k) C f (listAll is l) a w) →
      a.tmps.size = n → Has κ a.tmps → a.defers = ds → wpAnyC (FW ro) 0 P .any ops (QK P ro Qf k) C (is.length + f) l a w := by
  intro is
  induction is with
  | nil =>
    intro κ κ' A rs l f a hx _ _ _ _ _ _ h hs hh hd
    cases A with
    | nil =>
      simp only [execR, Option.some.injEq, Prod.mk.injEq] at hx
      obtain ⟨rfl, rfl⟩ := hx
      simpa [listAll] using h a hs hh hd
    | cons y A => simp [execR] at hx
  | cons i r ih =>
    intro κ κ' A rs l f a hx hrd hho hBs hCi hu hA h hs hh hd
    have hu' := (hBs i (by simp)).2 l hu
    simp only [execR] at hx
    cases hst : stepR P n ops κ i A with
    | none => rw [hst] at hx; simp at hx
    | some q =>
      obtain ⟨rs1, A1, κ1⟩ := q
      rw [hst] at hx
      simp only [Option.map_eq_some_iff, Prod.mk.injEq] at hx
      obtain ⟨⟨rs2, κ2⟩, hx2, rfl, rfl⟩ := hx
      simp only [List.all_append, Bool.and_eq_true] at hrd
      simp only [hoists, Bool.and_eq_true] at hho
      obtain ⟨⟨hf, hr⟩, hho⟩ := hho
      have hA1 : ∀ w', D w' → Acts rs1 w' w' := fun w' hw' => (Acts.split_same (hA w' hw') fun w1 h1 => Acts.same hrd.1 h1).1
      have hA2 : ∀ w', D w' → Acts rs2 w' w' := fun w' hw' => (Acts.split_same (hA w' hw') fun w1 h1 => Acts.same hrd.1 h1).2
      unfold stepR at hst
      cases ho : ops[i]? with
      | none => rw [ho] at hst; simp at hst
      | some o =>
        rw [ho] at hst
        simp only at hst
        have hdef : ∀ (j : Nat) (o : Oper) c, ops[j]? = some o → o.op ≠ .defer c := fun j o c hj e => by
          have := List.all_eq_true.1 hnd o (Array.mem_toList_iff.2 (Array.mem_of_getElem? hj))
          rw [e] at this
          simp [isDefer] at this
        have hsel := Region.noSelect_spec hns
        have fin : ∀ v, YieldsC P ops D o v a → putK n κ o.dst v = some κ1 → wpAnyC (FW ro) 0 P .any ops (QK P ro Qf k) C ((i :: r).length + f) l a w := by
          intro v hy hp
          obtain ⟨h1, h2, h3⟩ := putK_sound hs hh hp
          have := ih κ1 _ A1 rs2 (l.setIfInBounds i true) f (a.put o.dst v) hx2 hrd.2 hho (fun j hj => hBs j (List.mem_cons_of_mem _ hj)) (fun j hj => hCi j (List.mem_cons_of_mem _ hj)) hu' hA2 h h1 h2 (h3.trans hd)
          rw [show (i :: r).length + f = (r.length + f) + 1 by simp; omega]
          refine wpAnyC_first (D := D) (fun _ => trivial) ho hsel hdef ?_ Inv (hBs i (by simp)).1 (hCi i (by simp)) hD _ l a w hu (Region.free_spec ho hf) (by simpa using hr) hy this
          intro c a' w' hq'
          rw [QK_panic] at hq' ⊢
          refine hq c _ _ w' ?_ hq'
          cases o.dst <;> rfl
        cases hw : wantK κ ops o with
        | none => rw [hw] at hst; simp at hst
        | some b =>
          rw [hw] at hst
          have hwant := wantK_sound hh hw
          cases b with
          | false =>
            simp only [Option.map_eq_some_iff, Prod.mk.injEq] at hst
            obtain ⟨κx, hp, -, -, rfl⟩ := hst
            exact fin undef (.inr ⟨hwant, rfl⟩) hp
          | true =>
            simp only at hst
            cases hall : o.op.operands.toList.all (fun x => (evK κ x).isSome) with
            | false => rw [hall] at hst; simp at hst
            | true =>
              rw [hall] at hst
              simp only [cond_true] at hst
              have hcongr : execOp a.eval o = execOp (rho κ) o := execOp_congr o (fun cs b => hsel i o cs b ho) fun x hx => hh.evals (List.all_eq_true.1 hall x (Array.mem_toList_iff.2 hx))
              cases hr2 : runI P (execOp (rho κ) o) A with
              | none => rw [hr2] at hst; simp at hst
              | some q2 =>
                obtain ⟨rsx, Ax, nx⟩ := q2
                rw [hr2] at hst
                cases nx <;> simp only [reduceCtorEq] at hst
                rename_i v
                simp only [Option.map_eq_some_iff, Prod.mk.injEq] at hst
                obtain ⟨κx, hp, rfl, rfl, rfl⟩ := hst
                exact fin v (.inl ⟨hwant, fun w' hw' => by rw [hcongr]; exact runI_sound _ _ _ _ _ _ _ hr2 (hA1 w' hw')⟩) hp

/-- Reads are taken first, whatever the order: stable in both classes. -/
theorem S.dreads (hq : PanicOk Qf) (is : List Nat) (f : Nat) {ops : Array Oper} {e : Nat} {C₁ C₂ : World → Prop} {l l' : Array Bool} {f' : Nat} (A : List Ans) (ks : List Nat) {rs : List Rq} {κ' : List (Nat × Value)}
    (hx : runR P n ops is κ A ks = some (rs, κ')) (hb : (Region.noSelect ops && noDefer ops && rs.all Rq.reads && hoists ops is l && Nat.beq (is.length + f) f' && is.all fun i => !Nat.beq i e) = true) (hl : listAll is l = l')
    (hA : ∀ w', C₁ w' ∨ C₂ w' → Acts rs w' w')
    (h : S P ro Qf n ds (.dreg ops l' f (sw e C₁ C₂) :: k) κ' w) : S P ro Qf n ds (.dreg ops l f' (sw e C₁ C₂) :: k) κ w := by
  intro a hs hh hd
  simp only [Bool.and_eq_true] at hb
  obtain ⟨⟨⟨⟨⟨h1, h2⟩, h3⟩, h4⟩, h5⟩, h6⟩ := hb
  have h5 := Nat.eq_of_beq_eq_true h5
  subst h5
  subst hl
  simp only [runR, Option.map_eq_some_iff, Prod.mk.injEq] at hx
  obtain ⟨⟨rs1, κ1⟩, hx1, rfl, rfl⟩ := hx
  refine dreads_aux (Inv := fun _ => True) (D := fun w => C₁ w ∨ C₂ w) hq (fun l w _ hc => ?_) h1 h2 is κ κ1 A rs1 l f a hx1 h3 h4 (fun _ _ => ⟨fun _ _ _ _ _ _ => trivial, fun _ _ => trivial⟩) (fun i hi => sw_set ?_) trivial hA (fun a' hs' hh' hd' => h a' hs' (hh'.keep ks) hd') hs hh hd
  · cases hg : l.getD e false with
    | false => exact .inl (hc.1 hg)
    | true => exact .inr (hc.2 hg)
  · have := List.all_eq_true.1 h6 i hi
    simpa using this

/-- Reads that 'e' waits for: stable in the first class. -/
theorem S.dreads1 (hq : PanicOk Qf) (is : List Nat) (f : Nat) (B : List Nat) {ops : Array Oper} {e : Nat} {C₁ C₂ : World → Prop} {l l' : Array Bool} {f' : Nat} (A : List Ans) (ks : List Nat) {rs : List Rq} {κ' : List (Nat × Value)}
    (hx : runR P n ops is κ A ks = some (rs, κ')) (hb : (Region.noSelect ops && noDefer ops && rs.all Rq.reads && hoists ops is l && Nat.beq (is.length + f) f' && is.all fun i => !Nat.beq i e) = true) (hl : listAll is l = l')
    (hB : (B.contains e && (is.all fun i => held ops i B && !B.contains i) && B.all fun b => !l.getD b true) = true)
    (hA : ∀ w', C₁ w' → Acts rs w' w')
    (h : S P ro Qf n ds (.dreg ops l' f (sw e C₁ C₂) :: k) κ' w) : S P ro Qf n ds (.dreg ops l f' (sw e C₁ C₂) :: k) κ w := by
  intro a hs hh hd
  simp only [Bool.and_eq_true] at hb hB
  obtain ⟨⟨⟨⟨⟨h1, h2⟩, h3⟩, h4⟩, h5⟩, h6⟩ := hb
  obtain ⟨⟨hB1, hB2⟩, hB3⟩ := hB
  have h5 := Nat.eq_of_beq_eq_true h5
  subst h5
  subst hl
  simp only [runR, Option.map_eq_some_iff, Prod.mk.injEq] at hx
  obtain ⟨⟨rs1, κ1⟩, hx1, rfl, rfl⟩ := hx
  have g1 : ∀ l w, unlisted B l → sw e C₁ C₂ l w → C₁ w := fun l w hu hc => hc.1 (by
    have h0 := hu e (List.contains_iff_mem.1 hB1)
    cases hg : l.getD e false with
    | false => rfl
    | true => exact (unl h0 hg).elim)
  have g2 : ∀ i, i ∈ is → Nat.beq i e = false := fun i hi => by
    have := List.all_eq_true.1 h6 i hi
    simpa using this
  have g3 : unlisted B l := fun b hb => by
    have := List.all_eq_true.1 hB3 b hb
    simpa using this
  exact dreads_aux (Inv := unlisted B) (D := C₁) hq g1 h1 h2 is κ κ1 A rs1 l f a hx1 h3 h4 (fun i hi => by
    have := List.all_eq_true.1 hB2 i hi
    simp only [Bool.and_eq_true, Bool.not_eq_true'] at this
    refine ⟨unlisted_step this.1, fun l hl b hb => ?_⟩
    have hne : i ≠ b := fun e => by subst e; have h' := List.contains_iff_mem.2 hb; rw [this.2] at h'; cases h'
    rw [getD_set_ne true hne]; exact hl b hb) (fun i hi => sw_set (g2 i hi)) g3 hA (fun a' hs' hh' hd' => h a' hs' (hh'.keep ks) hd') hs hh hd

/-- Reads behind 'e': stable in the second class. -/
theorem S.dreads2 (hq : PanicOk Qf) (is : List Nat) (f : Nat) {ops : Array Oper} {e : Nat} {C₁ C₂ : World → Prop} {l l' : Array Bool} {f' : Nat} (A : List Ans) (ks : List Nat) {rs : List Rq} {κ' : List (Nat × Value)}
    (hx : runR P n ops is κ A ks = some (rs, κ')) (hb : (Region.noSelect ops && noDefer ops && rs.all Rq.reads && hoists ops is l && Nat.beq (is.length + f) f' && is.all fun i => !Nat.beq i e) = true) (hl : listAll is l = l')
    (he : l.getD e false = true) (hA : ∀ w', C₂ w' → Acts rs w' w')
    (h : S P ro Qf n ds (.dreg ops l' f (sw e C₁ C₂) :: k) κ' w) : S P ro Qf n ds (.dreg ops l f' (sw e C₁ C₂) :: k) κ w := by
  intro a hs hh hd
  simp only [Bool.and_eq_true] at hb
  obtain ⟨⟨⟨⟨⟨h1, h2⟩, h3⟩, h4⟩, h5⟩, h6⟩ := hb
  have h5 := Nat.eq_of_beq_eq_true h5
  subst h5
  subst hl
  simp only [runR, Option.map_eq_some_iff, Prod.mk.injEq] at hx
  obtain ⟨⟨rs1, κ1⟩, hx1, rfl, rfl⟩ := hx
  have g2 : ∀ i, i ∈ is → Nat.beq i e = false := fun i hi => by
    have := List.all_eq_true.1 h6 i hi
    simpa using this
  have g4 : ∀ (l : Array Bool) j, l.getD e false = true → (l.setIfInBounds j true).getD e false = true := fun l j hl => by
    by_cases hj : j = e
    · subst hj
      rcases Nat.lt_or_ge j l.size with h' | h'
      · simp [h']
      · simp [Array.getElem?_eq_none h'] at hl
    · rw [getD_set_ne false hj]; exact hl
  exact dreads_aux (Inv := fun l => l.getD e false = true) (D := C₂) hq (fun l w hi hc => hc.2 hi) h1 h2 is κ κ1 A rs1 l f a hx1 h3 h4 (fun i hi => ⟨fun l j hl _ _ _ => g4 l j hl, fun l hl => g4 l i hl⟩)
    (fun i hi => sw_set (g2 i hi)) he hA (fun a' hs' hh' hd' => h a' hs' (hh'.keep ks) hd') hs hh hd

/-- An operation that is carried out: its place for the result. -/
def okK (ops : Array Oper) (κ : List (Nat × Value)) (i : Nat) : Option (Option Tmp) :=
  match ops[i]? with
  | none => none
  | some o =>
    match wantK κ ops o with
    | some true => bif isDefer o.op then none else bif o.op.operands.toList.all (fun x => (evK κ x).isSome) then some o.dst else none
    | _ => none

/-- What it computes. -/
def semK (ops : Array Oper) (κ : List (Nat × Value)) (i : Nat) : Sem Next :=
  match ops[i]? with
  | none => stuck "none"
  | some o => execOp (rho κ) o

theorem okK_sound {ops : Array Oper} {i : Nat} {dst : Option Tmp} (hx : okK ops κ i = some dst) {a : Act} (hh : Has κ a.tmps) :
    ∃ o, ops[i]? = some o ∧ o.dst = dst ∧ Region.wanted o (yielded ops a.tmps) = true ∧ o.semAt ro a.eval = semK ops κ i := by
  unfold okK at hx
  unfold semK
  cases ho : ops[i]? with
  | none => rw [ho] at hx; simp at hx
  | some o =>
    rw [ho] at hx
    simp only at hx ⊢
    refine ⟨o, rfl, ?_⟩
    cases hw : wantK κ ops o with
    | none => rw [hw] at hx; simp at hx
    | some b =>
      rw [hw] at hx
      have hwant := wantK_sound hh hw
      cases b with
      | false => simp at hx
      | true =>
        simp only at hx
        cases hdf : isDefer o.op with
        | true => rw [hdf] at hx; simp at hx
        | false =>
          rw [hdf] at hx
          simp only [cond_false] at hx
          cases hall : o.op.operands.toList.all (fun x => (evK κ x).isSome) with
          | false => rw [hall] at hx; simp at hx
          | true =>
            rw [hall] at hx
            simp only [cond_true, Option.some.injEq] at hx
            have hsel : ∀ cs b, o.op ≠ .select cs b := fun cs b e => by rw [e] at hdf; simp [isDefer] at hdf
            have hdef : ∀ c, o.op ≠ .defer c := fun c e => by rw [e] at hdf; simp [isDefer] at hdf
            exact ⟨hx, hwant, by rw [Oper.semAt_eq _ _ _ hdef]; exact execOp_congr o hsel fun x hx => hh.evals (List.all_eq_true.1 hall x (Array.mem_toList_iff.2 hx))⟩

/-- A read whose value a law tells, in every world of the class. -/
theorem S.dlaw (hq : PanicOk Qf) (i d f : Nat) {v : Value} {ops : Array Oper} {e : Nat} {C₁ C₂ : World → Prop} {l l' : Array Bool} {f' : Nat} (hx : okK ops κ i = some (some d)) (hdn : Nat.blt d n = true)
    (hb : (Region.noSelect ops && noDefer ops && hoists ops [i] l && Nat.beq (f + 1) f' && !Nat.beq i e) = true) (hl : l.setIfInBounds i true = l')
    (hr : ∀ w', C₁ w' ∨ C₂ w' → (semK ops κ i).run P w' = .ok (.value v) w')
    (h : S P ro Qf n ds (.dreg ops l' f (sw e C₁ C₂) :: k) ((d, v) :: κ) w) : S P ro Qf n ds (.dreg ops l f' (sw e C₁ C₂) :: k) κ w := by
  intro a hs hh hd
  simp only [Bool.and_eq_true, hoists, and_true] at hb
  obtain ⟨⟨⟨⟨h1, h2⟩, h3, h4⟩, h5⟩, h6⟩ := hb
  have h5 := Nat.eq_of_beq_eq_true h5
  subst h5
  subst hl
  obtain ⟨o, ho, hdst, hwant, hsem⟩ := okK_sound (ro := none) hx hh
  rw [Oper.semAt_none] at hsem
  have hdef : ∀ (j : Nat) (o : Oper) c, ops[j]? = some o → o.op ≠ .defer c := fun j o c hj e => by
    have := List.all_eq_true.1 h2 o (Array.mem_toList_iff.2 (Array.mem_of_getElem? hj))
    rw [e] at this
    simp [isDefer] at this
  have hp : putK n κ (some d) v = some ((d, v) :: κ) := by simp [putK, hdn]
  obtain ⟨q1, q2, q3⟩ := putK_sound hs hh hp
  have hn := h (a.put (some d) v) q1 q2 (q3.trans hd)
  simp only [QK] at hn ⊢
  rw [← hdst] at hn
  refine wpAnyC_first (D := fun w => C₁ w ∨ C₂ w) (fun _ => trivial) ho (Region.noSelect_spec h1) hdef ?_ (fun _ => True) (fun _ _ _ _ _ _ => trivial) (sw_set (by simpa using h6))
    (fun l w _ hc => by
      cases hg : l.getD e false with
      | false => exact .inl (hc.1 hg)
      | true => exact .inr (hc.2 hg)) f l a w trivial (Region.free_spec ho h3) (by simpa using h4) (.inl ⟨hwant, fun w' hw' => by rw [hsem]; exact hr w' hw'⟩) hn
  intro c a' w' hq'
  rw [QK_panic] at hq' ⊢
  refine hq c _ _ w' ?_ hq'
  cases o.dst <;> rfl

/-- What is ready is tried, one by one. -/
theorem S.dready {ops : Array Oper} {C : Array Bool → World → Prop} {l : Array Bool} {f : Nat} {js : List Nat} (hr : Region.ready .any ops l = js) (hne : js.isEmpty = false) (hC : C l w)
    (h : ∀ j ∈ js, S P ro Qf n ds (.one ops j :: .dreg ops (l.setIfInBounds j true) f C :: k) κ w) : S P ro Qf n ds (.dreg ops l (f + 1) C :: k) κ w := by
  intro a hs hh hd
  subst hr
  refine ⟨hC, fun h0 => (by rw [h0] at hne; simp at hne), fun j hj => ?_⟩
  exact wpOpIn_mono2 (fun _ _ h => h) (fun _ _ _ h => h) (fun _ _ h => h) (h j hj a hs hh hd)

/-- The one that is ready. -/
theorem S.dnext {ops : Array Oper} {C : Array Bool → World → Prop} {l l' : Array Bool} {f j : Nat} (hr : Region.ready .any ops l = [j]) (hl : l.setIfInBounds j true = l') (hC : C l w)
    (h : S P ro Qf n ds (.one ops j :: .dreg ops l' f C :: k) κ w) : S P ro Qf n ds (.dreg ops l (f + 1) C :: k) κ w :=
  S.dready hr rfl hC (fun j' hj => by simp only [List.mem_singleton] at hj; subst hj; subst hl; exact h)

theorem S.dend {ops : Array Oper} {C : Array Bool → World → Prop} {l : Array Bool} {f : Nat} (hr : Region.ready .any ops l = []) (hC : C l w) (h : S P ro Qf n ds k κ w) :
    S P ro Qf n ds (.dreg ops l f C :: k) κ w := by
  intro a hs hh hd
  cases f with
  | zero => exact ⟨hC, hr, h a hs hh hd⟩
  | succ f => exact ⟨hC, fun _ => h a hs hh hd, fun j hj => by rw [hr] at hj; cases hj⟩

/-- One operation carried out by a trace. -/
theorem S.acts {ops : Array Oper} {i : Nat} {A : List Ans} {rs : List Rq} {κ' : List (Nat × Value)} {w' : World} (hx : stepK P n ops κ i A = some (rs, [], κ')) (ha : Acts rs w w')
    (h : S P ro Qf n ds k κ' w') : S P ro Qf n ds (.one ops i :: k) κ w := by
  intro a hs hh hd
  have := stepK_sound (ro := ro) (Q := fun e a w => match e with | .normal => QK P ro Qf k .normal a w | e => QK P ro Qf k e a w) (rest := []) hx ha
    (fun a hs hh hd => (by simpa [wpOpsIn] using h a hs hh hd)) a hs hh hd
  rw [wpOpsIn_cons] at this
  exact wpOpIn_mono2 (fun _ _ h => h) (fun _ _ _ h => h) (fun _ _ h => h) this

/-- One operation whose run is known by a law. -/
theorem S.val {ops : Array Oper} {i : Nat} {dst : Option Tmp} {κ' : List (Nat × Value)} {v : Value} {w' : World} (s : Sem Value) (hx : okK ops κ i = some dst)
    (hs : semK ops κ i = s.bind fun v => .pure (.value v)) (hr : s.run P w = .ok v w') (hp : putK n κ dst v = some κ')
    (h : S P ro Qf n ds k κ' w') : S P ro Qf n ds (.one ops i :: k) κ w := by
  intro a hs' hh hd
  obtain ⟨o, ho, rfl, hwant, hsem⟩ := okK_sound (ro := ro) hx hh
  simp only [QK, wpOpIn, ho]
  rw [if_pos hwant]
  refine ⟨fun _ _ => trivial, ?_⟩
  obtain ⟨h1, h2, h3⟩ := putK_sound hs' hh hp
  have : (o.semAt ro a.eval).run P w = .ok (.value v) w' := by
    rw [hsem, hs]
    have := Sem.run_bind (P := P) (w := w) s fun v => (pure (.value v) : Sem Next)
    rw [hr] at this
    exact this
  rw [this]
  exact h _ h1 h2 (h3.trans hd)

theorem S.valN {ops : Array Oper} {i : Nat} (d : Nat) {v : Value} {w' : World} (hx : okK ops κ i = some (some d)) (hd : Nat.blt d n = true) (hr : (semK ops κ i).run P w = .ok (.value v) w')
    (h : S P ro Qf n ds k ((d, v) :: κ) w') : S P ro Qf n ds (.one ops i :: k) κ w := by
  intro a hs' hh hdf
  obtain ⟨o, ho, hdst, hwant, hsem⟩ := okK_sound (ro := ro) hx hh
  simp only [QK, wpOpIn, ho]
  rw [if_pos hwant]
  refine ⟨fun _ _ => trivial, ?_⟩
  rw [hsem, hr]
  have hp : putK n κ (some d) v = some ((d, v) :: κ) := by simp [putK, hd]
  obtain ⟨h1, h2, h3⟩ := putK_sound hs' hh hp
  simp only [Oper.uponIn]
  rw [hdst]
  exact h _ h1 h2 (h3.trans hdf)

theorem S.skipN {ops : Array Oper} {i : Nat} {w' : World} (hx : okK ops κ i = some none) (hr : (semK ops κ i).run P w = .ok .skip w')
    (h : S P ro Qf n ds k κ w') : S P ro Qf n ds (.one ops i :: k) κ w := by
  intro a hs' hh hdf
  obtain ⟨o, ho, hdst, hwant, hsem⟩ := okK_sound (ro := ro) hx hh
  simp only [QK, wpOpIn, ho]
  rw [if_pos hwant]
  refine ⟨fun _ _ => trivial, ?_⟩
  rw [hsem, hr]
  simp only [Oper.uponIn]
  rw [hdst]
  exact h a hs' hh hdf

/-- A value by a law on the operation's own computation. -/
theorem S.law {ops : Array Oper} {i : Nat} (d : Nat) {v : Value} {w' : World} (s : Sem Value) (hx : okK ops κ i = some (some d)) (hd : Nat.blt d n = true)
    (hs : semK ops κ i = s.bind fun v => .pure (.value v)) (hr : s.run P w = .ok v w') (h : S P ro Qf n ds k ((d, v) :: κ) w') : S P ro Qf n ds (.one ops i :: k) κ w := by
  refine S.valN d hx hd ?_ h
  rw [hs]
  have := Sem.run_bind (P := P) (w := w) s fun v => (pure (.value v) : Sem Next)
  rw [hr] at this
  exact this

/-- One operation that panics. -/
theorem S.panics {ops : Array Oper} {i : Nat} {dst : Option Tmp} {v : Value} (hx : okK ops κ i = some dst) (hs : semK ops κ i = .halt (.panic v))
    (h : ∀ a : Act, a.tmps.size = n → Has κ a.tmps → a.defers = ds → Qf (.panic [{ v, recovered := false }]) a w) : S P ro Qf n ds (.one ops i :: k) κ w := by
  intro a hs' hh hd
  obtain ⟨o, ho, rfl, hwant, hsem⟩ := okK_sound (ro := ro) hx hh
  simp only [QK, wpOpIn, ho]
  rw [if_pos hwant]
  refine ⟨fun _ _ => trivial, ?_⟩
  rw [hsem, hs]
  simp only [Sem.run, Oper.uponIn]
  rw [QK_panic]
  exact h a hs' hh hd

/-! ### Calls -/
/-- What is asked of a call's end. -/
def After (P : Program) (ro : Option Nat) (Qf : Exit → Act → World → Prop) (n : Nat) (ds : List Deferred) (k : List KI) (κ : List (Nat × Value)) (dst : Option Tmp) : Ending → World → Prop
  | .returned v, w' => ∃ κ', putK n κ dst v = some κ' ∧ S P ro Qf n ds k κ' w'
  | .panicked ch, w' => ∀ a : Act, a.tmps.size = n → Has κ a.tmps → a.defers = ds → Qf (.panic ch) a w'
  | .outgrown, _ => ∃ a w, Qf .outgrown a w

/-- A call of a function value: of a function, or of a loop's yield. -/
def CallsV (P : Program) (s : Sem Next) (w : World) (R : Ending → World → Prop) : Prop :=
  (∃ f args, s.run P w = .ok (.enter f args) w ∧ Calls P f args w R) ∨
  (∃ l f tmps assign body, s.run P w = .ok (.round l f tmps assign body) w ∧ RoundIn (FW none) 0 P l f tmps assign body w R)

theorem CallsV.mono {s : Sem Next} {R R' : Ending → World → Prop} (h : CallsV P s w R) (hr : ∀ e w', R e w' → R' e w') : CallsV P s w R' := by
  rcases h with ⟨f, args, h1, h2⟩ | ⟨l, f, tmps, assign, body, h1, h2⟩
  · exact .inl ⟨f, args, h1, h2.mono hr⟩
  · exact .inr ⟨l, f, tmps, assign, body, h1, h2.mono hr⟩

theorem After.ret {d : Nat} {v : Value} (hd : Nat.blt d n = true) (h : S P ro Qf n ds k ((d, v) :: κ) w) : After P ro Qf n ds k κ (some d) (.returned v) w :=
  ⟨_, by simp only [putK, hd, cond_true], h⟩
theorem After.ret0 {v : Value} (h : S P ro Qf n ds k κ w) : After P ro Qf n ds k κ none (.returned v) w := ⟨_, rfl, h⟩

theorem S.callV {ops : Array Oper} {i : Nat} {dst : Option Tmp} (hx : okK ops κ i = some dst) (h : CallsV P (semK ops κ i) w (After P ro Qf n ds k κ dst)) :
    S P ro Qf n ds (.one ops i :: k) κ w := by
  intro a hs hh hd
  obtain ⟨o, ho, rfl, hwant, hsem⟩ := okK_sound (ro := ro) hx hh
  simp only [QK, wpOpIn, ho]
  rw [if_pos hwant]
  refine ⟨fun _ _ => trivial, ?_⟩
  have fin : ∀ (e : Ending) (w' : World), After P ro Qf n ds k κ o.dst e w' → (match e, w' with
      | .returned v, w'' => QK P ro Qf k .normal (a.put o.dst v) w''
      | .panicked chain, w'' => QK P ro Qf k (.panic chain) a w''
      | .outgrown, _ => LetsOut (QK P ro Qf k) : Prop) := by
    intro e w' he
    cases e with
    | returned v =>
      obtain ⟨κ', hp, hS⟩ := he
      obtain ⟨h1, h2, h3⟩ := putK_sound hs hh hp
      exact hS _ h1 h2 (h3.trans hd)
    | panicked ch =>
      simp only
      rw [QK_panic]
      exact he a hs hh hd
    | outgrown =>
      obtain ⟨a0, w0, hq⟩ := he
      exact ⟨a0, w0, by rw [QK_outgrown]; exact hq⟩
  rcases h with ⟨f, args, h1, h2⟩ | ⟨l, f, tmps, assign, body, h1, h2⟩
  · rw [hsem, h1]
    refine ⟨fun hh => by simp at hh, callsIn_FW.2 (h2.mono fun e w' he => ?_)⟩
    have := fin e w' he
    cases e <;> exact this
  · rw [hsem, h1]
    refine ⟨fun hh => by simp at hh, RoundIn.mono (F := FW none) h2 fun e w' he => ?_⟩
    have := fin e w' he
    cases e <;> exact this

theorem S.call {ops : Array Oper} {i f : Nat} {dst : Option Tmp} {args : Array Value} (hx : okK ops κ i = some dst) (hs : runI P (semK ops κ i) [] = some ([], [], .enter f args))
    (h : Calls P f args w (After P ro Qf n ds k κ dst)) : S P ro Qf n ds (.one ops i :: k) κ w :=
  S.callV hx (.inl ⟨f, args, runI_sound _ _ _ _ _ w w hs rfl, h⟩)

/-- A statement that defers a call. -/
def deferK (P : Program) (ops : Array Oper) (κ : List (Nat × Value)) (i : Nat) : Option (Option Tmp × Deferred) :=
  match ops[i]? with
  | none => none
  | some o =>
    match wantK κ ops o with
    | some true =>
      match o.op with
      | .defer _ =>
        bif o.op.operands.toList.all (fun x => (evK κ x).isSome) then
          match runI P (execOp (rho κ) o) [] with
          | some ([], _, .defer d) => some (o.dst, d)
          | _ => none
        else none
      | _ => none
    | _ => none

theorem S.defer {ops : Array Oper} {i : Nat} {dst : Option Tmp} {d : Deferred} {κ' : List (Nat × Value)} (hro : ro = none) (hx : deferK P ops κ i = some (dst, d)) (hp : putK n κ dst undef = some κ')
    (h : S P ro Qf n (d :: ds) k κ' w) : S P ro Qf n ds (.one ops i :: k) κ w := by
  intro a hs hh hd
  subst hro
  unfold deferK at hx
  cases ho : ops[i]? with
  | none => rw [ho] at hx; simp at hx
  | some o =>
    rw [ho] at hx
    simp only at hx
    cases hw : wantK κ ops o with
    | none => rw [hw] at hx; simp at hx
    | some b =>
      rw [hw] at hx
      have hwant := wantK_sound hh hw
      cases b with
      | false => simp at hx
      | true =>
        simp only at hx
        cases hop : o.op <;> rw [hop] at hx <;> simp only [reduceCtorEq] at hx
        rename_i c
        rw [← hop] at hx
        cases hall : o.op.operands.toList.all (fun x => (evK κ x).isSome) with
        | false => rw [hall] at hx; simp at hx
        | true =>
          rw [hall] at hx
          simp only [cond_true] at hx
          have hsel : ∀ cs b, o.op ≠ .select cs b := fun cs b e => by rw [e] at hop; cases hop
          have hcongr : execOp a.eval o = execOp (rho κ) o := execOp_congr o hsel fun x hx => hh.evals (List.all_eq_true.1 hall x (Array.mem_toList_iff.2 hx))
          cases hr : runI P (execOp (rho κ) o) [] with
          | none => rw [hr] at hx; simp at hx
          | some r =>
            obtain ⟨rs1, A1, nx⟩ := r
            rw [hr] at hx
            cases rs1 with
            | cons _ _ => simp at hx
            | nil =>
              cases nx <;> simp only [reduceCtorEq] at hx
              rename_i d'
              simp only [Option.some.injEq, Prod.mk.injEq] at hx
              obtain ⟨rfl, rfl⟩ := hx
              simp only [QK, wpOpIn, ho]
              rw [if_pos hwant]
              refine ⟨fun _ _ => trivial, ?_⟩
              rw [Oper.semAt_none, hcongr, runI_sound _ _ _ _ _ w w hr rfl]
              have hs' : ({ a with defers := d' :: a.defers } : Act).tmps.size = n := hs
              obtain ⟨h1, h2, h3⟩ := putK_sound (a := { a with defers := d' :: a.defers }) hs' hh hp
              exact h _ h1 h2 (h3.trans (by simp [hd]))
end
end Go.Proofs.Ytmgakpnejbembaa.L
