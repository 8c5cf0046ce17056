/-
  CondChoice: what a run is, in plain words.
-/
import Derived.Test.YtmgakpnejbembaaA6
namespace Go.Proofs.Ytmgakpnejbembaa
open Go Go.Proofs.Ytmgakpnejbembaa.L

inductive Out (α : Type) where
  | val (v : α)
  | leave (d : Nat) (v : Int)
  | stop (e : Int)

structure Sc where
  hand : Int
  hs : List (Int × X)
  rs : List Int

abbrev Res (α : Type) := Out α × RSt
abbrev EvF := X → Sc → RSt → Res Int

def bnd {α β : Type} (r : Res α) (f : α → RSt → Res β) : Res β :=
  match r with
  | (.val v, σ) => f v σ
  | (.leave d v, σ) => (.leave d v, σ)
  | (.stop e, σ) => (.stop e, σ)

def tellS (s : Sc) (deed n val : Int) (σ : RSt) : RSt := { σ with evs := σ.evs ++ [⟨deed, n, val, s.hs.map (·.1), s.rs⟩] }

instance : Inhabited X := ⟨.mk (0, 0) none 0 0 []⟩
def kid (x : X) (i : Nat) : X := x.kids.getD i default

def raiseL (ev : EvF) (rs : List Int) (n val : Int) : List (Int × X) → RSt → Res Unit
  | [], σ => (.val (), σ)
  | h :: r, σ =>
    if h.1 = n ∨ h.1 = -1 then bnd (ev h.2 ⟨val, r, rs⟩ (tellS ⟨val, r, rs⟩ 3 h.1 val σ)) fun _ σ => raiseL ev rs n val r σ
    else raiseL ev rs n val r σ
def raiseS (ev : EvF) (s : Sc) (n val : Int) (σ : RSt) : Res Unit := raiseL ev s.rs n val s.hs (tellS s 2 n val σ)

/-- The innermost restart of this number: how many are outside of it. -/
def findR (n : Int) : List Int → Option Nat
  | [] => none
  | m :: r => if m = n then some r.length else findR n r

def choiceS (s : Sc) (d : Nat) (n val : Int) (σ : RSt) : Res Int := (.leave d val, tellS s 4 n val σ)

/-- A value; or what the restart was chosen with. -/
def offeredS (ev : EvF) (x : X) (s : Sc) (σ : RSt) : Res (Int × Int × Bool) :=
  match ev (kid x 0) ⟨s.hand, s.hs, x.d.2 :: s.rs⟩ σ with
  | (.val v, σ) => (.val (v, 0, false), σ)
  | (.leave d v, σ) => if d = s.rs.length then (.val (0, v, true), σ) else (.leave d v, σ)
  | (.stop e, σ) => (.stop e, σ)

def againL (ev : EvF) (x : X) (s : Sc) : Nat → Int × Int × Bool → RSt → Res Int
  | 0, _, σ => (.stop 0, σ)
  | k + 1, t, σ => if t.2.2 = true then bnd (offeredS ev x ⟨t.2.1, s.hs, s.rs⟩ σ) fun t σ => againL ev x s k t σ else (.val t.1, σ)

def guardS (ev : EvF) (x : X) (s : Sc) (σ : RSt) : Res Int :=
  match ev (kid x 0) s σ with
  | (.val v, σ) => bnd (ev (kid x 1) s σ) fun _ σ => (.val v, σ)
  | (.leave d v, σ) => bnd (ev (kid x 1) s (tellS s 5 0 0 σ)) fun _ σ => (.leave d v, σ)
  | (.stop e, σ) => (.stop e, σ)

def failsS (ev : EvF) (x : X) (s : Sc) (σ : RSt) : Res Int :=
  bnd (ev (kid x 0) s σ) fun v σ => bnd (raiseS ev s x.d.2 v σ) fun _ σ =>
    match σ.picks with
    | [] => (.stop 2, σ)
    | q :: qs =>
      if s.rs.length = 0 then (.stop 2, σ)
      else choiceS s (s.rs.length - 1 - (q % s.rs.length).toNat) (s.rs.getD (q % s.rs.length).toNat 0) v { σ with picks := qs }

def clamp (v : Int) : Int := if 1000000000 < (if -1000000000 > v then -1000000000 else v) then 1000000000 else (if -1000000000 > v then -1000000000 else v)

def opS (p : List X) (ev : EvF) (x : X) (s : Sc) (σ : RSt) : Res Int :=
  if x.d.1 = 1 then (.val x.d.2, σ)
  else if x.d.1 = 2 then (.val s.hand, σ)
  else if x.d.1 = 3 then bnd (ev (kid x 0) s σ) fun v σ => bnd (ev (kid x 1) s σ) fun u σ => (.val (clamp (IntKind.i64.wrap (v + u))), σ)
  else if x.d.1 = 4 then bnd (ev (kid x 0) s σ) fun v σ => (.val v, tellS s 1 0 v σ)
  else if x.d.1 = 5 then bnd (ev (kid x 0) s σ) fun _ σ => ev (kid x 1) s σ
  else if x.d.1 = 6 then bnd (ev (kid x 0) s σ) fun v σ => if v = 0 then ev (kid x 2) s σ else ev (kid x 1) s σ
  else if x.d.1 = 7 then bnd (ev (kid x 0) s σ) fun v σ => ev (p.getD x.d.2.toNat default) ⟨v, s.hs, s.rs⟩ σ
  else if x.d.1 = 8 then ev (kid x 0) ⟨s.hand, (x.d.2, kid x 1) :: s.hs, s.rs⟩ σ
  else if x.d.1 = 9 then bnd (ev (kid x 0) s σ) fun v σ => bnd (raiseS ev s x.d.2 v σ) fun _ σ => (.val 0, σ)
  else if x.d.1 = 10 then failsS ev x s σ
  else if x.d.1 = 11 then bnd (offeredS ev x s σ) fun t σ => if t.2.2 = true then ev (kid x 1) ⟨t.2.1, s.hs, s.rs⟩ σ else (.val t.1, σ)
  else if x.d.1 = 12 then bnd (offeredS ev x s σ) fun t σ' => againL ev x s (σ.fuel + 1) t σ'
  else if x.d.1 = 13 then bnd (ev (kid x 0) s σ) fun v σ => match findR x.d.2 s.rs with
    | some d => choiceS s d x.d.2 v σ
    | none => (.stop 3, σ)
  else if x.d.1 = 14 then (.val (if (findR x.d.2 s.rs).isSome then 1 else 0), σ)
  else guardS ev x s σ

def evalS (p : List X) : Nat → EvF
  | 0, _, _, σ => (.stop 4, σ)
  | k + 1, x, s, σ => if σ.fuel = 0 then (.stop 4, σ) else opS p (evalS p k) x s { σ with fuel := σ.fuel - 1 }

/-! ### Events and fuel -/
/-- How much may be told: what it costs. -/
def Fin (a b : Nat) (σ : RSt) {α : Type} (r : Res α) : Prop :=
  match r.1 with
  | .val _ => r.2.evs.length + 8 * r.2.fuel + 1 ≤ σ.evs.length + 8 * σ.fuel + a ∧ r.2.fuel + b ≤ σ.fuel
  | .leave _ _ => r.2.evs.length + 8 * r.2.fuel ≤ σ.evs.length + 8 * σ.fuel + a ∧ r.2.fuel + b ≤ σ.fuel
  | .stop _ => r.2.evs.length + 8 * r.2.fuel ≤ σ.evs.length + 8 * σ.fuel + a ∧ r.2.fuel ≤ σ.fuel

theorem Fin.bnd {a b a' b' : Nat} {σ : RSt} {α β : Type} {r : Res α} {f : α → RSt → Res β} (h : Fin a b σ r) (k : ∀ v σ', r = (.val v, σ') → Fin (a' - a + 1) (b' - b) σ' (f v σ')) (ha : a ≤ a') (hb : b' ≤ b) : Fin a' b' σ (bnd r f) := by
  obtain ⟨o, σ'⟩ := r
  cases o with
  | val v =>
    have := k v σ' rfl
    simp only [Go.Proofs.Ytmgakpnejbembaa.bnd]
    simp only [Fin] at h this ⊢
    cases hf : (f v σ').1 <;> rw [hf] at this <;> simp only at this ⊢ <;> omega
  | leave d v => simp only [Fin, Go.Proofs.Ytmgakpnejbembaa.bnd] at h ⊢; omega
  | stop e => simp only [Fin, Go.Proofs.Ytmgakpnejbembaa.bnd] at h ⊢; omega
theorem Fin.mono {a b a' b' : Nat} {σ : RSt} {α : Type} {r : Res α} (h : Fin a b σ r) (ha : a ≤ a') (hb : b' ≤ b) : Fin a' b' σ r := by
  obtain ⟨o, σ'⟩ := r
  cases o <;> simp only [Fin] at h ⊢ <;> omega

def FinE (ev : EvF) : Prop := ∀ x s σ, Fin 0 1 σ (ev x s σ)
theorem tell_len (s : Sc) (deed n val : Int) (σ : RSt) : (tellS s deed n val σ).evs.length = σ.evs.length + 1 ∧ (tellS s deed n val σ).fuel = σ.fuel := by simp [tellS]
theorem fin_told {a b : Nat} {s : Sc} {deed n val : Int} {σ : RSt} {α : Type} {r : Res α} (h : Fin a b (tellS s deed n val σ) r) : Fin (a + 1) b σ r := by
  have := tell_len s deed n val σ
  obtain ⟨o, σ'⟩ := r
  cases o <;> simp only [Fin] at h ⊢ <;> omega
theorem fin_raiseL {ev : EvF} (hev : FinE ev) (rs : List Int) (n val : Int) : ∀ (l : List (Int × X)) (σ : RSt), Fin 1 0 σ (raiseL ev rs n val l σ)
  | [], σ => by simp [raiseL, Fin]
  | h :: r, σ => by
    simp only [raiseL]
    split
    · exact Fin.bnd (fin_told (hev _ _ _)) (fun v σ' _ => (fin_raiseL hev rs n val r σ').mono (by omega) (by omega)) (by omega) (by omega)
    · exact fin_raiseL hev rs n val r σ
theorem fin_raise {ev : EvF} (hev : FinE ev) (s : Sc) (n val : Int) (σ : RSt) : Fin 2 0 σ (raiseS ev s n val σ) := fin_told (fin_raiseL hev _ _ _ _ _)
theorem fin_offered {ev : EvF} (hev : FinE ev) (x : X) (s : Sc) (σ : RSt) : Fin 1 1 σ (offeredS ev x s σ) := by
  have := hev (kid x 0) ⟨s.hand, s.hs, x.d.2 :: s.rs⟩ σ
  unfold offeredS
  cases hr : ev (kid x 0) ⟨s.hand, s.hs, x.d.2 :: s.rs⟩ σ with
  | mk o σ' =>
    rw [hr] at this
    cases o with
    | val v => simp only [Fin] at this ⊢; omega
    | leave d v =>
      simp only
      split <;> simp only [Fin] at this ⊢ <;> omega
    | stop e => simp only [Fin] at this ⊢; omega
theorem fin_again {ev : EvF} (hev : FinE ev) (x : X) (s : Sc) : ∀ (k : Nat) (t : Int × Int × Bool) (σ : RSt), Fin 1 0 σ (againL ev x s k t σ)
  | 0, t, σ => by simp [againL, Fin]
  | k + 1, t, σ => by
    simp only [againL]
    split
    · exact Fin.bnd (fin_offered hev _ _ _) (fun v σ' _ => (fin_again hev x s k v σ').mono (by omega) (by omega)) (by omega) (by omega)
    · simp [Fin]
theorem fin_ite {a b : Nat} {σ : RSt} {α : Type} {c : Prop} [Decidable c] {r r' : Res α} (h : Fin a b σ r) (h' : Fin a b σ r') : Fin a b σ (if c then r else r') := by split <;> assumption
theorem fin_op (p : List X) {ev : EvF} (hev : FinE ev) (x : X) (s : Sc) (σ : RSt) : Fin 7 0 σ (opS p ev x s σ) := by
  have val0 : ∀ (v : Int) (σ : RSt) (a : Nat), Fin (a + 1) 0 σ ((.val v, σ) : Res Int) := fun v σ a => by simp only [Fin]; omega
  have stop0 : ∀ (v : Int) (σ : RSt) (a : Nat), Fin a 0 σ ((.stop v, σ) : Res Int) := fun v σ a => by simp only [Fin]; omega
  have ev0 : ∀ x s σ a, Fin a 0 σ (ev x s σ) := fun x s σ a => (hev x s σ).mono (by omega) (by omega)
  unfold opS
  refine fin_ite ?_ ?_
  · exact val0 _ _ 6
  refine fin_ite ?_ ?_
  · exact val0 _ _ 6
  refine fin_ite ?_ ?_
  · exact Fin.bnd (ev0 _ _ _ 0) (fun v σ' _ => Fin.bnd (ev0 _ _ _ 0) (fun u σ2 _ => (val0 _ _ 0).mono (by omega) (by omega)) (by omega) (by omega)) (by omega) (by omega)
  refine fin_ite ?_ ?_
  · exact Fin.bnd (ev0 _ _ _ 0) (fun v σ' _ => (fin_told (a := 1) (val0 _ _ 0)).mono (by omega) (by omega)) (by omega) (by omega)
  refine fin_ite ?_ ?_
  · exact Fin.bnd (ev0 _ _ _ 0) (fun v σ' _ => ev0 _ _ _ _) (by omega) (by omega)
  refine fin_ite ?_ ?_
  · refine Fin.bnd (ev0 _ _ _ 0) (fun v σ' _ => ?_) (by omega) (by omega)
    split <;> exact ev0 _ _ _ _
  refine fin_ite ?_ ?_
  · exact Fin.bnd (ev0 _ _ _ 0) (fun v σ' _ => ev0 _ _ _ _) (by omega) (by omega)
  refine fin_ite ?_ ?_
  · exact ev0 _ _ _ _
  refine fin_ite ?_ ?_
  · exact Fin.bnd (ev0 _ _ _ 0) (fun v σ' _ => Fin.bnd (fin_raise hev _ _ _ _) (fun u σ2 _ => (val0 _ _ 0).mono (by omega) (by omega)) (by omega) (by omega)) (by omega) (by omega)
  refine fin_ite ?_ ?_
  · refine Fin.bnd (ev0 _ _ _ 0) (fun v σ' _ => Fin.bnd (fin_raise hev _ _ _ _) (fun u σ2 _ => ?_) (by omega) (by omega)) (by omega) (by omega)
    split
    · exact stop0 _ _ _
    · rename_i q qs hq
      split
      · exact stop0 _ _ _
      · simp only [choiceS, Fin, tellS, List.length_append, List.length_cons, List.length_nil]; omega
  refine fin_ite ?_ ?_
  · refine Fin.bnd (fin_offered hev _ _ _) (fun t σ' _ => ?_) (by omega) (by omega)
    split
    · exact ev0 _ _ _ _
    · exact (val0 _ _ 0).mono (by omega) (by omega)
  refine fin_ite ?_ ?_
  · exact Fin.bnd (fin_offered hev _ _ _) (fun t σ' _ => (fin_again hev _ _ _ _ _).mono (by omega) (by omega)) (by omega) (by omega)
  refine fin_ite ?_ ?_
  · refine Fin.bnd (ev0 _ _ _ 0) (fun v σ' _ => ?_) (by omega) (by omega)
    split
    · simp only [choiceS, Fin, tellS, List.length_append, List.length_cons, List.length_nil]; omega
    · exact stop0 _ _ _
  refine fin_ite ?_ ?_
  · exact val0 _ _ 6
  · unfold guardS
    have h0 := hev (kid x 0) s σ
    cases hr : ev (kid x 0) s σ with
    | mk o σ' =>
      rw [hr] at h0
      cases o with
      | val v =>
        simp only [Fin] at h0
        have h1 := Fin.bnd (a' := 7) (b' := 0) (ev0 (kid x 1) s σ' 0) (fun _ σ2 _ => (val0 v σ2 0).mono (by omega) (by omega)) (by omega) (by omega)
        simp only
        cases hb : bnd (ev (kid x 1) s σ') fun _ σ => (.val v, σ) with
        | mk o2 σ2 =>
          rw [hb] at h1
          cases o2 <;> simp only [Fin] at h1 ⊢ <;> omega
      | leave d v =>
        simp only [Fin] at h0
        have hl := tell_len s 5 0 0 σ'
        have h1 := ev0 (kid x 1) s (tellS s 5 0 0 σ') 0
        simp only
        cases hb : ev (kid x 1) s (tellS s 5 0 0 σ') with
        | mk o2 σ2 =>
          rw [hb] at h1
          cases o2 <;> simp only [Fin, bnd] at h1 ⊢ <;> omega
      | stop e => simp only [Fin] at h0 ⊢; omega
theorem fin_eval (p : List X) : ∀ k, FinE (evalS p k)
  | 0, x, s, σ => by simp only [evalS, Fin]; omega
  | k + 1, x, s, σ => by
    simp only [evalS]
    split
    · simp only [Fin]; omega
    · have h := fin_op p (fin_eval p k) x s { σ with fuel := σ.fuel - 1 }
      cases hr : opS p (evalS p k) x s { σ with fuel := σ.fuel - 1 } with
      | mk o σ' =>
        rw [hr] at h
        cases o <;> simp only [Fin] at h ⊢ <;> omega
end Go.Proofs.Ytmgakpnejbembaa
