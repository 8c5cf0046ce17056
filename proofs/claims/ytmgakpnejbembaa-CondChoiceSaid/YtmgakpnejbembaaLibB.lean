/-
  Entering and leaving a function, on known slots.
-/
import Derived.Test.YtmgakpnejbembaaLibA
import Derived.Tactics
namespace Go.Proofs.Ytmgakpnejbembaa.L
open Go

def argsK : Nat → List Value → List (Nat × Value)
  | _, [] => []
  | i, v :: r => (i, v) :: argsK (i + 1) r

theorem look_argsK : ∀ (l : List Value) (i t : Nat) (v : Value), look (argsK i l) t = some v → i ≤ t ∧ l[t - i]? = some v
  | [], i, t, v, h => by simp [argsK, look] at h
  | x :: r, i, t, v, h => by
    simp only [argsK, look] at h
    cases hb : Nat.beq i t with
    | true =>
      rw [hb] at h
      have := Nat.eq_of_beq_eq_true hb
      subst this
      simp only [cond_true, Option.some.injEq] at h
      simp [h]
    | false =>
      rw [hb] at h
      have hne : i ≠ t := fun e => by subst e; simp [Nat.beq_refl] at hb
      obtain ⟨h1, h2⟩ := look_argsK r (i + 1) t v h
      refine ⟨by omega, ?_⟩
      rw [show t - i = (t - (i + 1)) + 1 by omega]
      simpa using h2

theorem has_args (args : Array Value) (m : Nat) : Has (argsK 0 args.toList) (args ++ Array.replicate m undef) := by
  intro t v h
  obtain ⟨-, h2⟩ := look_argsK _ _ _ _ h
  simp only [Nat.sub_zero] at h2
  have h3 : args[t]? = some v := by simpa using h2
  have hlt : t < args.size := (Array.getElem?_eq_some_iff.1 h3).1
  have : (args ++ Array.replicate m undef)[t]? = some v := by rw [Array.getElem?_append_left hlt]; exact h3
  simp [this]

section
variable {P : Program} {fn : Func} {R : Ending → World → Prop} {n : Nat} {ds : List Deferred} {k : List KI} {κ : List (Nat × Value)} {w : World}

theorem calls_of_S {f : FuncId} {c : Code} {args : Array Value} (hf : P.funcs[f]? = some fn) (hb : fn.body = some c) (hn : fn.ntmps = n) (ha : Nat.ble args.size n = true)
    (h : S P none (bodyPost P fn R) n [] [.code c] (argsK 0 args.toList) w) : Calls P f args w R := by
  refine (callsIn_FW (ro := none) (n := 0)).1 (callsIn_of_wp hf hb trivial ?_)
  have := Nat.le_of_ble_eq_true ha
  exact h _ (by simp [hn]; omega) (has_args _ _) rfl

theorem S.ret0 (hr : fn.results = #[]) (hR : R (.returned (.tuple #[])) w) : S P none (bodyPost P fn R) n [] (.code .ret :: k) κ w :=
  S.ret fun a _ _ hd => ⟨hd, _, results_none hr _ _ _, hR⟩

theorem S.fin0 (hr : fn.results = #[]) (hR : R (.returned (.tuple #[])) w) : S P none (bodyPost P fn R) n [] [] κ w :=
  S.fin fun a _ _ hd => ⟨hd, _, results_none hr _ _ _, hR⟩

theorem S.ret1 {t : Nat} {v : Value} (hr : fn.results = #[.tmp t]) (hl : look κ t = some v) (hR : R (.returned v) w) : S P none (bodyPost P fn R) n [] (.code .ret :: k) κ w :=
  S.ret fun a _ hh hd => ⟨hd, _, results_tmp hr _ _ _, by rw [hh _ _ hl]; exact hR⟩

theorem S.ret2 {t u : Nat} {v x : Value} (hr : fn.results = #[.tmp t, .tmp u]) (hl : look κ t = some v) (hl2 : look κ u = some x) (hR : R (.returned (.tuple #[v, x])) w) :
    S P none (bodyPost P fn R) n [] (.code .ret :: k) κ w :=
  S.ret fun a _ hh hd => ⟨hd, _, results_tmp2 hr _ _ _, by rw [hh _ _ hl, hh _ _ hl2]; exact hR⟩

theorem S.ret3 {t u s : Nat} {v x y : Value} (hr : fn.results = #[.tmp t, .tmp u, .tmp s]) (hl : look κ t = some v) (hl2 : look κ u = some x) (hl3 : look κ s = some y)
    (hR : R (.returned (.tuple #[v, x, y])) w) : S P none (bodyPost P fn R) n [] (.code .ret :: k) κ w :=
  S.ret fun a _ hh hd => ⟨hd, .tuple #[v, x, y], by
    have h1 := hh _ _ hl
    have h2 := hh _ _ hl2
    have h3 := hh _ _ hl3
    simp only [results, hr]
    simp [go_sem] at h1 h2 h3 ⊢
    simp [h1, h2, h3], hR⟩

/-- The results, one of them in memory: read by a trace. -/
def resS (fn : Func) (ρ : Nat → Value) : Sem Value := do
  let vs ← fn.results.mapM fun
    | .tmp t => pure (ρ t)
    | .cell a t => do loadVar t (← asAddr (ρ a))
  pure (if h : vs.size = 1 then vs[0] else .tuple vs)

theorem S.retC {t ty : Nat} {x v : Value} {rs : List Rq} {A : List Ans} (hr : fn.results = #[.cell t ty]) (hl : look κ t = some x)
    (hx : runI P (do loadVar ty (← asAddr x)) A = some (rs, [], v)) (ha : Acts rs w w) (hR : R (.returned v) w) : S P none (bodyPost P fn R) n [] (.code .ret :: k) κ w :=
  S.ret fun a _ hh hd => ⟨hd, v, (by
    have := runI_sound _ _ _ _ _ _ _ hx ha
    have h1 := hh _ _ hl
    simp only [results, hr]
    rw [← h1] at this
    simp [go_sem] at this ⊢
    simp [this]), hR⟩
end
end Go.Proofs.Ytmgakpnejbembaa.L
