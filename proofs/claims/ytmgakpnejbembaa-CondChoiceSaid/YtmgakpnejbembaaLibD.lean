/-
  Ranges over functions (a panic in a round too), function values, deferred calls that recover.
-/
import Derived.Test.YtmgakpnejbembaaLibC
import Derived.RangeFuncNested
import Derived.RecoverIn
namespace Go.Proofs.Ytmgakpnejbembaa.L
open Go Go.RowKit

/-! ### Rounds -/
/-- How a round ends. -/
def roundQ (P : Program) (l : Nat) (R : Ending → World → Prop) : Exit → Act → World → Prop
  | .normal, _, w => ∃ v w', (Instr.endRound l none).run P w = .ok v w' ∧ R (.returned v) w'
  | .ret, _, w => ∃ v w', (Instr.endRound l (some .ret)).run P w = .ok v w' ∧ R (.returned v) w'
  | .exit id, _, w => ∃ v w', (Instr.endRound l (some (.exit id))).run P w = .ok v w' ∧ R (.returned v) w'
  | .goto t, _, w => ∃ v w', (Instr.endRound l (some (.goto t))).run P w = .ok v w' ∧ R (.returned v) w'
  | .panic ch, a, w => a.defers = [] ∧ R (.panicked ch) w
  | .outgrown, _, _ => False

section
variable {P : Program} {R : Ending → World → Prop} {n : Nat} {κ : List (Nat × Value)} {w : World}

theorem step_round_panic {b : Frame} {a : Act} {todo : List Item} {c : Frame} {cs : List Frame} {ch : List PanicEntry} {fn : Func} (hd : a.defers = []) (hf : P.funcs[b.fn]? = some fn) :
    step P (lone { b.atR a todo with mode := .panicking ch } (c :: cs) w) = .next (lone (c.raise ch) cs w) :=
  step_lone_go (by simp [stepG, unwind, Frame.atR, Frame.catches, hd, hf])

/-- One round, out of its walk; a panic goes up. -/
theorem round_of_S {l : Nat} {f : FuncId} {tmps : Array Value} {assign body : Code} (hf : (∃ fn, P.funcs[f]? = some fn) ∨ ∀ ch w, ¬ R (.panicked ch) w) (hs : tmps.size = n) (hk : Has κ tmps)
    (h : S P (some l) (fun _ _ _ => False) n [] [.code assign, .stop (fun a₁ w₁ => ∃ w₂, (Instr.beginRound l).run P w₁ = .ok () w₂ ∧ QK P (some l) (roundQ P l R) [.code body] .normal a₁ w₂)] κ w) :
    RoundIn (FW none) 0 P l f tmps assign body w R := by
  refine ⟨trivial, fun c cs hr => ?_⟩
  let b : Frame := { (default : Frame) with fn := f, kind := .normal, roundOf := some l }
  have hb0 : Frame.round l f tmps assign body .normal = b.atR { tmps := tmps, defers := [] } [.code assign, .beginRound, .code body] := by
    simp [Frame.round, Frame.atR, b]
  have hr' : (FW (some l)).room ((c :: cs).length + 1 + 0) := room_FW _ _
  have hF' : (FW (some l)).fn b.fn := trivial
  obtain ⟨e, a₁, w₁, hq, harr⟩ := h { tmps := tmps, defers := [] } hs hk rfl b [.beginRound, .code body] (c :: cs) rfl hF' hr'
  rw [← hb0] at harr
  cases e with
  | normal =>
    obtain ⟨w₂, hbr, hbody⟩ := hq
    have s1 : StepsIn (Machine.fenced P (FW (some l))) P (lone (b.atR a₁ [.beginRound, .code body]) (c :: cs) w₁) (lone (b.atR a₁ [.code body]) (c :: cs) w₂) :=
      .one (fenced_calm (fr := b.atR a₁ [.beginRound, .code body]) hF' hr' rfl) (stepR_beginRound rfl hbr)
    obtain ⟨e₂, a₂, w₃, hq₂, harr₂⟩ := hbody b [] (c :: cs) rfl hF' hr'
    cases e₂ with
    | normal =>
      obtain ⟨v, w₄, hend, hR⟩ := hq₂
      exact ⟨.returned v, w₄, hR, (StepsIn.trans harr s1).trans (StepsIn.trans harr₂ (.one (fenced_calm (fr := b.atR a₂ []) hF' hr' rfl) (stepR_round_end rfl rfl hend)))⟩
    | ret =>
      obtain ⟨v, w₄, hend, hR⟩ := hq₂
      obtain ⟨k₁, hs⟩ := harr₂.2 rfl
      exact ⟨.returned v, w₄, hR, (StepsIn.trans harr s1).trans (StepsIn.trans hs (.one (fenced_calm (fr := b.atR a₂ (.code .ret :: k₁)) hF' hr' rfl) (stepR_round_ret rfl rfl hend)))⟩
    | exit id =>
      obtain ⟨v, w₄, hend, hR⟩ := hq₂
      obtain ⟨k₁, hk, hs⟩ := harr₂.2 rfl rfl
      exact ⟨.returned v, w₄, hR, (StepsIn.trans harr s1).trans (StepsIn.trans hs (.one (fenced_calm (fr := b.atR a₂ (.code (.exit id) :: k₁)) hF' hr' rfl) (stepR_round_exit rfl rfl hk hend)))⟩
    | goto t =>
      obtain ⟨v, w₄, hend, hR⟩ := hq₂
      obtain ⟨k₁, hk, hs⟩ := harr₂.2 rfl rfl
      exact ⟨.returned v, w₄, hR, (StepsIn.trans harr s1).trans (StepsIn.trans hs (.one (fenced_calm (fr := b.atR a₂ (.code (.goto t) :: k₁)) hF' hr' rfl) (stepR_round_goto rfl rfl hk hend)))⟩
    | panic chain =>
      obtain ⟨hd, hR⟩ := hq₂
      obtain ⟨todo, hs⟩ := harr₂
      rcases hf with ⟨fn, hf⟩ | hno
      · refine ⟨.panicked chain, w₃, hR, (StepsIn.trans harr s1).trans (StepsIn.trans hs (.one (fenced_wide P _) ?_))⟩
        exact step_round_panic (b := b) hd hf
      · exact (hno _ _ hR).elim
    | outgrown => exact hq₂.elim
  | exit id => exact hq.elim
  | goto t => exact hq.elim
  | ret => exact hq.elim
  | panic chain => exact hq.elim
  | outgrown => exact hq.elim

/-- A loop's record. -/
def LoopAt (w : World) (l : Nat) (r : Loop) : Prop := w.heap[l]? = some (.loop r)

theorem LoopAt.lt {l : Nat} {r : Loop} (h : LoopAt w l r) : l < w.heap.size := (Array.getElem?_eq_some_iff.1 h).1
theorem LoopAt.ext {M : Nat → Prop} {w w' : World} {l : Nat} {r : Loop} (h : LoopAt w l r) (hx : Ext M w w') (hm : ¬ M l) : LoopAt w' l r := (hx.block l h.lt hm).trans h

theorem Ext.putObj {w : World} (l : Nat) (o : Obj) : Ext (· = l) w (w.putObj l o) :=
  ⟨rfl, rfl, rfl, by simp, fun b _ hm => World.putObj_heap_other hm⟩

/-- The slots with the loop's variables laid. -/
def laidK : List (Nat × Value) → List (Nat × Value) → List (Nat × Value)
  | [], κ => κ
  | (t, v) :: r, κ => laidK r ((t, v) :: κ)

theorem has_laid : ∀ (l : List (Nat × Value)) (κ : List (Nat × Value)) (tmps : Array Value), Has κ tmps → (l.all fun x => Nat.blt x.1 tmps.size) = true →
    (l.foldl (fun tmps x => tmps.setIfInBounds x.1 x.2) tmps).size = tmps.size ∧ Has (laidK l κ) (l.foldl (fun tmps x => tmps.setIfInBounds x.1 x.2) tmps) := by
  intro l
  induction l with
  | nil => intro κ tmps h _; exact ⟨rfl, h⟩
  | cons x r ih =>
    intro κ tmps h hb
    obtain ⟨t, v⟩ := x
    simp only [List.all_cons, Bool.and_eq_true, Nat.blt_eq] at hb
    have h2 := h.put (v := v) hb.1
    have := ih ((t, v) :: κ) (tmps.setIfInBounds t v) h2 (by simpa using hb.2)
    simp only [List.foldl_cons, laidK]
    exact ⟨by rw [this.1]; simp, this.2⟩

/-- A function value's call. -/
def callSem (y : Value) (args : Array Value) : Sem Next := (Deferred.ofValue y args).bind fun d => invoke d.target d.args

/-- A call of yield is a round. -/
theorem yield_calls {l : Nat} {rec : Loop} {args : Array Value} (hl : LoopAt w l rec) (hst : rec.state = .ready) (hf : (∃ fn, P.funcs[rec.fn]? = some fn) ∨ ∀ ch w, ¬ R (.panicked ch) w) (hn : rec.tmps.size = n)
    (hk : Has κ rec.tmps) (hp : args.size = rec.params.size) (hb : ((rec.params.zip args).toList.all fun x => Nat.blt x.1 n) = true)
    (h : S P (some l) (fun _ _ _ => False) n [] [.code rec.assign, .stop (fun a₁ w₁ => ∃ w₂, (Instr.beginRound l).run P w₁ = .ok () w₂ ∧ QK P (some l) (roundQ P l R) [.code rec.body] .normal a₁ w₂)]
      (laidK (rec.params.zip args).toList κ) w) :
    CallsV P (callSem (.func (.yield l) #[] #[]) args) w R := by
  refine .inr ⟨l, rec.fn, (rec.params.zip args).foldl (fun tmps (x : Tmp × Value) => tmps.setIfInBounds x.1 x.2) rec.tmps, rec.assign, rec.body, ?_, ?_⟩
  · show (Instr.yield l (#[] ++ args)).run P w = _
    rw [Array.empty_append]
    exact run_yield hl hp
  · have := has_laid (rec.params.zip args).toList κ rec.tmps hk (by rw [hn]; exact hb)
    have e : (rec.params.zip args).toList.foldl (fun tmps x => tmps.setIfInBounds x.1 x.2) rec.tmps = (rec.params.zip args).foldl (fun tmps (x : Tmp × Value) => tmps.setIfInBounds x.1 x.2) rec.tmps := by
      rw [Array.foldl_toList]
    rw [e] at this
    exact round_of_S hf (by rw [this.1]; exact hn) this.2 h

theorem callSem_func {f : Nat} {cap args args' : Array Value} {fn : Func} (hs : runI P (callSem (.func (.func f) #[] cap) args) [] = some ([], [], .enter f args')) (h : Calls P f args' w R) :
    CallsV P (callSem (.func (.func f) #[] cap) args) w R :=
  .inl ⟨f, args', runI_sound _ _ _ _ _ w w hs rfl, h⟩
end

/-! ### The statement -/
section
variable {P : Program} {ro : Option Nat} {Qf : Exit → Act → World → Prop} {n : Nat} {ds : List Deferred} {k : List KI} {κ : List (Nat × Value)} {w : World}

/-- What is asked behind the iterator's call. -/
def AfterRange (P : Program) (ro : Option Nat) (Qf : Exit → Act → World → Prop) (n : Nat) (ds : List Deferred) (k : List KI) (κ : List (Nat × Value)) (l : Nat) : Ending → World → Prop
  | .returned _, w => ∃ r, LoopAt w l r ∧ r.state ≠ .busy ∧ (match r.pending with
      | none => S P ro Qf n ds k κ (w.putObj l (.loop { r with state := .exhausted }))
      | some c => S P ro Qf n ds (.code c :: k) κ (w.putObj l (.loop { r with state := .exhausted })))
  | .panicked ch, w => ∀ a : Act, a.tmps.size = n → Has κ a.tmps → a.defers = ds → Qf (.panic ch) a w
  | .outgrown, _ => ∃ a w, Qf .outgrown a w

theorem afterRange_post {l : Nat} {a : Act} (hs : a.tmps.size = n) (hh : Has κ a.tmps) (hd : a.defers = ds) : ∀ e w, AfterRange P ro Qf n ds k κ l e w → rangePost (FW ro) 0 P l (QK P ro Qf k) a e w := by
  intro e w he
  cases e with
  | returned v =>
    obtain ⟨r, hl, hb, hj⟩ := he
    refine ⟨r.pending, _, run_endLoop hl hb, ?_⟩
    cases hp : r.pending with
    | none => rw [hp] at hj; exact hj a hs hh hd
    | some c => rw [hp] at hj; exact hj a hs hh hd
  | panicked ch =>
    simp only [rangePost]
    rw [QK_panic]
    exact he a hs hh hd
  | outgrown =>
    obtain ⟨a0, w0, hq⟩ := he
    exact ⟨a0, w0, by rw [QK_outgrown]; exact hq⟩

/-- A range over a function, in an activation of its own. -/
theorem S.range {g : Operand} {ps : Array Tmp} {assign body : Code} {gf : Nat} {lb : Array Value} (hro : ro = none) (hg : evK κ g = some (.func (.func gf) #[] lb))
    (hi : ∀ l, runI P (callSem (.func (.func gf) #[] lb) #[.func (.yield l) #[] #[]]) [] = some ([], [], .enter gf (#[.func (.yield l) #[] #[]] ++ lb)))
    (h : ∀ d l w1 (r : Loop), Ext E0 w w1 → d = w.heap.size → l = d + 1 → w1.heap.size = l + 1 → w1.heap[d]? = some (.deferred (some [])) → LoopAt w1 l r →
      r.state = .ready → r.pending = none → r.tmps.size = n → Has κ r.tmps → r.params = ps → r.assign = assign → r.body = body →
      Calls P gf (#[.func (.yield l) #[] #[]] ++ lb) w1 (AfterRange P ro Qf n ({ target := .collected d, args := #[] } :: ds) k κ l)) : S P ro Qf n ds (.code (.rangeFunc g ps assign body) :: k) κ w := by
  intro a hs hh hd
  subst hro
  refine wpIn_rangeFunc fun fn _ => ?_
  have hE : Ext E0 w ((w.alloc (.deferred (some []))).alloc (.loop { state := .ready, pending := none, fn, tmps := a.tmps, params := ps, assign, body, defers := w.heap.size })) :=
    (Ext.push (w := w) _).trans (Ext.push (w := w.alloc (.deferred (some []))) _)
  have hsz : (w.alloc (.deferred (some []))).heap.size = w.heap.size + 1 := World.size_alloc _ _
  have h1 := h w.heap.size (w.heap.size + 1) _ { state := .ready, pending := none, fn, tmps := a.tmps, params := ps, assign, body, defers := w.heap.size } hE rfl rfl
    (by rw [World.size_alloc, hsz]) ((Below.heap_alloc _ _ _ (by rw [hsz]; omega)).trans (World.alloc_heap_new w _))
    (by have := World.alloc_heap_new (w.alloc (.deferred (some []))) (.loop { state := .ready, pending := none, fn, tmps := a.tmps, params := ps, assign, body, defers := w.heap.size }); rwa [hsz] at this)
    rfl rfl hs hh rfl rfl rfl
  obtain ⟨W1, hW⟩ : ∃ W1, (w.alloc (.deferred (some []))).alloc (.loop { state := .ready, pending := none, fn, tmps := a.tmps, params := ps, assign, body, defers := w.heap.size }) = W1 := ⟨_, rfl⟩
  have henter : (Instr.enterLoop fn a.tmps ps assign body none).run P w = .ok (w.heap.size + 1, [{ target := .collected w.heap.size, args := #[] }]) W1 := by
    rw [← hW]; exact run_enterLoop_outer _ _ _ _ _
  rw [hW] at h1
  have hres : (resolve a.eval (rangeCall g (w.heap.size + 1)) 0).run P W1 = .ok { target := .fn (.func gf) lb, args := #[.func (.yield (w.heap.size + 1)) #[] #[]] } W1 := by
    simp only [resolve, hh.eval hg]
    simp [go_sem]
  have hinv : (invoke (.fn (.func gf) lb) #[.func (.yield (w.heap.size + 1)) #[] #[]]).run P W1 = .ok (.enter gf (#[.func (.yield (w.heap.size + 1)) #[] #[]] ++ lb)) W1 :=
    runI_sound _ _ _ _ _ W1 W1 (hi (w.heap.size + 1)) rfl
  exact ⟨w.heap.size + 1, [{ target := .collected w.heap.size, args := #[] }], W1, { target := .fn (.func gf) lb, args := #[.func (.yield (w.heap.size + 1)) #[] #[]] }, W1, gf, _, W1,
    henter, hres, fun _ _ => trivial, hinv, fun h => by simp at h,
    callsIn_FW.2 (h1.mono fun e w2 he => afterRange_post (a := { a with defers := [{ target := .collected w.heap.size, args := #[] }] ++ a.defers }) hs hh (by simp [hd]) e w2 he)⟩

/-- A range over a function, in an activation of the function f₀: the record says so. -/
theorem S.rangeF {f₀ : Nat} {g : Operand} {ps : Array Tmp} {assign body : Code} {gf : Nat} {lb : Array Value} (hro : ro = none) (hg : evK κ g = some (.func (.func gf) #[] lb))
    (hi : ∀ l, runI P (callSem (.func (.func gf) #[] lb) #[.func (.yield l) #[] #[]]) [] = some ([], [], .enter gf (#[.func (.yield l) #[] #[]] ++ lb)))
    (h : ∀ d l w1 (r : Loop), Ext E0 w w1 → d = w.heap.size → l = d + 1 → w1.heap.size = l + 1 → w1.heap[d]? = some (.deferred (some [])) → LoopAt w1 l r →
      r.state = .ready → r.pending = none → r.tmps.size = n → Has κ r.tmps → r.params = ps → r.assign = assign → r.body = body → r.fn = f₀ →
      Calls P gf (#[.func (.yield l) #[] #[]] ++ lb) w1 (AfterRange P ro Qf n ({ target := .collected d, args := #[] } :: ds) k κ l)) : S P ro Qf n ds (.codeF f₀ (.rangeFunc g ps assign body) :: k) κ w := by
  intro a hs hh hd
  subst hro
  refine wpF_rangeFunc ?_
  have hE : Ext E0 w ((w.alloc (.deferred (some []))).alloc (.loop { state := .ready, pending := none, fn := f₀, tmps := a.tmps, params := ps, assign, body, defers := w.heap.size })) :=
    (Ext.push (w := w) _).trans (Ext.push (w := w.alloc (.deferred (some []))) _)
  have hsz : (w.alloc (.deferred (some []))).heap.size = w.heap.size + 1 := World.size_alloc _ _
  have h1 := h w.heap.size (w.heap.size + 1) _ { state := .ready, pending := none, fn := f₀, tmps := a.tmps, params := ps, assign, body, defers := w.heap.size } hE rfl rfl
    (by rw [World.size_alloc, hsz]) ((Below.heap_alloc _ _ _ (by rw [hsz]; omega)).trans (World.alloc_heap_new w _))
    (by have := World.alloc_heap_new (w.alloc (.deferred (some []))) (.loop { state := .ready, pending := none, fn := f₀, tmps := a.tmps, params := ps, assign, body, defers := w.heap.size }); rwa [hsz] at this)
    rfl rfl hs hh rfl rfl rfl rfl
  obtain ⟨W1, hW⟩ : ∃ W1, (w.alloc (.deferred (some []))).alloc (.loop { state := .ready, pending := none, fn := f₀, tmps := a.tmps, params := ps, assign, body, defers := w.heap.size }) = W1 := ⟨_, rfl⟩
  have henter : (Instr.enterLoop f₀ a.tmps ps assign body none).run P w = .ok (w.heap.size + 1, [{ target := .collected w.heap.size, args := #[] }]) W1 := by
    rw [← hW]; exact run_enterLoop_outer _ _ _ _ _
  rw [hW] at h1
  have hres : (resolve a.eval (rangeCall g (w.heap.size + 1)) 0).run P W1 = .ok { target := .fn (.func gf) lb, args := #[.func (.yield (w.heap.size + 1)) #[] #[]] } W1 := by
    simp only [resolve, hh.eval hg]
    simp [go_sem]
  have hinv : (invoke (.fn (.func gf) lb) #[.func (.yield (w.heap.size + 1)) #[] #[]]).run P W1 = .ok (.enter gf (#[.func (.yield (w.heap.size + 1)) #[] #[]] ++ lb)) W1 :=
    runI_sound _ _ _ _ _ W1 W1 (hi (w.heap.size + 1)) rfl
  exact ⟨w.heap.size + 1, [{ target := .collected w.heap.size, args := #[] }], W1, { target := .fn (.func gf) lb, args := #[.func (.yield (w.heap.size + 1)) #[] #[]] }, W1, gf, _, W1,
    henter, hres, hinv,
    callsIn_FW.2 (h1.mono fun e w2 he => afterRange_post (a := { a with defers := [{ target := .collected w.heap.size, args := #[] }] ++ a.defers }) hs hh (by simp [hd]) e w2 he)⟩

/-- In a round of another loop. -/
theorem S.rangeIn {g : Operand} {ps : Array Tmp} {assign body : Code} {gf l0 : Nat} {lb : Array Value} {r0 : Loop} (hro : ro = some l0) (hl0 : LoopAt w l0 r0) (hg : evK κ g = some (.func (.func gf) #[] lb))
    (hi : ∀ l, runI P (callSem (.func (.func gf) #[] lb) #[.func (.yield l) #[] #[]]) [] = some ([], [], .enter gf (#[.func (.yield l) #[] #[]] ++ lb)))
    (h : ∀ l w1 (r : Loop), Ext E0 w w1 → l = w.heap.size → w1.heap.size = l + 1 → LoopAt w1 l r →
      r.state = .ready → r.pending = none → r.tmps.size = n → Has κ r.tmps → r.params = ps → r.assign = assign → r.body = body →
      Calls P gf (#[.func (.yield l) #[] #[]] ++ lb) w1 (AfterRange P ro Qf n ds k κ l)) : S P ro Qf n ds (.code (.rangeFunc g ps assign body) :: k) κ w := by
  intro a hs hh hd
  subst hro
  refine wpIn_rangeFunc fun fn _ => ?_
  have hE : Ext E0 w (w.alloc (.loop { state := .ready, pending := none, fn, tmps := a.tmps, params := ps, assign, body, defers := r0.defers })) := Ext.push (w := w) _
  have h1 := h w.heap.size _ { state := .ready, pending := none, fn, tmps := a.tmps, params := ps, assign, body, defers := r0.defers } hE rfl
    (World.size_alloc _ _) (World.alloc_heap_new w _) rfl rfl hs hh rfl rfl rfl
  obtain ⟨W1, hW⟩ : ∃ W1, w.alloc (.loop { state := .ready, pending := none, fn, tmps := a.tmps, params := ps, assign, body, defers := r0.defers }) = W1 := ⟨_, rfl⟩
  have henter : (Instr.enterLoop fn a.tmps ps assign body (some l0)).run P w = .ok (w.heap.size, []) W1 := by
    rw [← hW]; exact run_enterLoop_inner hl0 _ _ _ _ _
  rw [hW] at h1
  have hres : (resolve a.eval (rangeCall g w.heap.size) 0).run P W1 = .ok { target := .fn (.func gf) lb, args := #[.func (.yield w.heap.size) #[] #[]] } W1 := by
    simp only [resolve, hh.eval hg]
    simp [go_sem]
  have hinv : (invoke (.fn (.func gf) lb) #[.func (.yield w.heap.size) #[] #[]]).run P W1 = .ok (.enter gf (#[.func (.yield w.heap.size) #[] #[]] ++ lb)) W1 :=
    runI_sound _ _ _ _ _ W1 W1 (hi w.heap.size) rfl
  exact ⟨w.heap.size, [], W1, { target := .fn (.func gf) lb, args := #[.func (.yield w.heap.size) #[] #[]] }, W1, gf, _, W1,
    henter, hres, fun _ _ => trivial, hinv, fun h => by simp at h,
    callsIn_FW.2 (h1.mono fun e w2 he => afterRange_post (a := { a with defers := [] ++ a.defers }) hs hh (by simp [hd]) e w2 he)⟩

/-! ### A function that defers -/
/-- What is asked where a function with deferred calls leaves. -/
def DQ (P : Program) (fn : Func) (R : Ending → World → Prop) : Exit → Act → World → Prop
  | .panic ch, a, w => (fn.results = #[] ∨ ∀ d, d ∈ a.defers → ∃ r, d.target = .collected r) ∧ bodyPostM (FW none) 0 P fn R (.panic ch) a w
  | e, a, w => bodyPostM (FW none) 0 P fn R e a w
theorem DQ_le {fn : Func} {R : Ending → World → Prop} : ∀ e a w, DQ P fn R e a w → bodyPostM (FW none) 0 P fn R e a w := fun e a w h => by
  cases e <;> first | exact h.2 | exact h
theorem leavesM_tmps {fn : Func} {R : Ending → World → Prop} {tmps tmps' : Array Value} {ch : List PanicEntry} : ∀ (ds : List Deferred) (w : World), (∀ d, d ∈ ds → ∃ r, d.target = .collected r) →
    LeavesInM (FW none) 0 P fn tmps R ds (.panicking ch) w → LeavesInM (FW none) 0 P fn tmps' R ds (.panicking ch) w
  | [], _, _, h => h
  | d :: ds, w, hd, h => by
    refine ⟨h.1, ?_⟩
    rcases h.2 with ⟨r, w', h1, h2, h3⟩ | ⟨-, fv, cap, f, args, h1, -⟩
    · exact .inl ⟨r, w', h1, h2, leavesM_tmps ds w' (fun e he => hd e (by simp [he])) h3⟩
    · obtain ⟨r, hr⟩ := hd d (by simp)
      rw [hr] at h1
      cases h1
theorem leavesM_none {fn : Func} {R : Ending → World → Prop} {tmps tmps' : Array Value} (hr : fn.results = #[]) : ∀ (ds : List Deferred) (u : FrameMode) (w : World),
    LeavesInM (FW none) 0 P fn tmps R ds u w → LeavesInM (FW none) 0 P fn tmps' R ds u w
  | [], u, w, h => by
    cases u with
    | returning =>
      obtain ⟨v, h1, h2⟩ := h
      refine ⟨v, ?_, h2⟩
      rw [results_none hr] at h1 ⊢
      exact h1
    | _ => exact h
  | d :: ds, u, w, h => by
    refine ⟨h.1, ?_⟩
    rcases h.2 with ⟨r, w', h1, h2, h3⟩ | ⟨h0, fv, cap, f, args, h1, h2, h3, h4⟩
    · exact .inl ⟨r, w', h1, h2, leavesM_none hr ds u w' h3⟩
    · refine .inr ⟨h0, fv, cap, f, args, h1, h2, h3, h4.mono fun e u' w' he => ?_⟩
      cases e with
      | returned v => exact leavesM_none hr ds _ w' he
      | panicked c => exact leavesM_none hr ds _ w' he
      | outgrown => exact he
theorem dq_panicOk {fn : Func} {R : Ending → World → Prop} : PanicOk (DQ P fn R) := fun ch a a' w hd h => by
  refine ⟨by rw [hd]; exact h.1, ?_⟩
  have h2 : LeavesInM (FW none) 0 P fn a.tmps R a.defers (.panicking ch) w := h.2
  show LeavesInM (FW none) 0 P fn a'.tmps R a'.defers (.panicking ch) w
  rw [hd]
  rcases h.1 with h1 | h1
  · exact leavesM_none h1 _ _ _ h2
  · exact leavesM_tmps _ _ h1 h2
theorem roundQ_panicOk {l : Nat} {R : Ending → World → Prop} : PanicOk (roundQ P l R) := fun _ _ _ _ hd h => ⟨hd.trans h.1, h.2⟩

theorem calls_of_SM {fn : Func} {R : Ending → World → Prop} {f : FuncId} {c : Code} {args : Array Value} (hf : P.funcs[f]? = some fn) (hb : fn.body = some c) (hn : fn.ntmps = n) (ha : Nat.ble args.size n = true)
    (h : S P none (DQ P fn R) n [] [.code c] (argsK 0 args.toList) w) : Calls P f args w R := by
  refine (callsIn_FW (ro := none) (n := 0)).1 (callsIn_of_wp_marks hf hb trivial ?_)
  have := Nat.le_of_ble_eq_true ha
  exact wpIn_mono (h _ (by simp [hn]; omega) (has_args _ _) rfl) DQ_le

theorem calls_of_SMF {fn : Func} {R : Ending → World → Prop} {f : FuncId} {c : Code} {args : Array Value} (hf : P.funcs[f]? = some fn) (hb : fn.body = some c) (hn : fn.ntmps = n) (ha : Nat.ble args.size n = true)
    (h : S P none (DQ P fn R) n [] [.codeF f c] (argsK 0 args.toList) w) : Calls P f args w R := by
  refine calls_of_wpF hf hb ?_
  have := Nat.le_of_ble_eq_true ha
  intro b k cs hro hb
  obtain ⟨e, a', w', hq, r⟩ := h { tmps := args ++ Array.replicate (fn.ntmps - args.size) undef, defers := [] } (by simp [hn]; omega) (has_args _ _) rfl b k cs hro hb
  exact ⟨e, a', w', DQ_le e a' w' hq, r⟩

/-- Behind marks alone: a panic goes up. -/
theorem leaves_mark {fn : Func} {R : Ending → World → Prop} {tmps : Array Value} {d : Nat} {ds : List Deferred} {u : FrameMode} (hu : u ≠ .run) (hd : w.heap[d]? = some (.deferred (some [])))
    (h : LeavesInM (FW none) 0 P fn tmps R ds u (w.putObj d (.deferred none))) : LeavesInM (FW none) 0 P fn tmps R ({ target := .collected d, args := #[] } :: ds) u w :=
  ⟨hu, .inl ⟨d, _, rfl, run_takeDeferred hd, h⟩⟩

theorem leaves_panic {fn : Func} {R : Ending → World → Prop} {tmps : Array Value} {ch : List PanicEntry} (h : R (.panicked ch) w) : LeavesInM (FW none) 0 P fn tmps R [] (.panicking ch) w := h

theorem leaves_ret {fn : Func} {R : Ending → World → Prop} {tmps : Array Value} {v : Value} (hr : (results fn tmps).run P w = .ok v w) (h : R (.returned v) w) :
    LeavesInM (FW none) 0 P fn tmps R [] .returning w := ⟨v, hr, h⟩

theorem leaves_call {fn : Func} {R : Ending → World → Prop} {tmps cap : Array Value} {f : FuncId} {ds : List Deferred} {u : FrameMode} (hu : u ≠ .run)
    (hi : runI P (invoke (.fn (.func f) cap) #[]) [] = some ([], [], .enter f cap))
    (h : CallsDIn (FW none) 0 P f cap u w fun
      | .returned _, u', w' => LeavesInM (FW none) 0 P fn tmps R ds (settle u') w'
      | .panicked chain, u', w' => LeavesInM (FW none) 0 P fn tmps R ds (raised u' chain) w'
      | .outgrown, _, w' => R .outgrown w') : LeavesInM (FW none) 0 P fn tmps R ({ target := .fn (.func f) cap, args := #[] } :: ds) u w :=
  ⟨hu, .inr ⟨fun h => by simp at h, .func f, cap, f, cap, rfl, runI_sound _ _ _ _ _ w w hi rfl, fun _ _ => trivial, h⟩⟩

/-! ### A deferred call that recovers -/
def recV : FrameMode → Value
  | .panicking ({ v, recovered := false, goexit := false } :: _) => v
  | _ => .nilIface
def recM : FrameMode → FrameMode
  | .panicking ({ v, recovered := false, goexit := false } :: older) => .panicking ({ v, recovered := true } :: older)
  | m => m

theorem recoverD_eq (c : Frame) (cs : List Frame) : (match recoverD (c :: cs) with
    | some (v, cs') => (v, cs')
    | none => (.nilIface, c :: cs)) = (recV c.mode, { c with mode := recM c.mode } :: cs) := by
  obtain ⟨fn, tmps, todo, defers, mode, kind, ro⟩ := c
  cases mode with
  | run => rfl
  | returning => rfl
  | panicking ch =>
    cases ch with
    | nil => rfl
    | cons e older =>
      obtain ⟨v, r, g⟩ := e
      cases r <;> cases g <;> rfl

theorem callsD_recover {fn : Func} {R : Ending → FrameMode → World → Prop} {f : FuncId} {args : Array Value} {id : Nat} {ops : Array Oper} {c : Code} {o : Oper} {d : Nat} (u : FrameMode)
    (hf : P.funcs[f]? = some fn) (hb : fn.body = some (.seq (.region id ops false) c)) (hn : fn.ntmps = n) (ha : Nat.ble args.size n = true) (hdn : Nat.blt d n = true)
    (ho : ops[0]? = some o) (hod : o.dst = some d) (hog : o.guard = none) (hop : o.op = .call { callee := .builtin .recover, args := #[], argTypes := #[] })
    (h : S P none (bodyPost P fn (fun e w => R e (recM u) w)) n [] [.reg ops 1, .code c] ((d, recV u) :: argsK 0 args.toList) w) :
    CallsDIn (FW none) 0 P f args u w R := by
  refine ⟨trivial, fun c₀ cs hu hroom => ?_⟩
  let b : Frame := { (default : Frame) with fn := f, kind := .deferred, roundOf := none }
  have hsz : 0 < ops.size := (Array.getElem?_eq_some_iff.1 ho).1
  have hale := Nat.le_of_ble_eq_true ha
  have hdlt : d < n := by simpa [Nat.blt_eq] using hdn
  let a0 : Act := { tmps := args ++ Array.replicate (fn.ntmps - args.size) undef, defers := [] }
  have hs0 : a0.tmps.size = n := by simp [a0, hn]; omega
  have henter : Frame.enter P f args .deferred = b.atR a0 [.code (.seq (.region id ops false) c)] := by
    simp [Frame.enter, Frame.atR, hf, hb, b, a0]
  have hlist : List.range ops.size = 0 :: List.range' 1 (ops.size - 1) := by
    rw [List.range_eq_range', show ops.size = (ops.size - 1) + 1 by omega, List.range'_succ]
    simp
  have e1 := recoverD_eq c₀ cs
  have s1 : StepsIn (Machine.fenced P (FW none)) P (lone (b.atR a0 [.code (.seq (.region id ops false) c)]) (c₀ :: cs) w)
      (lone (b.atR (a0.put (some d) (recV u)) [.inRegion ops (List.range' 1 (ops.size - 1)), .code c]) ({ c₀ with mode := recM u } :: cs) w) := by
    refine .head (fenced_wide P _) stepR_seq (.head (fenced_wide P _) stepR_region (.one (fenced_wide P _) ?_))
    rw [hlist]
    refine step_lone_go ?_
    have hw : Region.wanted o (yielded ops a0.tmps) = true := by simp [Region.wanted, hog]
    rw [stepGR_op (P := P) (b := b) (a := a0) (k := [.code c]) (cs := c₀ :: cs) (w := w) (rest := List.range' 1 (ops.size - 1)) ho hw]
    have hsem : o.semAt b.roundOf a0.eval = (pure .recover : Sem Next) := by
      show o.semAt none a0.eval = _
      rw [Oper.semAt_none]
      unfold execOp
      rw [hop]
      rfl
    rw [hsem]
    have hfin : ∀ v, (b.atR a0 (.inRegion ops (0 :: List.range' 1 (ops.size - 1)) :: [.code c])).finish v = b.atR (a0.put (some d) v) [.inRegion ops (List.range' 1 (ops.size - 1)), .code c] := by
      intro v
      rw [Frame.finish_atR, ho]
      simp [hod]
    have hkind : (b.atR a0 (.inRegion ops (0 :: List.range' 1 (ops.size - 1)) :: [.code c])).kind = .deferred := rfl
    have htr := tryRecover_deferred hkind (c₀ :: cs)
    have hro : (b.atR a0 (.inRegion ops (0 :: List.range' 1 (ops.size - 1)) :: [.code c])).roundOf = none := rfl
    rw [← hfin]
    simp only [stepG.apply, Sem.runT_eq, pure, Sem.run, GStep.bare_after, hro, if_true]
    rw [htr]
    subst hu
    cases hr : recoverD (c₀ :: cs) with
    | none =>
      rw [hr] at e1
      simp only [Prod.mk.injEq] at e1
      obtain ⟨e1, e2⟩ := e1
      rw [← e1]
      simp only [GStep.bare_go]
      rw [e2]
    | some p =>
      obtain ⟨v, cs'⟩ := p
      rw [hr] at e1
      simp only [Prod.mk.injEq] at e1
      obtain ⟨e1, e2⟩ := e1
      rw [← e1, ← e2]
      simp only [GStep.bare_go]
  have hk1 : Has ((d, recV u) :: argsK 0 args.toList) (a0.put (some d) (recV u)).tmps := (has_args args (fn.ntmps - args.size)).put (by have : a0.tmps.size = n := hs0; show d < a0.tmps.size; omega)
  have hS := h (a0.put (some d) (recV u)) (by simp [Act.put, hs0]) hk1 rfl
  simp only [QK] at hS
  obtain ⟨e, a', w', hq, harr⟩ := wp_opsIn _ _ w hS b [.code c] ({ c₀ with mode := recM u } :: cs) rfl trivial (room_FW _ _)
  rw [henter]
  have fin : ∀ (e : Exit) (a' : Act) (w' : World), bodyPost P fn (fun e w => R e (recM u) w) e a' w' → ArrivesIn (Machine.fenced P (FW none)) P (lone (b.atR a0 [.code (.seq (.region id ops false) c)]) (c₀ :: cs) w) b [] ({ c₀ with mode := recM u } :: cs) e a' w' →
      ∃ e u' w' fr, R e u' w' ∧ ComesIn (Machine.fenced P (FW none)) P (lone (b.atR a0 [.code (.seq (.region id ops false) c)]) (c₀ :: cs) w) (lone fr ({ c₀ with mode := u' } :: cs) w') e ∧ fr.kind = .deferred ∧ fr.fn = f ∧ fr.going P w' e := by
    intro e a' w' hq harr
    cases e with
    | normal =>
      obtain ⟨hd, v, hr', hR⟩ := hq
      exact ⟨.returned v, recM u, w', _, hR, StepsIn.trans harr (.one (fenced_wide P _) (stepR_end rfl)), rfl, rfl, rfl, hd, fn, hf, hr'⟩
    | ret =>
      obtain ⟨hd, v, hr', hR⟩ := hq
      obtain ⟨todo, hs⟩ := harr.1 rfl
      exact ⟨.returned v, recM u, w', _, hR, hs, rfl, rfl, rfl, hd, fn, hf, hr'⟩
    | panic chain =>
      obtain ⟨hd, hR⟩ := hq
      obtain ⟨todo, hs⟩ := harr
      exact ⟨.panicked chain, recM u, w', _, hR, hs, rfl, rfl, rfl, hd, fn, hf⟩
    | exit id => exact hq.elim
    | goto l => exact hq.elim
    | outgrown => exact ⟨.outgrown, recM u, w', b, hq, harr.resolve_left (by simp [b]), rfl, rfl, trivial⟩
  cases e with
  | normal =>
    obtain ⟨e₂, a₂, w₂, hq₂, harr₂⟩ := hq b [] ({ c₀ with mode := recM u } :: cs) rfl trivial (room_FW _ _)
    exact fin e₂ a₂ w₂ hq₂ (.of_steps (StepsIn.trans s1 harr) harr₂)
  | exit id => exact hq.elim
  | goto t => exact hq.elim
  | ret => exact fin .ret a' w' hq (.of_steps s1 (.pass (x := .code c) rfl (fun _ _ => .inl (by simp)) harr))
  | panic ch => exact fin (.panic ch) a' w' hq (.of_steps s1 (.pass (x := .code c) rfl (fun _ _ => .inl (by simp)) harr))
  | outgrown => exact fin .outgrown a' w' hq (.of_steps (b := b) (k := []) (cs := { c₀ with mode := recM u } :: cs) (a := a') (w := w') (e := .outgrown) s1 harr)
end
end Go.Proofs.Ytmgakpnejbembaa.L
