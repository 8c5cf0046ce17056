/-
  CondChoice: a run in which choices are made from outside, beside the one in which none are made.
-/
import Derived.Test.YtmgakpnejbembaaA8
namespace Go.Proofs.Ytmgakpnejbembaa
open Go Go.Proofs.Ytmgakpnejbembaa.L

/-! ### Events only grow -/
def GrowE (ev : EvF) : Prop := ∀ x s σ, σ.evs <+: (ev x s σ).2.evs
theorem grow_bnd {α β : Type} {σ : RSt} {r : Res α} {f : α → RSt → Res β} (h : σ.evs <+: r.2.evs) (k : ∀ v σ', σ'.evs <+: (f v σ').2.evs) : σ.evs <+: (bnd r f).2.evs := by
  obtain ⟨o, σ'⟩ := r
  cases o with
  | val v => exact List.IsPrefix.trans h (k v σ')
  | leave d v => exact h
  | stop e => exact h
theorem grow_tell (s : Sc) (deed n val : Int) (σ : RSt) : σ.evs <+: (tellS s deed n val σ).evs := ⟨_, rfl⟩
theorem grow_raiseL {ev : EvF} (h : GrowE ev) (rs : List Int) (n val : Int) : ∀ (l : List (Int × X)) (σ : RSt), σ.evs <+: (raiseL ev rs n val l σ).2.evs
  | [], σ => List.prefix_refl _
  | a :: r, σ => by
    simp only [raiseL]
    split
    · exact grow_bnd ((grow_tell _ _ _ _ _).trans (h _ _ _)) fun _ σ' => grow_raiseL h rs n val r σ'
    · exact grow_raiseL h rs n val r σ
theorem grow_raise {ev : EvF} (h : GrowE ev) (s : Sc) (n val : Int) (σ : RSt) : σ.evs <+: (raiseS ev s n val σ).2.evs := (grow_tell _ _ _ _ _).trans (grow_raiseL h _ _ _ _ _)
def offF (d0 : Nat) : Res Int → Res (Int × Int × Bool)
  | (.val v, σ) => (.val (v, 0, false), σ)
  | (.leave d v, σ) => if d = d0 then (.val (0, v, true), σ) else (.leave d v, σ)
  | (.stop e, σ) => (.stop e, σ)
theorem offered_eq (ev : EvF) (x : X) (s : Sc) (σ : RSt) : offeredS ev x s σ = offF s.rs.length (ev (kid x 0) ⟨s.hand, s.hs, x.d.2 :: s.rs⟩ σ) := by
  unfold offeredS offF
  rcases ev (kid x 0) ⟨s.hand, s.hs, x.d.2 :: s.rs⟩ σ with ⟨o, σ'⟩
  cases o <;> rfl
theorem offF_evs (d : Nat) (r : Res Int) : (offF d r).2 = r.2 := by
  obtain ⟨o, σ⟩ := r
  cases o <;> simp only [offF]
  split <;> rfl
theorem grow_offered {ev : EvF} (h : GrowE ev) (x : X) (s : Sc) (σ : RSt) : σ.evs <+: (offeredS ev x s σ).2.evs := by
  rw [offered_eq, offF_evs]; exact h _ _ _
theorem grow_again {ev : EvF} (h : GrowE ev) (x : X) (s : Sc) : ∀ (k : Nat) (t : Int × Int × Bool) (σ : RSt), σ.evs <+: (againL ev x s k t σ).2.evs
  | 0, t, σ => List.prefix_refl _
  | k + 1, t, σ => by
    simp only [againL]
    split
    · exact grow_bnd (grow_offered h _ _ _) fun _ _ => grow_again h x s k _ _
    · exact List.prefix_refl _
def guaF (ev : EvF) (x : X) (s : Sc) : Res Int → Res Int
  | (.val v, σ) => bnd (ev (kid x 1) s σ) fun _ σ => (.val v, σ)
  | (.leave d v, σ) => bnd (ev (kid x 1) s (tellS s 5 0 0 σ)) fun _ σ => (.leave d v, σ)
  | (.stop e, σ) => (.stop e, σ)
theorem guard_eq (ev : EvF) (x : X) (s : Sc) (σ : RSt) : guardS ev x s σ = guaF ev x s (ev (kid x 0) s σ) := by
  unfold guardS guaF
  rcases ev (kid x 0) s σ with ⟨o, σ'⟩
  cases o <;> rfl
theorem grow_guaF {ev : EvF} (h : GrowE ev) (x : X) (s : Sc) (r : Res Int) : r.2.evs <+: (guaF ev x s r).2.evs := by
  obtain ⟨o, σ⟩ := r
  cases o with
  | val v => exact grow_bnd (h _ _ _) fun _ _ => List.prefix_refl _
  | leave d v => exact grow_bnd ((grow_tell _ _ _ _ _).trans (h _ _ _)) fun _ _ => List.prefix_refl _
  | stop e => exact List.prefix_refl _
def failF (s : Sc) (v : Int) (σ : RSt) : Res Int :=
    match σ.picks with
    | [] => (.stop 2, σ)
    | q :: qs =>
      if s.rs.length = 0 then (.stop 2, σ)
      else choiceS s (s.rs.length - 1 - (q % s.rs.length).toNat) (s.rs.getD (q % s.rs.length).toNat 0) v { σ with picks := qs }
theorem grow_failF (s : Sc) (v : Int) (σ : RSt) : σ.evs <+: (failF s v σ).2.evs := by
  unfold failF
  split
  · exact List.prefix_refl _
  · split
    · exact List.prefix_refl _
    · exact ⟨_, rfl⟩
theorem fails_eq (ev : EvF) (x : X) (s : Sc) (σ : RSt) : failsS ev x s σ = bnd (ev (kid x 0) s σ) fun v σ => bnd (raiseS ev s x.d.2 v σ) fun _ σ => failF s v σ := rfl
def chooseF (n : Int) (s : Sc) (v : Int) (σ : RSt) : Res Int := match findR n s.rs with
    | some d => choiceS s d n v σ
    | none => (.stop 3, σ)
theorem grow_chooseF (n : Int) (s : Sc) (v : Int) (σ : RSt) : σ.evs <+: (chooseF n s v σ).2.evs := by
  unfold chooseF
  split
  · exact ⟨_, rfl⟩
  · exact List.prefix_refl _
theorem grow_ite {α : Type} {c : Prop} [Decidable c] {σ : RSt} {r r' : Res α} (h : σ.evs <+: r.2.evs) (h' : σ.evs <+: r'.2.evs) : σ.evs <+: (if c then r else r').2.evs := by split <;> assumption
theorem grow_op (p : List X) {ev : EvF} (h : GrowE ev) (x : X) (s : Sc) (σ : RSt) : σ.evs <+: (opS p ev x s σ).2.evs := by
  unfold opS
  refine grow_ite (List.prefix_refl _) (grow_ite (List.prefix_refl _) (grow_ite ?_ (grow_ite ?_ (grow_ite ?_ (grow_ite ?_ (grow_ite ?_ (grow_ite (h _ _ _) (grow_ite ?_ (grow_ite ?_ (grow_ite ?_ (grow_ite ?_ (grow_ite ?_ (grow_ite (List.prefix_refl _) ?_)))))))))))))
  · exact grow_bnd (h _ _ _) fun _ _ => grow_bnd (h _ _ _) fun _ _ => List.prefix_refl _
  · exact grow_bnd (h _ _ _) fun _ _ => grow_tell _ _ _ _ _
  · exact grow_bnd (h _ _ _) fun _ _ => h _ _ _
  · refine grow_bnd (h _ _ _) fun v σ' => ?_
    split <;> exact h _ _ _
  · exact grow_bnd (h _ _ _) fun _ _ => h _ _ _
  · exact grow_bnd (h _ _ _) fun _ _ => grow_bnd (grow_raise h _ _ _ _) fun _ _ => List.prefix_refl _
  · rw [fails_eq]; exact grow_bnd (h _ _ _) fun _ _ => grow_bnd (grow_raise h _ _ _ _) fun _ _ => grow_failF _ _ _
  · refine grow_bnd (grow_offered h _ _ _) fun t σ' => ?_
    split
    · exact h _ _ _
    · exact List.prefix_refl _
  · exact grow_bnd (grow_offered h _ _ _) fun _ _ => grow_again h _ _ _ _ _
  · exact grow_bnd (h _ _ _) fun v σ' => grow_chooseF x.d.2 s v σ'
  · rw [guard_eq]; exact (h _ _ _).trans (grow_guaF h _ _ _)
theorem grow_eval (p : List X) : ∀ k, GrowE (evalS p k)
  | 0, x, s, σ => List.prefix_refl _
  | k + 1, x, s, σ => by
    simp only [evalS]
    split
    · exact List.prefix_refl _
    · exact grow_op p (grow_eval p k) x s { σ with fuel := σ.fuel - 1 }

/-! ### What may be called, and which errors may be signalled -/
inductive NodeOk (R S : Int → Prop) : X → Prop
  | mk (d : Int × Int) (a : Option Addr) (len cap : Nat) (kids : List X) (h7 : d.1 = 7 → R d.2) (h10 : d.1 = 10 → S d.2) (hk : ∀ y, y ∈ kids → NodeOk R S y) : NodeOk R S (.mk d a len cap kids)
theorem NodeOk.default {R S : Int → Prop} : NodeOk R S default := .mk (0, 0) none 0 0 [] (by simp) (by simp) (by simp)
theorem NodeOk.kid {R S : Int → Prop} {x : X} (h : NodeOk R S x) (i : Nat) : NodeOk R S (kid x i) := by
  cases h with
  | mk d a len cap kids h7 h10 hk =>
    simp only [Go.Proofs.Ytmgakpnejbembaa.kid, Tr.kids, List.getD_eq_getElem?_getD]
    cases hi : kids[i]? with
    | none => exact NodeOk.default
    | some y => exact hk y (List.mem_of_getElem? hi)
theorem NodeOk.call {R S : Int → Prop} {x : X} (h : NodeOk R S x) (e : x.d.1 = 7) : R x.d.2 := by cases h with | mk d a len cap kids h7 h10 hk => exact h7 e
theorem NodeOk.err {R S : Int → Prop} {x : X} (h : NodeOk R S x) (e : x.d.1 = 10) : S x.d.2 := by cases h with | mk d a len cap kids h7 h10 hk => exact h10 e

/-! ### Side by side -/
structure Lost (S : Int → Prop) (ks : List Int) {α : Type} (ra rb : Res α) : Prop where
  stop : ra.1 = .stop 2
  err : ∃ y, y ∈ ra.2.evs ∧ y.deed = 2 ∧ S y.n
  on : (rb.1 = .stop 2 ∧ rb.2.evs = ra.2.evs ∧ rb.2.fuel = ra.2.fuel) ∨ ∃ q qs e more y, ks = q :: qs ∧ rb.2.evs = ra.2.evs ++ e :: more ∧ e.deed = 4 ∧ 0 < e.r.length ∧ e.r.getD (q % e.r.length).toNat 0 = e.n ∧
    y ∈ ra.2.evs ∧ y.deed = 2 ∧ S y.n ∧ y.val = e.val ∧ y.h = e.h ∧ y.r = e.r
def Lock (S : Int → Prop) (ks : List Int) {α : Type} (ra rb : Res α) : Prop := (ra.2.picks = [] ∧ ra.1 ≠ .stop 2 ∧ rb = (ra.1, { ra.2 with picks := ks })) ∨ Lost S ks ra rb
theorem lock_map {S : Int → Prop} {ks : List Int} {α β : Type} {ra rb : Res α} (F : Res α → Res β) (hs : ∀ e σ, F (.stop e, σ) = (.stop e, σ)) (hg : ∀ r, r.2.evs <+: (F r).2.evs)
    (hk : ∀ o σ, ra = (o, σ) → σ.picks = [] → o ≠ .stop 2 → Lock S ks (F (o, σ)) (F (o, { σ with picks := ks }))) (h : Lock S ks ra rb) : Lock S ks (F ra) (F rb) := by
  rcases h with ⟨h1, h2, rfl⟩ | h
  · exact hk ra.1 ra.2 rfl h1 h2
  · right
    obtain ⟨oa, σa⟩ := ra
    obtain ⟨ob, σb⟩ := rb
    have h1 : oa = .stop 2 := h.stop
    subst h1
    rw [hs]
    refine ⟨rfl, h.err, ?_⟩
    rcases h.on with ⟨g1, g2, g3⟩ | ⟨q, qs, e, more, y, g1, g2, g3⟩
    · have g1 : ob = .stop 2 := g1
      subst g1
      rw [hs]
      exact .inl ⟨rfl, g2, g3⟩
    · obtain ⟨t, ht⟩ := hg (ob, σb)
      refine .inr ⟨q, qs, e, more ++ t, y, g1, ?_, g3⟩
      rw [← ht]
      simp only at g2 ⊢
      rw [g2]; simp
theorem lock_bnd {S : Int → Prop} {ks : List Int} {α β : Type} {ra rb : Res α} {f : α → RSt → Res β} (h : Lock S ks ra rb) (hk : ∀ v σ, ra = (.val v, σ) → σ.picks = [] → Lock S ks (f v σ) (f v { σ with picks := ks }))
    (hg : ∀ v σ, σ.evs <+: (f v σ).2.evs) : Lock S ks (bnd ra f) (bnd rb f) := by
  refine lock_map (fun r => bnd r f) (fun _ _ => rfl) (fun r => grow_bnd (List.prefix_refl _) hg) (fun o σ e hp hn => ?_) h
  cases o with
  | val v => exact hk v σ e hp
  | leave d v => exact .inl ⟨hp, by simp [bnd], rfl⟩
  | stop c => exact .inl ⟨hp, by simpa [bnd] using hn, rfl⟩
section
variable {R S : Int → Prop} {ks : List Int}
def HsOk (R S : Int → Prop) (s : Sc) : Prop := ∀ h, h ∈ s.hs → NodeOk R S h.2
def LockE (R S : Int → Prop) (ks : List Int) (ev : EvF) : Prop := ∀ x s σ, NodeOk R S x → HsOk R S s → σ.picks = [] → Lock S ks (ev x s σ) (ev x s { σ with picks := ks })
theorem lock_same {α : Type} {o : Out α} {σ : RSt} (h : σ.picks = []) (hn : o ≠ .stop 2 := by simp) : Lock S ks ((o, σ) : Res α) (o, { σ with picks := ks }) := .inl ⟨h, hn, rfl⟩
theorem lock_raiseL {ev : EvF} (hg : GrowE ev) (h : LockE R S ks ev) (rs : List Int) (n val : Int) : ∀ (l : List (Int × X)) (σ : RSt), (∀ a, a ∈ l → NodeOk R S a.2) → σ.picks = [] → Lock S ks (raiseL ev rs n val l σ) (raiseL ev rs n val l { σ with picks := ks })
  | [], σ, _, hp => lock_same hp
  | a :: r, σ, hl, hp => by
    simp only [raiseL]
    have hr : ∀ b, b ∈ r → NodeOk R S b.2 := fun b hb => hl b (List.mem_cons_of_mem _ hb)
    split
    · exact lock_bnd (h a.2 ⟨val, r, rs⟩ (tellS ⟨val, r, rs⟩ 3 a.1 val σ) (hl a (List.mem_cons_self ..)) hr hp) (fun _ σ' _ hp' => lock_raiseL hg h rs n val r σ' hr hp') fun _ _ => grow_raiseL hg _ _ _ _ _
    · exact lock_raiseL hg h rs n val r σ hr hp
theorem lock_raise {ev : EvF} (hg : GrowE ev) (h : LockE R S ks ev) (s : Sc) (n val : Int) (σ : RSt) (hs : HsOk R S s) (hp : σ.picks = []) : Lock S ks (raiseS ev s n val σ) (raiseS ev s n val { σ with picks := ks }) :=
  lock_raiseL hg h s.rs n val s.hs (tellS s 2 n val σ) hs hp
theorem lock_offered {ev : EvF} (h : LockE R S ks ev) (x : X) (s : Sc) (σ : RSt) (hx : NodeOk R S x) (hs : HsOk R S s) (hp : σ.picks = []) : Lock S ks (offeredS ev x s σ) (offeredS ev x s { σ with picks := ks }) := by
  rw [offered_eq, offered_eq]
  refine lock_map (offF s.rs.length) (fun _ _ => rfl) (fun r => by rw [offF_evs]; exact List.prefix_refl _) (fun o σ' _ hp' hn => ?_) (h (kid x 0) ⟨s.hand, s.hs, x.d.2 :: s.rs⟩ σ (hx.kid 0) hs hp)
  refine .inl ⟨by rw [offF_evs]; exact hp', ?_, ?_⟩
  · cases o with
    | val v => simp [offF]
    | leave d v => simp only [offF]; split <;> simp
    | stop e => simpa [offF] using hn
  cases o with
  | val v => rfl
  | leave d v => simp only [offF]; split <;> rfl
  | stop e => rfl
theorem lock_again {ev : EvF} (hg : GrowE ev) (h : LockE R S ks ev) (x : X) (s : Sc) (hx : NodeOk R S x) (hs : HsOk R S s) : ∀ (k : Nat) (t : Int × Int × Bool) (σ : RSt), σ.picks = [] → Lock S ks (againL ev x s k t σ) (againL ev x s k t { σ with picks := ks })
  | 0, t, σ, hp => lock_same hp
  | k + 1, t, σ, hp => by
    simp only [againL]
    split
    · exact lock_bnd (lock_offered h x ⟨t.2.1, s.hs, s.rs⟩ σ hx hs hp) (fun v σ' _ hp' => lock_again hg h x s hx hs k v σ' hp') fun _ _ => grow_again hg _ _ _ _ _
    · exact lock_same hp
theorem lock_guard {ev : EvF} (hg : GrowE ev) (h : LockE R S ks ev) (x : X) (s : Sc) (σ : RSt) (hx : NodeOk R S x) (hs : HsOk R S s) (hp : σ.picks = []) : Lock S ks (guardS ev x s σ) (guardS ev x s { σ with picks := ks }) := by
  rw [guard_eq, guard_eq]
  refine lock_map (guaF ev x s) (fun _ _ => rfl) (fun r => grow_guaF hg x s r) (fun o σ' _ hp' hn => ?_) (h (kid x 0) s σ (hx.kid 0) hs hp)
  cases o with
  | val v => exact lock_bnd (h (kid x 1) s σ' (hx.kid 1) hs hp') (fun _ _ _ hp2 => lock_same hp2) fun _ _ => List.prefix_refl _
  | leave d v => exact lock_bnd (h (kid x 1) s (tellS s 5 0 0 σ') (hx.kid 1) hs hp') (fun _ _ _ hp2 => lock_same hp2) fun _ _ => List.prefix_refl _
  | stop e => exact lock_same hp' hn
theorem lock_fails {ev : EvF} (hg : GrowE ev) (h : LockE R S ks ev) (x : X) (s : Sc) (σ : RSt) (hx : NodeOk R S x) (hs : HsOk R S s) (hp : σ.picks = []) (he : x.d.1 = 10) : Lock S ks (failsS ev x s σ) (failsS ev x s { σ with picks := ks }) := by
  rw [fails_eq, fails_eq]
  refine lock_bnd (h (kid x 0) s σ (hx.kid 0) hs hp) (fun v σ' _ hp' => ?_) fun _ _ => grow_bnd (grow_raise hg _ _ _ _) fun _ _ => grow_failF _ _ _
  refine lock_bnd (lock_raise hg h s x.d.2 v σ' hs hp') (fun _ σ2 hr hp2 => ?_) fun _ _ => grow_failF _ _ _
  have hy : ∃ y : Ev, y ∈ σ2.evs ∧ y.deed = 2 ∧ S y.n ∧ y.val = v ∧ y.h = s.hs.map (·.1) ∧ y.r = s.rs := by
    have := (grow_raiseL hg s.rs x.d.2 v s.hs (tellS s 2 x.d.2 v σ')).subset (show (⟨2, x.d.2, v, s.hs.map (·.1), s.rs⟩ : Ev) ∈ (tellS s 2 x.d.2 v σ').evs by simp [tellS])
    have e : raiseL ev s.rs x.d.2 v s.hs (tellS s 2 x.d.2 v σ') = (.val (), σ2) := hr
    rw [e] at this
    exact ⟨_, this, rfl, hx.err he, rfl, rfl, rfl⟩
  have ha : failF s v σ2 = (.stop 2, σ2) := by simp [failF, hp2]
  rw [ha]
  refine .inr ⟨rfl, ⟨_, hy.choose_spec.1, hy.choose_spec.2.1, hy.choose_spec.2.2.1⟩, ?_⟩
  cases hk : ks with
  | nil => exact .inl ⟨rfl, rfl, rfl⟩
  | cons q qs =>
    by_cases h0 : s.rs.length = 0
    · left
      simp [failF, h0]
    · right
      obtain ⟨y, g1, g2, g3, g4, g5, g6⟩ := hy
      refine ⟨q, qs, ⟨4, s.rs.getD (q % s.rs.length).toNat 0, v, s.hs.map (·.1), s.rs⟩, [], y, rfl, ?_, rfl, Nat.pos_of_ne_zero h0, rfl, g1, g2, g3, g4, g5, g6⟩
      simp only [failF, if_neg h0, choiceS, tellS]
theorem lock_ite {α : Type} {c : Prop} [Decidable c] {ra ra' rb rb' : Res α} (h : c → Lock S ks ra rb) (h' : ¬ c → Lock S ks ra' rb') : Lock S ks (if c then ra else ra') (if c then rb else rb') := by
  split
  · exact h ‹_›
  · exact h' ‹_›
theorem lock_op {p : List X} (hp : ∀ i, R i → NodeOk R S (p.getD i.toNat default)) {ev : EvF} (hg : GrowE ev) (h : LockE R S ks ev) (x : X) (s : Sc) (σ : RSt) (hx : NodeOk R S x) (hs : HsOk R S s) (h0 : σ.picks = []) :
    Lock S ks (opS p ev x s σ) (opS p ev x s { σ with picks := ks }) := by
  unfold opS
  refine lock_ite (fun _ => lock_same h0) fun _ => lock_ite (fun _ => lock_same h0) fun _ => lock_ite (fun _ => ?_) fun _ => lock_ite (fun _ => ?_) fun _ => lock_ite (fun _ => ?_) fun _ => lock_ite (fun _ => ?_) fun _ =>
    lock_ite (fun h7 => ?_) fun _ => lock_ite (fun _ => ?_) fun _ => lock_ite (fun _ => ?_) fun _ => lock_ite (fun h10 => lock_fails hg h x s σ hx hs h0 h10) fun _ => lock_ite (fun _ => ?_) fun _ => lock_ite (fun _ => ?_) fun _ =>
    lock_ite (fun _ => ?_) fun _ => lock_ite (fun _ => lock_same h0) fun _ => lock_guard hg h x s σ hx hs h0
  · exact lock_bnd (h _ _ _ (hx.kid 0) hs h0) (fun v σ' _ h1 => lock_bnd (h _ _ _ (hx.kid 1) hs h1) (fun _ _ _ h2 => lock_same h2) fun _ _ => List.prefix_refl _) fun _ _ => grow_bnd (hg _ _ _) fun _ _ => List.prefix_refl _
  · exact lock_bnd (h _ _ _ (hx.kid 0) hs h0) (fun v σ' _ h1 => .inl ⟨h1, by simp, rfl⟩) fun _ _ => grow_tell _ _ _ _ _
  · exact lock_bnd (h _ _ _ (hx.kid 0) hs h0) (fun v σ' _ h1 => h _ _ _ (hx.kid 1) hs h1) fun _ _ => hg _ _ _
  · refine lock_bnd (h _ _ _ (hx.kid 0) hs h0) (fun v σ' _ h1 => lock_ite (fun _ => h _ _ _ (hx.kid 2) hs h1) fun _ => h _ _ _ (hx.kid 1) hs h1) fun _ _ => ?_
    split <;> exact hg _ _ _
  · exact lock_bnd (h _ _ _ (hx.kid 0) hs h0) (fun v σ' _ h1 => h _ _ _ (hp _ (hx.call h7)) hs h1) fun _ _ => hg _ _ _
  · refine h _ _ _ (hx.kid 0) (fun a ha => ?_) h0
    rcases List.mem_cons.1 ha with rfl | ha
    · exact hx.kid 1
    · exact hs a ha
  · exact lock_bnd (h _ _ _ (hx.kid 0) hs h0) (fun v σ' _ h1 => lock_bnd (lock_raise hg h s x.d.2 v σ' hs h1) (fun _ _ _ h2 => lock_same h2) fun _ _ => List.prefix_refl _) fun _ _ => grow_bnd (grow_raise hg _ _ _ _) fun _ _ => List.prefix_refl _
  · refine lock_bnd (lock_offered h x s σ hx hs h0) (fun t σ' _ h1 => lock_ite (fun _ => h _ _ _ (hx.kid 1) hs h1) fun _ => lock_same h1) fun t σ' => ?_
    split
    · exact hg _ _ _
    · exact List.prefix_refl _
  · exact lock_bnd (lock_offered h x s σ hx hs h0) (fun t σ' _ h1 => lock_again hg h x s hx hs _ t σ' h1) fun _ _ => grow_again hg _ _ _ _ _
  · refine lock_bnd (h _ _ _ (hx.kid 0) hs h0) (fun v σ' _ h1 => ?_) fun v σ' => grow_chooseF x.d.2 s v σ'
    cases findR x.d.2 s.rs with
    | some d => exact .inl ⟨h1, by simp [choiceS], rfl⟩
    | none => exact lock_same h1
theorem lock_eval {p : List X} (hp : ∀ i, R i → NodeOk R S (p.getD i.toNat default)) : ∀ k, LockE R S ks (evalS p k)
  | 0, x, s, σ, _, _, h0 => lock_same h0
  | k + 1, x, s, σ, hx, hs, h0 => by
    simp only [evalS]
    refine lock_ite (fun _ => lock_same h0) fun _ => ?_
    exact lock_op hp (grow_eval p k) (lock_eval hp k) x s { σ with fuel := σ.fuel - 1 } hx hs h0
end

/-! ### Runs -/
/-- How a run ends, the value, the events, the fuel that is left. -/
structure RunR where
  fin : Int
  val : Int
  evs : List Ev
  fuel : Nat
def runOf (r : Res Int) : RunR := match r with
  | (.val v, σ) => ⟨1, v, σ.evs, σ.fuel⟩
  | (.leave _ _, σ) => ⟨0, 0, σ.evs, σ.fuel⟩
  | (.stop e, σ) => ⟨e, 0, σ.evs, σ.fuel⟩
def driveS (p : List X) (hand : Int) (picks : List Int) (fuel : Nat) : RunR := runOf (evalS p fuel (p.getD 0 default) ⟨hand, [], []⟩ ⟨fuel, [], picks⟩)
/-- What the law asks of two runs. -/
theorem drive_law {R S : Int → Prop} {p : List X} (hp : ∀ i, R i → NodeOk R S (p.getD i.toNat default)) (h0 : R 0) (hand : Int) (ks : List Int) (fuel : Nat) :
    ((driveS p hand [] fuel).fin ≠ 2 ∧ driveS p hand ks fuel = driveS p hand [] fuel) ∨
    ((driveS p hand [] fuel).fin = 2 ∧ (∃ y, y ∈ (driveS p hand [] fuel).evs ∧ y.deed = 2 ∧ S y.n) ∧
      (driveS p hand ks fuel = driveS p hand [] fuel ∨ ∃ q qs e more y, ks = q :: qs ∧ (driveS p hand ks fuel).evs = (driveS p hand [] fuel).evs ++ e :: more ∧ e.deed = 4 ∧ 0 < e.r.length ∧ e.r.getD (q % e.r.length).toNat 0 = e.n ∧
        y ∈ (driveS p hand [] fuel).evs ∧ y.deed = 2 ∧ S y.n ∧ y.val = e.val ∧ y.h = e.h ∧ y.r = e.r)) := by
  have h := lock_eval (S := S) (ks := ks) hp fuel (p.getD 0 default) ⟨hand, [], []⟩ ⟨fuel, [], []⟩ (by simpa using hp 0 h0) (fun a ha => by simp at ha) rfl
  unfold driveS
  simp only at h
  rcases ha : evalS p fuel (p.getD 0 default) ⟨hand, [], []⟩ ⟨fuel, [], []⟩ with ⟨oa, σa⟩
  rcases hb : evalS p fuel (p.getD 0 default) ⟨hand, [], []⟩ ⟨fuel, [], ks⟩ with ⟨ob, σb⟩
  rw [ha, hb] at h
  rcases h with ⟨h1, h2, h3⟩ | h
  · simp only [Prod.mk.injEq] at h3
    obtain ⟨rfl, rfl⟩ := h3
    refine .inl ⟨?_, ?_⟩
    · cases ob with
      | val v => simp [runOf]
      | leave d v => simp [runOf]
      | stop c => simpa [runOf] using h2
    · cases ob <;> rfl
  · have hs : oa = .stop 2 := h.stop
    subst hs
    refine .inr ⟨rfl, h.err, ?_⟩
    rcases h.on with ⟨g1, g2, g3⟩ | ⟨q, qs, e, more, y, g1, g2, g3⟩
    · have g1 : ob = .stop 2 := g1
      subst g1
      simp only at g2 g3
      exact .inl (by simp only [runOf, g2, g3])
    · refine .inr ⟨q, qs, e, more, y, g1, ?_, g3⟩
      cases ob <;> exact g2
end Go.Proofs.Ytmgakpnejbembaa
