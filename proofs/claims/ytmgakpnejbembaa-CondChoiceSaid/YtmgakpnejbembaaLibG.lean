/-
  What a call keeps: blocks of cells of some types.
-/
import Derived.Test.YtmgakpnejbembaaLibF
namespace Go.Proofs.Ytmgakpnejbembaa.L
open Go Go.RowKit

structure Kp (n : Nat) (T : List TypeId) (w w' : World) : Prop where
  keeps : Keeps T w w'
  size : w.heap.size ≤ w'.heap.size
  low : Low n w w'
theorem Kp.refl {n : Nat} {T : List TypeId} (w : World) : Kp n T w w := ⟨Keeps.refl w, Nat.le_refl _, Low.refl w⟩
theorem Kp.trans {n : Nat} {T : List TypeId} {a b c : World} (h : Kp n T a b) (k : Kp n T b c) : Kp n T a c := ⟨h.keeps.trans k.keeps, Nat.le_trans h.size k.size, h.low.trans k.low⟩
theorem Kp.of0 {n : Nat} {T : List TypeId} {w w' : World} (h : Ext E0 w w') : Kp n T w w' := ⟨.of0 h, h.size, .of0 h⟩
theorem Kp.ofS {n : Nat} {T : List TypeId} {w w' : World} {b' : Nat} {cs : List Value} {e' : TypeId} (h : Ext (· = b') w w') (hB : Blk w b' cs e') (he' : T.contains e' = false) (hn : n ≤ b') : Kp n T w w' := ⟨.ofS h hB he', h.size, .ofS h hn⟩
theorem Kp.ofO {n : Nat} {T : List TypeId} {w w' : World} {r : Nat} {o : Obj} (h : Ext (· = r) w w') (hO : ObjAt w r o) (ho : Obj.isC o = false) (hn : n ≤ r) : Kp n T w w' := ⟨.ofO h hO ho, h.size, .ofS h hn⟩
theorem Kp.ofX {n : Nat} {T T' : List TypeId} {n₀ : Nat} {w w' : World} (h : Xt n₀ T' w w') (hd : (T.all fun e => !T'.contains e) = true) (hn : n ≤ n₀) : Kp n T w w' := ⟨.ofX h hd, h.size, .ofX h hn⟩
theorem Kp.sub {n : Nat} {T T' : List TypeId} {w w' : World} (h : Kp n T w w') (k : (T'.all fun e => T.contains e) = true) : Kp n T' w w' := ⟨h.keeps.sub k, h.size, h.low⟩
/-- A new block turned. -/
theorem Kp.thenN {n : Nat} {T : List TypeId} {a b c : World} {i : Nat} (h : Kp n T a b) (k : Ext (· = i) b c) (hi : a.heap.size ≤ i) (hn : n ≤ i) : Kp n T a c :=
  ⟨fun j cs e fr he ho => (k.block j (Array.getElem?_eq_some_iff.1 (h.keeps j cs e fr he ho)).1 (by
    intro hj
    have hj : j = i := hj
    have := (Array.getElem?_eq_some_iff.1 ho).1
    omega)).trans (h.keeps j cs e fr he ho), Nat.le_trans h.size k.size, h.low.trans (.ofS k hn)⟩
theorem Blk.kp {n : Nat} {T : List TypeId} {w w' : World} {b : Nat} {cs : List Value} {e : TypeId} (h : Blk w b cs e) (k : Kp n T w w') (he : T.contains e = true) : Blk w' b cs e := h.keeps k.keeps he
theorem Kp.pres {n : Nat} {T : List TypeId} {w w' : World} (k : Kp n T w w') {n' : Nat} {e : TypeId} (he : (!Nat.beq e 0 && T.contains e) = true) : Pres n' e w w' := k.keeps.pres he
theorem Kp.presL {n : Nat} {T : List TypeId} {w w' : World} (k : Kp n T w w') {n' : Nat} {e : TypeId} (hn : n' ≤ n) : Pres n' e w w' := k.low.pres.mono hn
theorem Blk.at1 {w : World} {b off : Nat} {cs : List Value} {e : TypeId} {v : Value} (h : Blk w b cs e) (hv : cs[off]? = some v) : At (b + 1) e w b off [v] :=
  ⟨Nat.lt_succ_self b, cs.toArray, e, (0, 0), tyB_self e, h, fun j u hj => by
    cases j with
    | zero =>
      simp only [List.getElem?_cons_zero, Option.some.injEq] at hj
      subst hj
      simpa using hv
    | succ j => simp at hj⟩
theorem run_idxA {P : Program} {t e sz b : Nat} {len : Nat} {kd : IntKind} (i : Int) {w : World} (ht : P.underlying t = some (.array len e)) (hz : (P.info? e).map (·.size) = some sz) (h0 : 0 ≤ i) (h1 : i < len) :
    (Instr.indexAt t (.pointer (some ⟨b, 0, none⟩)) (.int kd i)).run P w = .ok (.pointer (some ⟨b, i.toNat * sz, none⟩)) w := by
  have he : P.elem t = e := by simp [Program.elem, ht]
  have hl : P.arrayLen t = len := by simp [Program.arrayLen, ht]
  rw [run_indexAt_array (P := P) w t _ _ _ (by rw [hl, he]; exact ht), if_pos ⟨h0, by rw [hl]; exact h1⟩, he]
  obtain ⟨j, hj, hs⟩ := Option.map_eq_some_iff.1 hz
  have : (sizeOf e).run P w = .ok sz w := by
    simp [sizeOf, Go.typeInfo, program, Bind.bind, Sem.bind, Sem.run, Pure.pure, hj, hs]
  rw [this]
  simp [addr_add]

section
variable {P : Program} {R : Ending → World → Prop} {n : Nat} {κ : List (Nat × Value)} {w : World}
/-- A round whose parameters are laid into new memory. -/
theorem S.roundW {l : Nat} {rec : Loop} {args : Array Value} {ps : Array Tmp} {assign body : Code} (J1 : List (Nat × Value) → World → Prop) (hl : LoopAt w l rec) (hst : rec.state = .ready) (hf : (∃ fn, P.funcs[rec.fn]? = some fn) ∨ ∀ ch w, ¬ R (.panicked ch) w) (hn : rec.tmps.size = n)
    (hk : Has κ rec.tmps) (hpar : rec.params = ps) (hass : rec.assign = assign) (hbod : rec.body = body) (hp : args.size = ps.size) (hb : ((ps.zip args).toList.all fun x => Nat.blt x.1 n) = true)
    (h : S P (some l) (fun _ _ _ => False) n [] [.code assign, .stop (fun a₁ w₁ => ∃ κ₁, J1 κ₁ w₁ ∧ a₁.tmps.size = n ∧ Has κ₁ a₁.tmps ∧ a₁.defers = [])] (laidK (ps.zip args).toList κ) w)
    (hL : ∀ κ₁ w1, J1 κ₁ w1 → LoopAt w1 l rec)
    (hbody : ∀ κ₁ w1 w2, J1 κ₁ w1 → Ext (· = l) w1 w2 → w2.heap.size = w1.heap.size → LoopAt w2 l { rec with state := .busy } → S P (some l) (roundQ P l R) n [] [.code body] κ₁ w2) :
    CallsV P (callSem (.func (.yield l) #[] #[]) args) w R := by
  subst hpar hass hbod
  refine yield_calls hl hst hf hn hk hp hb ?_
  intro a hs hh hd
  refine wpIn_mono (h a hs hh hd) ?_
  intro e a₁ w₁ hq
  cases e with
  | normal =>
    obtain ⟨κ₁, hJ, h1, h2, h3⟩ := hq
    have hl1 := hL _ _ hJ
    refine ⟨_, run_beginRound hl1 hst, ?_⟩
    exact hbody κ₁ w₁ _ hJ (Ext.putObj l _) (by simp) (World.putObj_heap_same hl1.lt) a₁ h1 h2 h3
  | _ => exact hq
end
theorem OwnR.take {base : Nat} {e : TypeId} {w : World} {a : Option Addr} {n cap k : Nat} {xs : List Value} (h : OwnR base e 1 w a n cap xs) (hk : k ≤ n) : OwnR base e 1 w a k cap (xs.take k) := by
  have h1 := h.1
  refine ⟨by rw [List.length_take]; omega, ?_⟩
  rcases h.2 with ⟨hv, hn⟩ | ⟨g, c, cur, hv, hb, hg, hnc, hcm, hcs, ht⟩
  · simp only [Value.slice.injEq] at hv
    obtain ⟨rfl, rfl, rfl⟩ := hv
    have : k = 0 := by omega
    subst this
    exact .inl ⟨rfl, rfl⟩
  · simp only [Value.slice.injEq] at hv
    obtain ⟨rfl, -, rfl⟩ := hv
    refine .inr ⟨g, _, cur, rfl, hb, hg, by omega, hcm, hcs, ?_⟩
    rw [Nat.mul_one] at ht ⊢
    rw [← ht, List.take_take, Nat.min_eq_left hk]

/-- Marks that nothing has come to, all from a number on and below another one. -/
structure Marks (lo bnd : Nat) (w : World) (ms : List Nat) : Prop where
  nodup : ms.Nodup
  at_ : ∀ d, d ∈ ms → ObjAt w d (.deferred (some []))
  lt : ∀ d, d ∈ ms → d < bnd
  ge : ∀ d, d ∈ ms → lo ≤ d
theorem Marks.nil (lo bnd : Nat) (w : World) : Marks lo bnd w [] := ⟨List.nodup_nil, fun d h => by simp at h, fun d h => by simp at h, fun d h => by simp at h⟩
theorem Marks.ext0 {lo bnd : Nat} {w w' : World} {ms : List Nat} (h : Marks lo bnd w ms) (E : Ext E0 w w') : Marks lo bnd w' ms := ⟨h.nodup, fun d hd => (h.at_ d hd).ext0 E, h.lt, h.ge⟩
theorem Marks.extS {lo bnd : Nat} {w w' : World} {ms : List Nat} {r : Nat} (h : Marks lo bnd w ms) (E : Ext (· = r) w w') (hr : bnd ≤ r) : Marks lo bnd w' ms := ⟨h.nodup, fun d hd => (h.at_ d hd).extS E (by have := h.lt d hd; omega), h.lt, h.ge⟩
theorem Marks.extB {lo bnd : Nat} {w w' : World} {ms : List Nat} {b : Nat} {cs : List Value} {e : TypeId} (h : Marks lo bnd w ms) (E : Ext (· = b) w w') (hB : Blk w b cs e) (_ : (0 : Nat) = 0) : Marks lo bnd w' ms := ⟨h.nodup, fun d hd => (h.at_ d hd).extB E hB rfl, h.lt, h.ge⟩
theorem Marks.xt {lo bnd n₀ : Nat} {T : List Nat} {w w' : World} {ms : List Nat} (h : Marks lo bnd w ms) (E : Xt n₀ T w w') (_ : (0 : Nat) = 0) : Marks lo bnd w' ms := ⟨h.nodup, fun d hd => (h.at_ d hd).xt E rfl, h.lt, h.ge⟩
theorem Marks.cons {lo bnd bnd' : Nat} {w : World} {ms : List Nat} {d : Nat} (h : Marks lo bnd w ms) (ho : ObjAt w d (.deferred (some []))) (hb : bnd ≤ d) (hd : d < bnd') (hl : lo ≤ d) : Marks lo bnd' w (d :: ms) :=
  ⟨List.nodup_cons.2 ⟨fun hm => by have := h.lt d hm; omega, h.nodup⟩, fun e he => by
    rcases List.mem_cons.1 he with rfl | he
    · exact ho
    · exact h.at_ e he, fun e he => by
    rcases List.mem_cons.1 he with rfl | he
    · exact hd
    · have := h.lt e he; omega, fun e he => by
    rcases List.mem_cons.1 he with rfl | he
    · exact hl
    · exact h.ge e he⟩
theorem Pres.ofM {n lo bnd : Nat} {e : TypeId} {w w' : World} {ms : List Nat} (h : Ext (· ∈ ms) w w') (hm : Marks lo bnd w ms) : Pres n e w w' :=
  fun b cs t fr _ _ hb => (h.block b (Array.getElem?_eq_some_iff.1 hb).1 (fun hx => by
    have : Obj.deferred (some []) = Obj.cells cs t fr := Option.some.inj ((hm.at_ b hx).symm.trans hb)
    cases this)).trans hb
theorem Ext.thenM {lo bnd : Nat} {a b c : World} {ms : List Nat} (h : Ext E0 a b) (k : Ext (· ∈ ms) b c) (hm : Marks lo bnd b ms) (hl : a.heap.size ≤ lo) : Ext E0 a c :=
  h.then k fun j hj hm' => by have := hm.ge j hm'; omega

section
variable {P : Program} {ro : Option Nat} {Qf : Exit → Act → World → Prop} {n : Nat} {ds : List Deferred} {k : List KI} {κ : List (Nat × Value)} {w : World}
open Classical in
/-- A loop whose rounds may leave marks. -/
theorem S.loopD {body : Code} (J : Nat → List (Nat × Value) → List Deferred → World → Prop) {m₀ : Nat} (h0 : J m₀ κ ds w)
    (h : ∀ m κ ds w, J m κ ds w → S P ro Qf n ds (.code body :: .stop (fun a' w' => a'.tmps.size = n ∧ ∃ m' κ', m' < m ∧ Has κ' a'.tmps ∧ J m' κ' a'.defers w') :: k) κ w) :
    S P ro Qf n ds (.code (.loop body) :: k) κ w := by
  intro a hs hh hd
  let T : Act → World → Nat → Prop := fun a w m => ∃ κ, Has κ a.tmps ∧ J m κ a.defers w
  let μ : Act → World → Nat := fun a w => if hx : ∃ m, T a w m then Classical.choose (least hx) else 0
  refine wpIn_loop (fun a w => a.tmps.size = n ∧ ∃ m, T a w m) μ ⟨hs, m₀, κ, hh, by rw [hd]; exact h0⟩ ?_
  rintro a w ⟨hs, hx⟩
  obtain ⟨κ, hh, hJ⟩ : T a w (Classical.choose (least hx)) := (Classical.choose_spec (least hx)).1
  refine wpIn_mono (h _ κ a.defers w hJ a hs hh rfl) ?_
  intro e a' w' hq
  cases e with
  | normal =>
    obtain ⟨h1, m', κ', hm, h2, h3⟩ := hq
    have hx' : ∃ m, T a' w' m := ⟨m', κ', h2, h3⟩
    refine ⟨⟨h1, hx'⟩, ?_⟩
    have e1 : μ a' w' = Classical.choose (least hx') := by simp only [μ]; rw [dif_pos hx']
    have e2 : μ a w = Classical.choose (least hx) := by simp only [μ]; rw [dif_pos hx]
    rw [e1, e2]
    exact Nat.lt_of_le_of_lt ((Classical.choose_spec (least hx')).2 m' ⟨κ', h2, h3⟩) hm
  | _ => exact hq
end
end Go.Proofs.Ytmgakpnejbembaa.L
