/-
  Memory: what one world keeps of another; a block known whole; new blocks, stores.
-/
import Derived.Test.YtmgakpnejbembaaLibB
import Derived.Below
namespace Go.Proofs.Ytmgakpnejbembaa.L
open Go Go.RowKit

/-- All but the blocks of M lie as they lay. -/
structure Ext (M : Nat → Prop) (w w' : World) : Prop where
  os : w'.os = w.os
  tape : w'.tape = w.tape
  output : w'.output = w.output
  size : w.heap.size ≤ w'.heap.size
  block : ∀ b, b < w.heap.size → ¬ M b → w'.heap[b]? = w.heap[b]?

abbrev E0 : Nat → Prop := fun _ => False

theorem Ext.refl {M : Nat → Prop} (w : World) : Ext M w w := ⟨rfl, rfl, rfl, Nat.le_refl _, fun _ _ _ => rfl⟩
theorem Ext.trans {M : Nat → Prop} {a b c : World} (h : Ext M a b) (k : Ext M b c) : Ext M a c :=
  ⟨k.os.trans h.os, k.tape.trans h.tape, k.output.trans h.output, Nat.le_trans h.size k.size, fun i hi hm => (k.block i (Nat.lt_of_lt_of_le hi h.size) hm).trans (h.block i hi hm)⟩
theorem Ext.mono {M M' : Nat → Prop} {w w' : World} (h : Ext M w w') (hM : ∀ b, b < w.heap.size → M b → M' b) : Ext M' w w' :=
  ⟨h.os, h.tape, h.output, h.size, fun b hb hm => h.block b hb fun hb' => hm (hM b hb hb')⟩
theorem Ext.of0 {M : Nat → Prop} {w w' : World} (h : Ext E0 w w') : Ext M w w' := h.mono fun _ _ h => h.elim
theorem Ext.below {w w' : World} (h : Ext E0 w w') : Below w.heap.size w w' := ⟨h.os, h.tape, h.output, h.size, fun k hk => h.block k hk id⟩
theorem Ext.tick {M : Nat → Prop} {w : World} : Ext M w w.tick := ⟨rfl, rfl, rfl, Nat.le_refl _, fun _ _ _ => rfl⟩
/-- Behind a first step that makes blocks, what turns one of these turns nothing old. -/
theorem Ext.then {M M' : Nat → Prop} {a b c : World} (h : Ext M a b) (k : Ext M' b c) (hM : ∀ i, i < a.heap.size → M' i → M i) : Ext M a c :=
  ⟨k.os.trans h.os, k.tape.trans h.tape, k.output.trans h.output, Nat.le_trans h.size k.size,
    fun i hi hm => (k.block i (Nat.lt_of_lt_of_le hi h.size) fun hx => hm (hM i hi hx)).trans (h.block i hi hm)⟩

/-- Behind blocks of one's own: a store into one of these. -/
theorem Ext.thenS {a b c : World} {i : Nat} (h : Ext E0 a b) (k : Ext (· = i) b c) (hi : a.heap.size ≤ i) : Ext E0 a c :=
  h.then k fun j hj hm => by have : j = i := hm; omega

/-- A block known whole, no byte of a string. -/
def Blk (w : World) (b : Nat) (cs : List Value) (e : TypeId) : Prop := w.heap[b]? = some (.cells cs.toArray e (0, 0))

theorem Blk.lt {w : World} {b : Nat} {cs : List Value} {e : TypeId} (h : Blk w b cs e) : b < w.heap.size := (Array.getElem?_eq_some_iff.1 h).1
theorem Blk.ext {M : Nat → Prop} {w w' : World} {b : Nat} {cs : List Value} {e : TypeId} (h : Blk w b cs e) (hx : Ext M w w') (hm : ¬ M b) : Blk w' b cs e :=
  (hx.block b h.lt hm).trans h
theorem Blk.ext0 {w w' : World} {b : Nat} {cs : List Value} {e : TypeId} (h : Blk w b cs e) (hx : Ext E0 w w') : Blk w' b cs e := h.ext hx id
theorem Blk.cell {w : World} {b : Nat} {cs : List Value} {e : TypeId} (h : Blk w b cs e) (i : Nat) {v : Value} (hi : cs[i]? = some v) : w.cell? ⟨b, i, none⟩ = some v := by
  unfold Blk at h
  simp [World.cell?, h, hi]
theorem Blk.cellA {w : World} {b : Nat} {cs : List Value} {e : TypeId} (h : Blk w b cs e) {a : Addr} (hb : a.block = b) (hs : a.spot = none) {v : Value} (hi : cs[a.off]? = some v) : w.cell? a = some v := by
  subst hb
  obtain ⟨b, i, s⟩ := a
  simp only at hs
  subst hs
  exact h.cell i hi
theorem Blk.frozen {w : World} {b : Nat} {cs : List Value} {e : TypeId} (h : Blk w b cs e) (i : Nat) : w.frozen? ⟨b, i, none⟩ = false := by
  unfold Blk at h
  simp [World.frozen?, h]
theorem Blk.shape {w : World} {b : Nat} {cs : List Value} {e : TypeId} (h : Blk w b cs e) : w.shape? b = some (e, cs.length) := by
  unfold Blk at h
  simp [World.shape?, h]
theorem Blk.same {w : World} {b : Nat} {cs cs' : List Value} {e e' : TypeId} (h : Blk w b cs e) (h' : Blk w b cs' e') : cs = cs' ∧ e = e' := by
  unfold Blk at h h'
  rw [h] at h'
  simpa using h'

/-! ### Traces put together -/
theorem Acts.nil {w : World} : Acts [] w w := rfl
theorem Acts.load {a : Addr} {v : Value} {rs : List Rq} {w w' : World} (h : w.cell? a = some v) (t : Acts rs w w') : Acts (.load a v :: rs) w w' := ⟨h, t⟩
theorem Acts.frozen {a : Addr} {x : Bool} {rs : List Rq} {w w' : World} (h : w.frozen? a = x) (t : Acts rs w w') : Acts (.frozen a x :: rs) w w' := ⟨h.symm, t⟩
theorem Acts.shape {r : Nat} {x : Option (TypeId × Nat)} {rs : List Rq} {w w' : World} (h : w.shape? r = x) (t : Acts rs w w') : Acts (.shape r x :: rs) w w' := ⟨h.symm, t⟩
theorem Acts.getObj {r : Nat} {o : Obj} {rs : List Rq} {w w' : World} (h : w.heap[r]? = some o) (hc : Obj.isC o = false) (t : Acts rs w w') : Acts (.getObj r o :: rs) w w' := ⟨⟨h, hc⟩, t⟩

/-! ### A region that draws: the draw -/
section
variable {P : Program} {ro : Option Nat} {Qf : Exit → Act → World → Prop} {n : Nat} {ds : List Deferred} {k : List KI} {κ : List (Nat × Value)} {w : World}
theorem S.drawN {id : Nat} {ops : Array Oper} (m : Nat) (l : Array Bool) (e : Nat) (C₁ C₂ : World → World → Prop) (hm : P.follows .mixedOrders = true) (hs : ops.size = m) (hl : Array.replicate m false = l)
    (h : ∀ w1, Ext E0 w w1 → w1.heap.size = w.heap.size → S P ro Qf n ds (.dreg ops l m (sw e (C₁ w1) (C₂ w1)) :: k) κ w1) : S P ro Qf n ds (.code (.region id ops true) :: k) κ w :=
  S.draw (sw e (C₁ w.tick) (C₂ w.tick)) hm hs (by rw [hl]; exact h w.tick Ext.tick rfl)

theorem bodyPost_panicOk {fn : Func} {R : Ending → World → Prop} : PanicOk (bodyPost P fn R) := fun _ _ _ _ hd h => ⟨hd.trans h.1, h.2⟩
end

/-! ### A new block -/
theorem Ext.push {w : World} (o : Obj) : Ext E0 w (w.push o) :=
  ⟨rfl, rfl, rfl, by show _ ≤ (w.heap.push o).size; simp, fun b hb _ => Below.heap_alloc w o b hb⟩

section
variable {P : Program} {ro : Option Nat} {Qf : Exit → Act → World → Prop} {n : Nat} {ds : List Deferred} {k : List KI} {κ : List (Nat × Value)} {w : World}

/-- One operation that makes a block. -/
theorem S.new {ops : Array Oper} {i : Nat} (d : Nat) (cs : List Value) (e : TypeId) (V : Nat → Value) (hx : okK ops κ i = some (some d)) (hd : Nat.blt d n = true)
    (hs : ∀ b, runI P (semK ops κ i) [.b b] = some ([.new (.cells cs.toArray e) b], [], .value (V b)))
    (h : ∀ b w', Ext E0 w w' → Blk w' b cs e → b = w.heap.size → w'.heap.size = b + 1 → S P ro Qf n ds k ((d, V b) :: κ) w') : S P ro Qf n ds (.one ops i :: k) κ w :=
  S.valN d hx hd (runI_sound _ _ _ _ _ w (w.push (.cells cs.toArray e)) (hs w.heap.size) ⟨rfl, rfl⟩)
    (h _ _ (Ext.push _) (by show (w.heap.push _)[w.heap.size]? = _; exact Array.getElem?_push_size) rfl (by show (w.heap.push _).size = _; simp))

/-! ### Stores -/
def stores (b off : Nat) : List Value → List Rq
  | [] => []
  | v :: r => .store ⟨b, off, none⟩ v :: stores b (off + 1) r

def setL (cs : List Value) (off : Nat) : List Value → List Value
  | [] => cs
  | v :: r => setL (cs.set off v) (off + 1) r

theorem Ext.setCell {w : World} (a : Addr) (v : Value) : Ext (· = a.block) w (w.setCell a v) :=
  ⟨rfl, rfl, rfl, by simp [World.setCell], fun b _ hm => Below.heap_setCell w a v b hm⟩

theorem Blk.setCell {w : World} {b : Nat} {cs : List Value} {e : TypeId} (h : Blk w b cs e) (i : Nat) (v : Value) : Blk (w.setCell ⟨b, i, none⟩ v) b (cs.set i v) e := by
  have hlt := h.lt
  have h' := h
  unfold Blk at h ⊢
  simp only [World.setCell, Array.getElem?_modify]
  simp [h]

theorem acts_stores {b : Nat} {e : TypeId} : ∀ (vs : List Value) (off : Nat) (cs : List Value) (w : World), Blk w b cs e → off + vs.length ≤ cs.length → vs.all Value.scal = true →
    ∃ w', Acts (stores b off vs) w w' ∧ Ext (· = b) w w' ∧ Blk w' b (setL cs off vs) e ∧ w'.heap.size = w.heap.size := by
  intro vs
  induction vs with
  | nil => intro off cs w h _ _; exact ⟨w, rfl, Ext.refl w, h, rfl⟩
  | cons v r ih =>
    intro off cs w h hl hs
    simp only [List.length_cons] at hl
    simp only [List.all_cons, Bool.and_eq_true] at hs
    obtain ⟨w', h1, h2, h3, h4⟩ := ih (off + 1) (cs.set off v) (w.setCell ⟨b, off, none⟩ v) (h.setCell off v) (by simp; omega) hs.2
    refine ⟨w', ⟨⟨?_, h.frozen _, hs.1⟩, h1⟩, (Ext.setCell ⟨b, off, none⟩ v).trans h2, h3, by rw [h4]; simp [World.setCell]⟩
    exact ⟨cs[off], h.cell off (by simp)⟩

theorem S.store {ops : Array Oper} {i : Nat} {b : Nat} {cs : List Value} {e : TypeId} (off : Nat) (vs : List Value) (cs' : List Value) (hB : Blk w b cs e)
    (hx : okK ops κ i = some none) (hs : runI P (semK ops κ i) [] = some (stores b off vs, [], .skip)) (hl : Nat.ble (off + vs.length) cs.length = true) (hv : vs.all Value.scal = true) (hc : setL cs off vs = cs')
    (h : ∀ w', Ext (· = b) w w' → Blk w' b cs' e → w'.heap.size = w.heap.size → S P ro Qf n ds k κ w') : S P ro Qf n ds (.one ops i :: k) κ w := by
  obtain ⟨w', h1, h2, h3, h4⟩ := acts_stores vs off cs w hB (Nat.le_of_ble_eq_true hl) hv
  subst hc
  exact S.skipN hx (runI_sound _ _ _ _ _ w w' hs h1) (h w' h2 h3 h4)

/-- A block of another type turned. -/
theorem Blk.extT {w w' : World} {b b' : Nat} {cs cs' : List Value} {e e' : TypeId} (h : Blk w b cs e) (hx : Ext (· = b') w w') (hB : Blk w b' cs' e') (hne : Nat.beq e e' = false) : Blk w' b cs e :=
  h.ext hx fun hb => by
    have hb : b = b' := hb
    subst hb
    have := (h.same hB).2
    subst this
    simp [Nat.beq_refl] at hne
theorem Blk.extS {w w' : World} {b b' : Nat} {cs : List Value} {e : TypeId} (h : Blk w b cs e) (hx : Ext (· = b') w w') (hne : b ≠ b') : Blk w' b cs e := h.ext hx hne

theorem least {T : Nat → Prop} (h : ∃ m, T m) : ∃ m, T m ∧ ∀ m', T m' → m ≤ m' := by
  obtain ⟨m, hm⟩ := h
  induction m using Nat.strongRecOn with
  | _ m ih =>
    by_cases hx : ∃ m', m' < m ∧ T m'
    · obtain ⟨m', h1, h2⟩ := hx
      exact ih m' h1 h2
    · exact ⟨m, hm, fun m' h' => Nat.le_of_not_lt fun hlt => hx ⟨m', hlt, h'⟩⟩

/-- A loop: what holds at its head, with a number that every round lowers. -/
theorem S.loop {body : Code} (J : Nat → List (Nat × Value) → World → Prop) {m₀ : Nat} (h0 : J m₀ κ w)
    (h : ∀ m κ w, J m κ w → S P ro Qf n ds (.code body :: .stop (fun a' w' => a'.tmps.size = n ∧ a'.defers = ds ∧ ∃ m' κ', m' < m ∧ Has κ' a'.tmps ∧ J m' κ' w') :: k) κ w) :
    S P ro Qf n ds (.code (.loop body) :: k) κ w := by
  intro a hs hh hd
  classical
  let T : Act → World → Nat → Prop := fun a w m => ∃ κ, Has κ a.tmps ∧ J m κ w
  let μ : Act → World → Nat := fun a w => if hx : ∃ m, T a w m then Classical.choose (least hx) else 0
  refine wpIn_loop (fun a w => a.tmps.size = n ∧ a.defers = ds ∧ ∃ m, T a w m) μ ⟨hs, hd, m₀, κ, hh, h0⟩ ?_
  rintro a w ⟨hs, hd, hx⟩
  obtain ⟨κ, hh, hJ⟩ : T a w (Classical.choose (least hx)) := (Classical.choose_spec (least hx)).1
  refine wpIn_mono (h _ κ w hJ a hs hh hd) ?_
  intro e a' w' hq
  cases e with
  | normal =>
    obtain ⟨hs', hd', m', κ', hlt, hh', hJ'⟩ := hq
    have hx' : ∃ m, T a' w' m := ⟨m', κ', hh', hJ'⟩
    refine ⟨⟨hs', hd', hx'⟩, ?_⟩
    have e1 : μ a w = Classical.choose (least hx) := dif_pos hx
    have e2 : μ a' w' = Classical.choose (least hx') := dif_pos hx'
    rw [e1, e2]
    exact Nat.lt_of_le_of_lt ((Classical.choose_spec (least hx')).2 m' ⟨κ', hh', hJ'⟩) hlt
  | _ => exact hq
end

/-! ### Laws on single operations -/
section
variable {P : Program}

theorem addr_add (b off m : Nat) : Addr.add ⟨b, off, none⟩ m = ⟨b, off + m, none⟩ := by
  unfold Addr.add
  split
  · subst_vars; rfl
  · rfl

theorem lawRun {ops : Array Oper} {κ : List (Nat × Value)} {i : Nat} {s : Sem Value} {w w' : World} {v : Value} (hs : semK ops κ i = s.bind fun v => .pure (.value v)) (hr : s.run P w = .ok v w') :
    (semK ops κ i).run P w = .ok (.value v) w' := by
  rw [hs]
  have := Sem.run_bind (P := P) (w := w) s fun v => (pure (.value v) : Sem Next)
  rw [hr] at this
  exact this

theorem run_indexAt_slice {t e sz : Nat} {b off : Nat} {len cap : Nat} {kd : IntKind} {i : Int} {w : World} (ht : P.underlying t = some (.slice e)) (hz : (P.info? e).map (·.size) = some sz)
    (h0 : 0 ≤ i) (h1 : i < len) : (Instr.indexAt t (.slice (some ⟨b, off, none⟩) len cap) (.int kd i)).run P w = .ok (.pointer (some ⟨b, off + i.toNat * sz, none⟩)) w := by
  rw [← addr_add]
  generalize (⟨b, off, none⟩ : Addr) = a
  obtain ⟨inf, hi, hz⟩ := Option.map_eq_some_iff.1 hz
  have hsz : (sizeOf e).run P w = .ok sz w := by
    simp [sizeOf, typeInfo, program, Sem.run, hi, hz, Bind.bind, Sem.bind, Pure.pure]
  simp only [Instr.indexAt, asIntOf, Go.underlying, program, Bind.bind, Sem.bind, Sem.run, Pure.pure, ht]
  rw [if_pos ⟨h0, h1⟩]
  have := Sem.run_bind (P := P) (w := w) (sizeOf e) (fun z => (pure (.pointer (some (a.add (i.toNat * z)))) : Sem Value))
  rw [hsz] at this
  exact this

theorem run_idx {t e sz : Nat} {a : Option Addr} {b off : Nat} {len cap : Nat} {kd : IntKind} (i : Nat) {w : World} (ha : a = some ⟨b, off, none⟩) (ht : P.underlying t = some (.slice e)) (hz : (P.info? e).map (·.size) = some sz)
    (h1 : i < len) : (Instr.indexAt t (.slice a len cap) (.int kd i)).run P w = .ok (.pointer (some ⟨b, off + i * sz, none⟩)) w := by
  subst ha
  exact run_indexAt_slice ht hz (by omega) (by omega)

theorem run_idxI {t e sz : Nat} {a : Option Addr} {b off : Nat} {len cap : Nat} {kd : IntKind} (i : Int) {w : World} (ha : a = some ⟨b, off, none⟩) (ht : P.underlying t = some (.slice e)) (hz : (P.info? e).map (·.size) = some sz)
    (h0 : 0 ≤ i) (h1 : i < len) : (Instr.indexAt t (.slice a len cap) (.int kd i)).run P w = .ok (.pointer (some ⟨b, off + i.toNat * sz, none⟩)) w := by
  subst ha
  exact run_indexAt_slice ht hz h0 h1
end
end Go.Proofs.Ytmgakpnejbembaa.L
