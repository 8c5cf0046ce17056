/-
  Objects that are no cells, maps of integers; rows that grow; rounds of ranges, marks; results.
-/
import Derived.Test.YtmgakpnejbembaaLibE
import Derived.Laws.AppendOwn
import Derived.Laws.Slices
namespace Go.Proofs.Ytmgakpnejbembaa.L
open Go Go.RowKit

/-! ### Objects -/
def ObjAt (w : World) (r : Nat) (o : Obj) : Prop := w.heap[r]? = some o
theorem ObjAt.lt {w : World} {r : Nat} {o : Obj} (h : ObjAt w r o) : r < w.heap.size := (Array.getElem?_eq_some_iff.1 h).1
theorem ObjAt.ext {M : Nat → Prop} {w w' : World} {r : Nat} {o : Obj} (h : ObjAt w r o) (hx : Ext M w w') (hm : ¬ M r) : ObjAt w' r o := (hx.block r h.lt hm).trans h
theorem ObjAt.ext0 {w w' : World} {r : Nat} {o : Obj} (h : ObjAt w r o) (hx : Ext E0 w w') : ObjAt w' r o := h.ext hx id
theorem ObjAt.extS {w w' : World} {r b : Nat} {o : Obj} (h : ObjAt w r o) (hx : Ext (· = b) w w') (hne : r ≠ b) : ObjAt w' r o := h.ext hx hne
theorem ObjAt.xt {n₀ : Nat} {T : List Nat} {w w' : World} {r : Nat} {o : Obj} (h : ObjAt w r o) (hx : Xt n₀ T w w') (ho : Obj.isC o = false) : ObjAt w' r o := hx.obj h ho
/-- A block of cells turned: no object. -/
theorem ObjAt.extB {w w' : World} {r b : Nat} {o : Obj} {cs : List Value} {e : TypeId} (h : ObjAt w r o) (hx : Ext (· = b) w w') (hB : Blk w b cs e) (ho : Obj.isC o = false) : ObjAt w' r o :=
  h.extS hx fun hrb => by
    subst hrb
    have : o = .cells cs.toArray e (0, 0) := Option.some.inj (h.symm.trans hB)
    subst this
    simp [Obj.isC] at ho
/-- An object turned: no block of cells. -/
theorem Blk.extO {w w' : World} {b r : Nat} {o : Obj} {cs : List Value} {e : TypeId} (h : Blk w b cs e) (hx : Ext (· = r) w w') (hO : ObjAt w r o) (ho : Obj.isC o = false) : Blk w' b cs e :=
  h.extS hx fun hrb => by
    subst hrb
    have : o = .cells cs.toArray e (0, 0) := Option.some.inj (hO.symm.trans h)
    subst this
    simp [Obj.isC] at ho
theorem Pres.ofO {n : Nat} {e : TypeId} {w w' : World} {r : Nat} {o : Obj} (h : Ext (· = r) w w') (hO : ObjAt w r o) (ho : Obj.isC o = false) : Pres n e w w' :=
  fun b cs t fr _ _ hb => (h.block b (Array.getElem?_eq_some_iff.1 hb).1 (fun hx => by
    have hx : b = r := hx
    subst hx
    have : o = .cells cs t fr := Option.some.inj (hO.symm.trans hb)
    subst this
    simp [Obj.isC] at ho)).trans hb
theorem Blk.xtn {n₀ : Nat} {T : List Nat} {w w' : World} {b : Nat} {cs : List Value} {e : TypeId} (h : Blk w b cs e) (hx : Xt n₀ T w w') (hn : b < n₀) : Blk w' b cs e :=
  hx.block b _ h fun _ _ _ _ _ => hn
theorem Ext.thenX {n₀ : Nat} {T : List Nat} {a b c : World} (h : Ext E0 a b) (k : Xt n₀ T b c) (hn : a.heap.size ≤ n₀) : Ext E0 a c :=
  ⟨k.os.trans h.os, k.tape.trans h.tape, k.output.trans h.output, Nat.le_trans h.size k.size, fun i hi hm => by
    have h1 := h.block i hi hm
    rw [Array.getElem?_eq_getElem hi] at h1 ⊢
    exact k.block i _ h1 fun _ _ _ _ _ => by omega⟩
theorem Ext.thenN {M : Nat → Prop} {a b c : World} {i : Nat} (h : Ext M a b) (k : Ext (· = i) b c) (hi : a.heap.size ≤ i) : Ext M a c :=
  h.then k fun j hj hm => by have : j = i := hm; omega
/-- What turns new blocks alone. -/
theorem Xt.thenY {n₀ n₁ : Nat} {T T' : List Nat} {a b c : World} (h : Xt n₀ T a b) (k : Xt n₁ T' b c) (hn : a.heap.size ≤ n₁) : Xt n₀ T a c :=
  ⟨k.os.trans h.os, k.tape.trans h.tape, k.output.trans h.output, Nat.le_trans h.size k.size, fun i o ho hx =>
    k.block i o (h.block i o ho hx) fun _ _ _ _ _ => by have := (Array.getElem?_eq_some_iff.1 ho).1; omega⟩
/-- An object of one's own turned. -/
theorem Xt.ofO {n₀ : Nat} {T : List Nat} {a w w' : World} {r : Nat} (h : Xt n₀ T a w) (k : Ext (· = r) w w') (hr : a.heap.size ≤ r) : Xt n₀ T a w' := h.ofNew k (by rintro _ rfl; exact hr)

/-- The blocks of cells of these types stand. -/
def Keeps (T : List TypeId) (w w' : World) : Prop := ∀ (b : Nat) (cs : Array Value) (e : TypeId) (fr : Nat × Nat), T.contains e = true → w.heap[b]? = some (.cells cs e fr) → w'.heap[b]? = some (.cells cs e fr)
theorem Keeps.refl {T : List TypeId} (w : World) : Keeps T w w := fun _ _ _ _ _ h => h
theorem Keeps.trans {T : List TypeId} {a b c : World} (h : Keeps T a b) (k : Keeps T b c) : Keeps T a c := fun i cs e fr he ho => k i cs e fr he (h i cs e fr he ho)
theorem Keeps.of0 {T : List TypeId} {w w' : World} (h : Ext E0 w w') : Keeps T w w' := fun b _ _ _ _ ho => (h.block b (Array.getElem?_eq_some_iff.1 ho).1 id).trans ho
theorem Keeps.ofS {T : List TypeId} {w w' : World} {b' : Nat} {cs : List Value} {e' : TypeId} (h : Ext (· = b') w w') (hB : Blk w b' cs e') (he' : T.contains e' = false) : Keeps T w w' :=
  fun b cs e fr he ho => (h.block b (Array.getElem?_eq_some_iff.1 ho).1 (by
    intro hx
    have : b = b' := hx
    subst this
    have h2 := Option.some.inj (hB.symm.trans ho)
    simp only [Obj.cells.injEq] at h2
    rw [h2.2.1, he] at he'
    cases he')).trans ho
theorem Keeps.ofO {T : List TypeId} {w w' : World} {r : Nat} {o : Obj} (h : Ext (· = r) w w') (hO : ObjAt w r o) (ho : Obj.isC o = false) : Keeps T w w' :=
  fun b cs e fr _ hb => Pres.ofO (n := b + 1) (e := e) h hO ho b cs e fr (Nat.lt_succ_self b) (tyB_self e) hb
theorem Keeps.ofX {T T' : List TypeId} {n₀ : Nat} {w w' : World} (h : Xt n₀ T' w w') (hd : (T.all fun e => !T'.contains e) = true) : Keeps T w w' :=
  fun b cs e fr he ho => h.block b _ ho fun cs' e' fr' h' hm => by
    simp only [Obj.cells.injEq] at h'
    obtain ⟨-, rfl, -⟩ := h'
    have := List.all_eq_true.1 hd e (List.contains_iff_mem.1 he)
    simp [hm] at this
theorem Keeps.sub {T T' : List TypeId} {w w' : World} (h : Keeps T w w') (k : (T'.all fun e => T.contains e) = true) : Keeps T' w w' := fun b cs e fr he ho => h b cs e fr (List.all_eq_true.1 k e (List.contains_iff_mem.1 he)) ho
theorem Blk.keeps {T : List TypeId} {w w' : World} {b : Nat} {cs : List Value} {e : TypeId} (h : Blk w b cs e) (k : Keeps T w w') (he : T.contains e = true) : Blk w' b cs e := k _ _ _ _ he h
theorem Keeps.pres {T : List TypeId} {w w' : World} (k : Keeps T w w') {n : Nat} {e : TypeId} (he : (!Nat.beq e 0 && T.contains e) = true) : Pres n e w w' := fun b cs t fr _ ht ho => by
  simp only [Bool.and_eq_true, Bool.not_eq_true'] at he
  have h3 := tyB_ne ht he.1
  subst h3
  exact k b cs _ fr he.2 ho
theorem Low.ofO {n : Nat} {w w' : World} {r : Nat} (h : Ext (· = r) w w') (hn : n ≤ r) : Low n w w' := .ofS h hn
/-- Blocks of these types, and all that lies below n. -/
structure KeepsN (n : Nat) (T : List TypeId) (w w' : World) : Prop where
  keeps : Keeps T w w'
  low : Low n w w'
theorem KeepsN.of0 {n : Nat} {T : List TypeId} {w w' : World} (h : Ext E0 w w') : KeepsN n T w w' := ⟨.of0 h, .of0 h⟩
theorem KeepsN.ofS {n : Nat} {T : List TypeId} {w w' : World} {b' : Nat} {cs : List Value} {e' : TypeId} (h : Ext (· = b') w w') (hB : Blk w b' cs e') (he' : T.contains e' = false) (hn : n ≤ b') : KeepsN n T w w' := ⟨.ofS h hB he', .ofS h hn⟩
theorem KeepsN.ofO {n : Nat} {T : List TypeId} {w w' : World} {r : Nat} {o : Obj} (h : Ext (· = r) w w') (hO : ObjAt w r o) (ho : Obj.isC o = false) (hn : n ≤ r) : KeepsN n T w w' := ⟨.ofO h hO ho, .ofS h hn⟩
theorem KeepsN.ofX {n : Nat} {T T' : List TypeId} {n₀ : Nat} {w w' : World} (h : Xt n₀ T' w w') (hd : (T.all fun e => !T'.contains e) = true) (hn : n ≤ n₀) : KeepsN n T w w' := ⟨.ofX h hd, .ofX h hn⟩
theorem KeepsN.sub {n : Nat} {T T' : List TypeId} {w w' : World} (h : KeepsN n T w w') (k : (T'.all fun e => T.contains e) = true) : KeepsN n T' w w' := ⟨h.keeps.sub k, h.low⟩

/-- What a step keeps: blocks of cells of these types, maps, all that lies below n. -/
structure Std (n : Nat) (T : List TypeId) (w w' : World) : Prop where
  keeps : Keeps T w w'
  maps : ∀ r es c, ObjAt w r (.map es c) → ObjAt w' r (.map es c)
  size : w.heap.size ≤ w'.heap.size
  low : Low n w w'
theorem Std.refl {n : Nat} {T : List TypeId} (w : World) : Std n T w w := ⟨Keeps.refl w, fun _ _ _ h => h, Nat.le_refl _, Low.refl w⟩
theorem Std.trans {n : Nat} {T : List TypeId} {a b c : World} (h : Std n T a b) (k : Std n T b c) : Std n T a c := ⟨h.keeps.trans k.keeps, fun r es cl ho => k.maps r es cl (h.maps r es cl ho), Nat.le_trans h.size k.size, h.low.trans k.low⟩
theorem Std.of0 {n : Nat} {T : List TypeId} {w w' : World} (h : Ext E0 w w') : Std n T w w' := ⟨.of0 h, fun _ _ _ ho => ho.ext0 h, h.size, .of0 h⟩
theorem Std.ofS {n : Nat} {T : List TypeId} {w w' : World} {b' : Nat} {cs : List Value} {e' : TypeId} (h : Ext (· = b') w w') (hB : Blk w b' cs e') (he' : T.contains e' = false) (hn : n ≤ b') : Std n T w w' := ⟨.ofS h hB he', fun _ _ _ ho => ho.extB h hB rfl, h.size, .ofS h hn⟩
theorem Std.ofO {n : Nat} {T : List TypeId} {w w' : World} {r : Nat} {o : Obj} (h : Ext (· = r) w w') (hO : ObjAt w r o) (ho : (match o with | .cells .. => false | .map .. => false | _ => true) = true) (hn : n ≤ r) : Std n T w w' :=
  ⟨.ofO h hO (by cases o <;> simp_all [Obj.isC]), fun r' es c hm => hm.extS h (fun e => by
    subst e
    have : o = .map es c := Option.some.inj (hO.symm.trans hm)
    subst this
    simp at ho), h.size, .ofS h hn⟩
theorem Std.ofX {n : Nat} {T T' : List TypeId} {n₀ : Nat} {w w' : World} (h : Xt n₀ T' w w') (hd : (T.all fun e => !T'.contains e) = true) (hn : n ≤ n₀) : Std n T w w' := ⟨.ofX h hd, fun _ _ _ ho => ho.xt h rfl, h.size, .ofX h hn⟩

section
variable {P : Program} {ro : Option Nat} {Qf : Exit → Act → World → Prop} {n : Nat} {ds : List Deferred} {k : List KI} {κ : List (Nat × Value)} {w : World}

theorem S.newO {ops : Array Oper} {i : Nat} (d : Nat) (o : Obj) (V : Nat → Value) (hx : okK ops κ i = some (some d)) (hd : Nat.blt d n = true)
    (hs : ∀ b, runI P (semK ops κ i) [.b b] = some ([.new o b], [], .value (V b)))
    (h : ∀ b w', Ext E0 w w' → ObjAt w' b o → b = w.heap.size → w'.heap.size = b + 1 → S P ro Qf n ds k ((d, V b) :: κ) w') : S P ro Qf n ds (.one ops i :: k) κ w :=
  S.valN d hx hd (runI_sound _ _ _ _ _ w (w.push o) (hs w.heap.size) ⟨rfl, rfl⟩)
    (h _ _ (Ext.push _) (by show (w.heap.push _)[w.heap.size]? = _; exact Array.getElem?_push_size) rfl (by show (w.heap.push _).size = _; simp))

theorem Ext.putO (w : World) (r : Nat) (o : Obj) : Ext (· = r) w (w.putO r o) :=
  ⟨rfl, rfl, rfl, by simp [World.putO], fun b _ hm => by show (w.heap.setIfInBounds r o)[b]? = _; exact Array.getElem?_setIfInBounds_ne (fun e => hm e.symm)⟩

theorem S.setO {ops : Array Oper} {i r : Nat} {o o' : Obj} (hO : ObjAt w r o) (hc : Obj.isC o = false) (hx : okK ops κ i = some none)
    (hs : runI P (semK ops κ i) [.o o] = some ([.getObj r o, .setObj r o'], [], .skip))
    (h : ∀ w', Ext (· = r) w w' → ObjAt w' r o' → w'.heap.size = w.heap.size → S P ro Qf n ds k κ w') : S P ro Qf n ds (.one ops i :: k) κ w :=
  S.skipN hx (runI_sound _ _ _ _ _ w (w.putO r o') hs ⟨⟨hO, hc⟩, ⟨o, hO, hc⟩, rfl⟩)
    (h _ (Ext.putO w r o') (by show (w.heap.setIfInBounds r o')[r]? = _; simp [hO.lt]) (by simp [World.putO]))
end

/-! ### Maps with integers for keys -/
def ents : Nat → List (Int × Value) → List MapEntry
  | _, [] => []
  | i, (k, v) :: r => { key := .int .i64 k, val := v, born := i } :: ents (i + 1) r

theorem findNow_ents (x : Int) : ∀ (es : List (Int × Value)) (i j : Nat), ∃ q, Instr.findNow (.int .i64) (.int .i64 x) (ents i es) j = some q ∧ q.map (·.2) = (es.find? fun e => x == e.1).map (·.2)
  | [], i, j => ⟨none, rfl, rfl⟩
  | (k, v) :: r, i, j => by
    cases h : x == k with
    | true => exact ⟨some (j, v), by simp [ents, Instr.findNow, Instr.sameNow, h], by simp [h]⟩
    | false =>
      obtain ⟨q, h1, h2⟩ := findNow_ents x r (i + 1) (j + 1)
      exact ⟨q, by simp [ents, Instr.findNow, Instr.sameNow, h, h1], by simp [h, h2]⟩

section
variable {P : Program} {w : World}
theorem run_checkKey_int {kt : TypeId} {x : Int} (hk : P.underlying kt = some (.int .i64)) (em : Bool) (n : Nat) : (Instr.checkKey em (n + 1) kt (.int .i64 x)).run P w = .ok () w := by
  simp [Instr.checkKey, Go.underlying, program, Bind.bind, Sem.bind, Sem.run, Pure.pure, hk]
theorem run_lookup_int {t kt et m c : Nat} {es : List (Int × Value)} {x : Int} {z : Value} (ok : Bool) (ht : P.underlying t = some (.map kt et)) (hk : P.underlying kt = some (.int .i64))
    (hz : ∀ w, (zeroValue et).run P w = .ok z w) (hm : ObjAt w m (.map (ents 0 es).toArray c)) :
    (Instr.lookup t (.map (some m)) (.int .i64 x) ok).run P w =
      .ok (if ok then .tuple #[((es.find? fun e => x == e.1).map (·.2)).getD z, .bool (es.find? fun e => x == e.1).isSome] else ((es.find? fun e => x == e.1).map (·.2)).getD z) w := by
  have hm' : w.heap[m]? = some (.map (ents 0 es).toArray c) := hm
  obtain ⟨q, h1, h2⟩ := findNow_ents x es 0 0
  have hck : ∀ em : Bool, (Instr.checkKey em 10000 kt (.int .i64 x)).run P w = .ok () w := by
    intro em
    exact run_checkKey_int hk em 9999
  have hfk : (Instr.findKey kt (.int .i64 x) (ents 0 es)).run P w = .ok q w := by
    simp [Instr.findKey, Go.underlying, program, Bind.bind, Sem.bind, Sem.run, Pure.pure, hk, h1]
  have hu : (Go.underlying t).run P w = .ok (.map kt et) w := by simp [Go.underlying, program, Bind.bind, Sem.bind, Sem.run, Pure.pure, ht]
  unfold Instr.lookup
  simp only [Sem.run_bind, hu, Result.andThen_ok, Sem.run_pure]
  have hg : (getObj m).run P w = .ok (.map (ents 0 es).toArray c) w := by simp [getObj, Sem.run, hm']
  simp only [Sem.run_bind, hg, Result.andThen_ok, Sem.run_pure, hck, hfk]
  cases q with
  | none =>
    have h3 : es.find? (fun e => x == e.1) = none := by
      cases hf : es.find? (fun e => x == e.1) with
      | none => rfl
      | some y => rw [hf] at h2; simp at h2
    simp [Sem.run_bind, hz, h3]
  | some y =>
    obtain ⟨e, he⟩ : ∃ e, es.find? (fun e => x == e.1) = some e := by
      cases hf : es.find? (fun e => x == e.1) with
      | none => rw [hf] at h2; simp at h2
      | some e => exact ⟨e, rfl⟩
    rw [he] at h2
    simp at h2
    simp [he, h2]
end

/-! ### Rows that grow -/
/-- A row of one's own. -/
def OwnR (base : Nat) (e : TypeId) (size : Nat) (w : World) (a : Option Addr) (n cap : Nat) (xs : List Value) : Prop := w.ownsRow base e size (.slice a n cap) n xs

theorem OwnR.nil (base : Nat) (e : TypeId) (size : Nat) (w : World) : OwnR base e size w none 0 0 [] := World.ownsRow_nil w base e size
theorem OwnR.pres {base : Nat} {e : TypeId} {size : Nat} {w w' : World} {a : Option Addr} {n cap : Nat} {xs : List Value} (h : OwnR base e size w a n cap xs) (k : ∀ n, Pres n e w w') : OwnR base e size w' a n cap xs := by
  refine ⟨h.1, ?_⟩
  rcases h.2 with hn | ⟨g, c, cur, h1, hb, hg, rest⟩
  · exact .inl hn
  · exact .inr ⟨g, c, cur, h1, hb, k (g + 1) g cur e (0, 0) (Nat.lt_succ_self g) (tyB_self e) hg, rest⟩
theorem OwnR.lt {base : Nat} {e : TypeId} {size : Nat} {w : World} {a : Option Addr} {n cap : Nat} {xs : List Value} (h : OwnR base e size w a n cap xs) : ∀ g, a = some g → g.block < w.heap.size := by
  rintro g rfl
  rcases h.2 with ⟨hn, _⟩ | ⟨g', c, cur, h1, hb, hg, rest⟩
  · simp at hn
  · simp only [Value.slice.injEq, Option.some.injEq] at h1
    rw [h1.1]
    exact (Array.getElem?_eq_some_iff.1 hg).1
theorem OwnR.ge {base : Nat} {e : TypeId} {size : Nat} {w : World} {a : Option Addr} {n cap : Nat} {xs : List Value} (h : OwnR base e size w a n cap xs) : ∀ g, a = some g → base ≤ g.block := by
  rintro g rfl
  rcases h.2 with ⟨hn, _⟩ | ⟨g', c, cur, h1, hb, hg, rest⟩
  · simp at hn
  · simp only [Value.slice.injEq, Option.some.injEq] at h1
    rw [h1.1]
    exact hb
theorem OwnR.presN {base : Nat} {e : TypeId} {size : Nat} {w w' : World} {a : Option Addr} {n cap : Nat} {xs : List Value} {N : Nat} (h : OwnR base e size w a n cap xs) (hN : ∀ g, a = some g → g.block < N) (k : Pres N e w w') : OwnR base e size w' a n cap xs := by
  refine ⟨h.1, ?_⟩
  rcases h.2 with hn | ⟨g, c, cur, h1, hb, hg, rest⟩
  · exact .inl hn
  · have h1' := h1
    simp only [Value.slice.injEq] at h1'
    exact .inr ⟨g, c, cur, h1, hb, k g cur e (0, 0) (hN _ h1'.1) (tyB_self e) hg, rest⟩
theorem OwnR.ofB {base : Nat} {e : TypeId} {size : Nat} {w w' : World} {a : Option Addr} {n cap : Nat} {xs : List Value} {b : Nat} (h : OwnR base e size w a n cap xs) (E : Ext (· = b) w w') (hb : b < base) : OwnR base e size w' a n cap xs := by
  refine ⟨h.1, ?_⟩
  rcases h.2 with hn | ⟨g, c, cur, h1, hg0, hg, rest⟩
  · exact .inl hn
  · exact .inr ⟨g, c, cur, h1, hg0, by rw [E.block g (Array.getElem?_eq_some_iff.1 hg).1 (by intro hx; have hx : g = b := hx; omega)]; exact hg, rest⟩
theorem OwnR.weak {base base' : Nat} {e : TypeId} {size : Nat} {w : World} {a : Option Addr} {n cap : Nat} {xs : List Value} (h : OwnR base e size w a n cap xs) (k : base' ≤ base) : OwnR base' e size w a n cap xs := by
  refine ⟨h.1, ?_⟩
  rcases h.2 with hn | ⟨g, c, cur, h1, hb, rest⟩
  · exact .inl hn
  · exact .inr ⟨g, c, cur, h1, Nat.le_trans k hb, rest⟩
theorem flat_get {α : Type} {cs : α → List Value} {size : Nat} (hcs : ∀ y, (cs y).length = size) : ∀ (ys : List α) (i : Nat) (y : α) (j : Nat), ys[i]? = some y → j < size → (ys.flatMap cs)[i * size + j]? = (cs y)[j]?
  | [], i, y, j, h, _ => by simp at h
  | x :: r, 0, y, j, h, hj => by
    simp only [List.getElem?_cons_zero, Option.some.injEq] at h
    subst h
    simp only [Nat.zero_mul, Nat.zero_add, List.flatMap_cons]
    rw [List.getElem?_append_left (by rw [hcs]; exact hj)]
  | x :: r, i + 1, y, j, h, hj => by
    have := flat_get hcs r i y j (by simpa using h) hj
    simp only [List.flatMap_cons]
    rw [List.getElem?_append_right (by rw [hcs, Nat.succ_mul]; omega), hcs, ← this]
    congr 1
    rw [Nat.succ_mul]; omega
theorem flat_len {α : Type} {cs : α → List Value} {size : Nat} (hcs : ∀ y, (cs y).length = size) : ∀ (ys : List α), (ys.flatMap cs).length = ys.length * size
  | [] => by simp
  | x :: r => by simp [flat_len hcs r, hcs, Nat.succ_mul]; omega
theorem OwnR.len {α : Type} {base : Nat} {e : TypeId} {size : Nat} {w : World} {a : Option Addr} {n cap : Nat} {cs : α → List Value} {ys : List α} (h : OwnR base e size w a n cap (ys.flatMap cs)) (hcs : ∀ y, (cs y).length = size) (hs : 0 < size) : ys.length = n := by
  have := h.1
  rw [flat_len hcs] at this
  exact Nat.eq_of_mul_eq_mul_right hs this
theorem OwnR.row {α : Type} {base : Nat} {e : TypeId} {size : Nat} {w : World} {a : Option Addr} {n cap : Nat} {cs : α → List Value} {ys : List α} (h : OwnR base e size w a n cap (ys.flatMap cs)) (hcs : ∀ y, (cs y).length = size) (hs : 0 < size) : Row w.heap.size e size cs w a ys := by
  intro i x hx
  have hlen := h.len hcs hs
  have hi := (List.getElem?_eq_some_iff.1 hx).1
  rcases h.2 with ⟨hn, h0⟩ | ⟨g, c, cur, h1, hb, hg, hnc, hcm, hcs', htake⟩
  · omega
  · simp only [Value.slice.injEq] at h1
    obtain ⟨rfl, -, -⟩ := h1
    refine ⟨g, 0, rfl, (Array.getElem?_eq_some_iff.1 hg).1, cur, e, (0, 0), tyB_self e, hg, fun j v hv => ?_⟩
    have hj : j < size := by rw [← hcs x]; exact (List.getElem?_eq_some_iff.1 hv).1
    have hf := flat_get hcs ys i x j hx hj
    rw [hv] at hf
    rw [← htake, List.getElem?_take] at hf
    split at hf
    · rw [Nat.zero_add]; simpa using hf
    · cases hf
theorem OwnR.snoc {α : Type} {base : Nat} {e : TypeId} {size : Nat} {w : World} {a : Option Addr} {n cap : Nat} {cs : α → List Value} {ys : List α} {y : α} (h : OwnR base e size w a n cap (ys.flatMap cs ++ cs y)) : OwnR base e size w a n cap ((ys ++ [y]).flatMap cs) := by
  simpa [List.flatMap_append] using h
theorem OwnR.cap {base : Nat} {e : TypeId} {size : Nat} {w : World} {a : Option Addr} {n cap : Nat} {xs : List Value} (h : OwnR base e size w a n cap xs) : n ≤ cap := by
  rcases h.2 with ⟨hn, h0⟩ | ⟨g, c, cur, h1, hb, hg, hnc, _⟩
  · omega
  · simp only [Value.slice.injEq] at h1; omega
/-- A row of one's own that is not empty has a block. -/
theorem OwnR.blk {base : Nat} {e : TypeId} {size : Nat} {w : World} {a : Option Addr} {n cap : Nat} {xs : List Value} (h : OwnR base e size w a n cap xs) (hn : 0 < n) : ∃ g, a = some ⟨g, 0, none⟩ ∧ base ≤ g ∧ g < w.heap.size := by
  rcases h.2 with ⟨_, h0⟩ | ⟨g, c, cur, h1, hb, hg, _⟩
  · omega
  · simp only [Value.slice.injEq] at h1
    exact ⟨g, h1.1, hb, (Array.getElem?_eq_some_iff.1 hg).1⟩

theorem Xt.ofGrown {base : Nat} {e : TypeId} {size : Nat} {w w' : World} {v : Value} {n : Nat} {xs : List Value} (h : w.ownsRow base e size v n xs) (hg : w.grownBy w' v.ownBlock) : Xt base [e] w w' :=
  ⟨hg.os, hg.tape, hg.output, hg.size, fun b o ho hx => by
    by_cases hb : some b = v.ownBlock
    · exfalso
      rcases h.2 with ⟨rfl, _⟩ | ⟨g, cap, cur, rfl, hbg, hgg, _⟩
      · simp [Value.ownBlock] at hb
      · simp only [Value.ownBlock, Option.some.injEq] at hb
        subst hb
        have : o = .cells cur e (0, 0) := Option.some.inj (ho.symm.trans hgg)
        have := hx _ _ _ this (by simp)
        omega
    · rw [hg.block b (Array.getElem?_eq_some_iff.1 ho).1 hb]; exact ho⟩

/-- What an append asks of the types. -/
def appOk (P : Program) (t e size bytes : Nat) : Bool :=
  match P.underlying t, P.info? e with
  | some (.slice e'), some i => Nat.beq e' e && Nat.beq i.size size && Nat.beq i.bytes bytes && Nat.blt 0 size && (match i.zero with | some z => Nat.beq z.cells.size size | none => false)
  | _, _ => false

section
variable {P : Program} {ro : Option Nat} {Qf : Exit → Act → World → Prop} {n : Nat} {ds : List Deferred} {k : List KI} {κ : List (Nat × Value)} {w : World}

theorem S.append {ops : Array Oper} {i : Nat} (d : Nat) {t ty e base size bytes : Nat} {a : Option Addr} {m cap : Nat} {xs : List Value} {b m' c : Nat} {news : List Value} {e' : TypeId}
    (hown : OwnR base e size w a m cap xs) (hB : Blk w b news e') (hx : okK ops κ i = some (some d)) (hd : Nat.blt d n = true)
    (hs : semK ops κ i = (Builtin.append_ #[t, t] ty #[.slice a m cap, .slice (some ⟨b, 0, none⟩) m' c]).bind fun v => .pure (.value v))
    (hT : appOk P t e size bytes = true) (hl : Nat.beq news.length (m' * size) = true) (h1 : news.all Value.oneCell' = true) (hbytes : (m + m') * bytes ≤ 140737488355328) (h63 : m + m' ≤ 9223372036854775807) (hbase : base ≤ w.heap.size)
    (h : ∀ a' cap' w', Xt base [e] w w' → OwnR base e size w' a' (m + m') cap' (xs ++ news) → S P ro Qf n ds k ((d, .slice a' (m + m') cap') :: κ) w') : S P ro Qf n ds (.one ops i :: k) κ w := by
  unfold appOk at hT
  split at hT
  · rename_i e'' inf h2 h3
    simp only [Bool.and_eq_true] at hT
    obtain ⟨⟨⟨⟨g1, g2⟩, g3⟩, g4⟩, g5⟩ := hT
    have g1 := Nat.eq_of_beq_eq_true g1
    subst g1
    cases hz : inf.zero with
    | none => rw [hz] at g5; simp at g5
    | some z =>
      rw [hz] at g5
      have hnews : ∀ j u, news[j]? = some u → w.cell? ((⟨b, 0, none⟩ : Addr).add j) = some u := fun j u hu => by
        rw [addr_add]
        simpa using hB.cell (0 + j) (by simpa using hu)
      obtain ⟨v', w', hr, ho', hg, _⟩ := run_append_own (P := P) w base t ty e'' inf z size bytes h2 h3 hz (Nat.eq_of_beq_eq_true g2) (Nat.eq_of_beq_eq_true g3) (Nat.eq_of_beq_eq_true g5) (by simpa [Nat.blt_eq] using g4)
        _ m xs hown ⟨b, 0, none⟩ m' c news (Nat.eq_of_beq_eq_true hl) hnews (fun u hu => List.all_eq_true.1 h1 u hu) (by simpa [maxLen] using h63) hbytes hbase
      have hv : ∃ a' cap', v' = .slice a' (m + m') cap' := by
        rcases ho'.2 with ⟨rfl, h0⟩ | ⟨g, cp, cur, rfl, _⟩
        · exact ⟨none, 0, by rw [h0]⟩
        · exact ⟨_, _, rfl⟩
      obtain ⟨a', cap', rfl⟩ := hv
      exact S.law d _ hx hd hs hr (h a' cap' w' (Xt.ofGrown hown hg) ho')
  · simp at hT
end

/-! ### Rounds -/
section
variable {P : Program} {R : Ending → World → Prop} {n : Nat} {κ κ₁ : List (Nat × Value)} {w : World}

theorem S.round {l : Nat} {rec : Loop} {args : Array Value} {ps : Array Tmp} {assign body : Code} (hl : LoopAt w l rec) (hst : rec.state = .ready) (hf : (∃ fn, P.funcs[rec.fn]? = some fn) ∨ ∀ ch w, ¬ R (.panicked ch) w) (hn : rec.tmps.size = n)
    (hk : Has κ rec.tmps) (hpar : rec.params = ps) (hass : rec.assign = assign) (hbod : rec.body = body) (hp : args.size = ps.size) (hb : ((ps.zip args).toList.all fun x => Nat.blt x.1 n) = true)
    (h : S P (some l) (fun _ _ _ => False) n [] [.code assign, .stop (fun a₁ w₁ => w₁ = w ∧ a₁.tmps.size = n ∧ Has κ₁ a₁.tmps ∧ a₁.defers = [])] (laidK (ps.zip args).toList κ) w)
    (hbody : ∀ w2, Ext (· = l) w w2 → w2.heap.size = w.heap.size → LoopAt w2 l { rec with state := .busy } → S P (some l) (roundQ P l R) n [] [.code body] κ₁ w2) :
    CallsV P (callSem (.func (.yield l) #[] #[]) args) w R := by
  subst hpar hass hbod
  refine yield_calls hl hst hf hn hk hp hb ?_
  intro a hs hh hd
  refine wpIn_mono (h a hs hh hd) ?_
  intro e a₁ w₁ hq
  cases e with
  | normal =>
    obtain ⟨rfl, h1, h2, h3⟩ := hq
    refine ⟨_, run_beginRound hl hst, ?_⟩
    exact hbody _ (Ext.putObj l _) (by simp) (World.putObj_heap_same hl.lt) a₁ h1 h2 h3
  | _ => exact hq

theorem loop_same {r : Loop} (h1 : r.state = .ready) (h2 : r.pending = none) : ({ r with state := .ready, pending := none } : Loop) = r := by
  cases r
  simp only at h1 h2
  subst h1 h2
  rfl
theorem round_go {l : Nat} {r : Loop} {a : Act} (h1 : r.state = .ready) (h2 : r.pending = none) (hl : LoopAt w l { r with state := .busy }) (h : ∀ w', Ext (· = l) w w' → w'.heap.size = w.heap.size → LoopAt w' l r → R (.returned (.bool true)) w') : roundQ P l R .normal a w :=
  ⟨_, w.putObj l (.loop r), (run_endRound none hl).trans (congrArg (fun x => Result.ok (Value.bool true) (w.putObj l (.loop x))) (loop_same h1 h2)), h _ (Ext.putObj l _) (by simp) (World.putObj_heap_same hl.lt)⟩
theorem round_ret {l : Nat} {r : Loop} {a : Act} (hl : LoopAt w l r) (h : ∀ w', Ext (· = l) w w' → w'.heap.size = w.heap.size → LoopAt w' l { r with state := .done, pending := some .ret } → R (.returned (.bool false)) w') : roundQ P l R .ret a w :=
  ⟨_, _, run_endRound (some .ret) hl, h _ (Ext.putObj l _) (by simp) (World.putObj_heap_same hl.lt)⟩
theorem round_exit {l id : Nat} {r : Loop} {a : Act} (hl : LoopAt w l r) (h : ∀ w', Ext (· = l) w w' → w'.heap.size = w.heap.size → LoopAt w' l { r with state := .done, pending := some (.exit id) } → R (.returned (.bool false)) w') : roundQ P l R (.exit id) a w :=
  ⟨_, _, run_endRound (some (.exit id)) hl, h _ (Ext.putObj l _) (by simp) (World.putObj_heap_same hl.lt)⟩
end

section
variable {P : Program} {ro : Option Nat} {Qf : Exit → Act → World → Prop} {n : Nat} {ds : List Deferred} {k : List KI} {κ : List (Nat × Value)} {w : World}
theorem after_go {l : Nat} {r : Loop} {v : Value} (hl : LoopAt w l r) (hs : r.state = .ready) (hp : r.pending = none) (h : ∀ w', Ext (· = l) w w' → w'.heap.size = w.heap.size → S P ro Qf n ds k κ w') : AfterRange P ro Qf n ds k κ l (.returned v) w :=
  ⟨r, hl, by rw [hs]; simp, by rw [hp]; exact h _ (Ext.putObj l _) (by simp)⟩
theorem after_out {l : Nat} {r : Loop} {v : Value} {c : Code} (hl : LoopAt w l r) (hs : r.state = .done) (hp : r.pending = some c) (h : ∀ w', Ext (· = l) w w' → w'.heap.size = w.heap.size → S P ro Qf n ds (.code c :: k) κ w') : AfterRange P ro Qf n ds k κ l (.returned v) w :=
  ⟨r, hl, by rw [hs]; simp, by rw [hp]; exact h _ (Ext.putObj l _) (by simp)⟩
theorem LoopAt.obj {l : Nat} {r : Loop} (h : LoopAt w l r) : ObjAt w l (.loop r) := h
end

/-- A call of a function value. -/
theorem S.callF {P : Program} {ro : Option Nat} {Qf : Exit → Act → World → Prop} {n : Nat} {ds : List Deferred} {k : List KI} {κ : List (Nat × Value)} {w : World} {ops : Array Oper} {i : Nat} {dst : Option Tmp} {y : Value} {args : Array Value}
    (hx : okK ops κ i = some dst) (hs : semK ops κ i = callSem y args) (h : CallsV P (callSem y args) w (After P ro Qf n ds k κ dst)) : S P ro Qf n ds (.one ops i :: k) κ w :=
  S.callV hx (by rw [hs]; exact h)

/-! ### Results -/
def rhoT (κ : List (Nat × Value)) (tmps : Array Value) (t : Nat) : Value := (look κ t).getD (tmps.getD t undef)
theorem Has.rhoT {κ : List (Nat × Value)} {tmps : Array Value} (h : Has κ tmps) : rhoT κ tmps = fun t => tmps.getD t undef := by
  funext t
  unfold L.rhoT
  cases hl : look κ t with
  | none => rfl
  | some v => exact (h t v hl).symm
theorem results_resS (fn : Func) (tmps : Array Value) : results fn tmps = resS fn fun t => tmps.getD t undef := rfl

section
variable {P : Program} {fn : Func} {R : Ending → World → Prop} {n : Nat} {ds : List Deferred} {k : List KI} {κ : List (Nat × Value)} {w : World}
theorem res_of {rs : List Rq} {A : List Ans} {v : Value} (hx : ∀ tmps, runI P (resS fn (rhoT κ tmps)) A = some (rs, [], v)) (ha : Acts rs w w) {tmps : Array Value} (hh : Has κ tmps) : (results fn tmps).run P w = .ok v w := by
  have := runI_sound _ _ _ _ _ w w (hx tmps) ha
  rw [hh.rhoT] at this
  exact this
theorem S.retR {rs : List Rq} {A : List Ans} {v : Value} (hx : ∀ tmps, runI P (resS fn (rhoT κ tmps)) A = some (rs, [], v)) (ha : Acts rs w w) (hR : R (.returned v) w) : S P none (bodyPost P fn R) n [] (.code .ret :: k) κ w :=
  S.ret fun _ _ hh hd => ⟨hd, v, res_of hx ha hh, hR⟩
theorem S.finR {rs : List Rq} {A : List Ans} {v : Value} (hx : ∀ tmps, runI P (resS fn (rhoT κ tmps)) A = some (rs, [], v)) (ha : Acts rs w w) (hR : R (.returned v) w) : S P none (bodyPost P fn R) n [] [] κ w :=
  S.fin fun _ _ hh hd => ⟨hd, v, res_of hx ha hh, hR⟩

/-- A function with a deferred call of its own. -/
theorem calls_of_SB {f : FuncId} {c : Code} {args : Array Value} (hf : P.funcs[f]? = some fn) (hb : fn.body = some c) (hn : fn.ntmps = n) (ha : Nat.ble args.size n = true)
    (h : S P none (bodyPostM (FW none) 0 P fn R) n [] [.code c] (argsK 0 args.toList) w) : Calls P f args w R := by
  refine (callsIn_FW (ro := none) (n := 0)).1 (callsIn_of_wp_marks hf hb trivial ?_)
  have := Nat.le_of_ble_eq_true ha
  exact h _ (by simp [hn]; omega) (has_args _ _) rfl
theorem settle_rec {v : Value} {rest : List PanicEntry} (h : ∀ e, e ∈ rest → e.goexit = false) : settle (.panicking ({ v, recovered := true } :: rest)) = .returning := by
  have : ∀ l : List PanicEntry, (∀ e, e ∈ l → e.goexit = false) → l.dropWhile (fun e => !e.goexit) = [] := by
    intro l
    induction l with
    | nil => intro _; rfl
    | cons a l ih => intro hl; simp [hl a (by simp), ih fun e he => hl e (by simp [he])]
  simp only [settle, this rest h]
theorem retB {ds : List Deferred} {a : Act} (hd : a.defers = ds) (h : LeavesInM (FW none) 0 P fn a.tmps R ds .returning w) : bodyPostM (FW none) 0 P fn R .ret a w := by
  show LeavesInM (FW none) 0 P fn a.tmps R a.defers .returning w
  rw [hd]; exact h
theorem panicB {ds : List Deferred} {a : Act} {ch : List PanicEntry} (hd : a.defers = ds) (h : LeavesInM (FW none) 0 P fn a.tmps R ds (.panicking ch) w) : bodyPostM (FW none) 0 P fn R (.panic ch) a w := by
  show LeavesInM (FW none) 0 P fn a.tmps R a.defers (.panicking ch) w
  rw [hd]; exact h

/-! ### Marks -/
def mark (d : Nat) : Deferred := { target := .collected d, args := #[] }
theorem leaves_marks {tmps : Array Value} {u : FrameMode} (hu : u ≠ .run) : ∀ (ms : List Nat) (w : World), ms.Nodup → (∀ d, d ∈ ms → ObjAt w d (.deferred (some []))) →
    (∀ w', Ext (· ∈ ms) w w' → w'.heap.size = w.heap.size → LeavesInM (FW none) 0 P fn tmps R [] u w') → LeavesInM (FW none) 0 P fn tmps R (ms.map mark) u w
  | [], w, _, _, h => h w (Ext.refl w) rfl
  | d :: ms, w, hn, ho, h => by
    simp only [List.nodup_cons] at hn
    refine leaves_mark hu (ho d (by simp)) (leaves_marks hu ms _ hn.2 (fun e he => ?_) fun w' hx hz => h w' ?_ (hz.trans (by simp)))
    · exact (ho e (by simp [he])).extS (Ext.putObj d _) (fun h => by subst h; exact hn.1 he)
    · exact ((Ext.putObj d _).mono fun b _ (hb : b = d) => by subst hb; simp).trans (hx.mono fun b _ hb => List.mem_cons_of_mem _ hb)
theorem S.retM {ms : List Nat} {rs : List Rq} {A : List Ans} {v : Value} (hn : ms.Nodup) (ho : ∀ d, d ∈ ms → ObjAt w d (.deferred (some []))) (hx : ∀ tmps, runI P (resS fn (rhoT κ tmps)) A = some (rs, [], v))
    (h : ∀ w', Ext (· ∈ ms) w w' → w'.heap.size = w.heap.size → Acts rs w' w' ∧ R (.returned v) w') : S P none (DQ P fn R) n (ms.map mark) (.code .ret :: k) κ w :=
  S.ret fun a _ hh hd => by
    show LeavesInM (FW none) 0 P fn a.tmps R a.defers .returning w
    rw [hd]
    exact leaves_marks (by simp) ms w hn ho fun w' he hz => leaves_ret (res_of hx (h w' he hz).1 hh) (h w' he hz).2
theorem S.finM {ms : List Nat} {rs : List Rq} {A : List Ans} {v : Value} (hn : ms.Nodup) (ho : ∀ d, d ∈ ms → ObjAt w d (.deferred (some []))) (hx : ∀ tmps, runI P (resS fn (rhoT κ tmps)) A = some (rs, [], v))
    (h : ∀ w', Ext (· ∈ ms) w w' → w'.heap.size = w.heap.size → Acts rs w' w' ∧ R (.returned v) w') : S P none (DQ P fn R) n (ms.map mark) [] κ w :=
  S.fin fun a _ hh hd => by
    show LeavesInM (FW none) 0 P fn a.tmps R a.defers .returning w
    rw [hd]
    exact leaves_marks (by simp) ms w hn ho fun w' he hz => leaves_ret (res_of hx (h w' he hz).1 hh) (h w' he hz).2
/-- Behind one mark, behind two. -/
theorem S.finM1 {d : Nat} {rs : List Rq} {A : List Ans} {v : Value} (ho : ObjAt w d (.deferred (some []))) (hx : ∀ tmps, runI P (resS fn (rhoT κ tmps)) A = some (rs, [], v))
    (h : ∀ w', Ext (· = d) w w' → w'.heap.size = w.heap.size → Acts rs w' w' ∧ R (.returned v) w') : S P none (DQ P fn R) n [{ target := .collected d, args := #[] }] [] κ w :=
  S.fin fun a _ hh hd => by
    show LeavesInM (FW none) 0 P fn a.tmps R a.defers .returning w
    rw [hd]
    have g := h _ (Ext.putObj d (.deferred none)) (by simp)
    exact leaves_mark (by simp) ho (leaves_ret (res_of hx g.1 hh) g.2)
theorem S.retM1 {d : Nat} {rs : List Rq} {A : List Ans} {v : Value} (ho : ObjAt w d (.deferred (some []))) (hx : ∀ tmps, runI P (resS fn (rhoT κ tmps)) A = some (rs, [], v))
    (h : ∀ w', Ext (· = d) w w' → w'.heap.size = w.heap.size → Acts rs w' w' ∧ R (.returned v) w') : S P none (DQ P fn R) n [{ target := .collected d, args := #[] }] (.code .ret :: k) κ w :=
  S.ret fun a _ hh hd => by
    show LeavesInM (FW none) 0 P fn a.tmps R a.defers .returning w
    rw [hd]
    have g := h _ (Ext.putObj d (.deferred none)) (by simp)
    exact leaves_mark (by simp) ho (leaves_ret (res_of hx g.1 hh) g.2)
theorem S.finM2 {d d' : Nat} {rs : List Rq} {A : List Ans} {v : Value} (ho : ObjAt w d (.deferred (some []))) (ho' : ObjAt w d' (.deferred (some []))) (hne : d' ≠ d) (hx : ∀ tmps, runI P (resS fn (rhoT κ tmps)) A = some (rs, [], v))
    (h : ∀ w1 w', Ext (· = d) w w1 → ObjAt w1 d' (.deferred (some [])) → Ext (· = d') w1 w' → Acts rs w' w' ∧ R (.returned v) w') :
    S P none (DQ P fn R) n [{ target := .collected d, args := #[] }, { target := .collected d', args := #[] }] [] κ w :=
  S.fin fun a _ hh hd => by
    show LeavesInM (FW none) 0 P fn a.tmps R a.defers .returning w
    rw [hd]
    have h2 : ObjAt (w.putObj d (.deferred none)) d' (.deferred (some [])) := ho'.extS (Ext.putObj d _) hne
    have g := h _ _ (Ext.putObj d (.deferred none)) h2 (Ext.putObj d' (.deferred none))
    exact leaves_mark (by simp) ho (leaves_mark (by simp) h2 (leaves_ret (res_of hx g.1 hh) g.2))
theorem panicM0 {ch : List PanicEntry} {a : Act} (hd : a.defers = []) (h : R (.panicked ch) w) : DQ P fn R (.panic ch) a w := by
  refine ⟨.inr (by rw [hd]; intro x hx; cases hx), ?_⟩
  show LeavesInM (FW none) 0 P fn a.tmps R a.defers (.panicking ch) w
  rw [hd]
  exact h
theorem panicM1 {d : Nat} {ch : List PanicEntry} {a : Act} (hd : a.defers = [{ target := .collected d, args := #[] }]) (ho : ObjAt w d (.deferred (some [])))
    (h : ∀ w', Ext (· = d) w w' → w'.heap.size = w.heap.size → R (.panicked ch) w') : DQ P fn R (.panic ch) a w := by
  refine ⟨.inr (by rw [hd]; intro x hx; rw [List.mem_singleton.1 hx]; exact ⟨_, rfl⟩), ?_⟩
  show LeavesInM (FW none) 0 P fn a.tmps R a.defers (.panicking ch) w
  rw [hd]
  exact leaves_mark (by simp) ho (leaves_panic (h _ (Ext.putObj d _) (by simp)))
theorem panicM {ms : List Nat} {ch : List PanicEntry} {a : Act} (hd : a.defers = ms.map mark) (hn : ms.Nodup) (ho : ∀ d, d ∈ ms → ObjAt w d (.deferred (some [])))
    (h : ∀ w', Ext (· ∈ ms) w w' → w'.heap.size = w.heap.size → R (.panicked ch) w') : DQ P fn R (.panic ch) a w := by
  refine ⟨.inr (by rw [hd]; intro x hx; obtain ⟨d, _, rfl⟩ := List.mem_map.1 hx; exact ⟨_, rfl⟩), ?_⟩
  show LeavesInM (FW none) 0 P fn a.tmps R a.defers (.panicking ch) w
  rw [hd]
  exact leaves_marks (by simp) ms w hn ho fun w' he hz => leaves_panic (h w' he hz)
end
end Go.Proofs.Ytmgakpnejbembaa.L
