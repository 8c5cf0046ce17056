/-
  CondChoice: for every input the law returns true, and its argument reads as it did. What comes in is opened here: a program's trees, integers, as they lie in memory.
-/
import Derived.Test.YtmgakpnejbembaaRows
import Derived.Test.YtmgakpnejbembaaA29
import Derived.ProofKit
import Derived.ChangeSame
namespace Go.Proofs.Ytmgakpnejbembaa
open Go Go.Proofs.Ytmgakpnejbembaa.L Go.ChangeShapes Go.WideShapes Go.ChangeAt Go.RowKit

section
variable {H : Type} {enc : TypeId × Value → H} {w : World} {base : Nat} {spare : Nat → Bool} {held : Bool}
theorem cells_at {a : Addr} {n : Nat} {cs : List Value} (h : w.cells? base a n = some cs) : cs.length = n ∧ ∀ j v, cs[j]? = some v → w.cell? (a.add j) = some v := by
  unfold World.cells? at h
  split at h
  · have hl := mapM_some_length h
    rw [List.length_range] at hl
    refine ⟨hl, fun j v hj => ?_⟩
    have hjn : j < n := by rw [← hl]; exact (List.getElem?_eq_some_iff.1 hj).1
    have := mapM_some_get h j j (by rw [List.getElem?_range hjn])
    rw [this, hj]
  · cases h
theorem cell_parts {a : Addr} {v : Value} (h : w.cell? a = some v) : a.spot = none ∧ ∃ c e fr, w.heap[a.block]? = some (.cells c e fr) ∧ c[a.off]? = some v := by
  unfold World.cell? at h
  split at h
  · rename_i c e fr hb
    split at h
    · cases h
    · rename_i hs
      refine ⟨by cases hsp : a.spot <;> simp_all, c, e, fr, hb, h⟩
  · cases h
theorem add_off (a : Addr) (j : Nat) : (a.add j).block = a.block ∧ (a.add j).off = a.off + j := by
  unfold Addr.add
  split <;> simp_all
theorem at_of {a : Addr} {n : Nat} {cs : List Value} (h : w.cells? base a n = some cs) (hn : 0 < n) : a.spot = none ∧ At w.heap.size 0 w a.block a.off cs := by
  obtain ⟨hl, hc⟩ := cells_at h
  obtain ⟨v0, h0⟩ : ∃ v, cs[0]? = some v := ⟨cs[0], List.getElem?_eq_getElem (by omega)⟩
  have c0 := hc 0 v0 h0
  have e0 : a.add 0 = a := by simp [Addr.add]
  rw [e0] at c0
  obtain ⟨hs, c, e, fr, hb, _⟩ := cell_parts c0
  refine ⟨hs, (Array.getElem?_eq_some_iff.1 hb).1, c, e, fr, rfl, hb, fun j v hj => ?_⟩
  obtain ⟨_, c', e', fr', hb', hv⟩ := cell_parts (hc j v hj)
  rw [(add_off a j).1] at hb'
  rw [(add_off a j).2] at hv
  have := hb.symm.trans hb'
  simp only [Option.some.injEq, Obj.cells.injEq] at this
  rw [this.1]; exact hv
theorem trod_int {t : TypeId} {f : Nat} {c : Value} {x : DataW H × List MemPlace} (ht : Try.prog.underlying t = some (.int .i64)) (h : DataW.trod enc Try.prog w base spare held f t [c] = some x) : ∃ n, c = .int .i64 n := by
  obtain ⟨n, h1, _⟩ := DataW.trod_int ht h
  exact ⟨n, by simpa using h1⟩
theorem trod_slice {t e : TypeId} {f : Nat} {c : Value} {x : DataW H × List MemPlace} (ht : Try.prog.underlying t = some (.slice e)) (h : DataW.trod enc Try.prog w base spare held f t [c] = some x) :
    c = .slice none 0 0 ∨ ∃ a len cap, c = .slice (some a) len cap ∧ len ≤ cap ∧ cap ≤ 9223372036854775807 ∧ ∀ i, i < len → ∃ g cs y, g < f ∧ w.cells? base (a.add (i * Try.prog.cellsOf e)) (Try.prog.cellsOf e) = some cs ∧ DataW.trod enc Try.prog w base spare held g e cs = some y := by
  cases f with
  | zero => simp [DataW.trod] at h
  | succ g =>
    unfold DataW.trod at h
    rw [ht] at h
    cases c with
    | slice a len cap =>
      cases a with
      | none =>
        cases len with
        | zero => cases cap with
          | zero => exact .inl rfl
          | succ _ => simp at h
        | succ _ => simp at h
      | some a =>
        simp only at h
        split at h
        · rename_i hb
          rw [Option.bind_eq_some_iff] at h
          obtain ⟨elems, h1, _⟩ := h
          refine .inr ⟨a, len, cap, rfl, hb.2.1, by have := hb.2.2; simp only [maxLen] at this; omega, fun i hi => ?_⟩
          have h2 := mapM_some_get h1 i i (by rw [List.getElem?_range hi])
          have hl := mapM_some_length h1
          rw [List.length_range] at hl
          rw [List.getElem?_eq_getElem (by omega)] at h2
          rw [Option.bind_eq_some_iff] at h2
          obtain ⟨cs, h3, h4⟩ := h2
          exact ⟨g, cs, _, Nat.lt_succ_self g, h3, h4⟩
        · cases h
    | _ => simp at h
theorem list_of {α : Type} {P : Nat → α → Prop} : ∀ (n : Nat), (∀ i, i < n → ∃ x, P i x) → ∃ l : List α, l.length = n ∧ ∀ i x, l[i]? = some x → P i x
  | 0, _ => ⟨[], rfl, fun i x h => by simp at h⟩
  | n + 1, h => by
    obtain ⟨l, hl, hp⟩ := list_of n fun i hi => h i (by omega)
    obtain ⟨x, hx⟩ := h n (by omega)
    refine ⟨l ++ [x], by simp [hl], fun i y hy => ?_⟩
    by_cases hi : i < n
    · rw [List.getElem?_append_left (by omega)] at hy
      exact hp i y hy
    · rw [List.getElem?_append_right (by omega)] at hy
      have h0 : i - l.length = 0 := by
        rcases Nat.eq_zero_or_pos (i - l.length) with h | h
        · exact h
        · rw [List.getElem?_eq_none (by show 1 ≤ _; omega)] at hy; cases hy
      rw [h0] at hy
      simp only [List.getElem?_cons_zero, Option.some.injEq] at hy
      subst hy
      rw [show i = n by omega]; exact hx
/-- A slice that came in, its elements told. -/
theorem slice_row {α : Type} {t e sz : Nat} {csf : α → List Value} {Ok : α → Prop} {f : Nat} {c : Value} {x : DataW H × List MemPlace} (ht : Try.prog.underlying t = some (.slice e)) (hz : Try.prog.cellsOf e = sz) (hs : 0 < sz)
    (he : ∀ g cs y, g < f → cs.length = sz → DataW.trod enc Try.prog w base spare held g e cs = some y → ∃ x, cs = csf x ∧ Ok x) (h : DataW.trod enc Try.prog w base spare held f t [c] = some x) :
    ∃ a xs cap, c = .slice a xs.length cap ∧ xs.length ≤ cap ∧ xs.length ≤ 9223372036854775807 ∧ Row w.heap.size 0 sz csf w a xs ∧ ∀ x, x ∈ xs → Ok x := by
  rcases trod_slice ht h with rfl | ⟨a, len, cap, rfl, h1, h2, h3⟩
  · exact ⟨none, [], 0, rfl, Nat.le_refl _, by simp, Row.nil, fun x hx => by simp at hx⟩
  · rw [hz] at h3
    obtain ⟨xs, hl, hp⟩ := list_of (P := fun i x => (∃ cs, w.cells? base (a.add (i * sz)) sz = some cs ∧ cs = csf x) ∧ Ok x) len fun i hi => by
      obtain ⟨g, cs, y, hg, hc, hd⟩ := h3 i hi
      obtain ⟨x, hx, ho⟩ := he g cs y hg (cells_at hc).1 hd
      exact ⟨x, ⟨cs, hc, hx⟩, ho⟩
    subst hl
    refine ⟨some a, xs, cap, rfl, h1, by omega, fun i x hx => ?_, fun x hx => ?_⟩
    · obtain ⟨⟨cs, hc, rfl⟩, _⟩ := hp i x hx
      have hA := at_of hc hs
      have h0 : a.spot = none := by
        have hl0 : 0 < xs.length := by have := (List.getElem?_eq_some_iff.1 hx).1; omega
        obtain ⟨⟨cs0, hc0, _⟩, _⟩ := hp 0 _ (List.getElem?_eq_getElem hl0)
        have := (at_of hc0 hs).1
        simpa [Addr.add] using this
      rw [(add_off a _).1, (add_off a _).2] at hA
      obtain ⟨b, off, sp⟩ := a
      simp only at h0 hA
      subst h0
      exact ⟨b, off, rfl, hA.2⟩
    · obtain ⟨i, hi, rfl⟩ := List.getElem_of_mem hx
      exact (hp i _ (List.getElem?_eq_getElem hi)).2
set_option maxRecDepth 100000 in
theorem trod_tree : ∀ (f : Nat) (cs : List Value) (x : DataW H × List MemPlace), cs.length = 3 → DataW.trod enc Try.prog w base spare held f 60 cs = some x → ∃ t : X, cs = xCs t ∧ XOk w.heap.size w t
  | 0, cs, x, _, h => by simp [DataW.trod] at h
  | f + 1, cs, x, hl, h => by
    have e58 : Try.prog.cellsOf 58 = 1 := by kernel_rfl
    have e3 : Try.prog.cellsOf 3 = 1 := by kernel_rfl
    have e22 : Try.prog.cellsOf 22 = 1 := by kernel_rfl
    unfold DataW.trod at h
    rw [Try.underlying60] at h
    match cs, hl with
    | [c0, c1, c2], _ =>
      simp only at h
      split at h
      · rw [Option.map_eq_some_iff] at h
        obtain ⟨xs, h1, _⟩ := h
        simp only [List.mapM_cons, List.mapM_nil, e58, e3, e22, Option.bind_eq_bind, Option.bind_eq_some_iff, List.drop_zero, List.take_succ_cons, List.take_zero, List.drop_succ_cons] at h1
        obtain ⟨y0, g0, _, ⟨y1, g1, _, ⟨y2, g2, _⟩, _⟩, _⟩ := h1
        obtain ⟨n0, rfl⟩ := trod_int Try.underlying58 g0
        obtain ⟨n1, rfl⟩ := trod_int Try.underlying3 g1
        obtain ⟨a, kids, cap, rfl, k1, k2, k3, k4⟩ := slice_row (sz := 3) (csf := xCs) (Ok := XOk w.heap.size w) Try.underlying22 (by kernel_rfl) (by omega) (fun g cs y hg hcs hd => trod_tree g cs y hcs hd) g2
        exact ⟨.mk (n0, n1) a kids.length cap kids, rfl, .mk _ _ _ _ _ rfl k2 trivial k3 k4⟩
      · cases h
theorem trod_prog {f : Nat} {c : Value} {x : DataW H × List MemPlace} (h : DataW.trod enc Try.prog w base spare held f 22 [c] = some x) : ∃ p : LP, c = .slice p.a p.xs.length p.cap ∧ p.ok w.heap.size w := by
  obtain ⟨a, xs, cap, rfl, k1, k2, k3, k4⟩ := slice_row (sz := 3) (csf := xCs) (Ok := XOk w.heap.size w) Try.underlying22 (by kernel_rfl) (by omega) (fun g cs y hg hcs hd => trod_tree g cs y hcs hd) h
  exact ⟨⟨a, cap, xs⟩, rfl, k3, k2, k4⟩
theorem trod_ints {f : Nat} {c : Value} {x : DataW H × List MemPlace} (h : DataW.trod enc Try.prog w base spare held f 23 [c] = some x) : ∃ k : LS, c = .slice k.a k.xs.length k.cap ∧ k.okA w.heap.size w ∧ k.xs.length ≤ k.cap := by
  obtain ⟨a, xs, cap, rfl, k1, k2, k3, k4⟩ := slice_row (sz := 1) (csf := intCs) (Ok := fun _ => True) Try.underlying23 (by kernel_rfl) (by omega) (fun g cs y hg hcs hd => by
    match cs, hcs with
    | [c], _ =>
      obtain ⟨n, rfl⟩ := trod_int Try.underlying3 hd
      exact ⟨n, rfl, trivial⟩) h
  exact ⟨⟨a, cap, xs⟩, rfl, ⟨k3, k2⟩, k1⟩
set_option maxRecDepth 100000 in
theorem trod_given {v : Value} {d : DataW H} {ps : List MemPlace} (hv : ∃ cs, v = .agg cs ∧ cs.size = 4) (h : DataW.Trod enc Try.prog w base spare held 25 v d ps) :
    ∃ (p : LP) (hand : Int) (k : LS) (fuel : Int), v = .agg #[.slice p.a p.xs.length p.cap, .int .i64 hand, .slice k.a k.xs.length k.cap, .int .i64 fuel] ∧ p.ok w.heap.size w ∧ k.okA w.heap.size w ∧ k.xs.length ≤ k.cap := by
  obtain ⟨cs, rfl, hl⟩ := hv
  obtain ⟨f, h⟩ := h
  have e3 : Try.prog.cellsOf 3 = 1 := by kernel_rfl
  have e22 : Try.prog.cellsOf 22 = 1 := by kernel_rfl
  have e23 : Try.prog.cellsOf 23 = 1 := by kernel_rfl
  obtain ⟨l⟩ := cs
  have hl : l.length = 4 := by simpa using hl
  have h : DataW.trod enc Try.prog w base spare held f 25 l = some (d, ps) := h
  cases f with
  | zero => simp [DataW.trod] at h
  | succ f =>
    match l, hl with
    | [c0, c1, c2, c3], _ =>
      unfold DataW.trod at h
      rw [Try.underlying25] at h
      simp only at h
      have e25 : Try.prog.cellsOf 25 = 4 := by kernel_rfl
      rw [e25, if_pos (show [c0, c1, c2, c3].length = 4 from rfl)] at h
      · rw [Option.map_eq_some_iff] at h
        obtain ⟨xs, h1, _⟩ := h
        simp only [List.mapM_cons, List.mapM_nil, e22, e3, e23, Option.bind_eq_bind, Option.bind_eq_some_iff, List.drop_zero, List.take_succ_cons, List.take_zero, List.drop_succ_cons] at h1
        obtain ⟨y0, g0, _, ⟨y1, g1, _, ⟨y2, g2, _, ⟨y3, g3, _⟩, _⟩, _⟩, _⟩ := h1
        obtain ⟨p, rfl, hp⟩ := trod_prog g0
        obtain ⟨n1, rfl⟩ := trod_int Try.underlying3 g1
        obtain ⟨k, rfl, hk, hc⟩ := trod_ints g2
        obtain ⟨n3, rfl⟩ := trod_int Try.underlying3 g3
        exact ⟨p, n1, k, n3, rfl, hp, hk, hc⟩
end

theorem Try.own : ownKnob Try.prog.godebug = none := by kernel_rfl
theorem Try.laidOut : laidOutB Try.prog = true := by kernel_rfl
/-- The row's last step, where nothing old has turned. -/
theorem post_of_below {H : Type} {enc : TypeId × Value → H} {P : Program} {f : Func} {s : ChangeSpec} {apart fresh handsOn again : Bool} {W W' : World} {args : Array Value} {v : Value} {ds gs : List (DataW H)} {before pa pv : List MemPlace}
    (hW : DataW.Whole enc P f.params.toList s.vars apart W args.toList ds gs before)
    (hres : ∀ (b : Nat) (sp : Nat → Bool) (hd : Bool), DataW.TrodAll enc P W' b sp hd f.resultTypes.toList (v.resultList f.resultTypes.size) (s.fn H (ds ++ gs)).results [])
    (hargs : ∀ sp : Nat → Bool, (∀ p ∈ before, sp p.block = true) → DataW.TrodAll enc P W' 0 sp true f.params.toList args.toList (s.fn H (ds ++ gs)).args pa)
    (hvars : ∀ sp : Nat → Bool, (∀ p ∈ before, sp p.block = true) → DataW.TrodVars enc P W' sp s.vars (s.fn H (ds ++ gs)).vars pv)
    (hps : before = pa ++ pv) (hb : Below W.heap.size W W')
    (hok : ∀ (j : Nat) (t : TypeId) (r : Value), f.resultTypes[j]? = some t → (v.resultList f.resultTypes.size)[j]? = some r → Value.okWide P W' .any 0 t r) :
    s.post enc P f apart fresh handsOn again W args v W' := by
  have hlt : ∀ p ∈ before, p.block < W.heap.size := fun p hp => hW.lt p hp
  have hold : ∀ p ∈ before, (fun b => decide (b < W.heap.size)) p.block = true := fun p hp => by simpa using hlt p hp
  refine ⟨ds, gs, before, [], pa, pv, hW, hres _ _ _, hargs _ hold, hvars _ hold, World.keptBut_mono (fun p hp => ⟨hp, ?_⟩) (hb.frame (· ∈ before)), fun _ => ?_⟩
  · rw [hps, List.mem_append] at hp
    exact Or.inr hp
  · obtain ⟨_, _, _, _, _, hz, hn⟩ := hW
    refine ⟨hok, _, _, ([] ++ pa) ++ pv, ⟨[] ++ pa, pv, trodAll_append (hargs _ (fun _ _ => rfl)) (hres _ _ _), hvars _ (fun _ _ => rfl), rfl, ?_, ?_⟩, ?_⟩
    · intro b off hp
      have hin : MemPlace.cell b off ∈ before := by rw [hps]; simpa using hp
      rw [hb.frozen (hlt _ hin)]
      exact hz b off hin
    · intro ha
      have := hn ha
      rw [hps] at this
      simpa using this
    · intro p hp _
      rw [hps]
      simpa using hp

set_option maxRecDepth 100000 in
theorem choice_lifted (os : Os) (started : os.Started) (H : Type) (enc : TypeId × Value → H) :
    ReturnsInHanded {} Try.checked os 3 .any (Rows.condChoiceSpec.pre6 enc Try.prog Try.f3 Rows.condChoiceRow.domain false) (Rows.condChoiceSpec.post enc Try.prog Try.f3 false true false false) := by
  refine returnsInHanded_of_change (C := Try.checked) Try.own started (by kernel_rfl) Try.func3
    (ChangeSpec.witness6 (enc := enc) (C := Try.checked) false ⟨#[], #[.agg #[.slice none 0 0, .int .i64 0, .slice none 0 0, .int .i64 0]], []⟩ 8 (by kernel_rfl) (by kernel_rfl) (by kernel_rfl) (by kernel_rfl)) ?_
  intro W base args ds gs before hval0 hW hcnd _
  have hval : ∀ (j : Nat) t v, Try.f3.params[j]? = some t → args[j]? = some v → Value.okWide Try.prog W .any base t v := hval0
  have hW' := hW
  obtain ⟨p, q, hA0, hV, rfl, hfz, hnd⟩ := hW
  have hA : DataW.TrodAll enc Try.prog W 0 (fun _ => true) true Try.f3.params.toList args.toList ds p := hA0
  rw [Try.params3] at hA hval
  obtain ⟨v0, d0, rfl, rfl, h0⟩ := trodAll_one hA
  obtain ⟨rfl, rfl⟩ := trodVars_none hV
  have hsz : ∃ cs, v0 = .agg cs ∧ cs.size = 4 := by
    have h9 := hval 0 25 v0 rfl rfl
    unfold Value.okWide at h9
    rw [Try.underlying25] at h9
    obtain ⟨cs, h1, h2, _⟩ := h9
    exact ⟨cs, h1, h2.trans (by kernel_rfl)⟩
  obtain ⟨pp, hand, k, fuel, rfl, hp, hk, hc⟩ := trod_given hsz h0
  clear hA0 hval0
  simp only [List.append_nil] at hW'
  refine (CondChoice_spec W.heap.size pp k hand fuel W hp hk hc (Nat.le_refl _)).mono fun e W' ⟨hE, he⟩ => ?_
  subst he
  have hlt : ∀ x, x ∈ p → x.block < W.heap.size := fun x hx => hW'.lt x hx
  refine ⟨_, rfl, post_of_below (pa := p) (pv := []) hW' (fun _ _ _ => trodAll_mk1 (shut_bool Try.underlying4 true)) (fun sp hsp => trodAll_mk1 ?_) (fun _ _ => rfl) (by simp) hE.below (ok_one (by kernel_rfl) rfl (okWide_bool_mk Try.underlying4 true))⟩
  exact WideElems.Trod_stays Try.laidOut (by kernel_rfl) (of_decide_eq_true (by kernel_rfl)) h0 (fun x hx => hE.below.same (hlt x hx)) (fun x hx => hsp x hx)

theorem CondChoice_holds : Rows.CondChoiceSaid :=
  OpenClaim.holds_of_wide 3 Try.f3 rfl rfl rfl rfl rfl rfl rfl ⟨rfl, rfl, rfl, rfl, rfl⟩ rfl rfl rfl rfl rfl (by kernel_rfl) Try.func3 (by kernel_rfl)
    (of_decide_eq_true (by kernel_rfl)) (by unfold Func.isWrapper; first | (rw [if_pos (by decide +kernel)]; kernel_rfl) | (rw [if_neg (by decide +kernel)]; exact ⟨rfl, rfl⟩))
    (fun os started H enc _ => choice_lifted os started H enc)
end Go.Proofs.Ytmgakpnejbembaa
