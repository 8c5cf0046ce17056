/-
  CondChoice, a part of the proof (printed by a program of the prover): what functions of the given program compute, each under the conditions that its theorem names.
-/
import Derived.Test.YtmgakpnejbembaaA26
import Derived.Test.YtmgakpnejbembaaA27
namespace Go.Proofs.Ytmgakpnejbembaa
open Go Go.Proofs.Ytmgakpnejbembaa.L

theorem ContainsFunc_pure {n : Nat} {a : Option Addr} {c : Nat} {f : Value} {xs : List LE} {w : World} (P9 : LE → Bool) (hl : xs.length ≤ 9223372036854775807) (hrow : Row n 43 5 evCs w a xs)
    (hf : ∀ x w', x ∈ xs → Ext E0 w w' → CallsV Try.prog (callSem f #[.agg (evCs x).toArray]) w' (fun e w'' => Ext E0 w' w'' ∧ e = .returned (.bool (P9 x)))) :
    Calls Try.prog 10 #[.slice a xs.length c, f] w (fun e w' => Ext E0 w w' ∧ e = .returned (.bool (xs.any P9))) := by
  refine (ContainsFunc_ev n a c f xs (fun i w' => Ext E0 w w' ∧ ∀ j x, j < i → xs[j]? = some x → P9 x = false) (fun _ w' => Ext E0 w w' ∧ ∃ x, x ∈ xs ∧ P9 x = true) w hl (fun i w' h => hrow.pres (.of0 h.1)) ?_ ⟨Ext.refl _, fun j x h => absurd h (Nat.not_lt_zero _)⟩).mono ?_
  · rintro i x w1 hx ⟨hE, hj⟩
    refine (hf x w1 (List.mem_of_getElem? hx) hE).mono ?_
    rintro _ w2 ⟨E2, rfl⟩
    cases hp : P9 x with
    | true => exact .inr ⟨rfl, hE.trans E2, x, List.mem_of_getElem? hx, hp⟩
    | false =>
      refine .inl ⟨rfl, hE.trans E2, fun j y hj' hy => ?_⟩
      rcases Nat.lt_succ_iff_lt_or_eq.1 hj' with h | rfl
      · exact hj j y h hy
      · rw [hx] at hy; injection hy with e; subst e; exact hp
  · rintro e w' (⟨rfl, hE, hj⟩ | ⟨i, hi, rfl, hE, x, hx, hp⟩)
    · refine ⟨hE, ?_⟩
      have : xs.any P9 = false := by
        rw [List.any_eq_false]
        intro x hx
        obtain ⟨j, hj', e⟩ := List.getElem_of_mem hx
        rw [hj j x hj' (by rw [List.getElem?_eq_getElem hj', e])]; simp
      rw [this]
    · refine ⟨hE, ?_⟩
      have : xs.any P9 = true := List.any_eq_true.2 ⟨x, hx, hp⟩
      rw [this]
theorem choice_cases {p : List X} {hand fuel : Int} {ks : List Int} {r1 r2 : LRun} {rows : List LS} (hf : fineS p = true) (h1 : r1.is (driveS p hand [] fuel.toNat)) (h2 : r2.is (driveS p hand ks fuel.toNat)) (hrs : rows.map LS.xs = p.map (errS p 160)) :
    ∃ s0 rest, rows = s0 :: rest ∧ ((r1.fin ≠ 2 ∧ r2.fin = r1.fin ∧ r2.val = r1.val ∧ r2.les.map LE.ev = r1.les.map LE.ev ∧ r2.fuel = r1.fuel) ∨
      (r1.fin = 2 ∧ (r1.les.any fun y => decide (y.deed = 2) && s0.xs.contains y.n) = true ∧ r2.fin = r1.fin ∧ r2.val = r1.val ∧ r2.les.map LE.ev = r1.les.map LE.ev ∧ r2.fuel = r1.fuel) ∨
      (r1.fin = 2 ∧ (r1.les.any fun y => decide (y.deed = 2) && s0.xs.contains y.n) = true ∧ ∃ q qs e, ks = q :: qs ∧ r2.les[r1.les.length]? = some e ∧ (r2.les.take r1.les.length).map LE.ev = r1.les.map LE.ev ∧ r1.les.length < r2.les.length ∧ e.deed = 4 ∧ 0 < e.r.xs.length ∧ e.r.xs.getD (q % e.r.xs.length).toNat 0 = e.n ∧
        (r1.les.any fun y => decide (y.deed = 2) && s0.xs.contains y.n && decide (y.val = e.val) && (y.h.xs == e.h.xs) && (y.r.xs == e.r.xs)) = true)) := by
  obtain ⟨_, hp1, _⟩ := wf_fine hf
  cases rows with
  | nil => simp at hrs; subst hrs; simp at hp1
  | cons s0 rest =>
    refine ⟨s0, rest, rfl, ?_⟩
    cases p with
    | nil => simp at hp1
    | cons x0 pr =>
      simp only [List.map_cons, List.cons.injEq] at hrs
      have hx0 : (x0 :: pr).getD 0 default = x0 := rfl
      have hany : ∀ (Q : LE → Bool) (y : Ev), y ∈ r1.les.map LE.ev → (∀ l, l.ev = y → Q l = true) → r1.les.any Q = true := fun Q y hy hQ => by
        obtain ⟨l, hl, rfl⟩ := List.mem_map.1 hy
        exact List.any_eq_true.2 ⟨l, hl, hQ l rfl⟩
      rcases choice_pure hf hand ks fuel.toNat with ⟨g1, g2⟩ | ⟨g1, ⟨y, g2, g3, g4⟩, g5⟩
      · rw [g2] at h2
        exact .inl ⟨by rw [h1.1]; exact g1, by rw [h1.1, h2.1], by rw [h1.2.1, h2.2.1], by rw [h1.2.2.1, h2.2.2.1], by rw [h1.2.2.2, h2.2.2.2]⟩
      · rw [hx0, ← hrs.1] at g4
        have a1 : (r1.les.any fun y => decide (y.deed = 2) && s0.xs.contains y.n) = true := hany _ y (by rw [h1.2.2.1]; exact g2) (fun l hl => by subst hl; simp only [Bool.and_eq_true, decide_eq_true_eq]; exact ⟨g3, List.contains_iff_mem.2 g4⟩)
        rcases g5 with g5 | ⟨q, qs, e, more, y', k1, k2, k3, k4, k5, k6, k7, k8, k9, k10, k11⟩
        · rw [g5] at h2
          exact .inr (.inl ⟨by rw [h1.1]; exact g1, a1, by rw [h1.1, h2.1], by rw [h1.2.1, h2.2.1], by rw [h1.2.2.1, h2.2.2.1], by rw [h1.2.2.2, h2.2.2.2]⟩)
        · have e2 := h2.2.2.1
          rw [k2, ← h1.2.2.1] at e2
          have hlen : r1.les.length < r2.les.length := by
            have := congrArg List.length e2
            simp at this; omega
          have hat : (r2.les.map LE.ev)[r1.les.length]? = some e := by
            rw [e2, List.getElem?_append_right (by simp)]; simp
          rw [List.getElem?_map, Option.map_eq_some_iff] at hat
          obtain ⟨el, hel, rfl⟩ := hat
          rw [hx0, ← hrs.1] at k8
          refine .inr (.inr ⟨by rw [h1.1]; exact g1, a1, q, qs, el, k1, hel, ?_, hlen, k3, k4, k5, ?_⟩)
          · rw [List.map_take, e2, List.take_append_of_le_length (by simp), List.take_of_length_le (by simp)]
          · refine hany _ y' (by rw [h1.2.2.1]; exact k6) (fun l hl => ?_)
            subst hl
            simp only [Bool.and_eq_true, decide_eq_true_eq, beq_iff_eq]
            exact ⟨⟨⟨⟨k7, List.contains_iff_mem.2 k8⟩, k9⟩, k10⟩, k11⟩
theorem add0 (x : Addr) : x.add 0 = x := by cases x with | mk b o s => cases s <;> simp [Addr.add]
theorem run_head {a : Option Addr} {len cap h : Nat} {w : World} {n : Nat} {xs : List LE} (hl : len = xs.length) (hh : h ≤ len) (hc : len ≤ cap) (hr : Row n 43 5 evCs w a xs) :
    ∃ a' c', (∀ w', (Instr.sliceAt 27 (.slice a len cap) none (some (.int .i64 ((h : Nat) : Int))) none).run Try.prog w' = .ok (.slice a' h c') w') ∧ Row n 43 5 evCs w a' (xs.take h) := by
  refine ⟨if cap = 0 then a else a, cap, fun w' => ?_, ?_⟩
  · rw [run_sliceAt_slice (P := Try.prog) w' 27 _ _ _ _ (by kernel_rfl), run_slice_h (P := Try.prog) w' 27 _ len cap (by kernel_rfl) .i64 ((h : Nat) : Int) (by omega) (by omega)]
    have : (sizeOf (Try.prog.elem 27)).run Try.prog w' = .ok 5 w' := by kernel_rfl
    rw [this]
    simp only [Result.andThen_ok, sliced, Int.toNat_natCast, Nat.sub_zero]
    split <;> cases a <;> simp_all [add0, addr_add]
  · intro i x hx
    rw [List.getElem?_take] at hx
    split at hx
    · have := hr i x hx
      split <;> exact this
    · cases hx

theorem pred1_spec (n bl : Nat) (x : LE) (oa : Option Addr) (oc : Nat) (rows rest : List LS) (s0 : LS) (w : World) (hB : Blk w bl [.slice oa rows.length oc] 34) (hrow : Row n 23 1 lsCs w oa rows) (hok : RowsOk n w rows) (hr : rows = s0 :: rest) :
    Calls Try.prog 11 #[.agg #[iV x.deed, iV x.n, iV x.val, .slice x.h.a x.h.xs.length x.h.cap, .slice x.r.a x.r.xs.length x.r.cap], pT bl] w (fun e w' => Ext E0 w w' ∧ e = .returned (.bool (decide (x.deed = 2) && s0.xs.contains x.n))) := by
 refine calls_of_S (n := 15) Try.func11 rfl rfl (by kernel_rfl) ?_
 have hrl : rows.length = rest.length + 1 := by rw [hr]; rfl
 refine S.seq (S.region (S.one (by kernel_rfl) (S.new 2 [iV x.deed, iV x.n, iV x.val, .slice x.h.a x.h.xs.length x.h.cap, .slice x.r.a x.r.xs.length x.r.cap] 43 (fun b => pT b) (by kernel_rfl) (by kernel_rfl) (fun b => by kernel_rfl) (fun b1 w1 E1 B1 e1 z1 => ?_))))
 have sE1 := E1.size
 refine S.run 1 [] [1, 2] (rs := []) (κ' := [(1, pT bl), (2, pT b1)]) (by kernel_rfl) (by kernel_rfl) rfl ?_
 refine S.regEnd (by kernel_rfl) (S.seq (S.drawN 12 #[false, false, false, false, false, false, false, false, false, false, false, false] 12 (fun u u' => Ext E0 u u') (fun u u' => Ext E0 u u') (by kernel_rfl) (by kernel_rfl) (by kernel_rfl) (fun w2 E2 z2 => ?_)))
 have sE2 := E2.size
 have B3 := B1.ext0 E2
 refine S.dreads bodyPost_panicOk [0, 1, 2, 3] 8 [.v (iV x.deed)] [1, 2, 7] (rs := [.load ⟨b1, 0, none⟩ (iV x.deed)]) (κ' := [(1, pT bl), (2, pT b1), (7, .bool (x.deed == 2))]) (l' := #[true, true, true, true, false, false, false, false, false, false, false, false]) (by kernel_rfl) (by kernel_rfl) (by kernel_rfl) (fun w' hw => have hw := hw.elim id id; (.load ((B3.ext0 hw).cell 0 rfl) .nil)) ?_
 refine S.both 7 (x.deed == 2) (by kernel_rfl) (fun c4 => ?_) (fun c4 => ?_)
 ·skip
  have p5 : x.deed = 2 := by simpa using c4
  have B6 := hB.ext0 E1
  have B7 := B6.ext0 E2
  refine S.dreads bodyPost_panicOk [4, 7, 8] 5 [.v (.slice oa rows.length oc), .v (iV x.n)] [7, 8, 12] (rs := [.load ⟨bl, 0, none⟩ (.slice oa rows.length oc), .load ⟨b1, 1, none⟩ (iV x.n)]) (κ' := [(7, .bool true), (8, .slice oa rows.length oc), (12, iV x.n)]) (l' := #[true, true, true, true, true, false, false, true, true, false, false, false]) (by kernel_rfl) (by kernel_rfl) (by kernel_rfl) (fun w' hw => have hw := hw.elim id id; (.load ((B7.ext0 hw).cell 0 rfl) (.load ((B3.ext0 hw).cell 1 rfl) .nil))) ?_
  have R8 := hrow.pres (.of0 E1)
  have R9 := R8.pres (.of0 E2)
  obtain ⟨b10, o10, h10, H10⟩ := R9 0 s0 (by rw [hr]; rfl)
  have T11 := hok.pres (.of0 E1)
  have T12 := T11.pres (.of0 E2)
  have K10 := T12 s0 (by rw [hr]; exact List.mem_cons_self ..)
  have L10 := K10.2
  refine S.dlaw bodyPost_panicOk 5 9 4 (v := .pointer (some ⟨b10, o10 + 0 * 1, none⟩)) (l' := #[true, true, true, true, true, true, false, true, true, false, false, false]) (by kernel_rfl) (by kernel_rfl) (by kernel_rfl) (by kernel_rfl) (fun w' hw => lawRun (s := Instr.indexAt 34 (.slice oa rows.length oc) (.int .i64 0)) (by kernel_rfl) (run_idx (e := 23) 0 h10 (by kernel_rfl) (by kernel_rfl) (by omega))) ?_
  refine S.dreads bodyPost_panicOk [6] 3 [.v (.slice s0.a s0.xs.length s0.cap)] [7, 10, 12] (rs := [.load ⟨b10, o10 + 0 * 1, none⟩ (.slice s0.a s0.xs.length s0.cap)]) (κ' := [(7, .bool true), (10, .slice s0.a s0.xs.length s0.cap), (12, iV x.n)]) (l' := #[true, true, true, true, true, true, true, true, true, false, false, false]) (by kernel_rfl) (by kernel_rfl) (by kernel_rfl) (fun w' hw => have hw := hw.elim id id; (.load ((H10.pres (.of0 hw)).cell0 rfl) .nil)) ?_
  refine S.dnext (j := 9) (l' := #[true, true, true, true, true, true, true, true, true, true, false, false]) (by kernel_rfl) (by kernel_rfl) (sw1 (by kernel_rfl) (Ext.refl _)) ?_
  refine S.call (dst := some 13) (f := 12) (args := #[.slice s0.a s0.xs.length s0.cap, iV x.n]) (by kernel_rfl) (by kernel_rfl) ((Contains_int n s0.a s0.cap x.n s0.xs _ K10.1 (by omega)).mono ?_)
  rintro _ w13 ⟨E13, rfl⟩
  refine After.ret (by kernel_rfl) ?_
  have sE13 := E13.size
  refine S.dreads bodyPost_panicOk [10, 11] 0 [] [3] (rs := []) (κ' := [(3, .bool (s0.xs.contains x.n))]) (l' := #[true, true, true, true, true, true, true, true, true, true, true, true]) (by kernel_rfl) (by kernel_rfl) (by kernel_rfl) (fun _ _ => rfl) ?_
  refine S.dend (by kernel_rfl) (sw1 (by kernel_rfl) E13) ?_
  exact S.ret1 (v := .bool (s0.xs.contains x.n)) rfl (by kernel_rfl) ⟨(E1.trans E2).trans E13, by simp [*]⟩
 ·skip
  have p14 : x.deed ≠ 2 := by simpa using c4
  refine S.dreads bodyPost_panicOk [4, 5, 6, 7, 8, 9, 10, 11] 0 [] [3] (rs := []) (κ' := [(3, .bool false)]) (l' := #[true, true, true, true, true, true, true, true, true, true, true, true]) (by kernel_rfl) (by kernel_rfl) (by kernel_rfl) (fun _ _ => rfl) ?_
  refine S.dend (by kernel_rfl) (sw1 (by kernel_rfl) (Ext.refl _)) ?_
  exact S.ret1 (v := .bool false) rfl (by kernel_rfl) ⟨E1.trans E2, by simp [*]⟩

theorem pred2_spec (n bl bx : Nat) (x y : LE) (oa : Option Addr) (oc : Nat) (rows rest : List LS) (s0 : LS) (w : World) (hB : Blk w bl [.slice oa rows.length oc] 34) (hX : Blk w bx (evCs x) 43) (hrow : Row n 23 1 lsCs w oa rows) (hok : RowsOk n w rows) (hr : rows = s0 :: rest) (hx : x.ok n w) (hy : y.ok n w) :
    Calls Try.prog 13 #[.agg #[iV y.deed, iV y.n, iV y.val, .slice y.h.a y.h.xs.length y.h.cap, .slice y.r.a y.r.xs.length y.r.cap], pT bl, pT bx] w (fun e w' => Ext E0 w w' ∧ e = .returned (.bool (decide (y.deed = 2) && s0.xs.contains y.n && decide (y.val = x.val) && (y.h.xs == x.h.xs) && (y.r.xs == x.r.xs)))) := by
 refine calls_of_S (n := 37) Try.func13 rfl rfl (by kernel_rfl) ?_
 have hrl : rows.length = rest.length + 1 := by rw [hr]; rfl
 refine S.seq (S.region (S.one (by kernel_rfl) (S.new 3 [iV y.deed, iV y.n, iV y.val, .slice y.h.a y.h.xs.length y.h.cap, .slice y.r.a y.r.xs.length y.r.cap] 43 (fun b => pT b) (by kernel_rfl) (by kernel_rfl) (fun b => by kernel_rfl) (fun b1 w1 E1 B1 e1 z1 => ?_))))
 have sE1 := E1.size
 refine S.run 1 [] [1, 2, 3] (rs := []) (κ' := [(1, pT bl), (2, pT bx), (3, pT b1)]) (by kernel_rfl) (by kernel_rfl) rfl ?_
 refine S.regEnd (by kernel_rfl) (S.seq (S.drawN 33 #[false, false, false, false, false, false, false, false, false, false, false, false, false, false, false, false, false, false, false, false, false, false, false, false, false, false, false, false, false, false, false, false, false] 33 (fun u u' => Ext E0 u u') (fun u u' => Ext E0 u u') (by kernel_rfl) (by kernel_rfl) (by kernel_rfl) (fun w2 E2 z2 => ?_)))
 have sE2 := E2.size
 have B3 := B1.ext0 E2
 refine S.dreads bodyPost_panicOk [0, 1, 2, 3] 29 [.v (iV y.deed)] [1, 2, 3, 8] (rs := [.load ⟨b1, 0, none⟩ (iV y.deed)]) (κ' := [(1, pT bl), (2, pT bx), (3, pT b1), (8, .bool (y.deed == 2))]) (l' := #[true, true, true, true, false, false, false, false, false, false, false, false, false, false, false, false, false, false, false, false, false, false, false, false, false, false, false, false, false, false, false, false, false]) (by kernel_rfl) (by kernel_rfl) (by kernel_rfl) (fun w' hw => have hw := hw.elim id id; (.load ((B3.ext0 hw).cell 0 rfl) .nil)) ?_
 refine S.both 8 (y.deed == 2) (by kernel_rfl) (fun c4 => ?_) (fun c4 => ?_)
 ·skip
  have p5 : y.deed = 2 := by simpa using c4
  have B6 := hB.ext0 E1
  have B7 := B6.ext0 E2
  refine S.dreads bodyPost_panicOk [4, 7, 8] 26 [.v (.slice oa rows.length oc), .v (iV y.n)] [2, 3, 8, 9, 13] (rs := [.load ⟨bl, 0, none⟩ (.slice oa rows.length oc), .load ⟨b1, 1, none⟩ (iV y.n)]) (κ' := [(2, pT bx), (3, pT b1), (8, .bool true), (9, .slice oa rows.length oc), (13, iV y.n)]) (l' := #[true, true, true, true, true, false, false, true, true, false, false, false, false, false, false, false, false, false, false, false, false, false, false, false, false, false, false, false, false, false, false, false, false]) (by kernel_rfl) (by kernel_rfl) (by kernel_rfl) (fun w' hw => have hw := hw.elim id id; (.load ((B7.ext0 hw).cell 0 rfl) (.load ((B3.ext0 hw).cell 1 rfl) .nil))) ?_
  have R8 := hrow.pres (.of0 E1)
  have R9 := R8.pres (.of0 E2)
  obtain ⟨b10, o10, h10, H10⟩ := R9 0 s0 (by rw [hr]; rfl)
  have T11 := hok.pres (.of0 E1)
  have T12 := T11.pres (.of0 E2)
  have K10 := T12 s0 (by rw [hr]; exact List.mem_cons_self ..)
  have L10 := K10.2
  refine S.dlaw bodyPost_panicOk 5 10 25 (v := .pointer (some ⟨b10, o10 + 0 * 1, none⟩)) (l' := #[true, true, true, true, true, true, false, true, true, false, false, false, false, false, false, false, false, false, false, false, false, false, false, false, false, false, false, false, false, false, false, false, false]) (by kernel_rfl) (by kernel_rfl) (by kernel_rfl) (by kernel_rfl) (fun w' hw => lawRun (s := Instr.indexAt 34 (.slice oa rows.length oc) (.int .i64 0)) (by kernel_rfl) (run_idx (e := 23) 0 h10 (by kernel_rfl) (by kernel_rfl) (by omega))) ?_
  refine S.dreads bodyPost_panicOk [6] 24 [.v (.slice s0.a s0.xs.length s0.cap)] [2, 3, 8, 11, 13] (rs := [.load ⟨b10, o10 + 0 * 1, none⟩ (.slice s0.a s0.xs.length s0.cap)]) (κ' := [(2, pT bx), (3, pT b1), (8, .bool true), (11, .slice s0.a s0.xs.length s0.cap), (13, iV y.n)]) (l' := #[true, true, true, true, true, true, true, true, true, false, false, false, false, false, false, false, false, false, false, false, false, false, false, false, false, false, false, false, false, false, false, false, false]) (by kernel_rfl) (by kernel_rfl) (by kernel_rfl) (fun w' hw => have hw := hw.elim id id; (.load ((H10.pres (.of0 hw)).cell0 rfl) .nil)) ?_
  refine S.dnext (j := 9) (l' := #[true, true, true, true, true, true, true, true, true, true, false, false, false, false, false, false, false, false, false, false, false, false, false, false, false, false, false, false, false, false, false, false, false]) (by kernel_rfl) (by kernel_rfl) (sw1 (by kernel_rfl) (Ext.refl _)) ?_
  refine S.call (dst := some 14) (f := 12) (args := #[.slice s0.a s0.xs.length s0.cap, iV y.n]) (by kernel_rfl) (by kernel_rfl) ((Contains_int n s0.a s0.cap y.n s0.xs _ K10.1 (by omega)).mono ?_)
  rintro _ w13 ⟨E13, rfl⟩
  refine After.ret (by kernel_rfl) ?_
  have sE13 := E13.size
  refine S.dreads bodyPost_panicOk [10, 11] 21 [] [2, 3, 16] (rs := []) (κ' := [(2, pT bx), (3, pT b1), (16, .bool (s0.xs.contains y.n))]) (l' := #[true, true, true, true, true, true, true, true, true, true, true, true, false, false, false, false, false, false, false, false, false, false, false, false, false, false, false, false, false, false, false, false, false]) (by kernel_rfl) (by kernel_rfl) (by kernel_rfl) (fun _ _ => rfl) ?_
  refine S.both 16 (s0.xs.contains y.n) (by kernel_rfl) (fun c14 => ?_) (fun c14 => ?_)
  ·skip
   have B15 := hX.ext0 E1
   have B16 := B15.ext0 E2
   refine S.dreads bodyPost_panicOk [12, 13, 14, 15, 16, 17, 18] 14 [.v (iV y.val), .v (iV x.val)] [2, 3, 23] (rs := [.load ⟨b1, 2, none⟩ (iV y.val), .load ⟨bx, 2, none⟩ (iV x.val)]) (κ' := [(2, pT bx), (3, pT b1), (23, .bool (y.val == x.val))]) (l' := #[true, true, true, true, true, true, true, true, true, true, true, true, true, true, true, true, true, true, true, false, false, false, false, false, false, false, false, false, false, false, false, false, false]) (by kernel_rfl) (by kernel_rfl) (by kernel_rfl) (fun w' hw => have hw := hw.elim id id; (.load ((B3.ext0 hw).cell 2 rfl) (.load ((B16.ext0 hw).cell 2 rfl) .nil))) ?_
   refine S.both 23 (y.val == x.val) (by kernel_rfl) (fun c17 => ?_) (fun c17 => ?_)
   ·skip
    have p18 : y.val = x.val := by simpa using c17
    refine S.dreads bodyPost_panicOk [19, 20, 21, 22] 10 [.v (.slice y.h.a y.h.xs.length y.h.cap), .v (.slice x.h.a x.h.xs.length x.h.cap)] [2, 3, 23, 25, 27] (rs := [.load ⟨b1, 3, none⟩ (.slice y.h.a y.h.xs.length y.h.cap), .load ⟨bx, 3, none⟩ (.slice x.h.a x.h.xs.length x.h.cap)]) (κ' := [(2, pT bx), (3, pT b1), (23, .bool true), (25, .slice y.h.a y.h.xs.length y.h.cap), (27, .slice x.h.a x.h.xs.length x.h.cap)]) (l' := #[true, true, true, true, true, true, true, true, true, true, true, true, true, true, true, true, true, true, true, true, true, true, true, false, false, false, false, false, false, false, false, false, false]) (by kernel_rfl) (by kernel_rfl) (by kernel_rfl) (fun w' hw => have hw := hw.elim id id; (.load ((B3.ext0 hw).cell 3 rfl) (.load ((B16.ext0 hw).cell 3 rfl) .nil))) ?_
    refine S.dnext (j := 23) (l' := #[true, true, true, true, true, true, true, true, true, true, true, true, true, true, true, true, true, true, true, true, true, true, true, true, false, false, false, false, false, false, false, false, false]) (by kernel_rfl) (by kernel_rfl) (sw1 (by kernel_rfl) E13) ?_
    have R19 := hy.1.1.pres (.of0 E1)
    have R20 := R19.pres (.of0 E2)
    have R21 := R20.pres (.of0 E13)
    have R22 := hx.1.1.pres (.of0 E1)
    have R23 := R22.pres (.of0 E2)
    have R24 := R23.pres (.of0 E13)
    refine S.call (dst := some 28) (f := 14) (args := #[.slice y.h.a y.h.xs.length y.h.cap, .slice x.h.a x.h.xs.length x.h.cap]) (by kernel_rfl) (by kernel_rfl) ((Equal_spec _ _ _ _ _ _ _ _ _ R21 R24 hy.1.2 hx.1.2).mono ?_)
    rintro _ w25 ⟨E25, rfl⟩
    refine After.ret (by kernel_rfl) ?_
    have sE25 := E25.size
    refine S.dreads bodyPost_panicOk [24, 25] 7 [] [2, 3, 30] (rs := []) (κ' := [(2, pT bx), (3, pT b1), (30, .bool (y.h.xs == x.h.xs))]) (l' := #[true, true, true, true, true, true, true, true, true, true, true, true, true, true, true, true, true, true, true, true, true, true, true, true, true, true, false, false, false, false, false, false, false]) (by kernel_rfl) (by kernel_rfl) (by kernel_rfl) (fun _ _ => rfl) ?_
    refine S.both 30 (y.h.xs == x.h.xs) (by kernel_rfl) (fun c26 => ?_) (fun c26 => ?_)
    ·skip
     refine S.dreads bodyPost_panicOk [26, 27, 28, 29] 3 [.v (.slice y.r.a y.r.xs.length y.r.cap), .v (.slice x.r.a x.r.xs.length x.r.cap)] [30, 32, 34] (rs := [.load ⟨b1, 4, none⟩ (.slice y.r.a y.r.xs.length y.r.cap), .load ⟨bx, 4, none⟩ (.slice x.r.a x.r.xs.length x.r.cap)]) (κ' := [(30, .bool true), (32, .slice y.r.a y.r.xs.length y.r.cap), (34, .slice x.r.a x.r.xs.length x.r.cap)]) (l' := #[true, true, true, true, true, true, true, true, true, true, true, true, true, true, true, true, true, true, true, true, true, true, true, true, true, true, true, true, true, true, false, false, false]) (by kernel_rfl) (by kernel_rfl) (by kernel_rfl) (fun w' hw => have hw := hw.elim id id; (.load ((B3.ext0 hw).cell 4 rfl) (.load ((B16.ext0 hw).cell 4 rfl) .nil))) ?_
     refine S.dnext (j := 30) (l' := #[true, true, true, true, true, true, true, true, true, true, true, true, true, true, true, true, true, true, true, true, true, true, true, true, true, true, true, true, true, true, true, false, false]) (by kernel_rfl) (by kernel_rfl) (sw1 (by kernel_rfl) (E13.trans E25)) ?_
     have R27 := hy.2.1.pres (.of0 E1)
     have R28 := R27.pres (.of0 E2)
     have R29 := R28.pres (.of0 E13)
     have R30 := R29.pres (.of0 E25)
     have R31 := hx.2.1.pres (.of0 E1)
     have R32 := R31.pres (.of0 E2)
     have R33 := R32.pres (.of0 E13)
     have R34 := R33.pres (.of0 E25)
     refine S.call (dst := some 35) (f := 14) (args := #[.slice y.r.a y.r.xs.length y.r.cap, .slice x.r.a x.r.xs.length x.r.cap]) (by kernel_rfl) (by kernel_rfl) ((Equal_spec _ _ _ _ _ _ _ _ _ R30 R34 hy.2.2 hx.2.2).mono ?_)
     rintro _ w35 ⟨E35, rfl⟩
     refine After.ret (by kernel_rfl) ?_
     have sE35 := E35.size
     refine S.dreads bodyPost_panicOk [31, 32] 0 [] [4] (rs := []) (κ' := [(4, .bool (y.r.xs == x.r.xs))]) (l' := #[true, true, true, true, true, true, true, true, true, true, true, true, true, true, true, true, true, true, true, true, true, true, true, true, true, true, true, true, true, true, true, true, true]) (by kernel_rfl) (by kernel_rfl) (by kernel_rfl) (fun _ _ => rfl) ?_
     refine S.dend (by kernel_rfl) (sw1 (by kernel_rfl) ((E13.trans E25).trans E35)) ?_
     exact S.ret1 (v := .bool (y.r.xs == x.r.xs)) rfl (by kernel_rfl) ⟨(((E1.trans E2).trans E13).trans E25).trans E35, by simp_all⟩
    ·skip
     refine S.dreads bodyPost_panicOk [26, 27, 28, 29, 30, 31, 32] 0 [] [4] (rs := []) (κ' := [(4, .bool false)]) (l' := #[true, true, true, true, true, true, true, true, true, true, true, true, true, true, true, true, true, true, true, true, true, true, true, true, true, true, true, true, true, true, true, true, true]) (by kernel_rfl) (by kernel_rfl) (by kernel_rfl) (fun _ _ => rfl) ?_
     refine S.dend (by kernel_rfl) (sw1 (by kernel_rfl) (E13.trans E25)) ?_
     exact S.ret1 (v := .bool false) rfl (by kernel_rfl) ⟨((E1.trans E2).trans E13).trans E25, by simp_all⟩
   ·skip
    have p36 : y.val ≠ x.val := by simpa using c17
    refine S.dreads bodyPost_panicOk [19, 20, 21, 22, 23, 24, 25, 26, 27, 28, 29, 30, 31, 32] 0 [] [4] (rs := []) (κ' := [(4, .bool false)]) (l' := #[true, true, true, true, true, true, true, true, true, true, true, true, true, true, true, true, true, true, true, true, true, true, true, true, true, true, true, true, true, true, true, true, true]) (by kernel_rfl) (by kernel_rfl) (by kernel_rfl) (fun _ _ => rfl) ?_
    refine S.dend (by kernel_rfl) (sw1 (by kernel_rfl) E13) ?_
    exact S.ret1 (v := .bool false) rfl (by kernel_rfl) ⟨(E1.trans E2).trans E13, by simp_all⟩
  ·skip
   refine S.dreads bodyPost_panicOk [12, 13, 14, 15, 16, 17, 18, 19, 20, 21, 22, 23, 24, 25, 26, 27, 28, 29, 30, 31, 32] 0 [] [4] (rs := []) (κ' := [(4, .bool false)]) (l' := #[true, true, true, true, true, true, true, true, true, true, true, true, true, true, true, true, true, true, true, true, true, true, true, true, true, true, true, true, true, true, true, true, true]) (by kernel_rfl) (by kernel_rfl) (by kernel_rfl) (fun _ _ => rfl) ?_
   refine S.dend (by kernel_rfl) (sw1 (by kernel_rfl) E13) ?_
   exact S.ret1 (v := .bool false) rfl (by kernel_rfl) ⟨(E1.trans E2).trans E13, by simp_all⟩
 ·skip
  have p37 : y.deed ≠ 2 := by simpa using c4
  refine S.dreads bodyPost_panicOk [4, 5, 6, 7, 8, 9, 10, 11, 12, 13, 14, 15, 16, 17, 18, 19, 20, 21, 22, 23, 24, 25, 26, 27, 28, 29, 30, 31, 32] 0 [] [4] (rs := []) (κ' := [(4, .bool false)]) (l' := #[true, true, true, true, true, true, true, true, true, true, true, true, true, true, true, true, true, true, true, true, true, true, true, true, true, true, true, true, true, true, true, true, true]) (by kernel_rfl) (by kernel_rfl) (by kernel_rfl) (fun _ _ => rfl) ?_
  refine S.dend (by kernel_rfl) (sw1 (by kernel_rfl) (Ext.refl _)) ?_
  exact S.ret1 (v := .bool false) rfl (by kernel_rfl) ⟨E1.trans E2, by simp_all⟩

end Go.Proofs.Ytmgakpnejbembaa
