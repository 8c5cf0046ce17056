/-
  CondChoice, a part of the proof (printed by a program of the prover): what functions of the given program compute, each under the conditions that its theorem names.
-/
import Derived.Test.YtmgakpnejbembaaA2
import Derived.Test.YtmgakpnejbembaaLibF
namespace Go.Proofs.Ytmgakpnejbembaa
open Go Go.Proofs.Ytmgakpnejbembaa.L

theorem contains_step {xs : List Int} {v x : Int} {i : Nat} (h : ∀ j, j < i → xs[j]? ≠ some v) (hx : xs[i]? = some x) (hne : v ≠ x) : ∀ j, j < i + 1 → xs[j]? ≠ some v := by
  intro j hj
  by_cases hji : j < i
  · exact h j hji
  · obtain rfl : j = i := by omega
    rw [hx]; intro e; exact hne (Option.some.inj e).symm
theorem contains_no {xs : List Int} {v : Int} {i : Nat} (hi : xs.length ≤ i) (h : ∀ j, j < i → xs[j]? ≠ some v) : xs.contains v = decide ((-1 : Int) ≥ 0) := by
  rw [show decide ((-1 : Int) ≥ 0) = false from rfl, ← Bool.not_eq_true, List.contains_iff_mem]
  intro hm
  obtain ⟨j, hj, e⟩ := List.getElem_of_mem hm
  exact h j (by omega) (by rw [List.getElem?_eq_getElem hj, e])
theorem contains_yes {xs : List Int} {v x : Int} {i : Nat} (e : v = x) (hx : xs[i]? = some x) : xs.contains v = decide (((i : Nat) : Int) ≥ 0) := by
  rw [decide_eq_true (by omega : ((i : Nat) : Int) ≥ 0), List.contains_iff_mem, e]
  exact List.mem_of_getElem? hx

theorem IndexFunc_ev (n : Nat) (a : Option Addr) (c : Nat) (f : Value) (xs : List LE) (J Q : Nat → World → Prop) (w : World) (hl : xs.length ≤ 9223372036854775807) (hrow : ∀ i w, J i w → Row n 43 5 evCs w a xs)
    (hf : ∀ i x w, xs[i]? = some x → J i w → CallsV Try.prog (callSem f #[.agg #[iV x.deed, iV x.n, iV x.val, .slice x.h.a x.h.xs.length x.h.cap, .slice x.r.a x.r.xs.length x.r.cap]]) w (fun e w' => (e = .returned (.bool false) ∧ J (i + 1) w') ∨ (e = .returned (.bool true) ∧ Q i w'))) (h0 : J 0 w) :
    Calls Try.prog 35 #[.slice a xs.length c, f] w (fun e w' => (e = .returned (.int .i64 (-1)) ∧ J xs.length w') ∨ ∃ i : Nat, i < xs.length ∧ e = .returned (.int .i64 ((i : Nat) : Int)) ∧ Q i w') := by
 refine calls_of_S (n := 19) Try.func35 rfl rfl (by kernel_rfl) ?_
 refine S.seq (S.region (S.run 1 [] [0, 1] (rs := []) (κ' := [(0, .slice a xs.length c), (1, f)]) (by kernel_rfl) (by kernel_rfl) rfl ?_))
 refine S.regEnd (by kernel_rfl) (S.seq (S.seq (S.region (S.run 3 [] [0, 1, 7, 8] (rs := []) (κ' := [(0, .slice a xs.length c), (1, f), (7, iV ((xs.length : Nat) : Int)), (8, iV 0)]) (by kernel_rfl) (by kernel_rfl) rfl ?_))))
 refine S.regEnd (by kernel_rfl) (S.block (S.weaken (ks := [0, 1, 7, 8]) (S.loop (fun m κ wj => ∃ i : Nat, i ≤ xs.length ∧ m = xs.length - i ∧ κ = [(0, .slice a xs.length c), (1, f), (7, iV ((xs.length : Nat) : Int)), (8, iV ((i : Nat) : Int))] ∧ True ∧ J i wj) ⟨0, Nat.zero_le _, rfl, by kernel_rfl, trivial, h0⟩ ?_)))
 rintro _ _ w1 ⟨i1, hi1, rfl, rfl, E1, hv1⟩
 refine S.seq (S.region (S.run 1 [] [0, 1, 7, 8, 9] (rs := []) (κ' := [(0, .slice a xs.length c), (1, f), (7, iV ((xs.length : Nat) : Int)), (8, iV ((i1 : Nat) : Int)), (9, .bool (decide (((i1 : Nat) : Int) < ((xs.length : Nat) : Int))))]) (by kernel_rfl) (by kernel_rfl) rfl ?_))
 refine S.regEnd (by kernel_rfl) (S.seq (S.both 9 (decide (((i1 : Nat) : Int) < ((xs.length : Nat) : Int))) (by kernel_rfl) (fun c2 => ?_) (fun c2 => ?_)))
 ·skip
  have p3 : ((i1 : Nat) : Int) < ((xs.length : Nat) : Int) := of_decide_eq_true c2
  refine S.yes (by kernel_rfl) (S.skip (S.seq (S.block (S.seq (S.region (S.run 2 [] [0, 1, 5, 7, 8] (rs := []) (κ' := [(0, .slice a xs.length c), (1, f), (5, iV ((i1 : Nat) : Int)), (7, iV ((xs.length : Nat) : Int)), (8, iV ((i1 : Nat) : Int))]) (by kernel_rfl) (by kernel_rfl) rfl ?_))))))
  refine S.regEnd (by kernel_rfl) (S.seq (S.region (S.run 3 [] [0, 1, 5, 7, 8, 11, 12, 13] (rs := []) (κ' := [(0, .slice a xs.length c), (1, f), (5, iV ((i1 : Nat) : Int)), (7, iV ((xs.length : Nat) : Int)), (8, iV ((i1 : Nat) : Int)), (11, f), (12, .slice a xs.length c), (13, iV ((i1 : Nat) : Int))]) (by kernel_rfl) (by kernel_rfl) rfl ?_)))
  obtain ⟨x4, b4, o4, hx4, h4, H4⟩ := (hrow _ _ hv1).get i1 (by omega)
  refine S.one (by kernel_rfl) (S.law 14 (v := .pointer (some ⟨b4, o4 + i1 * 5, none⟩)) (Instr.indexAt 27 (.slice a xs.length c) (.int .i64 ((i1 : Nat) : Int))) (by kernel_rfl) (by kernel_rfl) (by kernel_rfl) (run_idx (e := 43) i1 h4 (by kernel_rfl) (by kernel_rfl) (by omega)) ?_)
  refine S.run 1 [.v (iV x4.deed), .v (iV x4.n), .v (iV x4.val), .v (.slice x4.h.a x4.h.xs.length x4.h.cap), .v (.slice x4.r.a x4.r.xs.length x4.r.cap)] [0, 1, 5, 7, 8, 11, 15] (rs := [.load ⟨b4, o4 + i1 * 5, none⟩ (iV x4.deed), .load ⟨b4, o4 + i1 * 5 + 1, none⟩ (iV x4.n), .load ⟨b4, o4 + i1 * 5 + 2, none⟩ (iV x4.val), .load ⟨b4, o4 + i1 * 5 + 3, none⟩ (.slice x4.h.a x4.h.xs.length x4.h.cap), .load ⟨b4, o4 + i1 * 5 + 4, none⟩ (.slice x4.r.a x4.r.xs.length x4.r.cap)]) (κ' := [(0, .slice a xs.length c), (1, f), (5, iV ((i1 : Nat) : Int)), (7, iV ((xs.length : Nat) : Int)), (8, iV ((i1 : Nat) : Int)), (11, f), (15, .agg #[iV x4.deed, iV x4.n, iV x4.val, .slice x4.h.a x4.h.xs.length x4.h.cap, .slice x4.r.a x4.r.xs.length x4.r.cap])]) (by kernel_rfl) (by kernel_rfl) (.load (H4.cell0 rfl) (.load (H4.cell 1 rfl) (.load (H4.cell 2 rfl) (.load (H4.cell 3 rfl) (.load (H4.cell 4 rfl) .nil))))) ?_
  refine S.one (by kernel_rfl) (S.callF (dst := some 16) (y := f) (args := #[.agg #[iV x4.deed, iV x4.n, iV x4.val, .slice x4.h.a x4.h.xs.length x4.h.cap, .slice x4.r.a x4.r.xs.length x4.r.cap]]) (by kernel_rfl) (by kernel_rfl) ((hf _ _ _ hx4 hv1).mono ?_))
  rintro _ w5 (⟨rfl, hv5⟩ | ⟨rfl, hq5⟩)
  ·skip
   refine After.ret (by kernel_rfl) ?_
   refine S.regEnd (by kernel_rfl) (S.no (by kernel_rfl) (S.skip (S.out (S.region (S.run 1 [] [0, 1, 7, 8, 18] (rs := []) (κ' := [(0, .slice a xs.length c), (1, f), (7, iV ((xs.length : Nat) : Int)), (8, iV ((i1 : Nat) : Int)), (18, iV (IntKind.i64.wrap (((i1 : Nat) : Int) + 1)))]) (by kernel_rfl) (by kernel_rfl) rfl ?_)))))
   refine S.subst 18 (iV (IntKind.i64.wrap (((i1 : Nat) : Int) + 1))) (iV ((i1 + 1 : Nat) : Int)) (by kernel_rfl) (congrArg (Value.int .i64) (by rw [wrap_i64 (by omega) (by omega)]; omega)) ?_
   refine S.run 1 [] [0, 1, 7, 8] (rs := []) (κ' := [(0, .slice a xs.length c), (1, f), (7, iV ((xs.length : Nat) : Int)), (8, iV ((i1 + 1 : Nat) : Int))]) (by kernel_rfl) (by kernel_rfl) rfl ?_
   exact S.regEnd (by kernel_rfl) (S.stop (fun _ hs hh hd => ⟨hs, hd, xs.length - (i1 + 1), [(0, .slice a xs.length c), (1, f), (7, iV ((xs.length : Nat) : Int)), (8, iV (((i1 + 1) : Nat) : Int))], by omega, hh, i1 + 1, by omega, rfl, rfl, trivial, hv5⟩))
  ·skip
   refine After.ret (by kernel_rfl) ?_
   refine S.regEnd (by kernel_rfl) (S.yes (by kernel_rfl) (S.seq (S.region (S.run 2 [] [4] (rs := []) (κ' := [(4, iV ((i1 : Nat) : Int))]) (by kernel_rfl) (by kernel_rfl) rfl ?_))))
   exact S.regEnd (by kernel_rfl) (S.ret1 (v := iV ((i1 : Nat) : Int)) rfl (by kernel_rfl) (.inr ⟨i1, (by omega), rfl, hq5⟩))
 ·skip
  have p6 : ¬ (((i1 : Nat) : Int) < ((xs.length : Nat) : Int)) := of_decide_eq_false c2
  refine S.no (by kernel_rfl) (S.exit rfl (S.seq (S.region (S.run 1 [] [4] (rs := []) (κ' := [(4, iV (-1))]) (by kernel_rfl) (by kernel_rfl) rfl ?_))))
  exact S.regEnd (by kernel_rfl) (S.ret1 (v := iV (-1)) rfl (by kernel_rfl) (.inl ⟨rfl, by have e : i1 = xs.length := (by omega); rw [← e]; exact hv1⟩))

theorem IndexFunc_int (n : Nat) (a : Option Addr) (c : Nat) (f : Value) (xs : List Int) (J Q : Nat → World → Prop) (w : World) (hl : xs.length ≤ 9223372036854775807) (hrow : ∀ i w, J i w → Row n 0 1 intCs w a xs)
    (hf : ∀ i x w, xs[i]? = some x → J i w → CallsV Try.prog (callSem f #[iV x]) w (fun e w' => (e = .returned (.bool false) ∧ J (i + 1) w') ∨ (e = .returned (.bool true) ∧ Q i w'))) (h0 : J 0 w) :
    Calls Try.prog 42 #[.slice a xs.length c, f] w (fun e w' => (e = .returned (.int .i64 (-1)) ∧ J xs.length w') ∨ ∃ i : Nat, i < xs.length ∧ e = .returned (.int .i64 ((i : Nat) : Int)) ∧ Q i w') := by
 refine calls_of_S (n := 19) Try.func42 rfl rfl (by kernel_rfl) ?_
 refine S.seq (S.region (S.run 1 [] [0, 1] (rs := []) (κ' := [(0, .slice a xs.length c), (1, f)]) (by kernel_rfl) (by kernel_rfl) rfl ?_))
 refine S.regEnd (by kernel_rfl) (S.seq (S.seq (S.region (S.run 3 [] [0, 1, 7, 8] (rs := []) (κ' := [(0, .slice a xs.length c), (1, f), (7, iV ((xs.length : Nat) : Int)), (8, iV 0)]) (by kernel_rfl) (by kernel_rfl) rfl ?_))))
 refine S.regEnd (by kernel_rfl) (S.block (S.weaken (ks := [0, 1, 7, 8]) (S.loop (fun m κ wj => ∃ i : Nat, i ≤ xs.length ∧ m = xs.length - i ∧ κ = [(0, .slice a xs.length c), (1, f), (7, iV ((xs.length : Nat) : Int)), (8, iV ((i : Nat) : Int))] ∧ True ∧ J i wj) ⟨0, Nat.zero_le _, rfl, by kernel_rfl, trivial, h0⟩ ?_)))
 rintro _ _ w1 ⟨i1, hi1, rfl, rfl, E1, hv1⟩
 refine S.seq (S.region (S.run 1 [] [0, 1, 7, 8, 9] (rs := []) (κ' := [(0, .slice a xs.length c), (1, f), (7, iV ((xs.length : Nat) : Int)), (8, iV ((i1 : Nat) : Int)), (9, .bool (decide (((i1 : Nat) : Int) < ((xs.length : Nat) : Int))))]) (by kernel_rfl) (by kernel_rfl) rfl ?_))
 refine S.regEnd (by kernel_rfl) (S.seq (S.both 9 (decide (((i1 : Nat) : Int) < ((xs.length : Nat) : Int))) (by kernel_rfl) (fun c2 => ?_) (fun c2 => ?_)))
 ·skip
  have p3 : ((i1 : Nat) : Int) < ((xs.length : Nat) : Int) := of_decide_eq_true c2
  refine S.yes (by kernel_rfl) (S.skip (S.seq (S.block (S.seq (S.region (S.run 2 [] [0, 1, 5, 7, 8] (rs := []) (κ' := [(0, .slice a xs.length c), (1, f), (5, iV ((i1 : Nat) : Int)), (7, iV ((xs.length : Nat) : Int)), (8, iV ((i1 : Nat) : Int))]) (by kernel_rfl) (by kernel_rfl) rfl ?_))))))
  refine S.regEnd (by kernel_rfl) (S.seq (S.region (S.run 3 [] [0, 1, 5, 7, 8, 11, 12, 13] (rs := []) (κ' := [(0, .slice a xs.length c), (1, f), (5, iV ((i1 : Nat) : Int)), (7, iV ((xs.length : Nat) : Int)), (8, iV ((i1 : Nat) : Int)), (11, f), (12, .slice a xs.length c), (13, iV ((i1 : Nat) : Int))]) (by kernel_rfl) (by kernel_rfl) rfl ?_)))
  obtain ⟨x4, b4, o4, hx4, h4, H4⟩ := (hrow _ _ hv1).get i1 (by omega)
  refine S.one (by kernel_rfl) (S.law 14 (v := .pointer (some ⟨b4, o4 + i1 * 1, none⟩)) (Instr.indexAt 23 (.slice a xs.length c) (.int .i64 ((i1 : Nat) : Int))) (by kernel_rfl) (by kernel_rfl) (by kernel_rfl) (run_idx (e := 3) i1 h4 (by kernel_rfl) (by kernel_rfl) (by omega)) ?_)
  refine S.run 1 [.v (iV x4)] [0, 1, 5, 7, 8, 11, 15] (rs := [.load ⟨b4, o4 + i1 * 1, none⟩ (iV x4)]) (κ' := [(0, .slice a xs.length c), (1, f), (5, iV ((i1 : Nat) : Int)), (7, iV ((xs.length : Nat) : Int)), (8, iV ((i1 : Nat) : Int)), (11, f), (15, iV x4)]) (by kernel_rfl) (by kernel_rfl) (.load (H4.cell0 rfl) .nil) ?_
  refine S.one (by kernel_rfl) (S.callF (dst := some 16) (y := f) (args := #[iV x4]) (by kernel_rfl) (by kernel_rfl) ((hf _ _ _ hx4 hv1).mono ?_))
  rintro _ w5 (⟨rfl, hv5⟩ | ⟨rfl, hq5⟩)
  ·skip
   refine After.ret (by kernel_rfl) ?_
   refine S.regEnd (by kernel_rfl) (S.no (by kernel_rfl) (S.skip (S.out (S.region (S.run 1 [] [0, 1, 7, 8, 18] (rs := []) (κ' := [(0, .slice a xs.length c), (1, f), (7, iV ((xs.length : Nat) : Int)), (8, iV ((i1 : Nat) : Int)), (18, iV (IntKind.i64.wrap (((i1 : Nat) : Int) + 1)))]) (by kernel_rfl) (by kernel_rfl) rfl ?_)))))
   refine S.subst 18 (iV (IntKind.i64.wrap (((i1 : Nat) : Int) + 1))) (iV ((i1 + 1 : Nat) : Int)) (by kernel_rfl) (congrArg (Value.int .i64) (by rw [wrap_i64 (by omega) (by omega)]; omega)) ?_
   refine S.run 1 [] [0, 1, 7, 8] (rs := []) (κ' := [(0, .slice a xs.length c), (1, f), (7, iV ((xs.length : Nat) : Int)), (8, iV ((i1 + 1 : Nat) : Int))]) (by kernel_rfl) (by kernel_rfl) rfl ?_
   exact S.regEnd (by kernel_rfl) (S.stop (fun _ hs hh hd => ⟨hs, hd, xs.length - (i1 + 1), [(0, .slice a xs.length c), (1, f), (7, iV ((xs.length : Nat) : Int)), (8, iV (((i1 + 1) : Nat) : Int))], by omega, hh, i1 + 1, by omega, rfl, rfl, trivial, hv5⟩))
  ·skip
   refine After.ret (by kernel_rfl) ?_
   refine S.regEnd (by kernel_rfl) (S.yes (by kernel_rfl) (S.seq (S.region (S.run 2 [] [4] (rs := []) (κ' := [(4, iV ((i1 : Nat) : Int))]) (by kernel_rfl) (by kernel_rfl) rfl ?_))))
   exact S.regEnd (by kernel_rfl) (S.ret1 (v := iV ((i1 : Nat) : Int)) rfl (by kernel_rfl) (.inr ⟨i1, (by omega), rfl, hq5⟩))
 ·skip
  have p6 : ¬ (((i1 : Nat) : Int) < ((xs.length : Nat) : Int)) := of_decide_eq_false c2
  refine S.no (by kernel_rfl) (S.exit rfl (S.seq (S.region (S.run 1 [] [4] (rs := []) (κ' := [(4, iV (-1))]) (by kernel_rfl) (by kernel_rfl) rfl ?_))))
  exact S.regEnd (by kernel_rfl) (S.ret1 (v := iV (-1)) rfl (by kernel_rfl) (.inl ⟨rfl, by have e : i1 = xs.length := (by omega); rw [← e]; exact hv1⟩))

theorem IndexFunc_x (n : Nat) (a : Option Addr) (c : Nat) (f : Value) (xs : List X) (J Q : Nat → World → Prop) (w : World) (hl : xs.length ≤ 9223372036854775807) (hrow : ∀ i w, J i w → Row n 0 3 xCs w a xs)
    (hf : ∀ i x w, xs[i]? = some x → J i w → CallsV Try.prog (callSem f #[.agg #[iV x.d.1, iV x.d.2, .slice x.a x.len x.cap]]) w (fun e w' => (e = .returned (.bool false) ∧ J (i + 1) w') ∨ (e = .returned (.bool true) ∧ Q i w'))) (h0 : J 0 w) :
    Calls Try.prog 68 #[.slice a xs.length c, f] w (fun e w' => (e = .returned (.int .i64 (-1)) ∧ J xs.length w') ∨ ∃ i : Nat, i < xs.length ∧ e = .returned (.int .i64 ((i : Nat) : Int)) ∧ Q i w') := by
 refine calls_of_S (n := 19) Try.func68 rfl rfl (by kernel_rfl) ?_
 refine S.seq (S.region (S.run 1 [] [0, 1] (rs := []) (κ' := [(0, .slice a xs.length c), (1, f)]) (by kernel_rfl) (by kernel_rfl) rfl ?_))
 refine S.regEnd (by kernel_rfl) (S.seq (S.seq (S.region (S.run 3 [] [0, 1, 7, 8] (rs := []) (κ' := [(0, .slice a xs.length c), (1, f), (7, iV ((xs.length : Nat) : Int)), (8, iV 0)]) (by kernel_rfl) (by kernel_rfl) rfl ?_))))
 refine S.regEnd (by kernel_rfl) (S.block (S.weaken (ks := [0, 1, 7, 8]) (S.loop (fun m κ wj => ∃ i : Nat, i ≤ xs.length ∧ m = xs.length - i ∧ κ = [(0, .slice a xs.length c), (1, f), (7, iV ((xs.length : Nat) : Int)), (8, iV ((i : Nat) : Int))] ∧ True ∧ J i wj) ⟨0, Nat.zero_le _, rfl, by kernel_rfl, trivial, h0⟩ ?_)))
 rintro _ _ w1 ⟨i1, hi1, rfl, rfl, E1, hv1⟩
 refine S.seq (S.region (S.run 1 [] [0, 1, 7, 8, 9] (rs := []) (κ' := [(0, .slice a xs.length c), (1, f), (7, iV ((xs.length : Nat) : Int)), (8, iV ((i1 : Nat) : Int)), (9, .bool (decide (((i1 : Nat) : Int) < ((xs.length : Nat) : Int))))]) (by kernel_rfl) (by kernel_rfl) rfl ?_))
 refine S.regEnd (by kernel_rfl) (S.seq (S.both 9 (decide (((i1 : Nat) : Int) < ((xs.length : Nat) : Int))) (by kernel_rfl) (fun c2 => ?_) (fun c2 => ?_)))
 ·skip
  have p3 : ((i1 : Nat) : Int) < ((xs.length : Nat) : Int) := of_decide_eq_true c2
  refine S.yes (by kernel_rfl) (S.skip (S.seq (S.block (S.seq (S.region (S.run 2 [] [0, 1, 5, 7, 8] (rs := []) (κ' := [(0, .slice a xs.length c), (1, f), (5, iV ((i1 : Nat) : Int)), (7, iV ((xs.length : Nat) : Int)), (8, iV ((i1 : Nat) : Int))]) (by kernel_rfl) (by kernel_rfl) rfl ?_))))))
  refine S.regEnd (by kernel_rfl) (S.seq (S.region (S.run 3 [] [0, 1, 5, 7, 8, 11, 12, 13] (rs := []) (κ' := [(0, .slice a xs.length c), (1, f), (5, iV ((i1 : Nat) : Int)), (7, iV ((xs.length : Nat) : Int)), (8, iV ((i1 : Nat) : Int)), (11, f), (12, .slice a xs.length c), (13, iV ((i1 : Nat) : Int))]) (by kernel_rfl) (by kernel_rfl) rfl ?_)))
  obtain ⟨x4, b4, o4, hx4, h4, H4⟩ := (hrow _ _ hv1).get i1 (by omega)
  refine S.one (by kernel_rfl) (S.law 14 (v := .pointer (some ⟨b4, o4 + i1 * 3, none⟩)) (Instr.indexAt 22 (.slice a xs.length c) (.int .i64 ((i1 : Nat) : Int))) (by kernel_rfl) (by kernel_rfl) (by kernel_rfl) (run_idx (e := 60) i1 h4 (by kernel_rfl) (by kernel_rfl) (by omega)) ?_)
  refine S.run 1 [.v (iV x4.d.1), .v (iV x4.d.2), .v (.slice x4.a x4.len x4.cap)] [0, 1, 5, 7, 8, 11, 15] (rs := [.load ⟨b4, o4 + i1 * 3, none⟩ (iV x4.d.1), .load ⟨b4, o4 + i1 * 3 + 1, none⟩ (iV x4.d.2), .load ⟨b4, o4 + i1 * 3 + 2, none⟩ (.slice x4.a x4.len x4.cap)]) (κ' := [(0, .slice a xs.length c), (1, f), (5, iV ((i1 : Nat) : Int)), (7, iV ((xs.length : Nat) : Int)), (8, iV ((i1 : Nat) : Int)), (11, f), (15, .agg #[iV x4.d.1, iV x4.d.2, .slice x4.a x4.len x4.cap])]) (by kernel_rfl) (by kernel_rfl) (.load (H4.cell0 rfl) (.load (H4.cell 1 rfl) (.load (H4.cell 2 rfl) .nil))) ?_
  refine S.one (by kernel_rfl) (S.callF (dst := some 16) (y := f) (args := #[.agg #[iV x4.d.1, iV x4.d.2, .slice x4.a x4.len x4.cap]]) (by kernel_rfl) (by kernel_rfl) ((hf _ _ _ hx4 hv1).mono ?_))
  rintro _ w5 (⟨rfl, hv5⟩ | ⟨rfl, hq5⟩)
  ·skip
   refine After.ret (by kernel_rfl) ?_
   refine S.regEnd (by kernel_rfl) (S.no (by kernel_rfl) (S.skip (S.out (S.region (S.run 1 [] [0, 1, 7, 8, 18] (rs := []) (κ' := [(0, .slice a xs.length c), (1, f), (7, iV ((xs.length : Nat) : Int)), (8, iV ((i1 : Nat) : Int)), (18, iV (IntKind.i64.wrap (((i1 : Nat) : Int) + 1)))]) (by kernel_rfl) (by kernel_rfl) rfl ?_)))))
   refine S.subst 18 (iV (IntKind.i64.wrap (((i1 : Nat) : Int) + 1))) (iV ((i1 + 1 : Nat) : Int)) (by kernel_rfl) (congrArg (Value.int .i64) (by rw [wrap_i64 (by omega) (by omega)]; omega)) ?_
   refine S.run 1 [] [0, 1, 7, 8] (rs := []) (κ' := [(0, .slice a xs.length c), (1, f), (7, iV ((xs.length : Nat) : Int)), (8, iV ((i1 + 1 : Nat) : Int))]) (by kernel_rfl) (by kernel_rfl) rfl ?_
   exact S.regEnd (by kernel_rfl) (S.stop (fun _ hs hh hd => ⟨hs, hd, xs.length - (i1 + 1), [(0, .slice a xs.length c), (1, f), (7, iV ((xs.length : Nat) : Int)), (8, iV (((i1 + 1) : Nat) : Int))], by omega, hh, i1 + 1, by omega, rfl, rfl, trivial, hv5⟩))
  ·skip
   refine After.ret (by kernel_rfl) ?_
   refine S.regEnd (by kernel_rfl) (S.yes (by kernel_rfl) (S.seq (S.region (S.run 2 [] [4] (rs := []) (κ' := [(4, iV ((i1 : Nat) : Int))]) (by kernel_rfl) (by kernel_rfl) rfl ?_))))
   exact S.regEnd (by kernel_rfl) (S.ret1 (v := iV ((i1 : Nat) : Int)) rfl (by kernel_rfl) (.inr ⟨i1, (by omega), rfl, hq5⟩))
 ·skip
  have p6 : ¬ (((i1 : Nat) : Int) < ((xs.length : Nat) : Int)) := of_decide_eq_false c2
  refine S.no (by kernel_rfl) (S.exit rfl (S.seq (S.region (S.run 1 [] [4] (rs := []) (κ' := [(4, iV (-1))]) (by kernel_rfl) (by kernel_rfl) rfl ?_))))
  exact S.regEnd (by kernel_rfl) (S.ret1 (v := iV (-1)) rfl (by kernel_rfl) (.inl ⟨rfl, by have e : i1 = xs.length := (by omega); rw [← e]; exact hv1⟩))

theorem ContainsFunc_ev (n : Nat) (a : Option Addr) (c : Nat) (f : Value) (xs : List LE) (J Q : Nat → World → Prop) (w : World) (hl : xs.length ≤ 9223372036854775807) (hrow : ∀ i w, J i w → Row n 43 5 evCs w a xs)
    (hf : ∀ i x w, xs[i]? = some x → J i w → CallsV Try.prog (callSem f #[.agg #[iV x.deed, iV x.n, iV x.val, .slice x.h.a x.h.xs.length x.h.cap, .slice x.r.a x.r.xs.length x.r.cap]]) w (fun e w' => (e = .returned (.bool false) ∧ J (i + 1) w') ∨ (e = .returned (.bool true) ∧ Q i w'))) (h0 : J 0 w) :
    Calls Try.prog 10 #[.slice a xs.length c, f] w (fun e w' => (e = .returned (.bool false) ∧ J xs.length w') ∨ ∃ i : Nat, i < xs.length ∧ e = .returned (.bool true) ∧ Q i w') := by
 refine calls_of_S (n := 9) Try.func10 rfl rfl (by kernel_rfl) ?_
 refine S.seq (S.region (S.run 1 [] [0, 1] (rs := []) (κ' := [(0, .slice a xs.length c), (1, f)]) (by kernel_rfl) (by kernel_rfl) rfl ?_))
 refine S.regEnd (by kernel_rfl) (S.seq (S.region (S.run 2 [] [5, 6] (rs := []) (κ' := [(5, .slice a xs.length c), (6, f)]) (by kernel_rfl) (by kernel_rfl) rfl ?_)))
 refine S.one (by kernel_rfl) (S.call (dst := some 7) (f := 35) (args := #[.slice a xs.length c, f]) (by kernel_rfl) (by kernel_rfl) ((IndexFunc_ev n a c f xs J Q w hl hrow hf h0).mono ?_))
 rintro _ w1 (⟨rfl, hJ⟩ | ⟨i, hi, rfl, hQ⟩)
 ·skip
  refine After.ret (by kernel_rfl) ?_
  refine S.run 2 [] [4] (rs := []) (κ' := [(4, .bool false)]) (by kernel_rfl) (by kernel_rfl) rfl ?_
  exact S.regEnd (by kernel_rfl) (S.ret1 (v := .bool false) rfl (by kernel_rfl) (.inl ⟨rfl, hJ⟩))
 ·skip
  refine After.ret (by kernel_rfl) ?_
  refine S.run 2 [] [4] (rs := []) (κ' := [(4, .bool (decide (((i : Nat) : Int) ≥ 0)))]) (by kernel_rfl) (by kernel_rfl) rfl ?_
  exact S.regEnd (by kernel_rfl) (S.ret1 (v := .bool (decide (((i : Nat) : Int) ≥ 0))) rfl (by kernel_rfl) (.inr ⟨i, hi, congrArg (fun b => Ending.returned (.bool b)) (by simp), hQ⟩))

theorem ContainsFunc_int (n : Nat) (a : Option Addr) (c : Nat) (f : Value) (xs : List Int) (J Q : Nat → World → Prop) (w : World) (hl : xs.length ≤ 9223372036854775807) (hrow : ∀ i w, J i w → Row n 0 1 intCs w a xs)
    (hf : ∀ i x w, xs[i]? = some x → J i w → CallsV Try.prog (callSem f #[iV x]) w (fun e w' => (e = .returned (.bool false) ∧ J (i + 1) w') ∨ (e = .returned (.bool true) ∧ Q i w'))) (h0 : J 0 w) :
    Calls Try.prog 18 #[.slice a xs.length c, f] w (fun e w' => (e = .returned (.bool false) ∧ J xs.length w') ∨ ∃ i : Nat, i < xs.length ∧ e = .returned (.bool true) ∧ Q i w') := by
 refine calls_of_S (n := 9) Try.func18 rfl rfl (by kernel_rfl) ?_
 refine S.seq (S.region (S.run 1 [] [0, 1] (rs := []) (κ' := [(0, .slice a xs.length c), (1, f)]) (by kernel_rfl) (by kernel_rfl) rfl ?_))
 refine S.regEnd (by kernel_rfl) (S.seq (S.region (S.run 2 [] [5, 6] (rs := []) (κ' := [(5, .slice a xs.length c), (6, f)]) (by kernel_rfl) (by kernel_rfl) rfl ?_)))
 refine S.one (by kernel_rfl) (S.call (dst := some 7) (f := 42) (args := #[.slice a xs.length c, f]) (by kernel_rfl) (by kernel_rfl) ((IndexFunc_int n a c f xs J Q w hl hrow hf h0).mono ?_))
 rintro _ w1 (⟨rfl, hJ⟩ | ⟨i, hi, rfl, hQ⟩)
 ·skip
  refine After.ret (by kernel_rfl) ?_
  refine S.run 2 [] [4] (rs := []) (κ' := [(4, .bool false)]) (by kernel_rfl) (by kernel_rfl) rfl ?_
  exact S.regEnd (by kernel_rfl) (S.ret1 (v := .bool false) rfl (by kernel_rfl) (.inl ⟨rfl, hJ⟩))
 ·skip
  refine After.ret (by kernel_rfl) ?_
  refine S.run 2 [] [4] (rs := []) (κ' := [(4, .bool (decide (((i : Nat) : Int) ≥ 0)))]) (by kernel_rfl) (by kernel_rfl) rfl ?_
  exact S.regEnd (by kernel_rfl) (S.ret1 (v := .bool (decide (((i : Nat) : Int) ≥ 0))) rfl (by kernel_rfl) (.inr ⟨i, hi, congrArg (fun b => Ending.returned (.bool b)) (by simp), hQ⟩))

theorem ContainsFunc_x (n : Nat) (a : Option Addr) (c : Nat) (f : Value) (xs : List X) (J Q : Nat → World → Prop) (w : World) (hl : xs.length ≤ 9223372036854775807) (hrow : ∀ i w, J i w → Row n 0 3 xCs w a xs)
    (hf : ∀ i x w, xs[i]? = some x → J i w → CallsV Try.prog (callSem f #[.agg #[iV x.d.1, iV x.d.2, .slice x.a x.len x.cap]]) w (fun e w' => (e = .returned (.bool false) ∧ J (i + 1) w') ∨ (e = .returned (.bool true) ∧ Q i w'))) (h0 : J 0 w) :
    Calls Try.prog 39 #[.slice a xs.length c, f] w (fun e w' => (e = .returned (.bool false) ∧ J xs.length w') ∨ ∃ i : Nat, i < xs.length ∧ e = .returned (.bool true) ∧ Q i w') := by
 refine calls_of_S (n := 9) Try.func39 rfl rfl (by kernel_rfl) ?_
 refine S.seq (S.region (S.run 1 [] [0, 1] (rs := []) (κ' := [(0, .slice a xs.length c), (1, f)]) (by kernel_rfl) (by kernel_rfl) rfl ?_))
 refine S.regEnd (by kernel_rfl) (S.seq (S.region (S.run 2 [] [5, 6] (rs := []) (κ' := [(5, .slice a xs.length c), (6, f)]) (by kernel_rfl) (by kernel_rfl) rfl ?_)))
 refine S.one (by kernel_rfl) (S.call (dst := some 7) (f := 68) (args := #[.slice a xs.length c, f]) (by kernel_rfl) (by kernel_rfl) ((IndexFunc_x n a c f xs J Q w hl hrow hf h0).mono ?_))
 rintro _ w1 (⟨rfl, hJ⟩ | ⟨i, hi, rfl, hQ⟩)
 ·skip
  refine After.ret (by kernel_rfl) ?_
  refine S.run 2 [] [4] (rs := []) (κ' := [(4, .bool false)]) (by kernel_rfl) (by kernel_rfl) rfl ?_
  exact S.regEnd (by kernel_rfl) (S.ret1 (v := .bool false) rfl (by kernel_rfl) (.inl ⟨rfl, hJ⟩))
 ·skip
  refine After.ret (by kernel_rfl) ?_
  refine S.run 2 [] [4] (rs := []) (κ' := [(4, .bool (decide (((i : Nat) : Int) ≥ 0)))]) (by kernel_rfl) (by kernel_rfl) rfl ?_
  exact S.regEnd (by kernel_rfl) (S.ret1 (v := .bool (decide (((i : Nat) : Int) ≥ 0))) rfl (by kernel_rfl) (.inr ⟨i, hi, congrArg (fun b => Ending.returned (.bool b)) (by simp), hQ⟩))

theorem Index_int (n : Nat) (a : Option Addr) (c : Nat) (v : Int) (xs : List Int) (w : World) (R1 : Row n 3 1 intCs w a xs) (hl : xs.length ≤ 9223372036854775807) :
    Calls Try.prog 36 #[.slice a xs.length c, iV v] w (fun e w' => Ext E0 w w' ∧ ∃ r : Int, e = .returned (.int .i64 r) ∧ decide (r ≥ 0) = xs.contains v) := by
 refine calls_of_S (n := 19) Try.func36 rfl rfl (by kernel_rfl) ?_
 refine S.seq (S.region (S.run 1 [] [0, 1] (rs := []) (κ' := [(0, .slice a xs.length c), (1, iV v)]) (by kernel_rfl) (by kernel_rfl) rfl ?_))
 refine S.regEnd (by kernel_rfl) (S.seq (S.seq (S.region (S.run 3 [] [0, 1, 7, 8] (rs := []) (κ' := [(0, .slice a xs.length c), (1, iV v), (7, iV ((xs.length : Nat) : Int)), (8, iV 0)]) (by kernel_rfl) (by kernel_rfl) rfl ?_))))
 refine S.regEnd (by kernel_rfl) (S.block (S.weaken (ks := [0, 1, 7, 8]) (S.loop (fun m κ wj => ∃ i : Nat, i ≤ xs.length ∧ m = xs.length - i ∧ κ = [(0, .slice a xs.length c), (1, iV v), (7, iV ((xs.length : Nat) : Int)), (8, iV ((i : Nat) : Int))] ∧ Ext E0 w wj ∧ (∀ j, j < i → xs[j]? ≠ some v)) ⟨0, Nat.zero_le _, rfl, by kernel_rfl, Ext.refl _, fun _ h => absurd h (Nat.not_lt_zero _)⟩ ?_)))
 rintro _ _ w1 ⟨i1, hi1, rfl, rfl, E1, hv1⟩
 have sE1 := E1.size
 refine S.seq (S.region (S.run 1 [] [0, 1, 7, 8, 9] (rs := []) (κ' := [(0, .slice a xs.length c), (1, iV v), (7, iV ((xs.length : Nat) : Int)), (8, iV ((i1 : Nat) : Int)), (9, .bool (decide (((i1 : Nat) : Int) < ((xs.length : Nat) : Int))))]) (by kernel_rfl) (by kernel_rfl) rfl ?_))
 refine S.regEnd (by kernel_rfl) (S.seq (S.both 9 (decide (((i1 : Nat) : Int) < ((xs.length : Nat) : Int))) (by kernel_rfl) (fun c2 => ?_) (fun c2 => ?_)))
 ·skip
  have p3 : ((i1 : Nat) : Int) < ((xs.length : Nat) : Int) := of_decide_eq_true c2
  refine S.yes (by kernel_rfl) (S.skip (S.seq (S.block (S.seq (S.region (S.run 2 [] [0, 1, 5, 7, 8] (rs := []) (κ' := [(0, .slice a xs.length c), (1, iV v), (5, iV ((i1 : Nat) : Int)), (7, iV ((xs.length : Nat) : Int)), (8, iV ((i1 : Nat) : Int))]) (by kernel_rfl) (by kernel_rfl) rfl ?_))))))
  refine S.regEnd (by kernel_rfl) (S.seq (S.region (S.run 3 [] [0, 1, 5, 7, 8, 11, 12, 13] (rs := []) (κ' := [(0, .slice a xs.length c), (1, iV v), (5, iV ((i1 : Nat) : Int)), (7, iV ((xs.length : Nat) : Int)), (8, iV ((i1 : Nat) : Int)), (11, iV v), (12, .slice a xs.length c), (13, iV ((i1 : Nat) : Int))]) (by kernel_rfl) (by kernel_rfl) rfl ?_)))
  have R4 := R1.pres (.of0 E1)
  obtain ⟨x5, b5, o5, hx5, h5, H5⟩ := R4.get i1 (by omega)
  refine S.one (by kernel_rfl) (S.law 14 (v := .pointer (some ⟨b5, o5 + i1 * 1, none⟩)) (Instr.indexAt 23 (.slice a xs.length c) (.int .i64 ((i1 : Nat) : Int))) (by kernel_rfl) (by kernel_rfl) (by kernel_rfl) (run_idx (e := 3) i1 h5 (by kernel_rfl) (by kernel_rfl) (by omega)) ?_)
  refine S.run 2 [.v (iV x5)] [0, 1, 5, 7, 8, 16] (rs := [.load ⟨b5, o5 + i1 * 1, none⟩ (iV x5)]) (κ' := [(0, .slice a xs.length c), (1, iV v), (5, iV ((i1 : Nat) : Int)), (7, iV ((xs.length : Nat) : Int)), (8, iV ((i1 : Nat) : Int)), (16, .bool (v == x5))]) (by kernel_rfl) (by kernel_rfl) (.load (H5.cell0 rfl) .nil) ?_
  refine S.regEnd (by kernel_rfl) (S.both 16 (v == x5) (by kernel_rfl) (fun c6 => ?_) (fun c6 => ?_))
  ·skip
   have p7 : v = x5 := by simpa using c6
   refine S.yes (by kernel_rfl) (S.seq (S.region (S.run 2 [] [4] (rs := []) (κ' := [(4, iV ((i1 : Nat) : Int))]) (by kernel_rfl) (by kernel_rfl) rfl ?_)))
   exact S.regEnd (by kernel_rfl) (S.ret1 (v := iV ((i1 : Nat) : Int)) rfl (by kernel_rfl) ⟨E1, _, rfl, (contains_yes (by assumption) hx5).symm⟩)
  ·skip
   have p8 : v ≠ x5 := by simpa using c6
   refine S.no (by kernel_rfl) (S.skip (S.out (S.region (S.run 1 [] [0, 1, 7, 8, 18] (rs := []) (κ' := [(0, .slice a xs.length c), (1, iV v), (7, iV ((xs.length : Nat) : Int)), (8, iV ((i1 : Nat) : Int)), (18, iV (IntKind.i64.wrap (((i1 : Nat) : Int) + 1)))]) (by kernel_rfl) (by kernel_rfl) rfl ?_))))
   refine S.subst 18 (iV (IntKind.i64.wrap (((i1 : Nat) : Int) + 1))) (iV ((i1 + 1 : Nat) : Int)) (by kernel_rfl) (congrArg (Value.int .i64) (by rw [wrap_i64 (by omega) (by omega)]; omega)) ?_
   refine S.run 1 [] [0, 1, 7, 8] (rs := []) (κ' := [(0, .slice a xs.length c), (1, iV v), (7, iV ((xs.length : Nat) : Int)), (8, iV ((i1 + 1 : Nat) : Int))]) (by kernel_rfl) (by kernel_rfl) rfl ?_
   exact S.regEnd (by kernel_rfl) (S.stop (fun _ hs hh hd => ⟨hs, hd, xs.length - (i1 + 1), [(0, .slice a xs.length c), (1, iV v), (7, iV ((xs.length : Nat) : Int)), (8, iV (((i1 + 1) : Nat) : Int))], by omega, hh, i1 + 1, by omega, rfl, rfl, E1, contains_step hv1 hx5 (by assumption)⟩))
 ·skip
  have p9 : ¬ (((i1 : Nat) : Int) < ((xs.length : Nat) : Int)) := of_decide_eq_false c2
  refine S.no (by kernel_rfl) (S.exit rfl (S.seq (S.region (S.run 1 [] [4] (rs := []) (κ' := [(4, iV (-1))]) (by kernel_rfl) (by kernel_rfl) rfl ?_))))
  exact S.regEnd (by kernel_rfl) (S.ret1 (v := iV (-1)) rfl (by kernel_rfl) ⟨E1, -1, rfl, (contains_no (by omega) hv1).symm⟩)

theorem Contains_int (n : Nat) (a : Option Addr) (c : Nat) (v : Int) (xs : List Int) (w : World) (R1 : Row n 3 1 intCs w a xs) (hl : xs.length ≤ 9223372036854775807) :
    Calls Try.prog 12 #[.slice a xs.length c, iV v] w (fun e w' => Ext E0 w w' ∧ e = .returned (.bool (xs.contains v))) := by
 refine calls_of_S (n := 9) Try.func12 rfl rfl (by kernel_rfl) ?_
 refine S.seq (S.region (S.run 1 [] [0, 1] (rs := []) (κ' := [(0, .slice a xs.length c), (1, iV v)]) (by kernel_rfl) (by kernel_rfl) rfl ?_))
 refine S.regEnd (by kernel_rfl) (S.seq (S.region (S.run 2 [] [5, 6] (rs := []) (κ' := [(5, .slice a xs.length c), (6, iV v)]) (by kernel_rfl) (by kernel_rfl) rfl ?_)))
 refine S.one (by kernel_rfl) (S.call (dst := some 7) (f := 36) (args := #[.slice a xs.length c, iV v]) (by kernel_rfl) (by kernel_rfl) ((Index_int n a c v xs w R1 hl).mono ?_))
 rintro _ w1 ⟨E1, r, rfl, hr⟩
 refine After.ret (by kernel_rfl) ?_
 have sE1 := E1.size
 refine S.run 2 [] [4] (rs := []) (κ' := [(4, .bool (decide (r ≥ 0)))]) (by kernel_rfl) (by kernel_rfl) rfl ?_
 exact S.regEnd (by kernel_rfl) (S.ret1 (v := .bool (decide (r ≥ 0))) rfl (by kernel_rfl) ⟨E1, congrArg (fun b => Ending.returned (.bool b)) hr⟩)

end Go.Proofs.Ytmgakpnejbembaa
