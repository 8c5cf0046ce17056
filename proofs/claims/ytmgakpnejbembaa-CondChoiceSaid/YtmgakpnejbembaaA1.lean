/-
  CondChoice, a part of the proof (printed by a program of the prover): numbers and lists of numbers, under the conditions that each theorem names.
-/
import Derived.Test.YtmgakpnejbembaaRows
import Derived.Test.YtmgakpnejbembaaLibE
namespace Go.Proofs.Ytmgakpnejbembaa
open Go Go.Proofs.Ytmgakpnejbembaa.L

theorem same_len {xs ys : List Int} (h : xs.length ≠ ys.length) : (xs == ys) = false := by
  rw [beq_eq_false_iff_ne]; intro e; exact h (by rw [e])
theorem same_diff {xs ys : List Int} {i : Nat} {x y : Int} (hx : xs[i]? = some x) (hy : ys[i]? = some y) (h : x ≠ y) : (xs == ys) = false := by
  rw [beq_eq_false_iff_ne]; intro e; subst e; rw [hx] at hy; exact h (Option.some.inj hy)
theorem same_all {xs ys : List Int} {i : Nat} (hl : xs.length = ys.length) (h : ∀ j, j < i → xs[j]? = ys[j]?) (hi : xs.length ≤ i) : (xs == ys) = true := by
  rw [beq_iff_eq]
  refine List.ext_getElem? fun j => ?_
  by_cases hj : j < i
  · exact h j hj
  · rw [List.getElem?_eq_none (by omega), List.getElem?_eq_none (by omega)]
theorem same_step {xs ys : List Int} {i : Nat} {x y : Int} (h : ∀ j, j < i → xs[j]? = ys[j]?) (hx : xs[i]? = some x) (hy : ys[i]? = some y) (e : x = y) : ∀ j, j < i + 1 → xs[j]? = ys[j]? := by
  intro j hj
  by_cases hji : j < i
  · exact h j hji
  · obtain rfl : j = i := by omega
    rw [hx, hy, e]

theorem in_spec (a b c : Int) (w : World) :
    Calls Try.prog 17 #[iV a, iV b, iV c] w (fun e w' => e = .returned (.bool (decide (b ≤ a) && decide (a ≤ c))) ∧ w' = w) := by
 refine calls_of_S (n := 15) Try.func17 rfl rfl (by kernel_rfl) ?_
 refine S.seq (S.region (S.run 1 [] [0, 1, 2] (rs := []) (κ' := [(0, iV a), (1, iV b), (2, iV c)]) (by kernel_rfl) (by kernel_rfl) rfl ?_))
 refine S.regEnd (by kernel_rfl) (S.seq (S.region (S.run 4 [] [0, 2, 10] (rs := []) (κ' := [(0, iV a), (2, iV c), (10, .bool (decide (a ≥ b)))]) (by kernel_rfl) (by kernel_rfl) rfl ?_)))
 refine S.both 10 (decide (a ≥ b)) (by kernel_rfl) (fun c1 => ?_) (fun c1 => ?_)
 ·skip
  have p2 : a ≥ b := of_decide_eq_true c1
  refine S.run 5 [] [6] (rs := []) (κ' := [(6, .bool (decide (a ≤ c)))]) (by kernel_rfl) (by kernel_rfl) rfl ?_
  exact S.regEnd (by kernel_rfl) (S.ret1 (v := .bool (decide (a ≤ c))) rfl (by kernel_rfl) ⟨by simp [*], rfl⟩)
 ·skip
  have p3 : ¬ (a ≥ b) := of_decide_eq_false c1
  refine S.run 5 [] [6] (rs := []) (κ' := [(6, .bool false)]) (by kernel_rfl) (by kernel_rfl) rfl ?_
  exact S.regEnd (by kernel_rfl) (S.ret1 (v := .bool false) rfl (by kernel_rfl) ⟨by simp [*], rfl⟩)

theorem whole_spec (a : Int) (w : World) :
    Calls Try.prog 16 #[iV a] w (fun e w' => e = .returned (.bool (decide ((-1000000000 : Int) ≤ a) && decide (a ≤ (1000000000 : Int)))) ∧ w' = w) := by
 refine calls_of_S (n := 5) Try.func16 rfl rfl (by kernel_rfl) ?_
 refine S.seq (S.region (S.run 1 [] [0] (rs := []) (κ' := [(0, iV a)]) (by kernel_rfl) (by kernel_rfl) rfl ?_))
 refine S.regEnd (by kernel_rfl) (S.seq (S.region (S.run 1 [] [3] (rs := []) (κ' := [(3, iV a)]) (by kernel_rfl) (by kernel_rfl) rfl ?_)))
 refine S.one (by kernel_rfl) (S.call (dst := some 4) (f := 17) (args := #[iV a, iV (-1000000000), iV 1000000000]) (by kernel_rfl) (by kernel_rfl) ((in_spec a (-1000000000) 1000000000 w).mono ?_))
 rintro _ _ ⟨rfl, rfl⟩
 refine After.ret (by kernel_rfl) ?_
 refine S.run 1 [] [2] (rs := []) (κ' := [(2, .bool (decide ((-1000000000) ≤ a) && decide (a ≤ (1000000000 : Int))))]) (by kernel_rfl) (by kernel_rfl) rfl ?_
 exact S.regEnd (by kernel_rfl) (S.ret1 (v := .bool (decide ((-1000000000) ≤ a) && decide (a ≤ (1000000000 : Int)))) rfl (by kernel_rfl) ⟨rfl, rfl⟩)

theorem SameInts_spec (n m : Nat) (a b : Option Addr) (c d : Nat) (xs ys : List Int) (w : World) (R1 : Row n 3 1 intCs w a xs) (R2 : Row m 3 1 intCs w b ys) (hl1 : xs.length ≤ 9223372036854775807) (hl2 : ys.length ≤ 9223372036854775807) :
    Calls Try.prog 66 #[.slice a xs.length c, .slice b ys.length d] w (fun e w' => Ext E0 w w' ∧ e = .returned (.bool (xs == ys))) := by
 refine calls_of_S (n := 26) Try.func66 rfl rfl (by kernel_rfl) ?_
 refine S.seq (S.region (S.run 1 [] [0, 1] (rs := []) (κ' := [(0, .slice a xs.length c), (1, .slice b ys.length d)]) (by kernel_rfl) (by kernel_rfl) rfl ?_))
 refine S.regEnd (by kernel_rfl) (S.seq (S.seq (S.region (S.run 5 [] [0, 1, 10] (rs := []) (κ' := [(0, .slice a xs.length c), (1, .slice b ys.length d), (10, .bool (((xs.length : Nat) : Int) != ((ys.length : Nat) : Int)))]) (by kernel_rfl) (by kernel_rfl) rfl ?_))))
 refine S.regEnd (by kernel_rfl) (S.both 10 (((xs.length : Nat) : Int) != ((ys.length : Nat) : Int)) (by kernel_rfl) (fun c1 => ?_) (fun c1 => ?_))
 ·skip
  have p2 : ((xs.length : Nat) : Int) ≠ ((ys.length : Nat) : Int) := by simpa using c1
  refine S.yes (by kernel_rfl) (S.seq (S.region (S.run 1 [] [4] (rs := []) (κ' := [(4, .bool false)]) (by kernel_rfl) (by kernel_rfl) rfl ?_)))
  exact S.regEnd (by kernel_rfl) (S.ret1 (v := .bool false) rfl (by kernel_rfl) ⟨Ext.refl _, by rw [(same_len (by omega) : (xs == ys) = false)]⟩)
 ·skip
  have p3 : ((xs.length : Nat) : Int) = ((ys.length : Nat) : Int) := by simpa using c1
  refine S.no (by kernel_rfl) (S.skip (S.seq (S.seq (S.region (S.run 3 [] [0, 1, 12, 13] (rs := []) (κ' := [(0, .slice a xs.length c), (1, .slice b ys.length d), (12, iV ((xs.length : Nat) : Int)), (13, iV 0)]) (by kernel_rfl) (by kernel_rfl) rfl ?_)))))
  refine S.regEnd (by kernel_rfl) (S.block (S.weaken (ks := [0, 1, 12, 13]) (S.loop (fun m κ wj => ∃ i : Nat, i ≤ xs.length ∧ m = xs.length - i ∧ κ = [(0, .slice a xs.length c), (1, .slice b ys.length d), (12, iV ((xs.length : Nat) : Int)), (13, iV ((i : Nat) : Int))] ∧ Ext E0 w wj ∧ (∀ j, j < i → xs[j]? = ys[j]?)) ⟨0, Nat.zero_le _, rfl, by kernel_rfl, Ext.refl _, fun _ h => absurd h (Nat.not_lt_zero _)⟩ ?_)))
  rintro _ _ w4 ⟨i4, hi4, rfl, rfl, E4, hv4⟩
  have sE4 := E4.size
  refine S.seq (S.region (S.run 1 [] [0, 1, 12, 13, 14] (rs := []) (κ' := [(0, .slice a xs.length c), (1, .slice b ys.length d), (12, iV ((xs.length : Nat) : Int)), (13, iV ((i4 : Nat) : Int)), (14, .bool (decide (((i4 : Nat) : Int) < ((xs.length : Nat) : Int))))]) (by kernel_rfl) (by kernel_rfl) rfl ?_))
  refine S.regEnd (by kernel_rfl) (S.seq (S.both 14 (decide (((i4 : Nat) : Int) < ((xs.length : Nat) : Int))) (by kernel_rfl) (fun c5 => ?_) (fun c5 => ?_)))
  ·skip
   have p6 : ((i4 : Nat) : Int) < ((xs.length : Nat) : Int) := of_decide_eq_true c5
   refine S.yes (by kernel_rfl) (S.skip (S.seq (S.block (S.seq (S.region (S.run 2 [] [0, 1, 5, 12, 13] (rs := []) (κ' := [(0, .slice a xs.length c), (1, .slice b ys.length d), (5, iV ((i4 : Nat) : Int)), (12, iV ((xs.length : Nat) : Int)), (13, iV ((i4 : Nat) : Int))]) (by kernel_rfl) (by kernel_rfl) rfl ?_))))))
   refine S.regEnd (by kernel_rfl) (S.seq (S.drawN 9 #[false, false, false, false, false, false, false, false, false] 9 (fun u u' => Ext E0 u u') (fun u u' => Ext E0 u u') (by kernel_rfl) (by kernel_rfl) (by kernel_rfl) (fun w7 E7 z7 => ?_)))
   have sE7 := E7.size
   refine S.dreads bodyPost_panicOk [0, 1, 4, 5] 5 [] [0, 1, 12, 13, 16, 17, 20, 21] (rs := []) (κ' := [(0, .slice a xs.length c), (1, .slice b ys.length d), (12, iV ((xs.length : Nat) : Int)), (13, iV ((i4 : Nat) : Int)), (16, .slice a xs.length c), (17, iV ((i4 : Nat) : Int)), (20, .slice b ys.length d), (21, iV ((i4 : Nat) : Int))]) (l' := #[true, true, false, false, true, true, false, false, false]) (by kernel_rfl) (by kernel_rfl) (by kernel_rfl) (fun _ _ => rfl) ?_
   have R8 := R1.pres (.of0 E4)
   have R9 := R8.pres (.of0 E7)
   obtain ⟨x10, b10, o10, hx10, h10, H10⟩ := R9.get i4 (by omega)
   refine S.dlaw bodyPost_panicOk 2 18 4 (v := .pointer (some ⟨b10, o10 + i4 * 1, none⟩)) (l' := #[true, true, true, false, true, true, false, false, false]) (by kernel_rfl) (by kernel_rfl) (by kernel_rfl) (by kernel_rfl) (fun w' hw => lawRun (s := Instr.indexAt 23 (.slice a xs.length c) (.int .i64 ((i4 : Nat) : Int))) (by kernel_rfl) (run_idx (e := 3) i4 h10 (by kernel_rfl) (by kernel_rfl) (by omega))) ?_
   refine S.dreads bodyPost_panicOk [3] 3 [.v (iV x10)] [0, 1, 12, 13, 19, 20, 21] (rs := [.load ⟨b10, o10 + i4 * 1, none⟩ (iV x10)]) (κ' := [(0, .slice a xs.length c), (1, .slice b ys.length d), (12, iV ((xs.length : Nat) : Int)), (13, iV ((i4 : Nat) : Int)), (19, iV x10), (20, .slice b ys.length d), (21, iV ((i4 : Nat) : Int))]) (l' := #[true, true, true, true, true, true, false, false, false]) (by kernel_rfl) (by kernel_rfl) (by kernel_rfl) (fun w' hw => have hw := hw.elim id id; (.load ((H10.pres (.of0 hw)).cell0 rfl) .nil)) ?_
   have R11 := R2.pres (.of0 E4)
   have R12 := R11.pres (.of0 E7)
   obtain ⟨x13, b13, o13, hx13, h13, H13⟩ := R12.get i4 (by omega)
   refine S.dlaw bodyPost_panicOk 6 22 2 (v := .pointer (some ⟨b13, o13 + i4 * 1, none⟩)) (l' := #[true, true, true, true, true, true, true, false, false]) (by kernel_rfl) (by kernel_rfl) (by kernel_rfl) (by kernel_rfl) (fun w' hw => lawRun (s := Instr.indexAt 23 (.slice b ys.length d) (.int .i64 ((i4 : Nat) : Int))) (by kernel_rfl) (run_idx (e := 3) i4 h13 (by kernel_rfl) (by kernel_rfl) (by omega))) ?_
   refine S.dreads bodyPost_panicOk [7, 8] 0 [.v (iV x13)] [0, 1, 12, 13, 24] (rs := [.load ⟨b13, o13 + i4 * 1, none⟩ (iV x13)]) (κ' := [(0, .slice a xs.length c), (1, .slice b ys.length d), (12, iV ((xs.length : Nat) : Int)), (13, iV ((i4 : Nat) : Int)), (24, .bool (x10 != x13))]) (l' := #[true, true, true, true, true, true, true, true, true]) (by kernel_rfl) (by kernel_rfl) (by kernel_rfl) (fun w' hw => have hw := hw.elim id id; (.load ((H13.pres (.of0 hw)).cell0 rfl) .nil)) ?_
   refine S.dend (by kernel_rfl) (sw1 (by kernel_rfl) (Ext.refl _)) ?_
   refine S.both 24 (x10 != x13) (by kernel_rfl) (fun c14 => ?_) (fun c14 => ?_)
   ·skip
    have p15 : x10 ≠ x13 := by simpa using c14
    refine S.yes (by kernel_rfl) (S.seq (S.region (S.run 1 [] [4] (rs := []) (κ' := [(4, .bool false)]) (by kernel_rfl) (by kernel_rfl) rfl ?_)))
    exact S.regEnd (by kernel_rfl) (S.ret1 (v := .bool false) rfl (by kernel_rfl) ⟨E4.trans E7, by rw [(same_diff hx10 hx13 (by assumption) : (xs == ys) = false)]⟩)
   ·skip
    have p16 : x10 = x13 := by simpa using c14
    refine S.no (by kernel_rfl) (S.skip (S.out (S.region (S.run 1 [] [0, 1, 12, 13, 25] (rs := []) (κ' := [(0, .slice a xs.length c), (1, .slice b ys.length d), (12, iV ((xs.length : Nat) : Int)), (13, iV ((i4 : Nat) : Int)), (25, iV (IntKind.i64.wrap (((i4 : Nat) : Int) + 1)))]) (by kernel_rfl) (by kernel_rfl) rfl ?_))))
    refine S.subst 25 (iV (IntKind.i64.wrap (((i4 : Nat) : Int) + 1))) (iV ((i4 + 1 : Nat) : Int)) (by kernel_rfl) (congrArg (Value.int .i64) (by rw [wrap_i64 (by omega) (by omega)]; omega)) ?_
    refine S.run 1 [] [0, 1, 12, 13] (rs := []) (κ' := [(0, .slice a xs.length c), (1, .slice b ys.length d), (12, iV ((xs.length : Nat) : Int)), (13, iV ((i4 + 1 : Nat) : Int))]) (by kernel_rfl) (by kernel_rfl) rfl ?_
    exact S.regEnd (by kernel_rfl) (S.stop (fun _ hs hh hd => ⟨hs, hd, xs.length - (i4 + 1), [(0, .slice a xs.length c), (1, .slice b ys.length d), (12, iV ((xs.length : Nat) : Int)), (13, iV (((i4 + 1) : Nat) : Int))], by omega, hh, i4 + 1, by omega, rfl, rfl, (E4.trans E7), same_step hv4 hx10 hx13 (by assumption)⟩))
  ·skip
   have p17 : ¬ (((i4 : Nat) : Int) < ((xs.length : Nat) : Int)) := of_decide_eq_false c5
   refine S.no (by kernel_rfl) (S.exit rfl (S.seq (S.region (S.run 1 [] [4] (rs := []) (κ' := [(4, .bool true)]) (by kernel_rfl) (by kernel_rfl) rfl ?_))))
   exact S.regEnd (by kernel_rfl) (S.ret1 (v := .bool true) rfl (by kernel_rfl) ⟨E4, by rw [(same_all (by omega) (by assumption) (by omega) : (xs == ys) = true)]⟩)

theorem Equal_spec (n m : Nat) (a b : Option Addr) (c d : Nat) (xs ys : List Int) (w : World) (R1 : Row n 3 1 intCs w a xs) (R2 : Row m 3 1 intCs w b ys) (hl1 : xs.length ≤ 9223372036854775807) (hl2 : ys.length ≤ 9223372036854775807) :
    Calls Try.prog 14 #[.slice a xs.length c, .slice b ys.length d] w (fun e w' => Ext E0 w w' ∧ e = .returned (.bool (xs == ys))) := by
 refine calls_of_S (n := 26) Try.func14 rfl rfl (by kernel_rfl) ?_
 refine S.seq (S.region (S.run 1 [] [0, 1] (rs := []) (κ' := [(0, .slice a xs.length c), (1, .slice b ys.length d)]) (by kernel_rfl) (by kernel_rfl) rfl ?_))
 refine S.regEnd (by kernel_rfl) (S.seq (S.seq (S.region (S.run 5 [] [0, 1, 10] (rs := []) (κ' := [(0, .slice a xs.length c), (1, .slice b ys.length d), (10, .bool (((xs.length : Nat) : Int) != ((ys.length : Nat) : Int)))]) (by kernel_rfl) (by kernel_rfl) rfl ?_))))
 refine S.regEnd (by kernel_rfl) (S.both 10 (((xs.length : Nat) : Int) != ((ys.length : Nat) : Int)) (by kernel_rfl) (fun c1 => ?_) (fun c1 => ?_))
 ·skip
  have p2 : ((xs.length : Nat) : Int) ≠ ((ys.length : Nat) : Int) := by simpa using c1
  refine S.yes (by kernel_rfl) (S.seq (S.region (S.run 1 [] [4] (rs := []) (κ' := [(4, .bool false)]) (by kernel_rfl) (by kernel_rfl) rfl ?_)))
  exact S.regEnd (by kernel_rfl) (S.ret1 (v := .bool false) rfl (by kernel_rfl) ⟨Ext.refl _, by rw [(same_len (by omega) : (xs == ys) = false)]⟩)
 ·skip
  have p3 : ((xs.length : Nat) : Int) = ((ys.length : Nat) : Int) := by simpa using c1
  refine S.no (by kernel_rfl) (S.skip (S.seq (S.seq (S.region (S.run 3 [] [0, 1, 12, 13] (rs := []) (κ' := [(0, .slice a xs.length c), (1, .slice b ys.length d), (12, iV ((xs.length : Nat) : Int)), (13, iV 0)]) (by kernel_rfl) (by kernel_rfl) rfl ?_)))))
  refine S.regEnd (by kernel_rfl) (S.block (S.weaken (ks := [0, 1, 12, 13]) (S.loop (fun m κ wj => ∃ i : Nat, i ≤ xs.length ∧ m = xs.length - i ∧ κ = [(0, .slice a xs.length c), (1, .slice b ys.length d), (12, iV ((xs.length : Nat) : Int)), (13, iV ((i : Nat) : Int))] ∧ Ext E0 w wj ∧ (∀ j, j < i → xs[j]? = ys[j]?)) ⟨0, Nat.zero_le _, rfl, by kernel_rfl, Ext.refl _, fun _ h => absurd h (Nat.not_lt_zero _)⟩ ?_)))
  rintro _ _ w4 ⟨i4, hi4, rfl, rfl, E4, hv4⟩
  have sE4 := E4.size
  refine S.seq (S.region (S.run 1 [] [0, 1, 12, 13, 14] (rs := []) (κ' := [(0, .slice a xs.length c), (1, .slice b ys.length d), (12, iV ((xs.length : Nat) : Int)), (13, iV ((i4 : Nat) : Int)), (14, .bool (decide (((i4 : Nat) : Int) < ((xs.length : Nat) : Int))))]) (by kernel_rfl) (by kernel_rfl) rfl ?_))
  refine S.regEnd (by kernel_rfl) (S.seq (S.both 14 (decide (((i4 : Nat) : Int) < ((xs.length : Nat) : Int))) (by kernel_rfl) (fun c5 => ?_) (fun c5 => ?_)))
  ·skip
   have p6 : ((i4 : Nat) : Int) < ((xs.length : Nat) : Int) := of_decide_eq_true c5
   refine S.yes (by kernel_rfl) (S.skip (S.seq (S.block (S.seq (S.region (S.run 2 [] [0, 1, 5, 12, 13] (rs := []) (κ' := [(0, .slice a xs.length c), (1, .slice b ys.length d), (5, iV ((i4 : Nat) : Int)), (12, iV ((xs.length : Nat) : Int)), (13, iV ((i4 : Nat) : Int))]) (by kernel_rfl) (by kernel_rfl) rfl ?_))))))
   refine S.regEnd (by kernel_rfl) (S.seq (S.drawN 9 #[false, false, false, false, false, false, false, false, false] 9 (fun u u' => Ext E0 u u') (fun u u' => Ext E0 u u') (by kernel_rfl) (by kernel_rfl) (by kernel_rfl) (fun w7 E7 z7 => ?_)))
   have sE7 := E7.size
   refine S.dreads bodyPost_panicOk [0, 1, 4, 5] 5 [] [0, 1, 12, 13, 16, 17, 20, 21] (rs := []) (κ' := [(0, .slice a xs.length c), (1, .slice b ys.length d), (12, iV ((xs.length : Nat) : Int)), (13, iV ((i4 : Nat) : Int)), (16, .slice a xs.length c), (17, iV ((i4 : Nat) : Int)), (20, .slice b ys.length d), (21, iV ((i4 : Nat) : Int))]) (l' := #[true, true, false, false, true, true, false, false, false]) (by kernel_rfl) (by kernel_rfl) (by kernel_rfl) (fun _ _ => rfl) ?_
   have R8 := R1.pres (.of0 E4)
   have R9 := R8.pres (.of0 E7)
   obtain ⟨x10, b10, o10, hx10, h10, H10⟩ := R9.get i4 (by omega)
   refine S.dlaw bodyPost_panicOk 2 18 4 (v := .pointer (some ⟨b10, o10 + i4 * 1, none⟩)) (l' := #[true, true, true, false, true, true, false, false, false]) (by kernel_rfl) (by kernel_rfl) (by kernel_rfl) (by kernel_rfl) (fun w' hw => lawRun (s := Instr.indexAt 23 (.slice a xs.length c) (.int .i64 ((i4 : Nat) : Int))) (by kernel_rfl) (run_idx (e := 3) i4 h10 (by kernel_rfl) (by kernel_rfl) (by omega))) ?_
   refine S.dreads bodyPost_panicOk [3] 3 [.v (iV x10)] [0, 1, 12, 13, 19, 20, 21] (rs := [.load ⟨b10, o10 + i4 * 1, none⟩ (iV x10)]) (κ' := [(0, .slice a xs.length c), (1, .slice b ys.length d), (12, iV ((xs.length : Nat) : Int)), (13, iV ((i4 : Nat) : Int)), (19, iV x10), (20, .slice b ys.length d), (21, iV ((i4 : Nat) : Int))]) (l' := #[true, true, true, true, true, true, false, false, false]) (by kernel_rfl) (by kernel_rfl) (by kernel_rfl) (fun w' hw => have hw := hw.elim id id; (.load ((H10.pres (.of0 hw)).cell0 rfl) .nil)) ?_
   have R11 := R2.pres (.of0 E4)
   have R12 := R11.pres (.of0 E7)
   obtain ⟨x13, b13, o13, hx13, h13, H13⟩ := R12.get i4 (by omega)
   refine S.dlaw bodyPost_panicOk 6 22 2 (v := .pointer (some ⟨b13, o13 + i4 * 1, none⟩)) (l' := #[true, true, true, true, true, true, true, false, false]) (by kernel_rfl) (by kernel_rfl) (by kernel_rfl) (by kernel_rfl) (fun w' hw => lawRun (s := Instr.indexAt 23 (.slice b ys.length d) (.int .i64 ((i4 : Nat) : Int))) (by kernel_rfl) (run_idx (e := 3) i4 h13 (by kernel_rfl) (by kernel_rfl) (by omega))) ?_
   refine S.dreads bodyPost_panicOk [7, 8] 0 [.v (iV x13)] [0, 1, 12, 13, 24] (rs := [.load ⟨b13, o13 + i4 * 1, none⟩ (iV x13)]) (κ' := [(0, .slice a xs.length c), (1, .slice b ys.length d), (12, iV ((xs.length : Nat) : Int)), (13, iV ((i4 : Nat) : Int)), (24, .bool (x10 != x13))]) (l' := #[true, true, true, true, true, true, true, true, true]) (by kernel_rfl) (by kernel_rfl) (by kernel_rfl) (fun w' hw => have hw := hw.elim id id; (.load ((H13.pres (.of0 hw)).cell0 rfl) .nil)) ?_
   refine S.dend (by kernel_rfl) (sw1 (by kernel_rfl) (Ext.refl _)) ?_
   refine S.both 24 (x10 != x13) (by kernel_rfl) (fun c14 => ?_) (fun c14 => ?_)
   ·skip
    have p15 : x10 ≠ x13 := by simpa using c14
    refine S.yes (by kernel_rfl) (S.seq (S.region (S.run 1 [] [4] (rs := []) (κ' := [(4, .bool false)]) (by kernel_rfl) (by kernel_rfl) rfl ?_)))
    exact S.regEnd (by kernel_rfl) (S.ret1 (v := .bool false) rfl (by kernel_rfl) ⟨E4.trans E7, by rw [(same_diff hx10 hx13 (by assumption) : (xs == ys) = false)]⟩)
   ·skip
    have p16 : x10 = x13 := by simpa using c14
    refine S.no (by kernel_rfl) (S.skip (S.out (S.region (S.run 1 [] [0, 1, 12, 13, 25] (rs := []) (κ' := [(0, .slice a xs.length c), (1, .slice b ys.length d), (12, iV ((xs.length : Nat) : Int)), (13, iV ((i4 : Nat) : Int)), (25, iV (IntKind.i64.wrap (((i4 : Nat) : Int) + 1)))]) (by kernel_rfl) (by kernel_rfl) rfl ?_))))
    refine S.subst 25 (iV (IntKind.i64.wrap (((i4 : Nat) : Int) + 1))) (iV ((i4 + 1 : Nat) : Int)) (by kernel_rfl) (congrArg (Value.int .i64) (by rw [wrap_i64 (by omega) (by omega)]; omega)) ?_
    refine S.run 1 [] [0, 1, 12, 13] (rs := []) (κ' := [(0, .slice a xs.length c), (1, .slice b ys.length d), (12, iV ((xs.length : Nat) : Int)), (13, iV ((i4 + 1 : Nat) : Int))]) (by kernel_rfl) (by kernel_rfl) rfl ?_
    exact S.regEnd (by kernel_rfl) (S.stop (fun _ hs hh hd => ⟨hs, hd, xs.length - (i4 + 1), [(0, .slice a xs.length c), (1, .slice b ys.length d), (12, iV ((xs.length : Nat) : Int)), (13, iV (((i4 + 1) : Nat) : Int))], by omega, hh, i4 + 1, by omega, rfl, rfl, (E4.trans E7), same_step hv4 hx10 hx13 (by assumption)⟩))
  ·skip
   have p17 : ¬ (((i4 : Nat) : Int) < ((xs.length : Nat) : Int)) := of_decide_eq_false c5
   refine S.no (by kernel_rfl) (S.exit rfl (S.seq (S.region (S.run 1 [] [4] (rs := []) (κ' := [(4, .bool true)]) (by kernel_rfl) (by kernel_rfl) rfl ?_))))
   exact S.regEnd (by kernel_rfl) (S.ret1 (v := .bool true) rfl (by kernel_rfl) ⟨E4, by rw [(same_all (by omega) (by assumption) (by omega) : (xs == ys) = true)]⟩)

end Go.Proofs.Ytmgakpnejbembaa
