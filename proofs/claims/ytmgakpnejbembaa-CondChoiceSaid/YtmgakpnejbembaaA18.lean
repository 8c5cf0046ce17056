/-
  CondChoice, a part of the proof (printed by a program of the prover): what functions of the given program compute, each under the conditions that its theorem names.
-/
import Derived.Test.YtmgakpnejbembaaA17
namespace Go.Proofs.Ytmgakpnejbembaa
open Go Go.Proofs.Ytmgakpnejbembaa.L

/-- A slice of integers that was there. -/
def LS.okA (n : Nat) (w : World) (s : LS) : Prop := Row n 0 1 intCs w s.a s.xs ∧ s.xs.length ≤ 9223372036854775807
theorem LS.okA.pres {n : Nat} {w w' : World} {s : LS} (h : s.okA n w) (k : Pres n 0 w w') : s.okA n w' := ⟨h.1.pres k, h.2⟩
theorem LS.okA.mono {n m : Nat} {w : World} {s : LS} (h : s.okA n w) (k : n ≤ m) : s.okA m w := ⟨h.1.mono k, h.2⟩
theorem neg1_spec (q : Int) (w : World) :
    Calls Try.prog 19 #[iV q] w (fun e w' => e = .returned (.bool (decide (q < 0))) ∧ w' = w) := by
 refine calls_of_S (n := 5) Try.func19 rfl rfl (by kernel_rfl) ?_
 refine S.seq (S.region (S.run 1 [] [0] (rs := []) (κ' := [(0, iV q)]) (by kernel_rfl) (by kernel_rfl) rfl ?_))
 refine S.regEnd (by kernel_rfl) (S.seq (S.region (S.run 3 [] [2] (rs := []) (κ' := [(2, .bool (decide (q < 0)))]) (by kernel_rfl) (by kernel_rfl) rfl ?_)))
 exact S.regEnd (by kernel_rfl) (S.ret1 (v := .bool (decide (q < 0))) rfl (by kernel_rfl) ⟨rfl, rfl⟩)

theorem neg_spec {n : Nat} {k : LS} {w : World} (hk : k.okA n w) : Calls Try.prog 18 #[.slice k.a k.xs.length k.cap, .func (.func 19) #[] #[]] w (fun e w' => Ext E0 w w' ∧ e = .returned (.bool !(k.xs.all fun q => decide (0 ≤ q)))) := by
  refine (ContainsFunc_int n k.a k.cap _ k.xs (fun i w' => Ext E0 w w' ∧ ∀ j q, j < i → k.xs[j]? = some q → 0 ≤ q) (fun _ w' => Ext E0 w w' ∧ ∃ q, q ∈ k.xs ∧ q < 0) w hk.2 (fun i w' h => hk.1.pres (.of0 h.1)) ?_ ⟨Ext.refl _, fun j q h => absurd h (Nat.not_lt_zero _)⟩).mono ?_
  · rintro i q w1 hq ⟨hx, hj⟩
    refine callSem_func (fn := Try.f19) (by kernel_rfl) ((neg1_spec q w1).mono ?_)
    rintro _ _ ⟨rfl, rfl⟩
    by_cases h0 : q < 0
    · exact .inr ⟨by rw [decide_eq_true h0], hx, q, List.mem_of_getElem? hq, h0⟩
    · refine .inl ⟨by rw [decide_eq_false h0], hx, fun j q' hj' hq' => ?_⟩
      rcases Nat.lt_succ_iff_lt_or_eq.1 hj' with h | rfl
      · exact hj j q' h hq'
      · rw [hq] at hq'; injection hq' with e; omega
  · rintro e w' (⟨rfl, hx, hj⟩ | ⟨i, hi, rfl, hx, q, hq, h0⟩)
    · refine ⟨hx, ?_⟩
      have : (k.xs.all fun q => decide (0 ≤ q)) = true := by
        rw [List.all_eq_true]
        intro q hq
        obtain ⟨j, hj', e⟩ := List.getElem_of_mem hq
        exact decide_eq_true (hj j q hj' (by rw [List.getElem?_eq_getElem hj', e]))
      rw [this]; rfl
    · refine ⟨hx, ?_⟩
      have : (k.xs.all fun q => decide (0 ≤ q)) = false := by
        rw [List.all_eq_false]
        exact ⟨q, hq, by simp; omega⟩
      rw [this]; rfl

theorem Drive_spec (n : Nat) (p : LP) (k : LS) (hand fuel : Int) (w : World) (hp : p.ok n w) (hk : k.okA n w) (hc : k.xs.length ≤ k.cap) (hn : n ≤ w.heap.size) :
    Calls Try.prog 5 #[.slice p.a p.xs.length p.cap, iV hand, .slice k.a k.xs.length k.cap, iV fuel] w (DriveP p.xs hand k.xs fuel w) := by
 refine calls_of_S (n := 48) Try.func5 rfl rfl (by kernel_rfl) ?_
 have hbig := hp.2.1; have hkb := hk.2
 refine S.seq (S.region (S.one (by kernel_rfl) (S.new 8 [iV 0, iV 0, .slice none 0 0, iV 0] 29 (fun b => pT b) (by kernel_rfl) (by kernel_rfl) (fun b => by kernel_rfl) (fun b1 w1 E1 B1 e1 z1 => ?_))))
 have sE1 := E1.size
 refine S.run 1 [] [0, 1, 2, 3, 8] (rs := []) (κ' := [(0, .slice p.a p.xs.length p.cap), (1, iV hand), (2, .slice k.a k.xs.length k.cap), (3, iV fuel), (8, pT b1)]) (by kernel_rfl) (by kernel_rfl) rfl ?_
 refine S.regEnd (by kernel_rfl) (S.seq (S.seq (S.region (S.run 1 [] [0, 1, 2, 3, 8, 11] (rs := []) (κ' := [(0, .slice p.a p.xs.length p.cap), (1, iV hand), (2, .slice k.a k.xs.length k.cap), (3, iV fuel), (8, pT b1), (11, .slice p.a p.xs.length p.cap)]) (by kernel_rfl) (by kernel_rfl) rfl ?_))))
 have T3 := hp.pres (.of0 E1)
 refine S.one (by kernel_rfl) (S.call (dst := some 12) (f := 15) (args := #[.slice p.a p.xs.length p.cap]) (by kernel_rfl) (by kernel_rfl) ((fine_spec _ p _ T3 (by omega)).mono ?_))
 rintro _ w2 ⟨E2, rfl⟩
 refine After.ret (by kernel_rfl) ?_
 have sE2 := E2.size
 refine S.run 2 [] [0, 1, 2, 3, 8, 14] (rs := []) (κ' := [(0, .slice p.a p.xs.length p.cap), (1, iV hand), (2, .slice k.a k.xs.length k.cap), (3, iV fuel), (8, pT b1), (14, .bool (!(fineS p.xs)))]) (by kernel_rfl) (by kernel_rfl) rfl ?_
 refine S.both 14 (!(fineS p.xs)) (by kernel_rfl) (fun c4 => ?_) (fun c4 => ?_)
 ·skip
  have c5 : (fineS p.xs) = false := notT c4
  refine S.run 18 [] [0, 1, 2, 3, 8, 32] (rs := []) (κ' := [(0, .slice p.a p.xs.length p.cap), (1, iV hand), (2, .slice k.a k.xs.length k.cap), (3, iV fuel), (8, pT b1), (32, .bool true)]) (by kernel_rfl) (by kernel_rfl) rfl ?_
  refine S.regEnd (by kernel_rfl) (S.yes (by kernel_rfl) (S.seq (S.region (S.run 1 [] [8, 33] (rs := []) (κ' := [(8, pT b1), (33, .agg #[iV 0, iV 0, .slice none 0 0, iV 0])]) (by kernel_rfl) (by kernel_rfl) rfl ?_))))
  have B7 := B1.ext0 E2
  refine S.one (by kernel_rfl) (S.store 0 [iV 0, iV 0, .slice none 0 0, iV 0] [iV 0, iV 0, .slice none 0 0, iV 0] B7 (by kernel_rfl) (by kernel_rfl) (by kernel_rfl) (by kernel_rfl) (by kernel_rfl) (fun w8 E8 B8 z8 => ?_))
  have sE8 := E8.size
  refine S.run 1 [] [8, 9] (rs := []) (κ' := [(8, pT b1), (9, iV 2)]) (by kernel_rfl) (by kernel_rfl) rfl ?_
  refine S.regEnd (by kernel_rfl) ?_
  have hokd : okD p.xs hand k.xs fuel = false := by simp [okD, *] <;> omega
  exact S.retR (A := [.v (iV 0), .v (iV 0), .v (.slice none 0 0), .v (iV 0)]) (rs := [.load ⟨b1, 0, none⟩ (iV 0), .load ⟨b1, 1, none⟩ (iV 0), .load ⟨b1, 2, none⟩ (.slice none 0 0), .load ⟨b1, 3, none⟩ (iV 0)]) (v := .tuple #[.agg #[iV 0, iV 0, .slice none 0 0, iV 0], iV 2]) (fun _ => by kernel_rfl) (.load (B8.cell 0 rfl) (.load (B8.cell 1 rfl) (.load (B8.cell 2 rfl) (.load (B8.cell 3 rfl) .nil)))) (⟨(E1.trans E2).thenS E8 (by omega), .inr ⟨hokd, rfl⟩⟩)
 ·skip
  have c9 : (fineS p.xs) = true := notF c4
  refine S.run 1 [] [0, 1, 2, 3, 8, 14, 15] (rs := []) (κ' := [(0, .slice p.a p.xs.length p.cap), (1, iV hand), (2, .slice k.a k.xs.length k.cap), (3, iV fuel), (8, pT b1), (14, .bool false), (15, iV hand)]) (by kernel_rfl) (by kernel_rfl) rfl ?_
  refine S.one (by kernel_rfl) (S.call (dst := some 16) (f := 16) (args := #[iV hand]) (by kernel_rfl) (by kernel_rfl) ((whole_spec hand w2).mono ?_))
  rintro _ _ ⟨rfl, hw9⟩
  have hw9 := hw9.symm; subst hw9
  refine After.ret (by kernel_rfl) ?_
  refine S.run 3 [] [0, 1, 2, 3, 8, 19] (rs := []) (κ' := [(0, .slice p.a p.xs.length p.cap), (1, iV hand), (2, .slice k.a k.xs.length k.cap), (3, iV fuel), (8, pT b1), (19, .bool (!(decide ((-1000000000 : Int) ≤ hand) && decide (hand ≤ (1000000000 : Int)))))]) (by kernel_rfl) (by kernel_rfl) rfl ?_
  refine S.both 19 (!(decide ((-1000000000 : Int) ≤ hand) && decide (hand ≤ (1000000000 : Int)))) (by kernel_rfl) (fun c11 => ?_) (fun c11 => ?_)
  ·skip
   have c12 : (decide ((-1000000000 : Int) ≤ hand) && decide (hand ≤ (1000000000 : Int))) = false := notT c11
   refine S.run 13 [] [0, 1, 2, 3, 8, 32] (rs := []) (κ' := [(0, .slice p.a p.xs.length p.cap), (1, iV hand), (2, .slice k.a k.xs.length k.cap), (3, iV fuel), (8, pT b1), (32, .bool true)]) (by kernel_rfl) (by kernel_rfl) rfl ?_
   refine S.regEnd (by kernel_rfl) (S.yes (by kernel_rfl) (S.seq (S.region (S.run 1 [] [8, 33] (rs := []) (κ' := [(8, pT b1), (33, .agg #[iV 0, iV 0, .slice none 0 0, iV 0])]) (by kernel_rfl) (by kernel_rfl) rfl ?_))))
   have B14 := B1.ext0 E2
   refine S.one (by kernel_rfl) (S.store 0 [iV 0, iV 0, .slice none 0 0, iV 0] [iV 0, iV 0, .slice none 0 0, iV 0] B14 (by kernel_rfl) (by kernel_rfl) (by kernel_rfl) (by kernel_rfl) (by kernel_rfl) (fun w15 E15 B15 z15 => ?_))
   have sE15 := E15.size
   refine S.run 1 [] [8, 9] (rs := []) (κ' := [(8, pT b1), (9, iV 2)]) (by kernel_rfl) (by kernel_rfl) rfl ?_
   refine S.regEnd (by kernel_rfl) ?_
   have hokd : okD p.xs hand k.xs fuel = false := by simp [okD, *] <;> omega
   exact S.retR (A := [.v (iV 0), .v (iV 0), .v (.slice none 0 0), .v (iV 0)]) (rs := [.load ⟨b1, 0, none⟩ (iV 0), .load ⟨b1, 1, none⟩ (iV 0), .load ⟨b1, 2, none⟩ (.slice none 0 0), .load ⟨b1, 3, none⟩ (iV 0)]) (v := .tuple #[.agg #[iV 0, iV 0, .slice none 0 0, iV 0], iV 2]) (fun _ => by kernel_rfl) (.load (B15.cell 0 rfl) (.load (B15.cell 1 rfl) (.load (B15.cell 2 rfl) (.load (B15.cell 3 rfl) .nil)))) (⟨(E1.trans E2).thenS E15 (by omega), .inr ⟨hokd, rfl⟩⟩)
  ·skip
   have c16 : (decide ((-1000000000 : Int) ≤ hand) && decide (hand ≤ (1000000000 : Int))) = true := notF c11
   refine S.run 1 [] [0, 1, 2, 3, 8, 19, 20] (rs := []) (κ' := [(0, .slice p.a p.xs.length p.cap), (1, iV hand), (2, .slice k.a k.xs.length k.cap), (3, iV fuel), (8, pT b1), (19, .bool false), (20, iV fuel)]) (by kernel_rfl) (by kernel_rfl) rfl ?_
   refine S.one (by kernel_rfl) (S.call (dst := some 21) (f := 17) (args := #[iV fuel, iV 0, iV 300]) (by kernel_rfl) (by kernel_rfl) ((in_spec fuel 0 300 w2).mono ?_))
   rintro _ _ ⟨rfl, hw9⟩
   have hw9 := hw9.symm; subst hw9
   refine After.ret (by kernel_rfl) ?_
   refine S.run 3 [] [0, 1, 2, 3, 8, 24] (rs := []) (κ' := [(0, .slice p.a p.xs.length p.cap), (1, iV hand), (2, .slice k.a k.xs.length k.cap), (3, iV fuel), (8, pT b1), (24, .bool (!(decide ((0 : Int) ≤ fuel) && decide (fuel ≤ (300 : Int)))))]) (by kernel_rfl) (by kernel_rfl) rfl ?_
   refine S.both 24 (!(decide ((0 : Int) ≤ fuel) && decide (fuel ≤ (300 : Int)))) (by kernel_rfl) (fun c18 => ?_) (fun c18 => ?_)
   ·skip
    have c19 : (decide ((0 : Int) ≤ fuel) && decide (fuel ≤ (300 : Int))) = false := notT c18
    refine S.run 8 [] [0, 1, 2, 3, 8, 32] (rs := []) (κ' := [(0, .slice p.a p.xs.length p.cap), (1, iV hand), (2, .slice k.a k.xs.length k.cap), (3, iV fuel), (8, pT b1), (32, .bool true)]) (by kernel_rfl) (by kernel_rfl) rfl ?_
    refine S.regEnd (by kernel_rfl) (S.yes (by kernel_rfl) (S.seq (S.region (S.run 1 [] [8, 33] (rs := []) (κ' := [(8, pT b1), (33, .agg #[iV 0, iV 0, .slice none 0 0, iV 0])]) (by kernel_rfl) (by kernel_rfl) rfl ?_))))
    have B21 := B1.ext0 E2
    refine S.one (by kernel_rfl) (S.store 0 [iV 0, iV 0, .slice none 0 0, iV 0] [iV 0, iV 0, .slice none 0 0, iV 0] B21 (by kernel_rfl) (by kernel_rfl) (by kernel_rfl) (by kernel_rfl) (by kernel_rfl) (fun w22 E22 B22 z22 => ?_))
    have sE22 := E22.size
    refine S.run 1 [] [8, 9] (rs := []) (κ' := [(8, pT b1), (9, iV 2)]) (by kernel_rfl) (by kernel_rfl) rfl ?_
    refine S.regEnd (by kernel_rfl) ?_
    have hokd : okD p.xs hand k.xs fuel = false := by simp [okD, *] <;> omega
    exact S.retR (A := [.v (iV 0), .v (iV 0), .v (.slice none 0 0), .v (iV 0)]) (rs := [.load ⟨b1, 0, none⟩ (iV 0), .load ⟨b1, 1, none⟩ (iV 0), .load ⟨b1, 2, none⟩ (.slice none 0 0), .load ⟨b1, 3, none⟩ (iV 0)]) (v := .tuple #[.agg #[iV 0, iV 0, .slice none 0 0, iV 0], iV 2]) (fun _ => by kernel_rfl) (.load (B22.cell 0 rfl) (.load (B22.cell 1 rfl) (.load (B22.cell 2 rfl) (.load (B22.cell 3 rfl) .nil)))) (⟨(E1.trans E2).thenS E22 (by omega), .inr ⟨hokd, rfl⟩⟩)
   ·skip
    have c23 : (decide ((0 : Int) ≤ fuel) && decide (fuel ≤ (300 : Int))) = true := notF c18
    refine S.run 5 [] [0, 1, 2, 3, 8, 29] (rs := []) (κ' := [(0, .slice p.a p.xs.length p.cap), (1, iV hand), (2, .slice k.a k.xs.length k.cap), (3, iV fuel), (8, pT b1), (29, .bool (decide (((k.xs.length : Nat) : Int) > 40)))]) (by kernel_rfl) (by kernel_rfl) rfl ?_
    refine S.both 29 (decide (((k.xs.length : Nat) : Int) > 40)) (by kernel_rfl) (fun c25 => ?_) (fun c25 => ?_)
    ·skip
     have p26 : ((k.xs.length : Nat) : Int) > 40 := of_decide_eq_true c25
     refine S.run 3 [] [0, 1, 2, 3, 8, 32] (rs := []) (κ' := [(0, .slice p.a p.xs.length p.cap), (1, iV hand), (2, .slice k.a k.xs.length k.cap), (3, iV fuel), (8, pT b1), (32, .bool true)]) (by kernel_rfl) (by kernel_rfl) rfl ?_
     refine S.regEnd (by kernel_rfl) (S.yes (by kernel_rfl) (S.seq (S.region (S.run 1 [] [8, 33] (rs := []) (κ' := [(8, pT b1), (33, .agg #[iV 0, iV 0, .slice none 0 0, iV 0])]) (by kernel_rfl) (by kernel_rfl) rfl ?_))))
     have B27 := B1.ext0 E2
     refine S.one (by kernel_rfl) (S.store 0 [iV 0, iV 0, .slice none 0 0, iV 0] [iV 0, iV 0, .slice none 0 0, iV 0] B27 (by kernel_rfl) (by kernel_rfl) (by kernel_rfl) (by kernel_rfl) (by kernel_rfl) (fun w28 E28 B28 z28 => ?_))
     have sE28 := E28.size
     refine S.run 1 [] [8, 9] (rs := []) (κ' := [(8, pT b1), (9, iV 2)]) (by kernel_rfl) (by kernel_rfl) rfl ?_
     refine S.regEnd (by kernel_rfl) ?_
     have hokd : okD p.xs hand k.xs fuel = false := by simp [okD, *] <;> omega
     exact S.retR (A := [.v (iV 0), .v (iV 0), .v (.slice none 0 0), .v (iV 0)]) (rs := [.load ⟨b1, 0, none⟩ (iV 0), .load ⟨b1, 1, none⟩ (iV 0), .load ⟨b1, 2, none⟩ (.slice none 0 0), .load ⟨b1, 3, none⟩ (iV 0)]) (v := .tuple #[.agg #[iV 0, iV 0, .slice none 0 0, iV 0], iV 2]) (fun _ => by kernel_rfl) (.load (B28.cell 0 rfl) (.load (B28.cell 1 rfl) (.load (B28.cell 2 rfl) (.load (B28.cell 3 rfl) .nil)))) (⟨(E1.trans E2).thenS E28 (by omega), .inr ⟨hokd, rfl⟩⟩)
    ·skip
     have p29 : ¬ (((k.xs.length : Nat) : Int) > 40) := of_decide_eq_false c25
     refine S.run 1 [] [0, 1, 2, 3, 8, 29, 30] (rs := []) (κ' := [(0, .slice p.a p.xs.length p.cap), (1, iV hand), (2, .slice k.a k.xs.length k.cap), (3, iV fuel), (8, pT b1), (29, .bool false), (30, .slice k.a k.xs.length k.cap)]) (by kernel_rfl) (by kernel_rfl) rfl ?_
     have T31 := hk.pres (.of0 E1)
     have T32 := T31.pres (.of0 E2)
     refine S.one (by kernel_rfl) (S.call (dst := some 31) (f := 18) (args := #[.slice k.a k.xs.length k.cap, .func (.func 19) #[] #[]]) (by kernel_rfl) (by kernel_rfl) ((neg_spec T32).mono ?_))
     rintro _ w30 ⟨E30, rfl⟩
     refine After.ret (by kernel_rfl) ?_
     have sE30 := E30.size
     refine S.run 1 [] [0, 1, 2, 3, 8, 32] (rs := []) (κ' := [(0, .slice p.a p.xs.length p.cap), (1, iV hand), (2, .slice k.a k.xs.length k.cap), (3, iV fuel), (8, pT b1), (32, .bool (!(k.xs.all fun q => decide (0 ≤ q))))]) (by kernel_rfl) (by kernel_rfl) rfl ?_
     refine S.regEnd (by kernel_rfl) (S.both 32 (!(k.xs.all fun q => decide (0 ≤ q))) (by kernel_rfl) (fun c33 => ?_) (fun c33 => ?_))
     ·skip
      have c34 : (k.xs.all fun q => decide (0 ≤ q)) = false := notT c33
      refine S.yes (by kernel_rfl) (S.seq (S.region (S.run 1 [] [8, 33] (rs := []) (κ' := [(8, pT b1), (33, .agg #[iV 0, iV 0, .slice none 0 0, iV 0])]) (by kernel_rfl) (by kernel_rfl) rfl ?_)))
      have B36 := B1.ext0 E2
      have B37 := B36.ext0 E30
      refine S.one (by kernel_rfl) (S.store 0 [iV 0, iV 0, .slice none 0 0, iV 0] [iV 0, iV 0, .slice none 0 0, iV 0] B37 (by kernel_rfl) (by kernel_rfl) (by kernel_rfl) (by kernel_rfl) (by kernel_rfl) (fun w38 E38 B38 z38 => ?_))
      have sE38 := E38.size
      refine S.run 1 [] [8, 9] (rs := []) (κ' := [(8, pT b1), (9, iV 2)]) (by kernel_rfl) (by kernel_rfl) rfl ?_
      refine S.regEnd (by kernel_rfl) ?_
      have hokd : okD p.xs hand k.xs fuel = false := by simp [okD, *] <;> omega
      exact S.retR (A := [.v (iV 0), .v (iV 0), .v (.slice none 0 0), .v (iV 0)]) (rs := [.load ⟨b1, 0, none⟩ (iV 0), .load ⟨b1, 1, none⟩ (iV 0), .load ⟨b1, 2, none⟩ (.slice none 0 0), .load ⟨b1, 3, none⟩ (iV 0)]) (v := .tuple #[.agg #[iV 0, iV 0, .slice none 0 0, iV 0], iV 2]) (fun _ => by kernel_rfl) (.load (B38.cell 0 rfl) (.load (B38.cell 1 rfl) (.load (B38.cell 2 rfl) (.load (B38.cell 3 rfl) .nil)))) (⟨((E1.trans E2).trans E30).thenS E38 (by omega), .inr ⟨hokd, rfl⟩⟩)
     ·skip
      have c39 : (k.xs.all fun q => decide (0 ≤ q)) = true := notF c33
      refine S.no (by kernel_rfl) (S.skip (S.seq (S.region (S.run 4 [] [1, 8, 35, 36, 37] (rs := []) (κ' := [(1, iV hand), (8, pT b1), (35, .agg #[iV 0, iV 0, .slice none 0 0, iV fuel]), (36, .slice p.a p.xs.length p.cap), (37, .slice k.a k.xs.length k.cap)]) (by kernel_rfl) (by kernel_rfl) rfl ?_))))
      refine S.one (by kernel_rfl) (S.call (dst := some 38) (f := 20) (args := #[]) (by kernel_rfl) (by kernel_rfl) ((does_spec w30).mono ?_))
      rintro _ w41 ⟨E41, md, rfl, hmd⟩
      refine After.ret (by kernel_rfl) ?_
      have sE41 := E41.size
      refine S.run 1 [] [1, 8, 39] (rs := []) (κ' := [(1, iV hand), (8, pT b1), (39, .agg #[iV 0, iV 0, .slice none 0 0, iV fuel, .slice p.a p.xs.length p.cap, .slice k.a k.xs.length k.cap, .map (some md)])]) (by kernel_rfl) (by kernel_rfl) rfl ?_
      refine S.one (by kernel_rfl) (S.new 40 [iV 0, iV 0, .slice none 0 0, iV fuel, .slice p.a p.xs.length p.cap, .slice k.a k.xs.length k.cap, .map (some md)] 56 (fun b => pT b) (by kernel_rfl) (by kernel_rfl) (fun b => by kernel_rfl) (fun b42 w42 E42 B42 e42 z42 => ?_))
      have sE42 := E42.size
      refine S.run 1 [] [1, 8, 10] (rs := []) (κ' := [(1, iV hand), (8, pT b1), (10, pT b42)]) (by kernel_rfl) (by kernel_rfl) rfl ?_
      refine S.regEnd (by kernel_rfl) (S.seq (S.region (S.run 2 [] [8, 10, 41, 42] (rs := []) (κ' := [(8, pT b1), (10, pT b42), (41, pT b42), (42, iV hand)]) (by kernel_rfl) (by kernel_rfl) rfl ?_)))
      have O44 := hmd.ext0 E42
      have T45 := T3.pres (.of0 E2)
      have T46 := T45.pres (.of0 E30)
      have T47 := T46.pres (.of0 E41)
      have T48 := T47.pres (.of0 E42)
      have T49 := T32.pres (.of0 E30)
      have T50 := T49.pres (.of0 E41)
      have T51 := T50.pres (.of0 E42)
      have hfine := wf_fine c9
      have hhand := c16; simp only [Bool.and_eq_true, decide_eq_true_eq] at hhand
      have hfuel := c23; simp only [Bool.and_eq_true, decide_eq_true_eq] at hfuel
      obtain ⟨fu, rfl⟩ : ∃ fu : Nat, fuel = ((fu : Nat) : Int) := ⟨fuel.toNat, by omega⟩
      have hpk : ∀ q, q ∈ k.xs → 0 ≤ q := fun q hq => of_decide_eq_true (List.all_eq_true.1 c39 q hq)
      have hR : RunE w.heap.size b42 md p w42 ⟨fu, [], k.xs⟩ [] := ⟨none, 0, k.a, k.cap, B42, OwnR.nil _ _ _ _, (fun e he => by simp at he), rfl, T51.1.mono hn, by show k.xs.length ≤ 40; omega, O44, T48.mono hn, by omega, by omega, hpk, hc⟩
      refine S.one (by kernel_rfl) (S.call (dst := some 43) (f := 21) (args := #[pT b42, iV hand]) (by kernel_rfl) (by kernel_rfl) ((runs_spec p hfine.1 w.heap.size b42 md _ fu k.xs hand hR (by omega) hhand (by omega)).mono ?_))
      rintro _ w43 ⟨rfl, X43, ea, ec, les, ka, kn, kc, hB, hO, hE, hev⟩
      refine After.ret (by kernel_rfl) ?_
      have sX43 := X43.size
      refine S.regEnd (by kernel_rfl) (S.seq (S.region (S.run 4 [.v (iV ((driveS p.xs hand k.xs fu).fin)), .v (iV ((driveS p.xs hand k.xs fu).val)), .v (.slice ea les.length ec), .v (iV (((driveS p.xs hand k.xs fu).fuel : Nat) : Int))] [8, 47] (rs := [.load ⟨b42, 0, none⟩ (iV ((driveS p.xs hand k.xs fu).fin)), .load ⟨b42, 1, none⟩ (iV ((driveS p.xs hand k.xs fu).val)), .load ⟨b42, 2, none⟩ (.slice ea les.length ec), .load ⟨b42, 3, none⟩ (iV (((driveS p.xs hand k.xs fu).fuel : Nat) : Int))]) (κ' := [(8, pT b1), (47, .agg #[iV ((driveS p.xs hand k.xs fu).fin), iV ((driveS p.xs hand k.xs fu).val), .slice ea les.length ec, iV (((driveS p.xs hand k.xs fu).fuel : Nat) : Int)])]) (by kernel_rfl) (by kernel_rfl) (.load (hB.cell 0 rfl) (.load (hB.cell 1 rfl) (.load (hB.cell 2 rfl) (.load (hB.cell 3 rfl) .nil)))) ?_)))
      have B52 := B1.ext0 E2
      have B53 := B52.ext0 E30
      have B54 := B53.ext0 E41
      have B55 := B54.ext0 E42
      have B56 := B55.xt X43 (by decide)
      refine S.one (by kernel_rfl) (S.store 0 [iV ((driveS p.xs hand k.xs fu).fin), iV ((driveS p.xs hand k.xs fu).val), .slice ea les.length ec, iV (((driveS p.xs hand k.xs fu).fuel : Nat) : Int)] [iV ((driveS p.xs hand k.xs fu).fin), iV ((driveS p.xs hand k.xs fu).val), .slice ea les.length ec, iV (((driveS p.xs hand k.xs fu).fuel : Nat) : Int)] B56 (by kernel_rfl) (by kernel_rfl) (by kernel_rfl) (by kernel_rfl) (by kernel_rfl) (fun w57 E57 B57 z57 => ?_))
      have sE57 := E57.size
      refine S.run 1 [] [8, 9] (rs := []) (κ' := [(8, pT b1), (9, iV 0)]) (by kernel_rfl) (by kernel_rfl) rfl ?_
      refine S.regEnd (by kernel_rfl) ?_
      have hlen := drive_len p.xs hand k.xs fu; rw [hev, List.length_map] at hlen
      have U58 := hO.presN hO.lt (.ofE E57 B56 (by decide))
      have T59 := hE.pres (.ofE E57 B56 (by decide))
      have hokd : okD p.xs hand k.xs ((fu : Nat) : Int) = true := by unfold okD; rw [c9, c16, c23, decide_eq_true (show k.xs.length ≤ 40 by omega), c39]; rfl
      exact S.retR (A := [.v (iV ((driveS p.xs hand k.xs fu).fin)), .v (iV ((driveS p.xs hand k.xs fu).val)), .v (.slice ea les.length ec), .v (iV (((driveS p.xs hand k.xs fu).fuel : Nat) : Int))]) (rs := [.load ⟨b1, 0, none⟩ (iV ((driveS p.xs hand k.xs fu).fin)), .load ⟨b1, 1, none⟩ (iV ((driveS p.xs hand k.xs fu).val)), .load ⟨b1, 2, none⟩ (.slice ea les.length ec), .load ⟨b1, 3, none⟩ (iV (((driveS p.xs hand k.xs fu).fuel : Nat) : Int))]) (v := .tuple #[.agg #[iV ((driveS p.xs hand k.xs fu).fin), iV ((driveS p.xs hand k.xs fu).val), .slice ea les.length ec, iV (((driveS p.xs hand k.xs fu).fuel : Nat) : Int)], iV 0]) (fun _ => by kernel_rfl) (.load (B57.cell 0 rfl) (.load (B57.cell 1 rfl) (.load (B57.cell 2 rfl) (.load (B57.cell 3 rfl) .nil)))) (⟨(((((E1.trans E2).trans E30).trans E41).trans E42).thenX X43 (by omega)).thenS E57 (by omega), .inl ⟨hokd, ⟨(driveS p.xs hand k.xs fu).fin, (driveS p.xs hand k.xs fu).val, ea, ec, les, (((driveS p.xs hand k.xs fu).fuel : Nat) : Int)⟩, rfl, ⟨OwnR.row U58 (fun _ => rfl) (by omega), T59.mono (by omega), ⟨by show les.length ≤ 100000; omega, OwnR.cap U58⟩⟩, rfl, rfl, hev.symm, rfl⟩⟩)

theorem Run_spec (n : Nat) (p : LP) (hand fuel : Int) (w : World) (hp : p.ok n w) (hn : n ≤ w.heap.size) :
    Calls Try.prog 4 #[.slice p.a p.xs.length p.cap, iV hand, iV fuel] w (DriveP p.xs hand [] fuel w) := by
 refine calls_of_S (n := 14) Try.func4 rfl rfl (by kernel_rfl) ?_
 refine S.seq (S.region (S.one (by kernel_rfl) (S.new 6 [iV 0, iV 0, .slice none 0 0, iV 0] 29 (fun b => pT b) (by kernel_rfl) (by kernel_rfl) (fun b => by kernel_rfl) (fun b1 w1 E1 B1 e1 z1 => ?_))))
 have sE1 := E1.size
 refine S.run 1 [] [0, 1, 2, 6] (rs := []) (κ' := [(0, .slice p.a p.xs.length p.cap), (1, iV hand), (2, iV fuel), (6, pT b1)]) (by kernel_rfl) (by kernel_rfl) rfl ?_
 refine S.regEnd (by kernel_rfl) (S.seq (S.region (S.run 3 [] [6, 8, 9, 10] (rs := []) (κ' := [(6, pT b1), (8, .slice p.a p.xs.length p.cap), (9, iV hand), (10, iV fuel)]) (by kernel_rfl) (by kernel_rfl) rfl ?_)))
 have T2 := hp.pres (.of0 E1)
 refine S.one (by kernel_rfl) (S.call (dst := some 11) (f := 5) (args := #[.slice p.a p.xs.length p.cap, iV hand, .slice none 0 0, iV fuel]) (by kernel_rfl) (by kernel_rfl) ((Drive_spec n p ⟨none, 0, []⟩ hand fuel _ T2 ⟨Row.nil, by simp⟩ (by simp) (by omega)).mono ?_))
 rintro _ w3 ⟨E3, ⟨hok3, r3, rfl, hr3, his3⟩ | ⟨hok3, rfl⟩⟩
 ·skip
  refine After.ret (by kernel_rfl) ?_
  have sE3 := E3.size
  refine S.run 2 [] [6, 12, 13] (rs := []) (κ' := [(6, pT b1), (12, .agg #[iV r3.fin, iV r3.val, .slice r3.a r3.les.length r3.cap, iV r3.fuel]), (13, iV 0)]) (by kernel_rfl) (by kernel_rfl) rfl ?_
  have B4 := B1.ext0 E3
  refine S.one (by kernel_rfl) (S.store 0 [iV r3.fin, iV r3.val, .slice r3.a r3.les.length r3.cap, iV r3.fuel] [iV r3.fin, iV r3.val, .slice r3.a r3.les.length r3.cap, iV r3.fuel] B4 (by kernel_rfl) (by kernel_rfl) (by kernel_rfl) (by kernel_rfl) (by kernel_rfl) (fun w5 E5 B5 z5 => ?_))
  have sE5 := E5.size
  refine S.run 1 [] [6, 7] (rs := []) (κ' := [(6, pT b1), (7, iV 0)]) (by kernel_rfl) (by kernel_rfl) rfl ?_
  exact S.regEnd (by kernel_rfl) (S.retR (A := [.v (iV r3.fin), .v (iV r3.val), .v (.slice r3.a r3.les.length r3.cap), .v (iV r3.fuel)]) (rs := [.load ⟨b1, 0, none⟩ (iV r3.fin), .load ⟨b1, 1, none⟩ (iV r3.val), .load ⟨b1, 2, none⟩ (.slice r3.a r3.les.length r3.cap), .load ⟨b1, 3, none⟩ (iV r3.fuel)]) (v := .tuple #[.agg #[iV r3.fin, iV r3.val, .slice r3.a r3.les.length r3.cap, iV r3.fuel], iV 0]) (fun _ => by kernel_rfl) (.load (B5.cell 0 rfl) (.load (B5.cell 1 rfl) (.load (B5.cell 2 rfl) (.load (B5.cell 3 rfl) .nil)))) (⟨(E1.trans E3).thenS E5 (by omega), .inl ⟨hok3, r3, rfl, (LRun.ok.mono (LRun.ok.pres hr3 (.ofE E5 B4 (by decide) : Pres w3.heap.size 43 _ _) (.ofE E5 B4 (by decide) : Pres w3.heap.size 3 _ _)) (by omega)), his3⟩⟩))
 ·skip
  refine After.ret (by kernel_rfl) ?_
  have sE3 := E3.size
  refine S.run 2 [] [6, 12, 13] (rs := []) (κ' := [(6, pT b1), (12, .agg #[iV 0, iV 0, .slice none 0 0, iV 0]), (13, iV 2)]) (by kernel_rfl) (by kernel_rfl) rfl ?_
  have B6 := B1.ext0 E3
  refine S.one (by kernel_rfl) (S.store 0 [iV 0, iV 0, .slice none 0 0, iV 0] [iV 0, iV 0, .slice none 0 0, iV 0] B6 (by kernel_rfl) (by kernel_rfl) (by kernel_rfl) (by kernel_rfl) (by kernel_rfl) (fun w7 E7 B7 z7 => ?_))
  have sE7 := E7.size
  refine S.run 1 [] [6, 7] (rs := []) (κ' := [(6, pT b1), (7, iV 2)]) (by kernel_rfl) (by kernel_rfl) rfl ?_
  exact S.regEnd (by kernel_rfl) (S.retR (A := [.v (iV 0), .v (iV 0), .v (.slice none 0 0), .v (iV 0)]) (rs := [.load ⟨b1, 0, none⟩ (iV 0), .load ⟨b1, 1, none⟩ (iV 0), .load ⟨b1, 2, none⟩ (.slice none 0 0), .load ⟨b1, 3, none⟩ (iV 0)]) (v := .tuple #[.agg #[iV 0, iV 0, .slice none 0 0, iV 0], iV 2]) (fun _ => by kernel_rfl) (.load (B7.cell 0 rfl) (.load (B7.cell 1 rfl) (.load (B7.cell 2 rfl) (.load (B7.cell 3 rfl) .nil)))) (⟨(E1.trans E3).thenS E7 (by omega), .inr ⟨hok3, rfl⟩⟩))

end Go.Proofs.Ytmgakpnejbembaa
