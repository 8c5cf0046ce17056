/-
  CondChoice, a part of the proof (printed by a program of the prover): what functions of the given program compute, each under the conditions that its theorem names.
-/
import Derived.Test.YtmgakpnejbembaaA24
namespace Go.Proofs.Ytmgakpnejbembaa
open Go Go.Proofs.Ytmgakpnejbembaa.L

theorem Plain_spec (p : LP) (x0 z : X) (n : Nat) (w : World) (hp : p.ok n w) (hn : n ≤ w.heap.size) (hks : p.xs = [x0]) (hfine : fineS p.xs = true) (IH : Plain1 p x0 z) :
    Calls Try.prog 31 #[.slice p.a p.xs.length p.cap] w (fun e w' => Ext E0 w w' ∧ ∃ q : LP, q.ok w'.heap.size w' ∧ e = .returned (.tuple #[.slice q.a q.xs.length q.cap, .int .i64 0]) ∧ eqX.eqL q.xs [z] = true ∧ q.xs.length = 1) := by
 refine calls_of_S (n := 26) Try.func31 rfl rfl (by kernel_rfl) ?_
 have hpl : p.xs.length = 1 := by rw [hks]; rfl
 refine S.seq (S.region (S.one (by kernel_rfl) (S.new 1 [.slice p.a p.xs.length p.cap] 22 (fun b => pT b) (by kernel_rfl) (by kernel_rfl) (fun b => by kernel_rfl) (fun b1 w1 E1 B1 e1 z1 => ?_))))
 have sE1 := E1.size
 refine S.run 2 [] [1] (rs := []) (κ' := [(1, pT b1)]) (by kernel_rfl) (by kernel_rfl) rfl ?_
 refine S.regEnd (by kernel_rfl) (S.seq (S.seq (S.region (S.run 1 [.v (.slice p.a p.xs.length p.cap)] [1, 8] (rs := [.load ⟨b1, 0, none⟩ (.slice p.a p.xs.length p.cap)]) (κ' := [(1, pT b1), (8, .slice p.a p.xs.length p.cap)]) (by kernel_rfl) (by kernel_rfl) (.load (B1.cell 0 rfl) .nil) ?_))))
 have T3 := hp.pres (.of0 E1)
 refine S.one (by kernel_rfl) (S.call (dst := some 9) (f := 15) (args := #[.slice p.a p.xs.length p.cap]) (by kernel_rfl) (by kernel_rfl) ((fine_spec _ p _ T3 (by omega)).mono ?_))
 rintro _ w2 ⟨E2, rfl⟩
 refine After.ret (by kernel_rfl) ?_
 have sE2 := E2.size
 refine S.run 1 [] [1, 10] (rs := []) (κ' := [(1, pT b1), (10, .bool (!(fineS p.xs)))]) (by kernel_rfl) (by kernel_rfl) rfl ?_
 refine S.regEnd (by kernel_rfl) (S.subst 10 (.bool (!(fineS p.xs))) (.bool false) (by kernel_rfl) (congrArg Value.bool (by rw [hfine]; rfl)) ?_)
 refine S.no (by kernel_rfl) (S.skip (S.seq (S.region (S.one (by kernel_rfl) (S.new 4 [.nilFunc] 99 (fun b => pT b) (by kernel_rfl) (by kernel_rfl) (fun b => by kernel_rfl) (fun b4 w4 E4 B4 e4 z4 => ?_))))))
 have sE4 := E4.size
 refine S.regEnd (by kernel_rfl) (S.seq (S.region (S.run 1 [] [1, 4, 11] (rs := []) (κ' := [(1, pT b1), (4, pT b4), (11, .func (.func 64) #[] #[pT b1, pT b4])]) (by kernel_rfl) (by kernel_rfl) rfl ?_)))
 refine S.one (by kernel_rfl) (S.store 0 [.func (.func 64) #[] #[pT b1, pT b4]] [.func (.func 64) #[] #[pT b1, pT b4]] B4 (by kernel_rfl) (by kernel_rfl) (by kernel_rfl) (by kernel_rfl) (by kernel_rfl) (fun w5 E5 B5 z5 => ?_))
 have sE5 := E5.size
 refine S.regEnd (by kernel_rfl) (S.seq (S.region (S.run 1 [] [1, 4, 5] (rs := []) (κ' := [(1, pT b1), (4, pT b4), (5, .slice none 0 0)]) (by kernel_rfl) (by kernel_rfl) rfl ?_)))
 refine S.regEnd (by kernel_rfl) (S.seq (S.seq (S.region ?_)))
 have B6 := B1.ext0 E2
 have B7 := B6.ext0 E4
 have B8 := B7.extT E5 B4 (by decide)
 refine S.run 3 [.v (.slice p.a p.xs.length p.cap)] [4, 5, 12, 13, 14] (rs := [.load ⟨b1, 0, none⟩ (.slice p.a p.xs.length p.cap)]) (κ' := [(4, pT b4), (5, .slice none 0 0), (12, .slice p.a p.xs.length p.cap), (13, iV ((p.xs.length : Nat) : Int)), (14, iV 0)]) (by kernel_rfl) (by kernel_rfl) (.load (B8.cell 0 rfl) .nil) ?_
 refine S.regEnd (by kernel_rfl) (S.block (S.weaken (ks := [4, 5, 12, 13, 14]) (S.loop (fun m κ wj => (m = 1 ∧ κ = [(4, pT b4), (5, .slice none 0 0), (12, .slice p.a p.xs.length p.cap), (13, iV ((p.xs.length : Nat) : Int)), (14, iV 0)] ∧ Ext E0 w5 wj) ∨ (m = 0 ∧ Ext E0 w wj ∧ ∃ ka kc yk, κ = [(4, pT b4), (5, .slice ka 1 kc), (12, .slice p.a p.xs.length p.cap), (13, iV ((p.xs.length : Nat) : Int)), (14, iV 1)] ∧ OwnR w5.heap.size 60 3 wj ka 1 kc (xCs yk) ∧ YR w5.heap.size wj.heap.size wj yk ∧ eqX yk z = true ∧ w5.heap.size ≤ wj.heap.size)) (m₀ := 1) (.inl ⟨rfl, by kernel_rfl, Ext.refl _⟩) ?_)))
 rintro m κ w9 (⟨rfl, rfl, E9⟩ | ⟨rfl, E9, ka, kc, yk, rfl, hO, hY, hq, hsz⟩)
 ·skip
  have sE9 := E9.size
  refine S.seq (S.region (S.run 1 [] [4, 5, 12, 13, 14, 15] (rs := []) (κ' := [(4, pT b4), (5, .slice none 0 0), (12, .slice p.a p.xs.length p.cap), (13, iV ((p.xs.length : Nat) : Int)), (14, iV 0), (15, .bool (decide ((0 : Int) < ((p.xs.length : Nat) : Int))))]) (by kernel_rfl) (by kernel_rfl) rfl ?_))
  refine S.regEnd (by kernel_rfl) (S.seq (S.subst 15 (.bool (decide ((0 : Int) < ((p.xs.length : Nat) : Int)))) (.bool true) (by kernel_rfl) (congrArg Value.bool (decide_eq_true (by omega))) ?_))
  refine S.yes (by kernel_rfl) (S.skip (S.seq (S.block (S.seq (S.region ?_)))))
  have R10 := hp.1.pres (.of0 E1)
  have R11 := R10.pres (.of0 E2)
  have R12 := R11.pres (.of0 E4)
  have R13 := R12.pres (.ofS E5 (by omega))
  have R14 := R13.pres (.of0 E9)
  obtain ⟨b15, o15, h15, H15⟩ := R14 0 x0 (by rw [hks]; rfl)
  have T16 := T3.pres (.of0 E2)
  have T17 := T16.pres (.of0 E4)
  have T18 := T17.pres (.ofS E5 (by omega))
  have T19 := T18.pres (.of0 E9)
  have K15 : XOk n _ x0 := T19.2.2 _ (by rw [hks]; exact List.mem_cons_self ..)
  refine S.one (by kernel_rfl) (S.law 16 (v := .pointer (some ⟨b15, o15 + 0 * 3, none⟩)) (Instr.indexAt 22 (.slice p.a p.xs.length p.cap) (.int .i64 ((0 : Nat) : Int))) (by kernel_rfl) (by kernel_rfl) (by kernel_rfl) (run_idx (e := 60) 0 h15 (by kernel_rfl) (by kernel_rfl) (by omega)) ?_)
  refine S.run 1 [.v (iV x0.d.1), .v (iV x0.d.2), .v (.slice x0.a x0.len x0.cap)] [4, 5, 12, 13, 14, 17] (rs := [.load ⟨b15, o15 + 0 * 3, none⟩ (iV x0.d.1), .load ⟨b15, o15 + 0 * 3 + 1, none⟩ (iV x0.d.2), .load ⟨b15, o15 + 0 * 3 + 2, none⟩ (.slice x0.a x0.len x0.cap)]) (κ' := [(4, pT b4), (5, .slice none 0 0), (12, .slice p.a p.xs.length p.cap), (13, iV ((p.xs.length : Nat) : Int)), (14, iV 0), (17, .agg #[iV x0.d.1, iV x0.d.2, .slice x0.a x0.len x0.cap])]) (by kernel_rfl) (by kernel_rfl) (.load (H15.cell0 rfl) (.load (H15.cell 1 rfl) (.load (H15.cell 2 rfl) .nil))) ?_
  refine S.one (by kernel_rfl) (S.new 7 [iV 0, iV 0, .slice none 0 0] 60 (fun b => pT b) (by kernel_rfl) (by kernel_rfl) (fun b => by kernel_rfl) (fun b20 w20 E20 B20 e20 z20 => ?_))
  have sE20 := E20.size
  refine S.one (by kernel_rfl) (S.store 0 [iV x0.d.1, iV x0.d.2, .slice x0.a x0.len x0.cap] [iV x0.d.1, iV x0.d.2, .slice x0.a x0.len x0.cap] B20 (by kernel_rfl) (by kernel_rfl) (by kernel_rfl) (by kernel_rfl) (by kernel_rfl) (fun w21 E21 B21 z21 => ?_))
  have sE21 := E21.size
  refine S.regEnd (by kernel_rfl) (S.region ?_)
  have B22 := B5.ext0 E9
  have B23 := B22.ext0 E20
  have B24 := B23.extT E21 B20 (by decide)
  refine S.run 3 [.v (.func (.func 64) #[] #[pT b1, pT b4]), .v (iV x0.d.1), .v (iV x0.d.2), .v (.slice x0.a x0.len x0.cap)] [4, 12, 13, 14, 18, 19, 20] (rs := [.load ⟨b4, 0, none⟩ (.func (.func 64) #[] #[pT b1, pT b4]), .load ⟨b20, 0, none⟩ (iV x0.d.1), .load ⟨b20, 1, none⟩ (iV x0.d.2), .load ⟨b20, 2, none⟩ (.slice x0.a x0.len x0.cap)]) (κ' := [(4, pT b4), (12, .slice p.a p.xs.length p.cap), (13, iV ((p.xs.length : Nat) : Int)), (14, iV 0), (18, .slice none 0 0), (19, .func (.func 64) #[] #[pT b1, pT b4]), (20, .agg #[iV x0.d.1, iV x0.d.2, .slice x0.a x0.len x0.cap])]) (by kernel_rfl) (by kernel_rfl) (.load (B24.cell 0 rfl) (.load (B21.cell 0 rfl) (.load (B21.cell 1 rfl) (.load (B21.cell 2 rfl) .nil)))) ?_
  have B26 := B8.ext0 E9
  have B27 := B26.ext0 E20
  have B28 := B27.extT E21 B20 (by decide)
  have T29 := T19.pres (.of0 E20)
  have T30 := T29.pres (.ofS E21 (by omega))
  have T31 := K15.pres (.of0 E20)
  have T32 := T31.pres (.ofS E21 (by omega))
  refine S.one (by kernel_rfl) (S.call (dst := some 21) (f := 64) (args := #[.agg #[iV x0.d.1, iV x0.d.2, .slice x0.a x0.len x0.cap], pT b1, pT b4]) (by kernel_rfl) (by kernel_rfl) ((IH n b1 b4 _ ⟨B28, B24, T30⟩ T32 (by omega)).mono ?_))
  rintro _ w25 ⟨E25, yk, hY25, rfl, hq25⟩
  refine After.ret (by kernel_rfl) ?_
  have sE25 := E25.size
  refine S.one (by kernel_rfl) (S.new 22 [iV yk.d.1, iV yk.d.2, .slice yk.a yk.len yk.cap] 60 (fun b => .slice (some ⟨b, 0, none⟩) 1 1) (by kernel_rfl) (by kernel_rfl) (fun b => by kernel_rfl) (fun b33 w33 E33 B33 e33 z33 => ?_))
  have sE33 := E33.size
  refine S.one (by kernel_rfl) (S.append 23 (t := 22) (ty := 22) (e := 60) (base := w33.heap.size) (size := 3) (bytes := 40) (m := 0) (m' := 1) (c := 1) (OwnR.nil _ _ _ _) B33 (by kernel_rfl) (by kernel_rfl) (by kernel_rfl) (by kernel_rfl) (by kernel_rfl) (by kernel_rfl) (by omega) (by omega) (by omega) (fun a34 c34 w34 E34 U34 => ?_))
  have sE34 := E34.size
  refine S.run 1 [] [4, 5, 12, 13, 14] (rs := []) (κ' := [(4, pT b4), (5, .slice a34 (0 + 1) c34), (12, .slice p.a p.xs.length p.cap), (13, iV ((p.xs.length : Nat) : Int)), (14, iV 0)]) (by kernel_rfl) (by kernel_rfl) rfl ?_
  refine S.regEnd (by kernel_rfl) (S.out (S.region (S.run 2 [] [4, 5, 12, 13, 14] (rs := []) (κ' := [(4, pT b4), (5, .slice a34 (0 + 1) c34), (12, .slice p.a p.xs.length p.cap), (13, iV ((p.xs.length : Nat) : Int)), (14, iV 1)]) (by kernel_rfl) (by kernel_rfl) rfl ?_)))
  refine S.regEnd (by kernel_rfl) ?_
  have Y35 := hY25.pres (.of0 E33)
  have Y36 := Y35.pres (.ofXn E34 (by omega))
  exact S.stop (fun _ hs hh hd => ⟨hs, hd, 0, [(4, pT b4), (5, .slice a34 (0 + 1) c34), (12, .slice p.a p.xs.length p.cap), (13, iV ((p.xs.length : Nat) : Int)), (14, iV 1)], by omega, hh, .inr ⟨rfl, ((((((((E1.trans E2).trans E4).thenS E5 (by omega)).trans E9).trans E20).thenS E21 (by omega)).trans E25).trans E33).thenX E34 (by omega), a34, c34, yk, rfl, (U34).weak (by omega), (Y36).weak (by omega) (by omega), hq25, by omega⟩⟩)
 ·skip
  refine S.seq (S.region (S.run 1 [] [4, 5, 12, 13, 14, 15] (rs := []) (κ' := [(4, pT b4), (5, .slice ka 1 kc), (12, .slice p.a p.xs.length p.cap), (13, iV ((p.xs.length : Nat) : Int)), (14, iV 1), (15, .bool (decide ((1 : Int) < ((p.xs.length : Nat) : Int))))]) (by kernel_rfl) (by kernel_rfl) rfl ?_))
  refine S.regEnd (by kernel_rfl) (S.seq (S.subst 15 (.bool (decide ((1 : Int) < ((p.xs.length : Nat) : Int)))) (.bool false) (by kernel_rfl) (congrArg Value.bool (decide_eq_false (by omega))) ?_))
  refine S.no (by kernel_rfl) (S.exit rfl (S.seq (S.region (S.run 3 [] [2, 3] (rs := []) (κ' := [(2, .slice ka 1 kc), (3, iV 0)]) (by kernel_rfl) (by kernel_rfl) rfl ?_))))
  refine S.regEnd (by kernel_rfl) ?_
  have hone := YR.one (0, 0) (hY) (hO) (Nat.le_refl _)
  exact S.retR (A := []) (rs := []) (v := .tuple #[.slice ka 1 kc, iV 0]) (fun _ => by kernel_rfl) rfl (⟨E9, ⟨ka, kc, [yk]⟩, hone.1.prog, rfl, by simp [eqX.eqL, hq], rfl⟩)

end Go.Proofs.Ytmgakpnejbembaa
