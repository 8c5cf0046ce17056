/-
  CondChoice, a part of the proof (printed by a program of the prover): what functions of the given program compute, each under the conditions that its theorem names.
-/
import Derived.Test.YtmgakpnejbembaaA25
namespace Go.Proofs.Ytmgakpnejbembaa
open Go Go.Proofs.Ytmgakpnejbembaa.L

theorem ev_at {l : List LE} {E : List Ev} {i : Nat} {x : LE} (h : l.map LE.ev = E) (hx : l[i]? = some x) : E[i]? = some x.ev := by
  rw [← h, List.getElem?_map, hx]; rfl
theorem LRun.to {r : LRun} {s t : RunR} (h : r.is s) (e : s = t) : r.fin = t.fin ∧ r.val = t.val ∧ r.les.map LE.ev = t.evs ∧ r.fuel = ((t.fuel : Nat) : Int) ∧ r.les.length = t.evs.length := by
  subst e
  exact ⟨h.1, h.2.1, h.2.2.1, h.2.2.2, by rw [← h.2.2.1, List.length_map]⟩
theorem eqX_trans : ∀ (x y z : X), eqX x y = true → eqX y z = true → eqX x z = true := by
  apply Tr.rec (motive_1 := fun x => ∀ y z, eqX x y = true → eqX y z = true → eqX x z = true) (motive_2 := fun l => ∀ m n, eqX.eqL l m = true → eqX.eqL m n = true → eqX.eqL l n = true)
  · intro d a len cap kids ih y z h1 h2
    cases y; cases z
    simp only [eqX, Bool.and_eq_true, decide_eq_true_eq] at h1 h2 ⊢
    exact ⟨⟨h1.1.1.trans h2.1.1, h1.1.2.trans h2.1.2⟩, ih _ _ h1.2 h2.2⟩
  · intro m n h1 h2
    cases m with
    | nil => exact h2
    | cons b s => simp [eqX.eqL] at h1
  · intro x r hx hr m n h1 h2
    cases m with
    | nil => simp [eqX.eqL] at h1
    | cons b s =>
      cases n with
      | nil => simp [eqX.eqL] at h2
      | cons c t =>
        simp only [eqX.eqL, Bool.and_eq_true] at h1 h2 ⊢
        exact ⟨hx _ _ h1.1 h2.1, hr _ _ h1.2 h2.2⟩
theorem eqL_trans {l m n : List X} (h1 : eqX.eqL l m = true) (h2 : eqX.eqL m n = true) : eqX.eqL l n = true := by
  have := eqX_trans (.mk (0, 0) none 0 0 l) (.mk (0, 0) none 0 0 m) (.mk (0, 0) none 0 0 n) (by simpa [eqX] using h1) (by simpa [eqX] using h2)
  simpa [eqX] using this

theorem Example_spec (w : World) : Calls Try.prog 25 #[] w (fun e w' => Ext E0 w w' ∧ ∃ q0 q1 q2 q3 q4 q5 q6, e = .returned (.slice (some ⟨q6, 0, none⟩) 1 1) ∧ Blk w' q0 [iV 1, iV 5, .slice none 0 0] 60 ∧ Blk w' q1 [iV 10, iV 0, .slice (some ⟨q0, 0, none⟩) 1 1, iV 1, iV 1, .slice none 0 0] 60 ∧ Blk w' q2 [iV 2, iV 0, .slice none 0 0] 60 ∧ Blk w' q3 [iV 3, iV 0, .slice (some ⟨q1, 0, none⟩) 2 2, iV 13, iV 1, .slice (some ⟨q2, 0, none⟩) 1 1] 60 ∧ Blk w' q4 [iV 2, iV 0, .slice none 0 0] 60 ∧ Blk w' q5 [iV 8, iV 0, .slice (some ⟨q3, 0, none⟩) 2 2, iV 4, iV 0, .slice (some ⟨q4, 0, none⟩) 1 1] 60 ∧ Blk w' q6 [iV 11, iV 1, .slice (some ⟨q5, 0, none⟩) 2 2] 60) := by
 refine calls_of_S (n := 20) Try.func25 rfl rfl (by kernel_rfl) ?_
 refine S.seq (S.region (S.run 1 [] [] (rs := []) (κ' := []) (by kernel_rfl) (by kernel_rfl) rfl ?_))
 refine S.regEnd (by kernel_rfl) (S.seq (S.region (S.one (by kernel_rfl) (S.call (dst := some 2) (f := 29) (args := #[iV 5]) (by kernel_rfl) (by kernel_rfl) ((Num_spec _ _).mono ?_)))))
 rintro _ w1 ⟨E1, rfl⟩
 refine After.ret (by kernel_rfl) ?_
 have sE1 := E1.size
 refine S.one (by kernel_rfl) (S.new 3 [iV 1, iV 5, .slice none 0 0] 60 (fun b => .slice (some ⟨b, 0, none⟩) 1 1) (by kernel_rfl) (by kernel_rfl) (fun b => by kernel_rfl) (fun b2 w2 E2 B2 e2 z2 => ?_))
 have sE2 := E2.size
 refine S.one (by kernel_rfl) (S.call (dst := some 4) (f := 28) (args := #[iV 10, iV 0, .slice (some ⟨b2, 0, none⟩) 1 1]) (by kernel_rfl) (by kernel_rfl) ((Of_spec _ _ _ _ _ _).mono ?_))
 rintro _ w3 ⟨E3, rfl⟩
 refine After.ret (by kernel_rfl) ?_
 have sE3 := E3.size
 refine S.one (by kernel_rfl) (S.call (dst := some 5) (f := 29) (args := #[iV 1]) (by kernel_rfl) (by kernel_rfl) ((Num_spec _ _).mono ?_))
 rintro _ w4 ⟨E4, rfl⟩
 refine After.ret (by kernel_rfl) ?_
 have sE4 := E4.size
 refine S.one (by kernel_rfl) (S.new 6 [iV 10, iV 0, .slice (some ⟨b2, 0, none⟩) 1 1, iV 1, iV 1, .slice none 0 0] 60 (fun b => .slice (some ⟨b, 0, none⟩) 2 2) (by kernel_rfl) (by kernel_rfl) (fun b => by kernel_rfl) (fun b5 w5 E5 B5 e5 z5 => ?_))
 have sE5 := E5.size
 refine S.one (by kernel_rfl) (S.call (dst := some 7) (f := 28) (args := #[iV 3, iV 0, .slice (some ⟨b5, 0, none⟩) 2 2]) (by kernel_rfl) (by kernel_rfl) ((Of_spec _ _ _ _ _ _).mono ?_))
 rintro _ w6 ⟨E6, rfl⟩
 refine After.ret (by kernel_rfl) ?_
 have sE6 := E6.size
 refine S.one (by kernel_rfl) (S.new 1 [iV 0, iV 0, .slice none 0 0] 60 (fun b => pT b) (by kernel_rfl) (by kernel_rfl) (fun b => by kernel_rfl) (fun b7 w7 E7 B7 e7 z7 => ?_))
 have sE7 := E7.size
 refine S.one (by kernel_rfl) (S.store 0 [iV 3, iV 0, .slice (some ⟨b5, 0, none⟩) 2 2] [iV 3, iV 0, .slice (some ⟨b5, 0, none⟩) 2 2] B7 (by kernel_rfl) (by kernel_rfl) (by kernel_rfl) (by kernel_rfl) (by kernel_rfl) (fun w8 E8 B8 z8 => ?_))
 have sE8 := E8.size
 refine S.regEnd (by kernel_rfl) (S.seq (S.drawN 13 #[false, false, false, false, false, false, false, false, false, false, false, false, false] 13 (fun u u' => Ext E0 u u') (fun u u' => Ext E0 u u') (by kernel_rfl) (by kernel_rfl) (by kernel_rfl) (fun w9 E9 z9 => ?_)))
 have sE9 := E9.size
 have B10 := B8.ext0 E9
 refine S.dreads bodyPost_panicOk [0] 12 [.v (iV 3), .v (iV 0), .v (.slice (some ⟨b5, 0, none⟩) 2 2)] [8] (rs := [.load ⟨b7, 0, none⟩ (iV 3), .load ⟨b7, 1, none⟩ (iV 0), .load ⟨b7, 2, none⟩ (.slice (some ⟨b5, 0, none⟩) 2 2)]) (κ' := [(8, .agg #[iV 3, iV 0, .slice (some ⟨b5, 0, none⟩) 2 2])]) (l' := #[true, false, false, false, false, false, false, false, false, false, false, false, false]) (by kernel_rfl) (by kernel_rfl) (by kernel_rfl) (fun w' hw => have hw := hw.elim id id; (.load ((B10.ext0 hw).cell 0 rfl) (.load ((B10.ext0 hw).cell 1 rfl) (.load ((B10.ext0 hw).cell 2 rfl) .nil)))) ?_
 refine S.dnext (j := 1) (l' := #[true, true, false, false, false, false, false, false, false, false, false, false, false]) (by kernel_rfl) (by kernel_rfl) (sw1 (by kernel_rfl) (Ext.refl _)) ?_
 refine S.call (dst := some 9) (f := 30) (args := #[]) (by kernel_rfl) (by kernel_rfl) ((Hand_spec  _).mono ?_)
 rintro _ w11 ⟨E11, rfl⟩
 refine After.ret (by kernel_rfl) ?_
 have sE11 := E11.size
 refine S.dnext (j := 2) (l' := #[true, true, true, false, false, false, false, false, false, false, false, false, false]) (by kernel_rfl) (by kernel_rfl) (sw1 (by kernel_rfl) E11) ?_
 refine S.new 10 [iV 2, iV 0, .slice none 0 0] 60 (fun b => .slice (some ⟨b, 0, none⟩) 1 1) (by kernel_rfl) (by kernel_rfl) (fun b => by kernel_rfl) (fun b12 w12 E12 B12 e12 z12 => ?_)
 have sE12 := E12.size
 refine S.dnext (j := 3) (l' := #[true, true, true, true, false, false, false, false, false, false, false, false, false]) (by kernel_rfl) (by kernel_rfl) (sw1 (by kernel_rfl) (E11.trans E12)) ?_
 refine S.call (dst := some 11) (f := 28) (args := #[iV 13, iV 1, .slice (some ⟨b12, 0, none⟩) 1 1]) (by kernel_rfl) (by kernel_rfl) ((Of_spec _ _ _ _ _ _).mono ?_)
 rintro _ w13 ⟨E13, rfl⟩
 refine After.ret (by kernel_rfl) ?_
 have sE13 := E13.size
 refine S.dnext (j := 4) (l' := #[true, true, true, true, true, false, false, false, false, false, false, false, false]) (by kernel_rfl) (by kernel_rfl) (sw1 (by kernel_rfl) ((E11.trans E12).trans E13)) ?_
 refine S.new 12 [iV 3, iV 0, .slice (some ⟨b5, 0, none⟩) 2 2, iV 13, iV 1, .slice (some ⟨b12, 0, none⟩) 1 1] 60 (fun b => .slice (some ⟨b, 0, none⟩) 2 2) (by kernel_rfl) (by kernel_rfl) (fun b => by kernel_rfl) (fun b14 w14 E14 B14 e14 z14 => ?_)
 have sE14 := E14.size
 refine S.dnext (j := 5) (l' := #[true, true, true, true, true, true, false, false, false, false, false, false, false]) (by kernel_rfl) (by kernel_rfl) (sw1 (by kernel_rfl) (((E11.trans E12).trans E13).trans E14)) ?_
 refine S.call (dst := some 13) (f := 28) (args := #[iV 8, iV 0, .slice (some ⟨b14, 0, none⟩) 2 2]) (by kernel_rfl) (by kernel_rfl) ((Of_spec _ _ _ _ _ _).mono ?_)
 rintro _ w15 ⟨E15, rfl⟩
 refine After.ret (by kernel_rfl) ?_
 have sE15 := E15.size
 refine S.dnext (j := 6) (l' := #[true, true, true, true, true, true, true, false, false, false, false, false, false]) (by kernel_rfl) (by kernel_rfl) (sw1 (by kernel_rfl) ((((E11.trans E12).trans E13).trans E14).trans E15)) ?_
 refine S.call (dst := some 14) (f := 30) (args := #[]) (by kernel_rfl) (by kernel_rfl) ((Hand_spec  _).mono ?_)
 rintro _ w16 ⟨E16, rfl⟩
 refine After.ret (by kernel_rfl) ?_
 have sE16 := E16.size
 refine S.dnext (j := 7) (l' := #[true, true, true, true, true, true, true, true, false, false, false, false, false]) (by kernel_rfl) (by kernel_rfl) (sw1 (by kernel_rfl) (((((E11.trans E12).trans E13).trans E14).trans E15).trans E16)) ?_
 refine S.new 15 [iV 2, iV 0, .slice none 0 0] 60 (fun b => .slice (some ⟨b, 0, none⟩) 1 1) (by kernel_rfl) (by kernel_rfl) (fun b => by kernel_rfl) (fun b17 w17 E17 B17 e17 z17 => ?_)
 have sE17 := E17.size
 refine S.dnext (j := 8) (l' := #[true, true, true, true, true, true, true, true, true, false, false, false, false]) (by kernel_rfl) (by kernel_rfl) (sw1 (by kernel_rfl) ((((((E11.trans E12).trans E13).trans E14).trans E15).trans E16).trans E17)) ?_
 refine S.call (dst := some 16) (f := 28) (args := #[iV 4, iV 0, .slice (some ⟨b17, 0, none⟩) 1 1]) (by kernel_rfl) (by kernel_rfl) ((Of_spec _ _ _ _ _ _).mono ?_)
 rintro _ w18 ⟨E18, rfl⟩
 refine After.ret (by kernel_rfl) ?_
 have sE18 := E18.size
 refine S.dnext (j := 9) (l' := #[true, true, true, true, true, true, true, true, true, true, false, false, false]) (by kernel_rfl) (by kernel_rfl) (sw1 (by kernel_rfl) (((((((E11.trans E12).trans E13).trans E14).trans E15).trans E16).trans E17).trans E18)) ?_
 refine S.new 17 [iV 8, iV 0, .slice (some ⟨b14, 0, none⟩) 2 2, iV 4, iV 0, .slice (some ⟨b17, 0, none⟩) 1 1] 60 (fun b => .slice (some ⟨b, 0, none⟩) 2 2) (by kernel_rfl) (by kernel_rfl) (fun b => by kernel_rfl) (fun b19 w19 E19 B19 e19 z19 => ?_)
 have sE19 := E19.size
 refine S.dnext (j := 10) (l' := #[true, true, true, true, true, true, true, true, true, true, true, false, false]) (by kernel_rfl) (by kernel_rfl) (sw1 (by kernel_rfl) ((((((((E11.trans E12).trans E13).trans E14).trans E15).trans E16).trans E17).trans E18).trans E19)) ?_
 refine S.call (dst := some 18) (f := 28) (args := #[iV 11, iV 1, .slice (some ⟨b19, 0, none⟩) 2 2]) (by kernel_rfl) (by kernel_rfl) ((Of_spec _ _ _ _ _ _).mono ?_)
 rintro _ w20 ⟨E20, rfl⟩
 refine After.ret (by kernel_rfl) ?_
 have sE20 := E20.size
 refine S.dnext (j := 11) (l' := #[true, true, true, true, true, true, true, true, true, true, true, true, false]) (by kernel_rfl) (by kernel_rfl) (sw1 (by kernel_rfl) (((((((((E11.trans E12).trans E13).trans E14).trans E15).trans E16).trans E17).trans E18).trans E19).trans E20)) ?_
 refine S.new 19 [iV 11, iV 1, .slice (some ⟨b19, 0, none⟩) 2 2] 60 (fun b => .slice (some ⟨b, 0, none⟩) 1 1) (by kernel_rfl) (by kernel_rfl) (fun b => by kernel_rfl) (fun b21 w21 E21 B21 e21 z21 => ?_)
 have sE21 := E21.size
 refine S.dreads bodyPost_panicOk [12] 0 [] [0] (rs := []) (κ' := [(0, .slice (some ⟨b21, 0, none⟩) 1 1)]) (l' := #[true, true, true, true, true, true, true, true, true, true, true, true, true]) (by kernel_rfl) (by kernel_rfl) (by kernel_rfl) (fun _ _ => rfl) ?_
 refine S.dend (by kernel_rfl) (sw1 (by kernel_rfl) ((((((((((E11.trans E12).trans E13).trans E14).trans E15).trans E16).trans E17).trans E18).trans E19).trans E20).trans E21)) ?_
 have B22 := B2.ext0 E3
 have B23 := B22.ext0 E4
 have B24 := B23.ext0 E5
 have B25 := B24.ext0 E6
 have B26 := B25.ext0 E7
 have B27 := B26.extS E8 (by omega)
 have B28 := B27.ext0 E9
 have B29 := B28.ext0 E11
 have B30 := B29.ext0 E12
 have B31 := B30.ext0 E13
 have B32 := B31.ext0 E14
 have B33 := B32.ext0 E15
 have B34 := B33.ext0 E16
 have B35 := B34.ext0 E17
 have B36 := B35.ext0 E18
 have B37 := B36.ext0 E19
 have B38 := B37.ext0 E20
 have B39 := B38.ext0 E21
 have B40 := B5.ext0 E6
 have B41 := B40.ext0 E7
 have B42 := B41.extS E8 (by omega)
 have B43 := B42.ext0 E9
 have B44 := B43.ext0 E11
 have B45 := B44.ext0 E12
 have B46 := B45.ext0 E13
 have B47 := B46.ext0 E14
 have B48 := B47.ext0 E15
 have B49 := B48.ext0 E16
 have B50 := B49.ext0 E17
 have B51 := B50.ext0 E18
 have B52 := B51.ext0 E19
 have B53 := B52.ext0 E20
 have B54 := B53.ext0 E21
 have B55 := B12.ext0 E13
 have B56 := B55.ext0 E14
 have B57 := B56.ext0 E15
 have B58 := B57.ext0 E16
 have B59 := B58.ext0 E17
 have B60 := B59.ext0 E18
 have B61 := B60.ext0 E19
 have B62 := B61.ext0 E20
 have B63 := B62.ext0 E21
 have B64 := B14.ext0 E15
 have B65 := B64.ext0 E16
 have B66 := B65.ext0 E17
 have B67 := B66.ext0 E18
 have B68 := B67.ext0 E19
 have B69 := B68.ext0 E20
 have B70 := B69.ext0 E21
 have B71 := B17.ext0 E18
 have B72 := B71.ext0 E19
 have B73 := B72.ext0 E20
 have B74 := B73.ext0 E21
 have B75 := B19.ext0 E20
 have B76 := B75.ext0 E21
 exact S.ret1 (v := .slice (some ⟨b21, 0, none⟩) 1 1) rfl (by kernel_rfl) ⟨((((((((((((((((((E1.trans E2).trans E3).trans E4).trans E5).trans E6).trans E7).thenS E8 (by omega)).trans E9).trans E11).trans E12).trans E13).trans E14).trans E15).trans E16).trans E17).trans E18).trans E19).trans E20).trans E21, b2, b5, b12, b14, b17, b19, b21, rfl, B39, B54, B63, B70, B74, B76, B21⟩

theorem Retry_spec (w : World) : Calls Try.prog 27 #[] w (fun e w' => Ext E0 w w' ∧ ∃ q0 q1 q2 q3, e = .returned (.slice (some ⟨q3, 0, none⟩) 1 1) ∧ Blk w' q0 [iV 1, iV 3, .slice none 0 0] 60 ∧ Blk w' q1 [iV 2, iV 0, .slice none 0 0, iV 1, iV 7, .slice none 0 0, iV 10, iV 0, .slice (some ⟨q0, 0, none⟩) 1 1] 60 ∧ Blk w' q2 [iV 6, iV 0, .slice (some ⟨q1, 0, none⟩) 3 3] 60 ∧ Blk w' q3 [iV 12, iV 2, .slice (some ⟨q2, 0, none⟩) 1 1] 60) := by
 refine calls_of_S (n := 11) Try.func27 rfl rfl (by kernel_rfl) ?_
 refine S.seq (S.region (S.run 1 [] [] (rs := []) (κ' := []) (by kernel_rfl) (by kernel_rfl) rfl ?_))
 refine S.regEnd (by kernel_rfl) (S.seq (S.region (S.one (by kernel_rfl) (S.call (dst := some 1) (f := 30) (args := #[]) (by kernel_rfl) (by kernel_rfl) ((Hand_spec  _).mono ?_)))))
 rintro _ w1 ⟨E1, rfl⟩
 refine After.ret (by kernel_rfl) ?_
 have sE1 := E1.size
 refine S.one (by kernel_rfl) (S.call (dst := some 2) (f := 29) (args := #[iV 7]) (by kernel_rfl) (by kernel_rfl) ((Num_spec _ _).mono ?_))
 rintro _ w2 ⟨E2, rfl⟩
 refine After.ret (by kernel_rfl) ?_
 have sE2 := E2.size
 refine S.one (by kernel_rfl) (S.call (dst := some 3) (f := 29) (args := #[iV 3]) (by kernel_rfl) (by kernel_rfl) ((Num_spec _ _).mono ?_))
 rintro _ w3 ⟨E3, rfl⟩
 refine After.ret (by kernel_rfl) ?_
 have sE3 := E3.size
 refine S.one (by kernel_rfl) (S.new 4 [iV 1, iV 3, .slice none 0 0] 60 (fun b => .slice (some ⟨b, 0, none⟩) 1 1) (by kernel_rfl) (by kernel_rfl) (fun b => by kernel_rfl) (fun b4 w4 E4 B4 e4 z4 => ?_))
 have sE4 := E4.size
 refine S.one (by kernel_rfl) (S.call (dst := some 5) (f := 28) (args := #[iV 10, iV 0, .slice (some ⟨b4, 0, none⟩) 1 1]) (by kernel_rfl) (by kernel_rfl) ((Of_spec _ _ _ _ _ _).mono ?_))
 rintro _ w5 ⟨E5, rfl⟩
 refine After.ret (by kernel_rfl) ?_
 have sE5 := E5.size
 refine S.one (by kernel_rfl) (S.new 6 [iV 2, iV 0, .slice none 0 0, iV 1, iV 7, .slice none 0 0, iV 10, iV 0, .slice (some ⟨b4, 0, none⟩) 1 1] 60 (fun b => .slice (some ⟨b, 0, none⟩) 3 3) (by kernel_rfl) (by kernel_rfl) (fun b => by kernel_rfl) (fun b6 w6 E6 B6 e6 z6 => ?_))
 have sE6 := E6.size
 refine S.one (by kernel_rfl) (S.call (dst := some 7) (f := 28) (args := #[iV 6, iV 0, .slice (some ⟨b6, 0, none⟩) 3 3]) (by kernel_rfl) (by kernel_rfl) ((Of_spec _ _ _ _ _ _).mono ?_))
 rintro _ w7 ⟨E7, rfl⟩
 refine After.ret (by kernel_rfl) ?_
 have sE7 := E7.size
 refine S.one (by kernel_rfl) (S.new 8 [iV 6, iV 0, .slice (some ⟨b6, 0, none⟩) 3 3] 60 (fun b => .slice (some ⟨b, 0, none⟩) 1 1) (by kernel_rfl) (by kernel_rfl) (fun b => by kernel_rfl) (fun b8 w8 E8 B8 e8 z8 => ?_))
 have sE8 := E8.size
 refine S.one (by kernel_rfl) (S.call (dst := some 9) (f := 28) (args := #[iV 12, iV 2, .slice (some ⟨b8, 0, none⟩) 1 1]) (by kernel_rfl) (by kernel_rfl) ((Of_spec _ _ _ _ _ _).mono ?_))
 rintro _ w9 ⟨E9, rfl⟩
 refine After.ret (by kernel_rfl) ?_
 have sE9 := E9.size
 refine S.one (by kernel_rfl) (S.new 10 [iV 12, iV 2, .slice (some ⟨b8, 0, none⟩) 1 1] 60 (fun b => .slice (some ⟨b, 0, none⟩) 1 1) (by kernel_rfl) (by kernel_rfl) (fun b => by kernel_rfl) (fun b10 w10 E10 B10 e10 z10 => ?_))
 have sE10 := E10.size
 refine S.run 1 [] [0] (rs := []) (κ' := [(0, .slice (some ⟨b10, 0, none⟩) 1 1)]) (by kernel_rfl) (by kernel_rfl) rfl ?_
 refine S.regEnd (by kernel_rfl) ?_
 have B11 := B4.ext0 E5
 have B12 := B11.ext0 E6
 have B13 := B12.ext0 E7
 have B14 := B13.ext0 E8
 have B15 := B14.ext0 E9
 have B16 := B15.ext0 E10
 have B17 := B6.ext0 E7
 have B18 := B17.ext0 E8
 have B19 := B18.ext0 E9
 have B20 := B19.ext0 E10
 have B21 := B8.ext0 E9
 have B22 := B21.ext0 E10
 exact S.ret1 (v := .slice (some ⟨b10, 0, none⟩) 1 1) rfl (by kernel_rfl) ⟨((((((((E1.trans E2).trans E3).trans E4).trans E5).trans E6).trans E7).trans E8).trans E9).trans E10, b4, b6, b8, b10, rfl, B16, B20, B22, B10⟩

set_option maxHeartbeats 4000000 in
theorem known_spec (w : World) :
    Calls Try.prog 7 #[] w (fun e w' => Ext E0 w w' ∧ e = .returned (.bool true)) := by
 refine calls_of_S (n := 224) Try.func7 rfl rfl (by kernel_rfl) ?_
 refine S.seq (S.region (S.run 1 [] [] (rs := []) (κ' := []) (by kernel_rfl) (by kernel_rfl) rfl ?_))
 refine S.regEnd (by kernel_rfl) (S.seq (S.region (S.one (by kernel_rfl) (S.call (dst := some 17) (f := 25) (args := #[]) (by kernel_rfl) (by kernel_rfl) ((Example_spec _).mono ?_)))))
 rintro _ w1 ⟨E1, q1_0, q1_1, q1_2, q1_3, q1_4, q1_5, q1_6, rfl, hBq1_0, hBq1_1, hBq1_2, hBq1_3, hBq1_4, hBq1_5, hBq1_6⟩
 refine After.ret (by kernel_rfl) ?_
 have sE1 := E1.size
 refine S.one (by kernel_rfl) (S.call (dst := some 18) (f := 4) (args := #[.slice (some ⟨q1_6, 0, none⟩) 1 1, iV 0, iV 99]) (by kernel_rfl) (by kernel_rfl) ((Run_spec w1.heap.size (⟨some ⟨q1_6, 0, none⟩, 1, [(.mk (11, 1) (some ⟨q1_5, 0, none⟩) 2 2 [(.mk (8, 0) (some ⟨q1_3, 0, none⟩) 2 2 [(.mk (3, 0) (some ⟨q1_1, 0, none⟩) 2 2 [(.mk (10, 0) (some ⟨q1_0, 0, none⟩) 1 1 [(.mk (1, 5) none 0 0 [])]), (.mk (1, 1) none 0 0 [])]), (.mk (13, 1) (some ⟨q1_2, 0, none⟩) 1 1 [(.mk (2, 0) none 0 0 [])])]), (.mk (4, 0) (some ⟨q1_4, 0, none⟩) 1 1 [(.mk (2, 0) none 0 0 [])])])]⟩ : LP) 0 99 _ (XOk.prog (XOk.ofB (kids := [(.mk (11, 1) (some ⟨q1_5, 0, none⟩) 2 2 [(.mk (8, 0) (some ⟨q1_3, 0, none⟩) 2 2 [(.mk (3, 0) (some ⟨q1_1, 0, none⟩) 2 2 [(.mk (10, 0) (some ⟨q1_0, 0, none⟩) 1 1 [(.mk (1, 5) none 0 0 [])]), (.mk (1, 1) none 0 0 [])]), (.mk (13, 1) (some ⟨q1_2, 0, none⟩) 1 1 [(.mk (2, 0) none 0 0 [])])]), (.mk (4, 0) (some ⟨q1_4, 0, none⟩) 1 1 [(.mk (2, 0) none 0 0 [])])])]) (k := 1) (0, 0) hBq1_6 rfl (by omega) hBq1_6.lt (List.forall_mem_cons.2 ⟨(XOk.ofB (kids := [(.mk (8, 0) (some ⟨q1_3, 0, none⟩) 2 2 [(.mk (3, 0) (some ⟨q1_1, 0, none⟩) 2 2 [(.mk (10, 0) (some ⟨q1_0, 0, none⟩) 1 1 [(.mk (1, 5) none 0 0 [])]), (.mk (1, 1) none 0 0 [])]), (.mk (13, 1) (some ⟨q1_2, 0, none⟩) 1 1 [(.mk (2, 0) none 0 0 [])])]), (.mk (4, 0) (some ⟨q1_4, 0, none⟩) 1 1 [(.mk (2, 0) none 0 0 [])])]) (k := 2) (11, 1) hBq1_5 rfl (by omega) hBq1_5.lt (List.forall_mem_cons.2 ⟨(XOk.ofB (kids := [(.mk (3, 0) (some ⟨q1_1, 0, none⟩) 2 2 [(.mk (10, 0) (some ⟨q1_0, 0, none⟩) 1 1 [(.mk (1, 5) none 0 0 [])]), (.mk (1, 1) none 0 0 [])]), (.mk (13, 1) (some ⟨q1_2, 0, none⟩) 1 1 [(.mk (2, 0) none 0 0 [])])]) (k := 2) (8, 0) hBq1_3 rfl (by omega) hBq1_3.lt (List.forall_mem_cons.2 ⟨(XOk.ofB (kids := [(.mk (10, 0) (some ⟨q1_0, 0, none⟩) 1 1 [(.mk (1, 5) none 0 0 [])]), (.mk (1, 1) none 0 0 [])]) (k := 2) (3, 0) hBq1_1 rfl (by omega) hBq1_1.lt (List.forall_mem_cons.2 ⟨(XOk.ofB (kids := [(.mk (1, 5) none 0 0 [])]) (k := 1) (10, 0) hBq1_0 rfl (by omega) hBq1_0.lt (List.forall_mem_cons.2 ⟨(XOk.nil (1, 5)), (fun _ h => by cases h)⟩)), (List.forall_mem_cons.2 ⟨(XOk.nil (1, 1)), (fun _ h => by cases h)⟩)⟩)), (List.forall_mem_cons.2 ⟨(XOk.ofB (kids := [(.mk (2, 0) none 0 0 [])]) (k := 1) (13, 1) hBq1_2 rfl (by omega) hBq1_2.lt (List.forall_mem_cons.2 ⟨(XOk.nil (2, 0)), (fun _ h => by cases h)⟩)), (fun _ h => by cases h)⟩)⟩)), (List.forall_mem_cons.2 ⟨(XOk.ofB (kids := [(.mk (2, 0) none 0 0 [])]) (k := 1) (4, 0) hBq1_4 rfl (by omega) hBq1_4.lt (List.forall_mem_cons.2 ⟨(XOk.nil (2, 0)), (fun _ h => by cases h)⟩)), (fun _ h => by cases h)⟩)⟩)), (fun _ h => by cases h)⟩))) (Nat.le_refl _)).mono ?_))
 rintro _ w2 ⟨E2, ⟨hok2, r2, rfl, hr2, his2⟩ | ⟨hok2, rfl⟩⟩
 case inr => exact absurd hok2 (by rw [show okD (⟨some ⟨q1_6, 0, none⟩, 1, [(.mk (11, 1) (some ⟨q1_5, 0, none⟩) 2 2 [(.mk (8, 0) (some ⟨q1_3, 0, none⟩) 2 2 [(.mk (3, 0) (some ⟨q1_1, 0, none⟩) 2 2 [(.mk (10, 0) (some ⟨q1_0, 0, none⟩) 1 1 [(.mk (1, 5) none 0 0 [])]), (.mk (1, 1) none 0 0 [])]), (.mk (13, 1) (some ⟨q1_2, 0, none⟩) 1 1 [(.mk (2, 0) none 0 0 [])])]), (.mk (4, 0) (some ⟨q1_4, 0, none⟩) 1 1 [(.mk (2, 0) none 0 0 [])])])]⟩ : LP).xs 0 [] 99 = true from by kernel_rfl]; simp)
 have to2 := LRun.to his2 (t := ⟨1, 5, [⟨2, 0, 5, [0], [1]⟩, ⟨3, 0, 5, [], [1]⟩, ⟨4, 1, 5, [], [1]⟩, ⟨1, 0, 5, [], []⟩], 90⟩) (by kernel_rfl)
 have lf2 : r2.fin = 1 := to2.1; have lv2 : r2.val = 5 := to2.2.1; have le2 : r2.les.map LE.ev = [⟨2, 0, 5, [0], [1]⟩, ⟨3, 0, 5, [], [1]⟩, ⟨4, 1, 5, [], [1]⟩, ⟨1, 0, 5, [], []⟩] := to2.2.2.1; have lu2 : r2.fuel = 90 := to2.2.2.2.1; have ll2 : r2.les.length = 4 := to2.2.2.2.2; have lb2 := hr2.2.2
 refine After.ret (by kernel_rfl) ?_
 have sE2 := E2.size
 refine S.run 3 [] [19, 20] (rs := []) (κ' := [(19, .agg #[iV r2.fin, iV r2.val, .slice r2.a r2.les.length r2.cap, iV r2.fuel]), (20, iV 0)]) (by kernel_rfl) (by kernel_rfl) rfl ?_
 refine S.one (by kernel_rfl) (S.new 1 [iV 0, iV 0, .slice none 0 0, iV 0] 29 (fun b => pT b) (by kernel_rfl) (by kernel_rfl) (fun b => by kernel_rfl) (fun b3 w3 E3 B3 e3 z3 => ?_))
 have sE3 := E3.size
 refine S.one (by kernel_rfl) (S.store 0 [iV r2.fin, iV r2.val, .slice r2.a r2.les.length r2.cap, iV r2.fuel] [iV r2.fin, iV r2.val, .slice r2.a r2.les.length r2.cap, iV r2.fuel] B3 (by kernel_rfl) (by kernel_rfl) (by kernel_rfl) (by kernel_rfl) (by kernel_rfl) (fun w4 E4 B4 z4 => ?_))
 have sE4 := E4.size
 refine S.run 1 [] [1, 2] (rs := []) (κ' := [(1, pT b3), (2, iV 0)]) (by kernel_rfl) (by kernel_rfl) rfl ?_
 refine S.regEnd (by kernel_rfl) (S.seq (S.region (S.one (by kernel_rfl) (S.new 21 [iV 1] 3 (fun b => .slice (some ⟨b, 0, none⟩) 1 1) (by kernel_rfl) (by kernel_rfl) (fun b => by kernel_rfl) (fun b5 w5 E5 B5 e5 z5 => ?_)))))
 have sE5 := E5.size
 refine S.run 1 [] [1, 2, 3] (rs := []) (κ' := [(1, pT b3), (2, iV 0), (3, .slice (some ⟨b5, 0, none⟩) 1 1)]) (by kernel_rfl) (by kernel_rfl) rfl ?_
 refine S.regEnd (by kernel_rfl) (S.seq (S.region (S.one (by kernel_rfl) (S.new 22 [iV 0] 3 (fun b => .slice (some ⟨b, 0, none⟩) 1 1) (by kernel_rfl) (by kernel_rfl) (fun b => by kernel_rfl) (fun b6 w6 E6 B6 e6 z6 => ?_)))))
 have sE6 := E6.size
 refine S.run 1 [] [1, 2, 3, 22, 23] (rs := []) (κ' := [(1, pT b3), (2, iV 0), (3, .slice (some ⟨b5, 0, none⟩) 1 1), (22, .slice (some ⟨b6, 0, none⟩) 1 1), (23, .slice (some ⟨b5, 0, none⟩) 1 1)]) (by kernel_rfl) (by kernel_rfl) rfl ?_
 refine S.one (by kernel_rfl) (S.call (dst := some 24) (f := 26) (args := #[iV 2, iV 0, iV 5, .slice (some ⟨b6, 0, none⟩) 1 1, .slice (some ⟨b5, 0, none⟩) 1 1]) (by kernel_rfl) (by kernel_rfl) ((event_spec _ _ _ _ _ _ _ _ _ _).mono ?_))
 rintro _ w7 ⟨E7, rfl⟩
 refine After.ret (by kernel_rfl) ?_
 have sE7 := E7.size
 refine S.run 1 [] [1, 2, 3, 24, 25] (rs := []) (κ' := [(1, pT b3), (2, iV 0), (3, .slice (some ⟨b5, 0, none⟩) 1 1), (24, .agg #[iV 2, iV 0, iV 5, .slice (some ⟨b6, 0, none⟩) 1 1, .slice (some ⟨b5, 0, none⟩) 1 1]), (25, .slice (some ⟨b5, 0, none⟩) 1 1)]) (by kernel_rfl) (by kernel_rfl) rfl ?_
 refine S.one (by kernel_rfl) (S.call (dst := some 26) (f := 26) (args := #[iV 3, iV 0, iV 5, .slice none 0 0, .slice (some ⟨b5, 0, none⟩) 1 1]) (by kernel_rfl) (by kernel_rfl) ((event_spec _ _ _ _ _ _ _ _ _ _).mono ?_))
 rintro _ w8 ⟨E8, rfl⟩
 refine After.ret (by kernel_rfl) ?_
 have sE8 := E8.size
 refine S.run 1 [] [1, 2, 24, 26, 27] (rs := []) (κ' := [(1, pT b3), (2, iV 0), (24, .agg #[iV 2, iV 0, iV 5, .slice (some ⟨b6, 0, none⟩) 1 1, .slice (some ⟨b5, 0, none⟩) 1 1]), (26, .agg #[iV 3, iV 0, iV 5, .slice none 0 0, .slice (some ⟨b5, 0, none⟩) 1 1]), (27, .slice (some ⟨b5, 0, none⟩) 1 1)]) (by kernel_rfl) (by kernel_rfl) rfl ?_
 refine S.one (by kernel_rfl) (S.call (dst := some 28) (f := 26) (args := #[iV 4, iV 1, iV 5, .slice none 0 0, .slice (some ⟨b5, 0, none⟩) 1 1]) (by kernel_rfl) (by kernel_rfl) ((event_spec _ _ _ _ _ _ _ _ _ _).mono ?_))
 rintro _ w9 ⟨E9, rfl⟩
 refine After.ret (by kernel_rfl) ?_
 have sE9 := E9.size
 refine S.one (by kernel_rfl) (S.call (dst := some 29) (f := 26) (args := #[iV 1, iV 0, iV 5, .slice none 0 0, .slice none 0 0]) (by kernel_rfl) (by kernel_rfl) ((event_spec _ _ _ _ _ _ _ _ _ _).mono ?_))
 rintro _ w10 ⟨E10, rfl⟩
 refine After.ret (by kernel_rfl) ?_
 have sE10 := E10.size
 refine S.one (by kernel_rfl) (S.new 30 [iV 2, iV 0, iV 5, .slice (some ⟨b6, 0, none⟩) 1 1, .slice (some ⟨b5, 0, none⟩) 1 1, iV 3, iV 0, iV 5, .slice none 0 0, .slice (some ⟨b5, 0, none⟩) 1 1, iV 4, iV 1, iV 5, .slice none 0 0, .slice (some ⟨b5, 0, none⟩) 1 1, iV 1, iV 0, iV 5, .slice none 0 0, .slice none 0 0] 43 (fun b => .slice (some ⟨b, 0, none⟩) 4 4) (by kernel_rfl) (by kernel_rfl) (fun b => by kernel_rfl) (fun b11 w11 E11 B11 e11 z11 => ?_))
 have sE11 := E11.size
 refine S.run 1 [] [1, 2, 4] (rs := []) (κ' := [(1, pT b3), (2, iV 0), (4, .slice (some ⟨b11, 0, none⟩) 4 4)]) (by kernel_rfl) (by kernel_rfl) rfl ?_
 refine S.regEnd (by kernel_rfl) (S.seq (S.seq (S.region ?_)))
 have B12 := B4.ext0 E5
 have B13 := B12.ext0 E6
 have B14 := B13.ext0 E7
 have B15 := B14.ext0 E8
 have B16 := B15.ext0 E9
 have B17 := B16.ext0 E10
 have B18 := B17.ext0 E11
 refine S.run 8 [.v (iV r2.fin)] [1, 4, 38] (rs := [.load ⟨b3, 0, none⟩ (iV r2.fin)]) (κ' := [(1, pT b3), (4, .slice (some ⟨b11, 0, none⟩) 4 4), (38, .bool (r2.fin != 1))]) (by kernel_rfl) (by kernel_rfl) (.load (B18.cell 0 rfl) .nil) ?_
 refine S.subst 38 (.bool (r2.fin != 1)) (.bool false) (by kernel_rfl) (congrArg Value.bool (by rw [lf2]; rfl)) ?_
 refine S.run 5 [.v (iV r2.val)] [1, 4, 43] (rs := [.load ⟨b3, 1, none⟩ (iV r2.val)]) (κ' := [(1, pT b3), (4, .slice (some ⟨b11, 0, none⟩) 4 4), (43, .bool (r2.val != 5))]) (by kernel_rfl) (by kernel_rfl) (.load (B18.cell 1 rfl) .nil) ?_
 refine S.subst 43 (.bool (r2.val != 5)) (.bool false) (by kernel_rfl) (congrArg Value.bool (by rw [lv2]; rfl)) ?_
 refine S.run 3 [.v (.slice r2.a r2.les.length r2.cap)] [43, 45, 46] (rs := [.load ⟨b3, 2, none⟩ (.slice r2.a r2.les.length r2.cap)]) (κ' := [(43, .bool false), (45, .slice r2.a r2.les.length r2.cap), (46, .slice (some ⟨b11, 0, none⟩) 4 4)]) (by kernel_rfl) (by kernel_rfl) (.load (B18.cell 2 rfl) .nil) ?_
 have B19 := B6.ext0 E7
 have B20 := B19.ext0 E8
 have B21 := B20.ext0 E9
 have B22 := B21.ext0 E10
 have B23 := B22.ext0 E11
 have B24 := B5.ext0 E6
 have B25 := B24.ext0 E7
 have B26 := B25.ext0 E8
 have B27 := B26.ext0 E9
 have B28 := B27.ext0 E10
 have B29 := B28.ext0 E11
 have R31 := hr2.1.pres (.of0 E3)
 have R32 := R31.pres (.ofE E4 B3 (by decide))
 have R33 := R32.pres (.of0 E5)
 have R34 := R33.pres (.of0 E6)
 have R35 := R34.pres (.of0 E7)
 have R36 := R35.pres (.of0 E8)
 have R37 := R36.pres (.of0 E9)
 have R38 := R37.pres (.of0 E10)
 have R39 := R38.pres (.of0 E11)
 have T40 := hr2.2.1.pres (.of0 E3)
 have T41 := T40.pres (.ofE E4 B3 (by decide))
 have T42 := T41.pres (.of0 E5)
 have T43 := T42.pres (.of0 E6)
 have T44 := T43.pres (.of0 E7)
 have T45 := T44.pres (.of0 E8)
 have T46 := T45.pres (.of0 E9)
 have T47 := T46.pres (.of0 E10)
 have T48 := T47.pres (.of0 E11)
 have hY30 : EvsOk w11.heap.size w11 [(⟨2, 0, 5, ⟨some ⟨b6, 0, none⟩, 1, [0]⟩, ⟨some ⟨b5, 0, none⟩, 1, [1]⟩⟩ : LE), (⟨3, 0, 5, ⟨none, 0, []⟩, ⟨some ⟨b5, 0, none⟩, 1, [1]⟩⟩ : LE), (⟨4, 1, 5, ⟨none, 0, []⟩, ⟨some ⟨b5, 0, none⟩, 1, [1]⟩⟩ : LE), (⟨1, 0, 5, ⟨none, 0, []⟩, ⟨none, 0, []⟩⟩ : LE)] := (List.forall_mem_cons.2 ⟨⟨⟨Row.ofBlk (cs := intCs) (xs := [0]) B23 (fun _ => rfl) B23.lt, by show 1 ≤ _; omega⟩, ⟨Row.ofBlk (cs := intCs) (xs := [1]) B29 (fun _ => rfl) B29.lt, by show 1 ≤ _; omega⟩⟩, (List.forall_mem_cons.2 ⟨⟨⟨Row.nil, by show 0 ≤ _; omega⟩, ⟨Row.ofBlk (cs := intCs) (xs := [1]) B29 (fun _ => rfl) B29.lt, by show 1 ≤ _; omega⟩⟩, (List.forall_mem_cons.2 ⟨⟨⟨Row.nil, by show 0 ≤ _; omega⟩, ⟨Row.ofBlk (cs := intCs) (xs := [1]) B29 (fun _ => rfl) B29.lt, by show 1 ≤ _; omega⟩⟩, (List.forall_mem_cons.2 ⟨⟨⟨Row.nil, by show 0 ≤ _; omega⟩, ⟨Row.nil, by show 0 ≤ _; omega⟩⟩, (fun _ h => by cases h)⟩)⟩)⟩)⟩)
 have hse30 := SameEvents_spec _ _ _ _ r2.a (some ⟨b11, 0, none⟩) r2.cap 4 r2.les [(⟨2, 0, 5, ⟨some ⟨b6, 0, none⟩, 1, [0]⟩, ⟨some ⟨b5, 0, none⟩, 1, [1]⟩⟩ : LE), (⟨3, 0, 5, ⟨none, 0, []⟩, ⟨some ⟨b5, 0, none⟩, 1, [1]⟩⟩ : LE), (⟨4, 1, 5, ⟨none, 0, []⟩, ⟨some ⟨b5, 0, none⟩, 1, [1]⟩⟩ : LE), (⟨1, 0, 5, ⟨none, 0, []⟩, ⟨none, 0, []⟩⟩ : LE)] _ R39 (Row.ofBlk (cs := evCs) (xs := [(⟨2, 0, 5, ⟨some ⟨b6, 0, none⟩, 1, [0]⟩, ⟨some ⟨b5, 0, none⟩, 1, [1]⟩⟩ : LE), (⟨3, 0, 5, ⟨none, 0, []⟩, ⟨some ⟨b5, 0, none⟩, 1, [1]⟩⟩ : LE), (⟨4, 1, 5, ⟨none, 0, []⟩, ⟨some ⟨b5, 0, none⟩, 1, [1]⟩⟩ : LE), (⟨1, 0, 5, ⟨none, 0, []⟩, ⟨none, 0, []⟩⟩ : LE)]) B11 (fun _ => rfl) B11.lt) T48 hY30 (by omega) (by show 4 ≤ _; omega)
 refine S.one (by kernel_rfl) (S.call (dst := some 47) (f := 8) (args := #[.slice r2.a r2.les.length r2.cap, .slice (some ⟨b11, 0, none⟩) 4 4]) (by kernel_rfl) (by kernel_rfl) (hse30.mono ?_))
 rintro _ w30 ⟨E30, rfl⟩
 refine After.ret (by kernel_rfl) ?_
 have sE30 := E30.size
 refine S.subst 47 (.bool (r2.les.map LE.ev == [(⟨2, 0, 5, ⟨some ⟨b6, 0, none⟩, 1, [0]⟩, ⟨some ⟨b5, 0, none⟩, 1, [1]⟩⟩ : LE), (⟨3, 0, 5, ⟨none, 0, []⟩, ⟨some ⟨b5, 0, none⟩, 1, [1]⟩⟩ : LE), (⟨4, 1, 5, ⟨none, 0, []⟩, ⟨some ⟨b5, 0, none⟩, 1, [1]⟩⟩ : LE), (⟨1, 0, 5, ⟨none, 0, []⟩, ⟨none, 0, []⟩⟩ : LE)].map LE.ev)) (.bool true) (by kernel_rfl) (congrArg Value.bool (by rw [le2]; rfl)) ?_
 refine S.run 2 [] [49] (rs := []) (κ' := [(49, .bool false)]) (by kernel_rfl) (by kernel_rfl) rfl ?_
 refine S.regEnd (by kernel_rfl) (S.no (by kernel_rfl) (S.skip (S.seq (S.region (S.one (by kernel_rfl) (S.call (dst := some 51) (f := 27) (args := #[]) (by kernel_rfl) (by kernel_rfl) ((Retry_spec _).mono ?_)))))))
 rintro _ w49 ⟨E49, q49_0, q49_1, q49_2, q49_3, rfl, hBq49_0, hBq49_1, hBq49_2, hBq49_3⟩
 refine After.ret (by kernel_rfl) ?_
 have sE49 := E49.size
 refine S.one (by kernel_rfl) (S.call (dst := some 52) (f := 4) (args := #[.slice (some ⟨q49_3, 0, none⟩) 1 1, iV 0, iV 99]) (by kernel_rfl) (by kernel_rfl) ((Run_spec w49.heap.size (⟨some ⟨q49_3, 0, none⟩, 1, [(.mk (12, 2) (some ⟨q49_2, 0, none⟩) 1 1 [(.mk (6, 0) (some ⟨q49_1, 0, none⟩) 3 3 [(.mk (2, 0) none 0 0 []), (.mk (1, 7) none 0 0 []), (.mk (10, 0) (some ⟨q49_0, 0, none⟩) 1 1 [(.mk (1, 3) none 0 0 [])])])])]⟩ : LP) 0 99 _ (XOk.prog (XOk.ofB (kids := [(.mk (12, 2) (some ⟨q49_2, 0, none⟩) 1 1 [(.mk (6, 0) (some ⟨q49_1, 0, none⟩) 3 3 [(.mk (2, 0) none 0 0 []), (.mk (1, 7) none 0 0 []), (.mk (10, 0) (some ⟨q49_0, 0, none⟩) 1 1 [(.mk (1, 3) none 0 0 [])])])])]) (k := 1) (0, 0) hBq49_3 rfl (by omega) hBq49_3.lt (List.forall_mem_cons.2 ⟨(XOk.ofB (kids := [(.mk (6, 0) (some ⟨q49_1, 0, none⟩) 3 3 [(.mk (2, 0) none 0 0 []), (.mk (1, 7) none 0 0 []), (.mk (10, 0) (some ⟨q49_0, 0, none⟩) 1 1 [(.mk (1, 3) none 0 0 [])])])]) (k := 1) (12, 2) hBq49_2 rfl (by omega) hBq49_2.lt (List.forall_mem_cons.2 ⟨(XOk.ofB (kids := [(.mk (2, 0) none 0 0 []), (.mk (1, 7) none 0 0 []), (.mk (10, 0) (some ⟨q49_0, 0, none⟩) 1 1 [(.mk (1, 3) none 0 0 [])])]) (k := 3) (6, 0) hBq49_1 rfl (by omega) hBq49_1.lt (List.forall_mem_cons.2 ⟨(XOk.nil (2, 0)), (List.forall_mem_cons.2 ⟨(XOk.nil (1, 7)), (List.forall_mem_cons.2 ⟨(XOk.ofB (kids := [(.mk (1, 3) none 0 0 [])]) (k := 1) (10, 0) hBq49_0 rfl (by omega) hBq49_0.lt (List.forall_mem_cons.2 ⟨(XOk.nil (1, 3)), (fun _ h => by cases h)⟩)), (fun _ h => by cases h)⟩)⟩)⟩)), (fun _ h => by cases h)⟩)), (fun _ h => by cases h)⟩))) (Nat.le_refl _)).mono ?_))
 rintro _ w50 ⟨E50, ⟨hok50, r50, rfl, hr50, his50⟩ | ⟨hok50, rfl⟩⟩
 case inr => exact absurd hok50 (by rw [show okD (⟨some ⟨q49_3, 0, none⟩, 1, [(.mk (12, 2) (some ⟨q49_2, 0, none⟩) 1 1 [(.mk (6, 0) (some ⟨q49_1, 0, none⟩) 3 3 [(.mk (2, 0) none 0 0 []), (.mk (1, 7) none 0 0 []), (.mk (10, 0) (some ⟨q49_0, 0, none⟩) 1 1 [(.mk (1, 3) none 0 0 [])])])])]⟩ : LP).xs 0 [] 99 = true from by kernel_rfl]; simp)
 have to50 := LRun.to his50 (t := ⟨2, 0, [⟨2, 0, 3, [], [2]⟩], 94⟩) (by kernel_rfl)
 have lf50 : r50.fin = 2 := to50.1; have lv50 : r50.val = 0 := to50.2.1; have le50 : r50.les.map LE.ev = [⟨2, 0, 3, [], [2]⟩] := to50.2.2.1; have lu50 : r50.fuel = 94 := to50.2.2.2.1; have ll50 : r50.les.length = 1 := to50.2.2.2.2; have lb50 := hr50.2.2
 refine After.ret (by kernel_rfl) ?_
 have sE50 := E50.size
 refine S.run 3 [] [53, 54] (rs := []) (κ' := [(53, .agg #[iV r50.fin, iV r50.val, .slice r50.a r50.les.length r50.cap, iV r50.fuel]), (54, iV 0)]) (by kernel_rfl) (by kernel_rfl) rfl ?_
 refine S.one (by kernel_rfl) (S.new 5 [iV 0, iV 0, .slice none 0 0, iV 0] 29 (fun b => pT b) (by kernel_rfl) (by kernel_rfl) (fun b => by kernel_rfl) (fun b51 w51 E51 B51 e51 z51 => ?_))
 have sE51 := E51.size
 refine S.one (by kernel_rfl) (S.store 0 [iV r50.fin, iV r50.val, .slice r50.a r50.les.length r50.cap, iV r50.fuel] [iV r50.fin, iV r50.val, .slice r50.a r50.les.length r50.cap, iV r50.fuel] B51 (by kernel_rfl) (by kernel_rfl) (by kernel_rfl) (by kernel_rfl) (by kernel_rfl) (fun w52 E52 B52 z52 => ?_))
 have sE52 := E52.size
 refine S.run 1 [] [2, 5] (rs := []) (κ' := [(2, iV 0), (5, pT b51)]) (by kernel_rfl) (by kernel_rfl) rfl ?_
 refine S.regEnd (by kernel_rfl) (S.seq (S.region (S.one (by kernel_rfl) (S.call (dst := some 56) (f := 27) (args := #[]) (by kernel_rfl) (by kernel_rfl) ((Retry_spec _).mono ?_)))))
 rintro _ w53 ⟨E53, q53_0, q53_1, q53_2, q53_3, rfl, hBq53_0, hBq53_1, hBq53_2, hBq53_3⟩
 refine After.ret (by kernel_rfl) ?_
 have sE53 := E53.size
 refine S.one (by kernel_rfl) (S.new 57 [iV 0] 3 (fun b => .slice (some ⟨b, 0, none⟩) 1 1) (by kernel_rfl) (by kernel_rfl) (fun b => by kernel_rfl) (fun b54 w54 E54 B54 e54 z54 => ?_))
 have sE54 := E54.size
 have B56 := hBq53_3.ext0 E54
 have B57 := hBq53_2.ext0 E54
 have B58 := hBq53_1.ext0 E54
 have B59 := hBq53_0.ext0 E54
 refine S.one (by kernel_rfl) (S.call (dst := some 58) (f := 5) (args := #[.slice (some ⟨q53_3, 0, none⟩) 1 1, iV 0, .slice (some ⟨b54, 0, none⟩) 1 1, iV 99]) (by kernel_rfl) (by kernel_rfl) ((Drive_spec w54.heap.size (⟨some ⟨q53_3, 0, none⟩, 1, [(.mk (12, 2) (some ⟨q53_2, 0, none⟩) 1 1 [(.mk (6, 0) (some ⟨q53_1, 0, none⟩) 3 3 [(.mk (2, 0) none 0 0 []), (.mk (1, 7) none 0 0 []), (.mk (10, 0) (some ⟨q53_0, 0, none⟩) 1 1 [(.mk (1, 3) none 0 0 [])])])])]⟩ : LP) (⟨some ⟨b54, 0, none⟩, 1, [0]⟩ : LS) 0 99 _ (XOk.prog (XOk.ofB (kids := [(.mk (12, 2) (some ⟨q53_2, 0, none⟩) 1 1 [(.mk (6, 0) (some ⟨q53_1, 0, none⟩) 3 3 [(.mk (2, 0) none 0 0 []), (.mk (1, 7) none 0 0 []), (.mk (10, 0) (some ⟨q53_0, 0, none⟩) 1 1 [(.mk (1, 3) none 0 0 [])])])])]) (k := 1) (0, 0) B56 rfl (by omega) B56.lt (List.forall_mem_cons.2 ⟨(XOk.ofB (kids := [(.mk (6, 0) (some ⟨q53_1, 0, none⟩) 3 3 [(.mk (2, 0) none 0 0 []), (.mk (1, 7) none 0 0 []), (.mk (10, 0) (some ⟨q53_0, 0, none⟩) 1 1 [(.mk (1, 3) none 0 0 [])])])]) (k := 1) (12, 2) B57 rfl (by omega) B57.lt (List.forall_mem_cons.2 ⟨(XOk.ofB (kids := [(.mk (2, 0) none 0 0 []), (.mk (1, 7) none 0 0 []), (.mk (10, 0) (some ⟨q53_0, 0, none⟩) 1 1 [(.mk (1, 3) none 0 0 [])])]) (k := 3) (6, 0) B58 rfl (by omega) B58.lt (List.forall_mem_cons.2 ⟨(XOk.nil (2, 0)), (List.forall_mem_cons.2 ⟨(XOk.nil (1, 7)), (List.forall_mem_cons.2 ⟨(XOk.ofB (kids := [(.mk (1, 3) none 0 0 [])]) (k := 1) (10, 0) B59 rfl (by omega) B59.lt (List.forall_mem_cons.2 ⟨(XOk.nil (1, 3)), (fun _ h => by cases h)⟩)), (fun _ h => by cases h)⟩)⟩)⟩)), (fun _ h => by cases h)⟩)), (fun _ h => by cases h)⟩))) ⟨Row.ofBlk (cs := intCs) B54 (fun _ => rfl) B54.lt, by show 1 ≤ _; omega⟩ (Nat.le_refl _) (Nat.le_refl _)).mono ?_))
 rintro _ w55 ⟨E55, ⟨hok55, r55, rfl, hr55, his55⟩ | ⟨hok55, rfl⟩⟩
 case inr => exact absurd hok55 (by rw [show okD (⟨some ⟨q53_3, 0, none⟩, 1, [(.mk (12, 2) (some ⟨q53_2, 0, none⟩) 1 1 [(.mk (6, 0) (some ⟨q53_1, 0, none⟩) 3 3 [(.mk (2, 0) none 0 0 []), (.mk (1, 7) none 0 0 []), (.mk (10, 0) (some ⟨q53_0, 0, none⟩) 1 1 [(.mk (1, 3) none 0 0 [])])])])]⟩ : LP).xs 0 [0] 99 = true from by kernel_rfl]; simp)
 have to55 := LRun.to his55 (t := ⟨1, 7, [⟨2, 0, 3, [], [2]⟩, ⟨4, 2, 3, [], [2]⟩], 91⟩) (by kernel_rfl)
 have lf55 : r55.fin = 1 := to55.1; have lv55 : r55.val = 7 := to55.2.1; have le55 : r55.les.map LE.ev = [⟨2, 0, 3, [], [2]⟩, ⟨4, 2, 3, [], [2]⟩] := to55.2.2.1; have lu55 : r55.fuel = 91 := to55.2.2.2.1; have ll55 : r55.les.length = 2 := to55.2.2.2.2; have lb55 := hr55.2.2
 refine After.ret (by kernel_rfl) ?_
 have sE55 := E55.size
 refine S.run 3 [] [2, 5, 59, 60] (rs := []) (κ' := [(2, iV 0), (5, pT b51), (59, .agg #[iV r55.fin, iV r55.val, .slice r55.a r55.les.length r55.cap, iV r55.fuel]), (60, iV 0)]) (by kernel_rfl) (by kernel_rfl) rfl ?_
 refine S.one (by kernel_rfl) (S.new 6 [iV 0, iV 0, .slice none 0 0, iV 0] 29 (fun b => pT b) (by kernel_rfl) (by kernel_rfl) (fun b => by kernel_rfl) (fun b60 w60 E60 B60 e60 z60 => ?_))
 have sE60 := E60.size
 refine S.one (by kernel_rfl) (S.store 0 [iV r55.fin, iV r55.val, .slice r55.a r55.les.length r55.cap, iV r55.fuel] [iV r55.fin, iV r55.val, .slice r55.a r55.les.length r55.cap, iV r55.fuel] B60 (by kernel_rfl) (by kernel_rfl) (by kernel_rfl) (by kernel_rfl) (by kernel_rfl) (fun w61 E61 B61 z61 => ?_))
 have sE61 := E61.size
 refine S.run 1 [] [2, 5, 6, 7] (rs := []) (κ' := [(2, iV 0), (5, pT b51), (6, pT b60), (7, iV 0)]) (by kernel_rfl) (by kernel_rfl) rfl ?_
 refine S.regEnd (by kernel_rfl) (S.seq (S.region (S.one (by kernel_rfl) (S.call (dst := some 62) (f := 25) (args := #[]) (by kernel_rfl) (by kernel_rfl) ((Example_spec _).mono ?_)))))
 rintro _ w62 ⟨E62, q62_0, q62_1, q62_2, q62_3, q62_4, q62_5, q62_6, rfl, hBq62_0, hBq62_1, hBq62_2, hBq62_3, hBq62_4, hBq62_5, hBq62_6⟩
 refine After.ret (by kernel_rfl) ?_
 have sE62 := E62.size
 refine S.one (by kernel_rfl) (S.call (dst := some 63) (f := 4) (args := #[.slice (some ⟨q62_6, 0, none⟩) 1 1, iV 0, iV 3]) (by kernel_rfl) (by kernel_rfl) ((Run_spec w62.heap.size (⟨some ⟨q62_6, 0, none⟩, 1, [(.mk (11, 1) (some ⟨q62_5, 0, none⟩) 2 2 [(.mk (8, 0) (some ⟨q62_3, 0, none⟩) 2 2 [(.mk (3, 0) (some ⟨q62_1, 0, none⟩) 2 2 [(.mk (10, 0) (some ⟨q62_0, 0, none⟩) 1 1 [(.mk (1, 5) none 0 0 [])]), (.mk (1, 1) none 0 0 [])]), (.mk (13, 1) (some ⟨q62_2, 0, none⟩) 1 1 [(.mk (2, 0) none 0 0 [])])]), (.mk (4, 0) (some ⟨q62_4, 0, none⟩) 1 1 [(.mk (2, 0) none 0 0 [])])])]⟩ : LP) 0 3 _ (XOk.prog (XOk.ofB (kids := [(.mk (11, 1) (some ⟨q62_5, 0, none⟩) 2 2 [(.mk (8, 0) (some ⟨q62_3, 0, none⟩) 2 2 [(.mk (3, 0) (some ⟨q62_1, 0, none⟩) 2 2 [(.mk (10, 0) (some ⟨q62_0, 0, none⟩) 1 1 [(.mk (1, 5) none 0 0 [])]), (.mk (1, 1) none 0 0 [])]), (.mk (13, 1) (some ⟨q62_2, 0, none⟩) 1 1 [(.mk (2, 0) none 0 0 [])])]), (.mk (4, 0) (some ⟨q62_4, 0, none⟩) 1 1 [(.mk (2, 0) none 0 0 [])])])]) (k := 1) (0, 0) hBq62_6 rfl (by omega) hBq62_6.lt (List.forall_mem_cons.2 ⟨(XOk.ofB (kids := [(.mk (8, 0) (some ⟨q62_3, 0, none⟩) 2 2 [(.mk (3, 0) (some ⟨q62_1, 0, none⟩) 2 2 [(.mk (10, 0) (some ⟨q62_0, 0, none⟩) 1 1 [(.mk (1, 5) none 0 0 [])]), (.mk (1, 1) none 0 0 [])]), (.mk (13, 1) (some ⟨q62_2, 0, none⟩) 1 1 [(.mk (2, 0) none 0 0 [])])]), (.mk (4, 0) (some ⟨q62_4, 0, none⟩) 1 1 [(.mk (2, 0) none 0 0 [])])]) (k := 2) (11, 1) hBq62_5 rfl (by omega) hBq62_5.lt (List.forall_mem_cons.2 ⟨(XOk.ofB (kids := [(.mk (3, 0) (some ⟨q62_1, 0, none⟩) 2 2 [(.mk (10, 0) (some ⟨q62_0, 0, none⟩) 1 1 [(.mk (1, 5) none 0 0 [])]), (.mk (1, 1) none 0 0 [])]), (.mk (13, 1) (some ⟨q62_2, 0, none⟩) 1 1 [(.mk (2, 0) none 0 0 [])])]) (k := 2) (8, 0) hBq62_3 rfl (by omega) hBq62_3.lt (List.forall_mem_cons.2 ⟨(XOk.ofB (kids := [(.mk (10, 0) (some ⟨q62_0, 0, none⟩) 1 1 [(.mk (1, 5) none 0 0 [])]), (.mk (1, 1) none 0 0 [])]) (k := 2) (3, 0) hBq62_1 rfl (by omega) hBq62_1.lt (List.forall_mem_cons.2 ⟨(XOk.ofB (kids := [(.mk (1, 5) none 0 0 [])]) (k := 1) (10, 0) hBq62_0 rfl (by omega) hBq62_0.lt (List.forall_mem_cons.2 ⟨(XOk.nil (1, 5)), (fun _ h => by cases h)⟩)), (List.forall_mem_cons.2 ⟨(XOk.nil (1, 1)), (fun _ h => by cases h)⟩)⟩)), (List.forall_mem_cons.2 ⟨(XOk.ofB (kids := [(.mk (2, 0) none 0 0 [])]) (k := 1) (13, 1) hBq62_2 rfl (by omega) hBq62_2.lt (List.forall_mem_cons.2 ⟨(XOk.nil (2, 0)), (fun _ h => by cases h)⟩)), (fun _ h => by cases h)⟩)⟩)), (List.forall_mem_cons.2 ⟨(XOk.ofB (kids := [(.mk (2, 0) none 0 0 [])]) (k := 1) (4, 0) hBq62_4 rfl (by omega) hBq62_4.lt (List.forall_mem_cons.2 ⟨(XOk.nil (2, 0)), (fun _ h => by cases h)⟩)), (fun _ h => by cases h)⟩)⟩)), (fun _ h => by cases h)⟩))) (Nat.le_refl _)).mono ?_))
 rintro _ w63 ⟨E63, ⟨hok63, r63, rfl, hr63, his63⟩ | ⟨hok63, rfl⟩⟩
 case inr => exact absurd hok63 (by rw [show okD (⟨some ⟨q62_6, 0, none⟩, 1, [(.mk (11, 1) (some ⟨q62_5, 0, none⟩) 2 2 [(.mk (8, 0) (some ⟨q62_3, 0, none⟩) 2 2 [(.mk (3, 0) (some ⟨q62_1, 0, none⟩) 2 2 [(.mk (10, 0) (some ⟨q62_0, 0, none⟩) 1 1 [(.mk (1, 5) none 0 0 [])]), (.mk (1, 1) none 0 0 [])]), (.mk (13, 1) (some ⟨q62_2, 0, none⟩) 1 1 [(.mk (2, 0) none 0 0 [])])]), (.mk (4, 0) (some ⟨q62_4, 0, none⟩) 1 1 [(.mk (2, 0) none 0 0 [])])])]⟩ : LP).xs 0 [] 3 = true from by kernel_rfl]; simp)
 have to63 := LRun.to his63 (t := ⟨4, 0, [], 0⟩) (by kernel_rfl)
 have lf63 : r63.fin = 4 := to63.1; have lv63 : r63.val = 0 := to63.2.1; have le63 : r63.les.map LE.ev = [] := to63.2.2.1; have lu63 : r63.fuel = 0 := to63.2.2.2.1; have ll63 : r63.les.length = 0 := to63.2.2.2.2; have lb63 := hr63.2.2
 refine After.ret (by kernel_rfl) ?_
 have sE63 := E63.size
 refine S.run 3 [] [2, 5, 6, 7, 64, 65] (rs := []) (κ' := [(2, iV 0), (5, pT b51), (6, pT b60), (7, iV 0), (64, .agg #[iV r63.fin, iV r63.val, .slice r63.a r63.les.length r63.cap, iV r63.fuel]), (65, iV 0)]) (by kernel_rfl) (by kernel_rfl) rfl ?_
 refine S.one (by kernel_rfl) (S.new 8 [iV 0, iV 0, .slice none 0 0, iV 0] 29 (fun b => pT b) (by kernel_rfl) (by kernel_rfl) (fun b => by kernel_rfl) (fun b64 w64 E64 B64 e64 z64 => ?_))
 have sE64 := E64.size
 refine S.one (by kernel_rfl) (S.store 0 [iV r63.fin, iV r63.val, .slice r63.a r63.les.length r63.cap, iV r63.fuel] [iV r63.fin, iV r63.val, .slice r63.a r63.les.length r63.cap, iV r63.fuel] B64 (by kernel_rfl) (by kernel_rfl) (by kernel_rfl) (by kernel_rfl) (by kernel_rfl) (fun w65 E65 B65 z65 => ?_))
 have sE65 := E65.size
 refine S.run 1 [] [2, 5, 6, 7, 8, 9] (rs := []) (κ' := [(2, iV 0), (5, pT b51), (6, pT b60), (7, iV 0), (8, pT b64), (9, iV 0)]) (by kernel_rfl) (by kernel_rfl) rfl ?_
 refine S.regEnd (by kernel_rfl) (S.seq (S.region (S.one (by kernel_rfl) (S.call (dst := some 67) (f := 25) (args := #[]) (by kernel_rfl) (by kernel_rfl) ((Example_spec _).mono ?_)))))
 rintro _ w66 ⟨E66, q66_0, q66_1, q66_2, q66_3, q66_4, q66_5, q66_6, rfl, hBq66_0, hBq66_1, hBq66_2, hBq66_3, hBq66_4, hBq66_5, hBq66_6⟩
 refine After.ret (by kernel_rfl) ?_
 have sE66 := E66.size
 refine S.one (by kernel_rfl) (S.call (dst := some 68) (f := 4) (args := #[.slice (some ⟨q66_6, 0, none⟩) 1 1, iV 0, iV 301]) (by kernel_rfl) (by kernel_rfl) ((Run_spec w66.heap.size (⟨some ⟨q66_6, 0, none⟩, 1, [(.mk (11, 1) (some ⟨q66_5, 0, none⟩) 2 2 [(.mk (8, 0) (some ⟨q66_3, 0, none⟩) 2 2 [(.mk (3, 0) (some ⟨q66_1, 0, none⟩) 2 2 [(.mk (10, 0) (some ⟨q66_0, 0, none⟩) 1 1 [(.mk (1, 5) none 0 0 [])]), (.mk (1, 1) none 0 0 [])]), (.mk (13, 1) (some ⟨q66_2, 0, none⟩) 1 1 [(.mk (2, 0) none 0 0 [])])]), (.mk (4, 0) (some ⟨q66_4, 0, none⟩) 1 1 [(.mk (2, 0) none 0 0 [])])])]⟩ : LP) 0 301 _ (XOk.prog (XOk.ofB (kids := [(.mk (11, 1) (some ⟨q66_5, 0, none⟩) 2 2 [(.mk (8, 0) (some ⟨q66_3, 0, none⟩) 2 2 [(.mk (3, 0) (some ⟨q66_1, 0, none⟩) 2 2 [(.mk (10, 0) (some ⟨q66_0, 0, none⟩) 1 1 [(.mk (1, 5) none 0 0 [])]), (.mk (1, 1) none 0 0 [])]), (.mk (13, 1) (some ⟨q66_2, 0, none⟩) 1 1 [(.mk (2, 0) none 0 0 [])])]), (.mk (4, 0) (some ⟨q66_4, 0, none⟩) 1 1 [(.mk (2, 0) none 0 0 [])])])]) (k := 1) (0, 0) hBq66_6 rfl (by omega) hBq66_6.lt (List.forall_mem_cons.2 ⟨(XOk.ofB (kids := [(.mk (8, 0) (some ⟨q66_3, 0, none⟩) 2 2 [(.mk (3, 0) (some ⟨q66_1, 0, none⟩) 2 2 [(.mk (10, 0) (some ⟨q66_0, 0, none⟩) 1 1 [(.mk (1, 5) none 0 0 [])]), (.mk (1, 1) none 0 0 [])]), (.mk (13, 1) (some ⟨q66_2, 0, none⟩) 1 1 [(.mk (2, 0) none 0 0 [])])]), (.mk (4, 0) (some ⟨q66_4, 0, none⟩) 1 1 [(.mk (2, 0) none 0 0 [])])]) (k := 2) (11, 1) hBq66_5 rfl (by omega) hBq66_5.lt (List.forall_mem_cons.2 ⟨(XOk.ofB (kids := [(.mk (3, 0) (some ⟨q66_1, 0, none⟩) 2 2 [(.mk (10, 0) (some ⟨q66_0, 0, none⟩) 1 1 [(.mk (1, 5) none 0 0 [])]), (.mk (1, 1) none 0 0 [])]), (.mk (13, 1) (some ⟨q66_2, 0, none⟩) 1 1 [(.mk (2, 0) none 0 0 [])])]) (k := 2) (8, 0) hBq66_3 rfl (by omega) hBq66_3.lt (List.forall_mem_cons.2 ⟨(XOk.ofB (kids := [(.mk (10, 0) (some ⟨q66_0, 0, none⟩) 1 1 [(.mk (1, 5) none 0 0 [])]), (.mk (1, 1) none 0 0 [])]) (k := 2) (3, 0) hBq66_1 rfl (by omega) hBq66_1.lt (List.forall_mem_cons.2 ⟨(XOk.ofB (kids := [(.mk (1, 5) none 0 0 [])]) (k := 1) (10, 0) hBq66_0 rfl (by omega) hBq66_0.lt (List.forall_mem_cons.2 ⟨(XOk.nil (1, 5)), (fun _ h => by cases h)⟩)), (List.forall_mem_cons.2 ⟨(XOk.nil (1, 1)), (fun _ h => by cases h)⟩)⟩)), (List.forall_mem_cons.2 ⟨(XOk.ofB (kids := [(.mk (2, 0) none 0 0 [])]) (k := 1) (13, 1) hBq66_2 rfl (by omega) hBq66_2.lt (List.forall_mem_cons.2 ⟨(XOk.nil (2, 0)), (fun _ h => by cases h)⟩)), (fun _ h => by cases h)⟩)⟩)), (List.forall_mem_cons.2 ⟨(XOk.ofB (kids := [(.mk (2, 0) none 0 0 [])]) (k := 1) (4, 0) hBq66_4 rfl (by omega) hBq66_4.lt (List.forall_mem_cons.2 ⟨(XOk.nil (2, 0)), (fun _ h => by cases h)⟩)), (fun _ h => by cases h)⟩)⟩)), (fun _ h => by cases h)⟩))) (Nat.le_refl _)).mono ?_))
 rintro _ w67 ⟨E67, ⟨hok67, r67, rfl, hr67, his67⟩ | ⟨hok67, rfl⟩⟩
 case inl => exact absurd hok67 (by rw [show okD (⟨some ⟨q66_6, 0, none⟩, 1, [(.mk (11, 1) (some ⟨q66_5, 0, none⟩) 2 2 [(.mk (8, 0) (some ⟨q66_3, 0, none⟩) 2 2 [(.mk (3, 0) (some ⟨q66_1, 0, none⟩) 2 2 [(.mk (10, 0) (some ⟨q66_0, 0, none⟩) 1 1 [(.mk (1, 5) none 0 0 [])]), (.mk (1, 1) none 0 0 [])]), (.mk (13, 1) (some ⟨q66_2, 0, none⟩) 1 1 [(.mk (2, 0) none 0 0 [])])]), (.mk (4, 0) (some ⟨q66_4, 0, none⟩) 1 1 [(.mk (2, 0) none 0 0 [])])])]⟩ : LP).xs 0 [] 301 = false from by kernel_rfl]; simp)
 refine After.ret (by kernel_rfl) ?_
 have sE67 := E67.size
 refine S.run 3 [] [2, 5, 6, 7, 8, 9, 69, 70] (rs := []) (κ' := [(2, iV 0), (5, pT b51), (6, pT b60), (7, iV 0), (8, pT b64), (9, iV 0), (69, .agg #[iV 0, iV 0, .slice none 0 0, iV 0]), (70, iV 2)]) (by kernel_rfl) (by kernel_rfl) rfl ?_
 refine S.one (by kernel_rfl) (S.new 10 [iV 0, iV 0, .slice none 0 0, iV 0] 29 (fun b => pT b) (by kernel_rfl) (by kernel_rfl) (fun b => by kernel_rfl) (fun b68 w68 E68 B68 e68 z68 => ?_))
 have sE68 := E68.size
 refine S.one (by kernel_rfl) (S.store 0 [iV 0, iV 0, .slice none 0 0, iV 0] [iV 0, iV 0, .slice none 0 0, iV 0] B68 (by kernel_rfl) (by kernel_rfl) (by kernel_rfl) (by kernel_rfl) (by kernel_rfl) (fun w69 E69 B69 z69 => ?_))
 have sE69 := E69.size
 refine S.run 1 [] [2, 5, 6, 7, 8, 9, 11] (rs := []) (κ' := [(2, iV 0), (5, pT b51), (6, pT b60), (7, iV 0), (8, pT b64), (9, iV 0), (11, iV 2)]) (by kernel_rfl) (by kernel_rfl) rfl ?_
 refine S.regEnd (by kernel_rfl) (S.seq (S.seq (S.region ?_)))
 have B70 := B52.ext0 E53
 have B71 := B70.ext0 E54
 have B72 := B71.ext0 E55
 have B73 := B72.ext0 E60
 have B74 := B73.extS E61 (by omega)
 have B75 := B74.ext0 E62
 have B76 := B75.ext0 E63
 have B77 := B76.ext0 E64
 have B78 := B77.extS E65 (by omega)
 have B79 := B78.ext0 E66
 have B80 := B79.ext0 E67
 have B81 := B80.ext0 E68
 have B82 := B81.extS E69 (by omega)
 refine S.run 20 [.v (iV r50.fin)] [5, 6, 8, 90] (rs := [.load ⟨b51, 0, none⟩ (iV r50.fin)]) (κ' := [(5, pT b51), (6, pT b60), (8, pT b64), (90, .bool (r50.fin != 2))]) (by kernel_rfl) (by kernel_rfl) (.load (B82.cell 0 rfl) .nil) ?_
 refine S.subst 90 (.bool (r50.fin != 2)) (.bool false) (by kernel_rfl) (congrArg Value.bool (by rw [lf50]; rfl)) ?_
 refine S.run 6 [.v (.slice r50.a r50.les.length r50.cap)] [6, 8, 96] (rs := [.load ⟨b51, 2, none⟩ (.slice r50.a r50.les.length r50.cap)]) (κ' := [(6, pT b60), (8, pT b64), (96, .bool (((r50.les.length : Nat) : Int) != 1))]) (by kernel_rfl) (by kernel_rfl) (.load (B82.cell 2 rfl) .nil) ?_
 refine S.subst 96 (.bool (((r50.les.length : Nat) : Int) != 1)) (.bool false) (by kernel_rfl) (congrArg Value.bool (by rw [ll50]; rfl)) ?_
 have B83 := B61.ext0 E62
 have B84 := B83.ext0 E63
 have B85 := B84.ext0 E64
 have B86 := B85.extS E65 (by omega)
 have B87 := B86.ext0 E66
 have B88 := B87.ext0 E67
 have B89 := B88.ext0 E68
 have B90 := B89.extS E69 (by omega)
 refine S.run 5 [.v (iV r55.fin)] [6, 8, 101] (rs := [.load ⟨b60, 0, none⟩ (iV r55.fin)]) (κ' := [(6, pT b60), (8, pT b64), (101, .bool (r55.fin != 1))]) (by kernel_rfl) (by kernel_rfl) (.load (B90.cell 0 rfl) .nil) ?_
 refine S.subst 101 (.bool (r55.fin != 1)) (.bool false) (by kernel_rfl) (congrArg Value.bool (by rw [lf55]; rfl)) ?_
 refine S.run 5 [.v (iV r55.val)] [6, 8, 106] (rs := [.load ⟨b60, 1, none⟩ (iV r55.val)]) (κ' := [(6, pT b60), (8, pT b64), (106, .bool (r55.val != 7))]) (by kernel_rfl) (by kernel_rfl) (.load (B90.cell 1 rfl) .nil) ?_
 refine S.subst 106 (.bool (r55.val != 7)) (.bool false) (by kernel_rfl) (congrArg Value.bool (by rw [lv55]; rfl)) ?_
 refine S.run 6 [.v (.slice r55.a r55.les.length r55.cap)] [8, 112] (rs := [.load ⟨b60, 2, none⟩ (.slice r55.a r55.les.length r55.cap)]) (κ' := [(8, pT b64), (112, .bool (((r55.les.length : Nat) : Int) != 2))]) (by kernel_rfl) (by kernel_rfl) (.load (B90.cell 2 rfl) .nil) ?_
 refine S.subst 112 (.bool (((r55.les.length : Nat) : Int) != 2)) (.bool false) (by kernel_rfl) (congrArg Value.bool (by rw [ll55]; rfl)) ?_
 have B91 := B65.ext0 E66
 have B92 := B91.ext0 E67
 have B93 := B92.ext0 E68
 have B94 := B93.extS E69 (by omega)
 refine S.run 5 [.v (iV r63.fin)] [8, 117] (rs := [.load ⟨b64, 0, none⟩ (iV r63.fin)]) (κ' := [(8, pT b64), (117, .bool (r63.fin != 4))]) (by kernel_rfl) (by kernel_rfl) (.load (B94.cell 0 rfl) .nil) ?_
 refine S.subst 117 (.bool (r63.fin != 4)) (.bool false) (by kernel_rfl) (congrArg Value.bool (by rw [lf63]; rfl)) ?_
 refine S.run 5 [.v (iV r63.fuel)] [8, 122] (rs := [.load ⟨b64, 3, none⟩ (iV r63.fuel)]) (κ' := [(8, pT b64), (122, .bool (r63.fuel != 0))]) (by kernel_rfl) (by kernel_rfl) (.load (B94.cell 3 rfl) .nil) ?_
 refine S.subst 122 (.bool (r63.fuel != 0)) (.bool false) (by kernel_rfl) (congrArg Value.bool (by rw [lu63]; rfl)) ?_
 refine S.run 5 [.v (.slice r63.a r63.les.length r63.cap)] [127] (rs := [.load ⟨b64, 2, none⟩ (.slice r63.a r63.les.length r63.cap)]) (κ' := [(127, .bool (((r63.les.length : Nat) : Int) != 0))]) (by kernel_rfl) (by kernel_rfl) (.load (B94.cell 2 rfl) .nil) ?_
 refine S.regEnd (by kernel_rfl) (S.subst 127 (.bool (((r63.les.length : Nat) : Int) != 0)) (.bool false) (by kernel_rfl) (congrArg Value.bool (by rw [ll63]; rfl)) ?_)
 refine S.no (by kernel_rfl) (S.skip (S.seq (S.region (S.one (by kernel_rfl) (S.call (dst := some 128) (f := 29) (args := #[iV 2]) (by kernel_rfl) (by kernel_rfl) ((Num_spec _ _).mono ?_))))))
 rintro _ w95 ⟨E95, rfl⟩
 refine After.ret (by kernel_rfl) ?_
 have sE95 := E95.size
 refine S.one (by kernel_rfl) (S.new 129 [iV 1, iV 2, .slice none 0 0] 60 (fun b => .slice (some ⟨b, 0, none⟩) 1 1) (by kernel_rfl) (by kernel_rfl) (fun b => by kernel_rfl) (fun b96 w96 E96 B96 e96 z96 => ?_))
 have sE96 := E96.size
 refine S.one (by kernel_rfl) (S.call (dst := some 130) (f := 28) (args := #[iV 13, iV 1, .slice (some ⟨b96, 0, none⟩) 1 1]) (by kernel_rfl) (by kernel_rfl) ((Of_spec _ _ _ _ _ _).mono ?_))
 rintro _ w97 ⟨E97, rfl⟩
 refine After.ret (by kernel_rfl) ?_
 have sE97 := E97.size
 refine S.one (by kernel_rfl) (S.call (dst := some 131) (f := 29) (args := #[iV 9]) (by kernel_rfl) (by kernel_rfl) ((Num_spec _ _).mono ?_))
 rintro _ w98 ⟨E98, rfl⟩
 refine After.ret (by kernel_rfl) ?_
 have sE98 := E98.size
 refine S.one (by kernel_rfl) (S.new 132 [iV 1, iV 9, .slice none 0 0] 60 (fun b => .slice (some ⟨b, 0, none⟩) 1 1) (by kernel_rfl) (by kernel_rfl) (fun b => by kernel_rfl) (fun b99 w99 E99 B99 e99 z99 => ?_))
 have sE99 := E99.size
 refine S.one (by kernel_rfl) (S.call (dst := some 133) (f := 28) (args := #[iV 4, iV 0, .slice (some ⟨b99, 0, none⟩) 1 1]) (by kernel_rfl) (by kernel_rfl) ((Of_spec _ _ _ _ _ _).mono ?_))
 rintro _ w100 ⟨E100, rfl⟩
 refine After.ret (by kernel_rfl) ?_
 have sE100 := E100.size
 refine S.one (by kernel_rfl) (S.new 134 [iV 13, iV 1, .slice (some ⟨b96, 0, none⟩) 1 1, iV 4, iV 0, .slice (some ⟨b99, 0, none⟩) 1 1] 60 (fun b => .slice (some ⟨b, 0, none⟩) 2 2) (by kernel_rfl) (by kernel_rfl) (fun b => by kernel_rfl) (fun b101 w101 E101 B101 e101 z101 => ?_))
 have sE101 := E101.size
 refine S.one (by kernel_rfl) (S.call (dst := some 135) (f := 28) (args := #[iV 15, iV 0, .slice (some ⟨b101, 0, none⟩) 2 2]) (by kernel_rfl) (by kernel_rfl) ((Of_spec _ _ _ _ _ _).mono ?_))
 rintro _ w102 ⟨E102, rfl⟩
 refine After.ret (by kernel_rfl) ?_
 have sE102 := E102.size
 refine S.one (by kernel_rfl) (S.new 12 [iV 0, iV 0, .slice none 0 0] 60 (fun b => pT b) (by kernel_rfl) (by kernel_rfl) (fun b => by kernel_rfl) (fun b103 w103 E103 B103 e103 z103 => ?_))
 have sE103 := E103.size
 refine S.one (by kernel_rfl) (S.store 0 [iV 15, iV 0, .slice (some ⟨b101, 0, none⟩) 2 2] [iV 15, iV 0, .slice (some ⟨b101, 0, none⟩) 2 2] B103 (by kernel_rfl) (by kernel_rfl) (by kernel_rfl) (by kernel_rfl) (by kernel_rfl) (fun w104 E104 B104 z104 => ?_))
 have sE104 := E104.size
 refine S.regEnd (by kernel_rfl) (S.seq (S.drawN 12 #[false, false, false, false, false, false, false, false, false, false, false, false] 12 (fun u u' => Ext E0 u u') (fun u u' => Ext E0 u u') (by kernel_rfl) (by kernel_rfl) (by kernel_rfl) (fun w105 E105 z105 => ?_)))
 have sE105 := E105.size
 have B106 := B104.ext0 E105
 refine S.dreads bodyPost_panicOk [0] 11 [.v (iV 15), .v (iV 0), .v (.slice (some ⟨b101, 0, none⟩) 2 2)] [137] (rs := [.load ⟨b103, 0, none⟩ (iV 15), .load ⟨b103, 1, none⟩ (iV 0), .load ⟨b103, 2, none⟩ (.slice (some ⟨b101, 0, none⟩) 2 2)]) (κ' := [(137, .agg #[iV 15, iV 0, .slice (some ⟨b101, 0, none⟩) 2 2])]) (l' := #[true, false, false, false, false, false, false, false, false, false, false, false]) (by kernel_rfl) (by kernel_rfl) (by kernel_rfl) (fun w' hw => have hw := hw.elim id id; (.load ((B106.ext0 hw).cell 0 rfl) (.load ((B106.ext0 hw).cell 1 rfl) (.load ((B106.ext0 hw).cell 2 rfl) .nil)))) ?_
 refine S.dready (js := [1, 9]) (by kernel_rfl) rfl (sw1 (by kernel_rfl) (Ext.refl _)) ?_
 intro j107 hj107
 simp only [List.mem_cons, List.not_mem_nil, or_false] at hj107
 rcases hj107 with rfl | rfl
 ·skip
  show S _ _ _ _ _ (.one _ 1 :: .dreg _ #[true, true, false, false, false, false, false, false, false, false, false, false] _ _ :: _) _ _
  refine S.call (dst := some 138) (f := 30) (args := #[]) (by kernel_rfl) (by kernel_rfl) ((Hand_spec  _).mono ?_)
  rintro _ w108 ⟨E108, rfl⟩
  refine After.ret (by kernel_rfl) ?_
  have sE108 := E108.size
  refine S.dready (js := [2, 9]) (by kernel_rfl) rfl (sw1 (by kernel_rfl) E108) ?_
  intro j109 hj109
  simp only [List.mem_cons, List.not_mem_nil, or_false] at hj109
  rcases hj109 with rfl | rfl
  ·skip
   show S _ _ _ _ _ (.one _ 2 :: .dreg _ #[true, true, true, false, false, false, false, false, false, false, false, false] _ _ :: _) _ _
   refine S.new 139 [iV 15, iV 0, .slice (some ⟨b101, 0, none⟩) 2 2, iV 2, iV 0, .slice none 0 0] 60 (fun b => .slice (some ⟨b, 0, none⟩) 2 2) (by kernel_rfl) (by kernel_rfl) (fun b => by kernel_rfl) (fun b110 w110 E110 B110 e110 z110 => ?_)
   have sE110 := E110.size
   refine S.dready (js := [3, 9]) (by kernel_rfl) rfl (sw1 (by kernel_rfl) (E108.trans E110)) ?_
   intro j111 hj111
   simp only [List.mem_cons, List.not_mem_nil, or_false] at hj111
   rcases hj111 with rfl | rfl
   ·skip
    show S _ _ _ _ _ (.one _ 3 :: .dreg _ #[true, true, true, true, false, false, false, false, false, false, false, false] _ _ :: _) _ _
    refine S.call (dst := some 140) (f := 28) (args := #[iV 11, iV 1, .slice (some ⟨b110, 0, none⟩) 2 2]) (by kernel_rfl) (by kernel_rfl) ((Of_spec _ _ _ _ _ _).mono ?_)
    rintro _ w112 ⟨E112, rfl⟩
    refine After.ret (by kernel_rfl) ?_
    have sE112 := E112.size
    refine S.dready (js := [4, 9]) (by kernel_rfl) rfl (sw1 (by kernel_rfl) ((E108.trans E110).trans E112)) ?_
    intro j113 hj113
    simp only [List.mem_cons, List.not_mem_nil, or_false] at hj113
    rcases hj113 with rfl | rfl
    ·skip
     show S _ _ _ _ _ (.one _ 4 :: .dreg _ #[true, true, true, true, true, false, false, false, false, false, false, false] _ _ :: _) _ _
     refine S.new 141 [iV 11, iV 1, .slice (some ⟨b110, 0, none⟩) 2 2] 60 (fun b => .slice (some ⟨b, 0, none⟩) 1 1) (by kernel_rfl) (by kernel_rfl) (fun b => by kernel_rfl) (fun b114 w114 E114 B114 e114 z114 => ?_)
     have sE114 := E114.size
     refine S.dready (js := [5, 9]) (by kernel_rfl) rfl (sw1 (by kernel_rfl) (((E108.trans E110).trans E112).trans E114)) ?_
     intro j115 hj115
     simp only [List.mem_cons, List.not_mem_nil, or_false] at hj115
     rcases hj115 with rfl | rfl
     ·skip
      show S _ _ _ _ _ (.one _ 5 :: .dreg _ #[true, true, true, true, true, true, false, false, false, false, false, false] _ _ :: _) _ _
      have B117 := B110.ext0 E112
      have B118 := B117.ext0 E114
      have B119 := B101.ext0 E102
      have B120 := B119.ext0 E103
      have B121 := B120.extS E104 (by omega)
      have B122 := B121.ext0 E105
      have B123 := B122.ext0 E108
      have B124 := B123.ext0 E110
      have B125 := B124.ext0 E112
      have B126 := B125.ext0 E114
      have B127 := B96.ext0 E97
      have B128 := B127.ext0 E98
      have B129 := B128.ext0 E99
      have B130 := B129.ext0 E100
      have B131 := B130.ext0 E101
      have B132 := B131.ext0 E102
      have B133 := B132.ext0 E103
      have B134 := B133.extS E104 (by omega)
      have B135 := B134.ext0 E105
      have B136 := B135.ext0 E108
      have B137 := B136.ext0 E110
      have B138 := B137.ext0 E112
      have B139 := B138.ext0 E114
      have B140 := B99.ext0 E100
      have B141 := B140.ext0 E101
      have B142 := B141.ext0 E102
      have B143 := B142.ext0 E103
      have B144 := B143.extS E104 (by omega)
      have B145 := B144.ext0 E105
      have B146 := B145.ext0 E108
      have B147 := B146.ext0 E110
      have B148 := B147.ext0 E112
      have B149 := B148.ext0 E114
      refine S.call (dst := some 142) (f := 4) (args := #[.slice (some ⟨b114, 0, none⟩) 1 1, iV 0, iV 99]) (by kernel_rfl) (by kernel_rfl) ((Run_spec w114.heap.size (⟨some ⟨b114, 0, none⟩, 1, [(.mk (11, 1) (some ⟨b110, 0, none⟩) 2 2 [(.mk (15, 0) (some ⟨b101, 0, none⟩) 2 2 [(.mk (13, 1) (some ⟨b96, 0, none⟩) 1 1 [(.mk (1, 2) none 0 0 [])]), (.mk (4, 0) (some ⟨b99, 0, none⟩) 1 1 [(.mk (1, 9) none 0 0 [])])]), (.mk (2, 0) none 0 0 [])])]⟩ : LP) 0 99 _ (XOk.prog (XOk.ofB (kids := [(.mk (11, 1) (some ⟨b110, 0, none⟩) 2 2 [(.mk (15, 0) (some ⟨b101, 0, none⟩) 2 2 [(.mk (13, 1) (some ⟨b96, 0, none⟩) 1 1 [(.mk (1, 2) none 0 0 [])]), (.mk (4, 0) (some ⟨b99, 0, none⟩) 1 1 [(.mk (1, 9) none 0 0 [])])]), (.mk (2, 0) none 0 0 [])])]) (k := 1) (0, 0) B114 rfl (by omega) B114.lt (List.forall_mem_cons.2 ⟨(XOk.ofB (kids := [(.mk (15, 0) (some ⟨b101, 0, none⟩) 2 2 [(.mk (13, 1) (some ⟨b96, 0, none⟩) 1 1 [(.mk (1, 2) none 0 0 [])]), (.mk (4, 0) (some ⟨b99, 0, none⟩) 1 1 [(.mk (1, 9) none 0 0 [])])]), (.mk (2, 0) none 0 0 [])]) (k := 2) (11, 1) B118 rfl (by omega) B118.lt (List.forall_mem_cons.2 ⟨(XOk.ofB (kids := [(.mk (13, 1) (some ⟨b96, 0, none⟩) 1 1 [(.mk (1, 2) none 0 0 [])]), (.mk (4, 0) (some ⟨b99, 0, none⟩) 1 1 [(.mk (1, 9) none 0 0 [])])]) (k := 2) (15, 0) B126 rfl (by omega) B126.lt (List.forall_mem_cons.2 ⟨(XOk.ofB (kids := [(.mk (1, 2) none 0 0 [])]) (k := 1) (13, 1) B139 rfl (by omega) B139.lt (List.forall_mem_cons.2 ⟨(XOk.nil (1, 2)), (fun _ h => by cases h)⟩)), (List.forall_mem_cons.2 ⟨(XOk.ofB (kids := [(.mk (1, 9) none 0 0 [])]) (k := 1) (4, 0) B149 rfl (by omega) B149.lt (List.forall_mem_cons.2 ⟨(XOk.nil (1, 9)), (fun _ h => by cases h)⟩)), (fun _ h => by cases h)⟩)⟩)), (List.forall_mem_cons.2 ⟨(XOk.nil (2, 0)), (fun _ h => by cases h)⟩)⟩)), (fun _ h => by cases h)⟩))) (Nat.le_refl _)).mono ?_)
      rintro _ w116 ⟨E116, ⟨hok116, r116, rfl, hr116, his116⟩ | ⟨hok116, rfl⟩⟩
      case inr => exact absurd hok116 (by rw [show okD (⟨some ⟨b114, 0, none⟩, 1, [(.mk (11, 1) (some ⟨b110, 0, none⟩) 2 2 [(.mk (15, 0) (some ⟨b101, 0, none⟩) 2 2 [(.mk (13, 1) (some ⟨b96, 0, none⟩) 1 1 [(.mk (1, 2) none 0 0 [])]), (.mk (4, 0) (some ⟨b99, 0, none⟩) 1 1 [(.mk (1, 9) none 0 0 [])])]), (.mk (2, 0) none 0 0 [])])]⟩ : LP).xs 0 [] 99 = true from by kernel_rfl]; simp)
      have to116 := LRun.to his116 (t := ⟨1, 2, [⟨4, 1, 2, [], [1]⟩, ⟨5, 0, 0, [], [1]⟩, ⟨1, 0, 9, [], [1]⟩], 92⟩) (by kernel_rfl)
      have lf116 : r116.fin = 1 := to116.1; have lv116 : r116.val = 2 := to116.2.1; have le116 : r116.les.map LE.ev = [⟨4, 1, 2, [], [1]⟩, ⟨5, 0, 0, [], [1]⟩, ⟨1, 0, 9, [], [1]⟩] := to116.2.2.1; have lu116 : r116.fuel = 92 := to116.2.2.2.1; have ll116 : r116.les.length = 3 := to116.2.2.2.2; have lb116 := hr116.2.2
      refine After.ret (by kernel_rfl) ?_
      have sE116 := E116.size
      refine S.dreads bodyPost_panicOk [6, 7, 8] 3 [] [143, 144] (rs := []) (κ' := [(143, .agg #[iV r116.fin, iV r116.val, .slice r116.a r116.les.length r116.cap, iV r116.fuel]), (144, iV 0)]) (l' := #[true, true, true, true, true, true, true, true, true, false, false, false]) (by kernel_rfl) (by kernel_rfl) (by kernel_rfl) (fun _ _ => rfl) ?_
      refine S.dnext (j := 9) (l' := #[true, true, true, true, true, true, true, true, true, true, false, false]) (by kernel_rfl) (by kernel_rfl) (sw1 (by kernel_rfl) ((((E108.trans E110).trans E112).trans E114).trans E116)) ?_
      refine S.new 13 [iV 0, iV 0, .slice none 0 0, iV 0] 29 (fun b => pT b) (by kernel_rfl) (by kernel_rfl) (fun b => by kernel_rfl) (fun b150 w150 E150 B150 e150 z150 => ?_)
      have sE150 := E150.size
      refine S.dnext (j := 10) (l' := #[true, true, true, true, true, true, true, true, true, true, true, false]) (by kernel_rfl) (by kernel_rfl) (sw1 (by kernel_rfl) (((((E108.trans E110).trans E112).trans E114).trans E116).trans E150)) ?_
      refine S.store 0 [iV r116.fin, iV r116.val, .slice r116.a r116.les.length r116.cap, iV r116.fuel] [iV r116.fin, iV r116.val, .slice r116.a r116.les.length r116.cap, iV r116.fuel] B150 (by kernel_rfl) (by kernel_rfl) (by kernel_rfl) (by kernel_rfl) (by kernel_rfl) (fun w151 E151 B151 z151 => ?_)
      have sE151 := E151.size
      refine S.dreads bodyPost_panicOk [11] 0 [] [2, 13] (rs := []) (κ' := [(2, iV 0), (13, pT b150)]) (l' := #[true, true, true, true, true, true, true, true, true, true, true, true]) (by kernel_rfl) (by kernel_rfl) (by kernel_rfl) (fun _ _ => rfl) ?_
      refine S.dend (by kernel_rfl) (sw1 (by kernel_rfl) ((((((E108.trans E110).trans E112).trans E114).trans E116).trans E150).thenS E151 (by omega))) ?_
      refine S.seq (S.region (S.one (by kernel_rfl) (S.call (dst := some 146) (f := 29) (args := #[iV 0]) (by kernel_rfl) (by kernel_rfl) ((Num_spec _ _).mono ?_))))
      rintro _ w152 ⟨E152, rfl⟩
      refine After.ret (by kernel_rfl) ?_
      have sE152 := E152.size
      refine S.one (by kernel_rfl) (S.new 147 [iV 1, iV 0, .slice none 0 0] 60 (fun b => .slice (some ⟨b, 0, none⟩) 1 1) (by kernel_rfl) (by kernel_rfl) (fun b => by kernel_rfl) (fun b153 w153 E153 B153 e153 z153 => ?_))
      have sE153 := E153.size
      refine S.one (by kernel_rfl) (S.call (dst := some 148) (f := 28) (args := #[iV 7, iV 1, .slice (some ⟨b153, 0, none⟩) 1 1]) (by kernel_rfl) (by kernel_rfl) ((Of_spec _ _ _ _ _ _).mono ?_))
      rintro _ w154 ⟨E154, rfl⟩
      refine After.ret (by kernel_rfl) ?_
      have sE154 := E154.size
      refine S.one (by kernel_rfl) (S.call (dst := some 149) (f := 29) (args := #[iV 0]) (by kernel_rfl) (by kernel_rfl) ((Num_spec _ _).mono ?_))
      rintro _ w155 ⟨E155, rfl⟩
      refine After.ret (by kernel_rfl) ?_
      have sE155 := E155.size
      refine S.one (by kernel_rfl) (S.new 150 [iV 1, iV 0, .slice none 0 0] 60 (fun b => .slice (some ⟨b, 0, none⟩) 1 1) (by kernel_rfl) (by kernel_rfl) (fun b => by kernel_rfl) (fun b156 w156 E156 B156 e156 z156 => ?_))
      have sE156 := E156.size
      refine S.one (by kernel_rfl) (S.call (dst := some 151) (f := 28) (args := #[iV 10, iV 3, .slice (some ⟨b156, 0, none⟩) 1 1]) (by kernel_rfl) (by kernel_rfl) ((Of_spec _ _ _ _ _ _).mono ?_))
      rintro _ w157 ⟨E157, rfl⟩
      refine After.ret (by kernel_rfl) ?_
      have sE157 := E157.size
      refine S.one (by kernel_rfl) (S.new 152 [iV 7, iV 1, .slice (some ⟨b153, 0, none⟩) 1 1, iV 10, iV 3, .slice (some ⟨b156, 0, none⟩) 1 1] 60 (fun b => .slice (some ⟨b, 0, none⟩) 2 2) (by kernel_rfl) (by kernel_rfl) (fun b => by kernel_rfl) (fun b158 w158 E158 B158 e158 z158 => ?_))
      have sE158 := E158.size
      have B159 := B153.ext0 E154
      have B160 := B159.ext0 E155
      have B161 := B160.ext0 E156
      have B162 := B161.ext0 E157
      have B163 := B162.ext0 E158
      have B164 := B156.ext0 E157
      have B165 := B164.ext0 E158
      have hp166 : (⟨some ⟨b158, 0, none⟩, 2, [(.mk (7, 1) (some ⟨b153, 0, none⟩) 1 1 [(.mk (1, 0) none 0 0 [])]), (.mk (10, 3) (some ⟨b156, 0, none⟩) 1 1 [(.mk (1, 0) none 0 0 [])])]⟩ : LP).ok w158.heap.size w158 := (XOk.prog (XOk.ofB (kids := [(.mk (7, 1) (some ⟨b153, 0, none⟩) 1 1 [(.mk (1, 0) none 0 0 [])]), (.mk (10, 3) (some ⟨b156, 0, none⟩) 1 1 [(.mk (1, 0) none 0 0 [])])]) (k := 2) (0, 0) B158 rfl (by omega) B158.lt (List.forall_mem_cons.2 ⟨(XOk.ofB (kids := [(.mk (1, 0) none 0 0 [])]) (k := 1) (7, 1) B163 rfl (by omega) B163.lt (List.forall_mem_cons.2 ⟨(XOk.nil (1, 0)), (fun _ h => by cases h)⟩)), (List.forall_mem_cons.2 ⟨(XOk.ofB (kids := [(.mk (1, 0) none 0 0 [])]) (k := 1) (10, 3) B165 rfl (by omega) B165.lt (List.forall_mem_cons.2 ⟨(XOk.nil (1, 0)), (fun _ h => by cases h)⟩)), (fun _ h => by cases h)⟩)⟩)))
      have hv166a : visit (⟨some ⟨b158, 0, none⟩, 2, [(.mk (7, 1) (some ⟨b153, 0, none⟩) 1 1 [(.mk (1, 0) none 0 0 [])]), (.mk (10, 3) (some ⟨b156, 0, none⟩) 1 1 [(.mk (1, 0) none 0 0 [])])]⟩ : LP).xs 5 (.mk (7, 1) (some ⟨b153, 0, none⟩) 1 1 [(.mk (1, 0) none 0 0 [])]) (List.replicate 6 false) = some ([(.mk (7, 1) (some ⟨b153, 0, none⟩) 1 1 [(.mk (1, 0) none 0 0 [])]), (.mk (1, 0) none 0 0 []), (.mk (10, 3) (some ⟨b156, 0, none⟩) 1 1 [(.mk (1, 0) none 0 0 [])]), (.mk (1, 0) none 0 0 [])], [false, true, false, false, false, false]) := by kernel_rfl
      have hv166b : visit (⟨some ⟨b158, 0, none⟩, 2, [(.mk (7, 1) (some ⟨b153, 0, none⟩) 1 1 [(.mk (1, 0) none 0 0 [])]), (.mk (10, 3) (some ⟨b156, 0, none⟩) 1 1 [(.mk (1, 0) none 0 0 [])])]⟩ : LP).xs 5 (.mk (10, 3) (some ⟨b156, 0, none⟩) 1 1 [(.mk (1, 0) none 0 0 [])]) (List.replicate 6 false) = some ([(.mk (10, 3) (some ⟨b156, 0, none⟩) 1 1 [(.mk (1, 0) none 0 0 [])]), (.mk (1, 0) none 0 0 [])], (List.replicate 6 false)) := by kernel_rfl
      refine S.one (by kernel_rfl) (S.call (dst := some 153) (f := 6) (args := #[.slice (some ⟨b158, 0, none⟩) 2 2]) (by kernel_rfl) (by kernel_rfl) ((Errors_spec (⟨some ⟨b158, 0, none⟩, 2, [(.mk (7, 1) (some ⟨b153, 0, none⟩) 1 1 [(.mk (1, 0) none 0 0 [])]), (.mk (10, 3) (some ⟨b156, 0, none⟩) 1 1 [(.mk (1, 0) none 0 0 [])])]⟩ : LP) w158.heap.size 5 _ hp166 (Nat.le_refl _) (fun _ => List.forall_mem_cons.2 ⟨⟨_, _, hv166a, by show 4 ≤ 1000; omega⟩, List.forall_mem_cons.2 ⟨⟨_, _, hv166b, by show 2 ≤ 1000; omega⟩, fun _ h => by cases h⟩⟩)).mono ?_))
      rintro _ w166 ⟨E166, ⟨hfi, rows, oa, oc, rfl, hrow, hro, hrs⟩ | ⟨hfi, rfl⟩⟩
      case inr => exact absurd hfi (by rw [show fineS (⟨some ⟨b158, 0, none⟩, 2, [(.mk (7, 1) (some ⟨b153, 0, none⟩) 1 1 [(.mk (1, 0) none 0 0 [])]), (.mk (10, 3) (some ⟨b156, 0, none⟩) 1 1 [(.mk (1, 0) none 0 0 [])])]⟩ : LP).xs = true from by kernel_rfl]; simp)
      have hrs2 : rows.map LS.xs = [[3], [3]] := by rw [hrs]; show [errS _ 5 _, errS _ 5 _] = _; rw [errS_eq hv166a, errS_eq hv166b]; rw [show errl [(.mk (7, 1) (some ⟨b153, 0, none⟩) 1 1 [(.mk (1, 0) none 0 0 [])]), (.mk (1, 0) none 0 0 []), (.mk (10, 3) (some ⟨b156, 0, none⟩) 1 1 [(.mk (1, 0) none 0 0 [])]), (.mk (1, 0) none 0 0 [])] = [3] from by kernel_rfl, show errl [(.mk (10, 3) (some ⟨b156, 0, none⟩) 1 1 [(.mk (1, 0) none 0 0 [])]), (.mk (1, 0) none 0 0 [])] = [3] from by kernel_rfl, List.mergeSort_singleton]; rfl
      have hrl : rows.length = 2 := by have := congrArg List.length hrs2; simpa using this
      refine After.ret (by kernel_rfl) ?_
      have sE166 := E166.size
      refine S.run 5 [] [2, 7, 13, 14] (rs := []) (κ' := [(2, iV 0), (7, iV 0), (13, pT b150), (14, .slice oa rows.length oc)]) (by kernel_rfl) (by kernel_rfl) rfl ?_
      refine S.regEnd (by kernel_rfl) (S.seq (S.region (S.one (by kernel_rfl) (S.call (dst := some 157) (f := 29) (args := #[iV 0]) (by kernel_rfl) (by kernel_rfl) ((Num_spec _ _).mono ?_)))))
      rintro _ w167 ⟨E167, rfl⟩
      refine After.ret (by kernel_rfl) ?_
      have sE167 := E167.size
      refine S.one (by kernel_rfl) (S.new 158 [iV 1, iV 0, .slice none 0 0] 60 (fun b => .slice (some ⟨b, 0, none⟩) 1 1) (by kernel_rfl) (by kernel_rfl) (fun b => by kernel_rfl) (fun b168 w168 E168 B168 e168 z168 => ?_))
      have sE168 := E168.size
      refine S.one (by kernel_rfl) (S.call (dst := some 159) (f := 28) (args := #[iV 9, iV 1, .slice (some ⟨b168, 0, none⟩) 1 1]) (by kernel_rfl) (by kernel_rfl) ((Of_spec _ _ _ _ _ _).mono ?_))
      rintro _ w169 ⟨E169, rfl⟩
      refine After.ret (by kernel_rfl) ?_
      have sE169 := E169.size
      refine S.one (by kernel_rfl) (S.call (dst := some 160) (f := 29) (args := #[iV 4]) (by kernel_rfl) (by kernel_rfl) ((Num_spec _ _).mono ?_))
      rintro _ w170 ⟨E170, rfl⟩
      refine After.ret (by kernel_rfl) ?_
      have sE170 := E170.size
      refine S.one (by kernel_rfl) (S.new 161 [iV 9, iV 1, .slice (some ⟨b168, 0, none⟩) 1 1, iV 1, iV 4, .slice none 0 0] 60 (fun b => .slice (some ⟨b, 0, none⟩) 2 2) (by kernel_rfl) (by kernel_rfl) (fun b => by kernel_rfl) (fun b171 w171 E171 B171 e171 z171 => ?_))
      have sE171 := E171.size
      refine S.one (by kernel_rfl) (S.call (dst := some 162) (f := 28) (args := #[iV 8, iV 0, .slice (some ⟨b171, 0, none⟩) 2 2]) (by kernel_rfl) (by kernel_rfl) ((Of_spec _ _ _ _ _ _).mono ?_))
      rintro _ w172 ⟨E172, rfl⟩
      refine After.ret (by kernel_rfl) ?_
      have sE172 := E172.size
      refine S.one (by kernel_rfl) (S.new 163 [iV 8, iV 0, .slice (some ⟨b171, 0, none⟩) 2 2] 60 (fun b => .slice (some ⟨b, 0, none⟩) 1 1) (by kernel_rfl) (by kernel_rfl) (fun b => by kernel_rfl) (fun b173 w173 E173 B173 e173 z173 => ?_))
      have sE173 := E173.size
      have B174 := B171.ext0 E172
      have B175 := B174.ext0 E173
      have B176 := B168.ext0 E169
      have B177 := B176.ext0 E170
      have B178 := B177.ext0 E171
      have B179 := B178.ext0 E172
      have B180 := B179.ext0 E173
      have hp181 : (⟨some ⟨b173, 0, none⟩, 1, [(.mk (8, 0) (some ⟨b171, 0, none⟩) 2 2 [(.mk (9, 1) (some ⟨b168, 0, none⟩) 1 1 [(.mk (1, 0) none 0 0 [])]), (.mk (1, 4) none 0 0 [])])]⟩ : LP).ok w173.heap.size w173 := (XOk.prog (XOk.ofB (kids := [(.mk (8, 0) (some ⟨b171, 0, none⟩) 2 2 [(.mk (9, 1) (some ⟨b168, 0, none⟩) 1 1 [(.mk (1, 0) none 0 0 [])]), (.mk (1, 4) none 0 0 [])])]) (k := 1) (0, 0) B173 rfl (by omega) B173.lt (List.forall_mem_cons.2 ⟨(XOk.ofB (kids := [(.mk (9, 1) (some ⟨b168, 0, none⟩) 1 1 [(.mk (1, 0) none 0 0 [])]), (.mk (1, 4) none 0 0 [])]) (k := 2) (8, 0) B175 rfl (by omega) B175.lt (List.forall_mem_cons.2 ⟨(XOk.ofB (kids := [(.mk (1, 0) none 0 0 [])]) (k := 1) (9, 1) B180 rfl (by omega) B180.lt (List.forall_mem_cons.2 ⟨(XOk.nil (1, 0)), (fun _ h => by cases h)⟩)), (List.forall_mem_cons.2 ⟨(XOk.nil (1, 4)), (fun _ h => by cases h)⟩)⟩)), (fun _ h => by cases h)⟩)))
      have hfi181 : fineS (⟨some ⟨b173, 0, none⟩, 1, [(.mk (8, 0) (some ⟨b171, 0, none⟩) 2 2 [(.mk (9, 1) (some ⟨b168, 0, none⟩) 1 1 [(.mk (1, 0) none 0 0 [])]), (.mk (1, 4) none 0 0 [])])]⟩ : LP).xs = true := by kernel_rfl
      have hwf181 := wf_fine hfi181
      have hpl0 : Plain1 (⟨some ⟨b173, 0, none⟩, 1, [(.mk (8, 0) (some ⟨b171, 0, none⟩) 2 2 [(.mk (9, 1) (some ⟨b168, 0, none⟩) 1 1 [(.mk (1, 0) none 0 0 [])]), (.mk (1, 4) none 0 0 [])])]⟩ : LP) (.mk (1, 0) none 0 0 []) (.mk (1, 0) none 0 0 []) := plain_leaf _ (.mk (1, 0) none 0 0 []) (by show (1 : Int) ≠ 8; omega) rfl
      have hpl1 : Plain1 (⟨some ⟨b173, 0, none⟩, 1, [(.mk (8, 0) (some ⟨b171, 0, none⟩) 2 2 [(.mk (9, 1) (some ⟨b168, 0, none⟩) 1 1 [(.mk (1, 0) none 0 0 [])]), (.mk (1, 4) none 0 0 [])])]⟩ : LP) (.mk (9, 1) (some ⟨b168, 0, none⟩) 1 1 [(.mk (1, 0) none 0 0 [])]) (.mk (9, 1) none 1 0 [(.mk (1, 0) none 0 0 [])]) := plain_one _ (.mk (9, 1) (some ⟨b168, 0, none⟩) 1 1 [(.mk (1, 0) none 0 0 [])]) _ _ (by show (9 : Int) ≠ 8; omega) rfl hpl0
      have hpl2 : Plain1 (⟨some ⟨b173, 0, none⟩, 1, [(.mk (8, 0) (some ⟨b171, 0, none⟩) 2 2 [(.mk (9, 1) (some ⟨b168, 0, none⟩) 1 1 [(.mk (1, 0) none 0 0 [])]), (.mk (1, 4) none 0 0 [])])]⟩ : LP) (.mk (8, 0) (some ⟨b171, 0, none⟩) 2 2 [(.mk (9, 1) (some ⟨b168, 0, none⟩) 1 1 [(.mk (1, 0) none 0 0 [])]), (.mk (1, 4) none 0 0 [])]) (.mk (9, 1) none 1 0 [(.mk (1, 0) none 0 0 [])]) := plain_handle _ (.mk (8, 0) (some ⟨b171, 0, none⟩) 2 2 [(.mk (9, 1) (some ⟨b168, 0, none⟩) 1 1 [(.mk (1, 0) none 0 0 [])]), (.mk (1, 4) none 0 0 [])]) _ (.mk (9, 1) (some ⟨b168, 0, none⟩) 1 1 [(.mk (1, 0) none 0 0 [])]) [(.mk (1, 4) none 0 0 [])] 5 [(.mk (9, 1) (some ⟨b168, 0, none⟩) 1 1 [(.mk (1, 0) none 0 0 [])]), (.mk (1, 0) none 0 0 [])] (List.replicate 6 false) rfl rfl hwf181.1 hwf181.2.2 ((hwf181.1 _ (List.mem_cons_self ..)).kid (List.mem_cons_self ..)) (by kernel_rfl) (by kernel_rfl) hpl1
      refine S.one (by kernel_rfl) (S.call (dst := some 164) (f := 31) (args := #[.slice (some ⟨b173, 0, none⟩) 1 1]) (by kernel_rfl) (by kernel_rfl) ((Plain_spec (⟨some ⟨b173, 0, none⟩, 1, [(.mk (8, 0) (some ⟨b171, 0, none⟩) 2 2 [(.mk (9, 1) (some ⟨b168, 0, none⟩) 1 1 [(.mk (1, 0) none 0 0 [])]), (.mk (1, 4) none 0 0 [])])]⟩ : LP) (.mk (8, 0) (some ⟨b171, 0, none⟩) 2 2 [(.mk (9, 1) (some ⟨b168, 0, none⟩) 1 1 [(.mk (1, 0) none 0 0 [])]), (.mk (1, 4) none 0 0 [])]) (.mk (9, 1) none 1 0 [(.mk (1, 0) none 0 0 [])]) w173.heap.size _ hp181 (Nat.le_refl _) rfl hfi181 hpl2).mono ?_))
      rintro _ w181 ⟨E181, q, hq, rfl, hqe, hql⟩
      refine After.ret (by kernel_rfl) ?_
      have sE181 := E181.size
      refine S.run 5 [] [2, 7, 9, 13, 14, 15] (rs := []) (κ' := [(2, iV 0), (7, iV 0), (9, iV 0), (13, pT b150), (14, .slice oa rows.length oc), (15, .slice q.a q.xs.length q.cap)]) (by kernel_rfl) (by kernel_rfl) rfl ?_
      refine S.regEnd (by kernel_rfl) (S.seq (S.region ?_))
      have B182 := B151.ext0 E152
      have B183 := B182.ext0 E153
      have B184 := B183.ext0 E154
      have B185 := B184.ext0 E155
      have B186 := B185.ext0 E156
      have B187 := B186.ext0 E157
      have B188 := B187.ext0 E158
      have B189 := B188.ext0 E166
      have B190 := B189.ext0 E167
      have B191 := B190.ext0 E168
      have B192 := B191.ext0 E169
      have B193 := B192.ext0 E170
      have B194 := B193.ext0 E171
      have B195 := B194.ext0 E172
      have B196 := B195.ext0 E173
      have B197 := B196.ext0 E181
      refine S.run 16 [.v (iV r116.fin)] [13, 14, 15, 182] (rs := [.load ⟨b150, 0, none⟩ (iV r116.fin)]) (κ' := [(13, pT b150), (14, .slice oa rows.length oc), (15, .slice q.a q.xs.length q.cap), (182, .bool (r116.fin == 1))]) (by kernel_rfl) (by kernel_rfl) (.load (B197.cell 0 rfl) .nil) ?_
      refine S.subst 182 (.bool (r116.fin == 1)) (.bool true) (by kernel_rfl) (congrArg Value.bool (by rw [lf116]; rfl)) ?_
      refine S.run 5 [.v (iV r116.val)] [13, 14, 15, 187] (rs := [.load ⟨b150, 1, none⟩ (iV r116.val)]) (κ' := [(13, pT b150), (14, .slice oa rows.length oc), (15, .slice q.a q.xs.length q.cap), (187, .bool (r116.val == 2))]) (by kernel_rfl) (by kernel_rfl) (.load (B197.cell 1 rfl) .nil) ?_
      refine S.subst 187 (.bool (r116.val == 2)) (.bool true) (by kernel_rfl) (congrArg Value.bool (by rw [lv116]; rfl)) ?_
      refine S.run 6 [.v (.slice r116.a r116.les.length r116.cap)] [13, 14, 15, 193] (rs := [.load ⟨b150, 2, none⟩ (.slice r116.a r116.les.length r116.cap)]) (κ' := [(13, pT b150), (14, .slice oa rows.length oc), (15, .slice q.a q.xs.length q.cap), (193, .bool (((r116.les.length : Nat) : Int) == 3))]) (by kernel_rfl) (by kernel_rfl) (.load (B197.cell 2 rfl) .nil) ?_
      refine S.subst 193 (.bool (((r116.les.length : Nat) : Int) == 3)) (.bool true) (by kernel_rfl) (congrArg Value.bool (by rw [ll116]; rfl)) ?_
      refine S.run 2 [.v (.slice r116.a r116.les.length r116.cap)] [13, 14, 15, 193, 195] (rs := [.load ⟨b150, 2, none⟩ (.slice r116.a r116.les.length r116.cap)]) (κ' := [(13, pT b150), (14, .slice oa rows.length oc), (15, .slice q.a q.xs.length q.cap), (193, .bool true), (195, .slice r116.a r116.les.length r116.cap)]) (by kernel_rfl) (by kernel_rfl) (.load (B197.cell 2 rfl) .nil) ?_
      have R198 := hr116.1.pres (.of0 E150)
      have R199 := R198.pres (.ofE E151 B150 (by decide))
      have R200 := R199.pres (.of0 E152)
      have R201 := R200.pres (.of0 E153)
      have R202 := R201.pres (.of0 E154)
      have R203 := R202.pres (.of0 E155)
      have R204 := R203.pres (.of0 E156)
      have R205 := R204.pres (.of0 E157)
      have R206 := R205.pres (.of0 E158)
      have R207 := R206.pres (.of0 E166)
      have R208 := R207.pres (.of0 E167)
      have R209 := R208.pres (.of0 E168)
      have R210 := R209.pres (.of0 E169)
      have R211 := R210.pres (.of0 E170)
      have R212 := R211.pres (.of0 E171)
      have R213 := R212.pres (.of0 E172)
      have R214 := R213.pres (.of0 E173)
      have R215 := R214.pres (.of0 E181)
      obtain ⟨x216, b216, o216, hx216, h216, H216⟩ := R215.get 1 (by omega)
      refine S.one (by kernel_rfl) (S.law 196 (v := .pointer (some ⟨b216, o216 + 1 * 5, none⟩)) (Instr.indexAt 27 (.slice r116.a r116.les.length r116.cap) (.int .i64 ((1 : Nat) : Int))) (by kernel_rfl) (by kernel_rfl) (by kernel_rfl) (run_idx (e := 43) 1 h216 (by kernel_rfl) (by kernel_rfl) (by omega)) ?_)
      refine S.run 5 [.v (iV x216.deed)] [13, 14, 15, 201] (rs := [.load ⟨b216, o216 + 1 * 5, none⟩ (iV x216.deed)]) (κ' := [(13, pT b150), (14, .slice oa rows.length oc), (15, .slice q.a q.xs.length q.cap), (201, .bool (x216.deed == 5))]) (by kernel_rfl) (by kernel_rfl) (.load (H216.cell0 rfl) .nil) ?_
      refine S.subst 201 (.bool (x216.deed == 5)) (.bool true) (by kernel_rfl) (congrArg Value.bool (by have h9 := congrArg (Option.map Ev.deed) (ev_at le116 hx216); have h9 : (5 : Int) = x216.deed := Option.some.inj h9; rw [← h9]; rfl)) ?_
      refine S.run 2 [.v (.slice r116.a r116.les.length r116.cap)] [14, 15, 201, 203] (rs := [.load ⟨b150, 2, none⟩ (.slice r116.a r116.les.length r116.cap)]) (κ' := [(14, .slice oa rows.length oc), (15, .slice q.a q.xs.length q.cap), (201, .bool true), (203, .slice r116.a r116.les.length r116.cap)]) (by kernel_rfl) (by kernel_rfl) (.load (B197.cell 2 rfl) .nil) ?_
      obtain ⟨x217, b217, o217, hx217, h217, H217⟩ := R215.get 2 (by omega)
      refine S.one (by kernel_rfl) (S.law 204 (v := .pointer (some ⟨b217, o217 + 2 * 5, none⟩)) (Instr.indexAt 27 (.slice r116.a r116.les.length r116.cap) (.int .i64 ((2 : Nat) : Int))) (by kernel_rfl) (by kernel_rfl) (by kernel_rfl) (run_idx (e := 43) 2 h217 (by kernel_rfl) (by kernel_rfl) (by omega)) ?_)
      refine S.run 5 [.v (iV x217.val)] [14, 15, 209] (rs := [.load ⟨b217, o217 + 2 * 5 + 2, none⟩ (iV x217.val)]) (κ' := [(14, .slice oa rows.length oc), (15, .slice q.a q.xs.length q.cap), (209, .bool (x217.val == 9))]) (by kernel_rfl) (by kernel_rfl) (.load (H217.cell 2 rfl) .nil) ?_
      refine S.subst 209 (.bool (x217.val == 9)) (.bool true) (by kernel_rfl) (congrArg Value.bool (by have h9 := congrArg (Option.map Ev.val) (ev_at le116 hx217); have h9 : (9 : Int) = x217.val := Option.some.inj h9; rw [← h9]; rfl)) ?_
      refine S.run 1 [] [15, 209, 210] (rs := []) (κ' := [(15, .slice q.a q.xs.length q.cap), (209, .bool true), (210, .slice oa rows.length oc)]) (by kernel_rfl) (by kernel_rfl) rfl ?_
      refine S.one (by kernel_rfl) (S.new 211 [iV 3] 3 (fun b => .slice (some ⟨b, 0, none⟩) 1 1) (by kernel_rfl) (by kernel_rfl) (fun b => by kernel_rfl) (fun b218 w218 E218 B218 e218 z218 => ?_))
      have sE218 := E218.size
      refine S.one (by kernel_rfl) (S.new 212 [iV 3] 3 (fun b => .slice (some ⟨b, 0, none⟩) 1 1) (by kernel_rfl) (by kernel_rfl) (fun b => by kernel_rfl) (fun b219 w219 E219 B219 e219 z219 => ?_))
      have sE219 := E219.size
      refine S.one (by kernel_rfl) (S.new 213 [.slice (some ⟨b218, 0, none⟩) 1 1, .slice (some ⟨b219, 0, none⟩) 1 1] 23 (fun b => .slice (some ⟨b, 0, none⟩) 2 2) (by kernel_rfl) (by kernel_rfl) (fun b => by kernel_rfl) (fun b220 w220 E220 B220 e220 z220 => ?_))
      have sE220 := E220.size
      have B222 := B218.ext0 E219
      have B223 := B222.ext0 E220
      have B224 := B219.ext0 E220
      have R225 := hrow.pres (.of0 E167)
      have R226 := R225.pres (.of0 E168)
      have R227 := R226.pres (.of0 E169)
      have R228 := R227.pres (.of0 E170)
      have R229 := R228.pres (.of0 E171)
      have R230 := R229.pres (.of0 E172)
      have R231 := R230.pres (.of0 E173)
      have R232 := R231.pres (.of0 E181)
      have R233 := R232.pres (.of0 E218)
      have R234 := R233.pres (.of0 E219)
      have R235 := R234.pres (.of0 E220)
      have T236 := hro.pres (.of0 E167)
      have T237 := T236.pres (.of0 E168)
      have T238 := T237.pres (.of0 E169)
      have T239 := T238.pres (.of0 E170)
      have T240 := T239.pres (.of0 E171)
      have T241 := T240.pres (.of0 E172)
      have T242 := T241.pres (.of0 E173)
      have T243 := T242.pres (.of0 E181)
      have T244 := T243.pres (.of0 E218)
      have T245 := T244.pres (.of0 E219)
      have T246 := T245.pres (.of0 E220)
      have hY221 : RowsOk w220.heap.size w220 [(⟨some ⟨b218, 0, none⟩, 1, [3]⟩ : LS), (⟨some ⟨b219, 0, none⟩, 1, [3]⟩ : LS)] := (List.forall_mem_cons.2 ⟨⟨Row.ofBlk (cs := intCs) (xs := [3]) B223 (fun _ => rfl) B223.lt, by show 1 ≤ _; omega⟩, (List.forall_mem_cons.2 ⟨⟨Row.ofBlk (cs := intCs) (xs := [3]) B224 (fun _ => rfl) B224.lt, by show 1 ≤ _; omega⟩, (fun _ h => by cases h)⟩)⟩)
      have hse221 := SameLists_spec _ _ _ _ oa (some ⟨b220, 0, none⟩) oc 2 rows [(⟨some ⟨b218, 0, none⟩, 1, [3]⟩ : LS), (⟨some ⟨b219, 0, none⟩, 1, [3]⟩ : LS)] _ R235 (Row.ofBlk (cs := lsCs) (xs := [(⟨some ⟨b218, 0, none⟩, 1, [3]⟩ : LS), (⟨some ⟨b219, 0, none⟩, 1, [3]⟩ : LS)]) B220 (fun _ => rfl) B220.lt) T246 hY221 (by omega) (by show 2 ≤ _; omega)
      refine S.one (by kernel_rfl) (S.call (dst := some 214) (f := 32) (args := #[.slice oa rows.length oc, .slice (some ⟨b220, 0, none⟩) 2 2]) (by kernel_rfl) (by kernel_rfl) (hse221.mono ?_))
      rintro _ w221 ⟨E221, rfl⟩
      refine After.ret (by kernel_rfl) ?_
      have sE221 := E221.size
      refine S.subst 214 (.bool (rows.map LS.xs == [(⟨some ⟨b218, 0, none⟩, 1, [3]⟩ : LS), (⟨some ⟨b219, 0, none⟩, 1, [3]⟩ : LS)].map LS.xs)) (.bool true) (by kernel_rfl) (congrArg Value.bool (by rw [hrs2]; rfl)) ?_
      refine S.run 3 [] [216, 217] (rs := []) (κ' := [(216, .bool true), (217, .slice q.a q.xs.length q.cap)]) (by kernel_rfl) (by kernel_rfl) rfl ?_
      refine S.one (by kernel_rfl) (S.call (dst := some 218) (f := 29) (args := #[iV 0]) (by kernel_rfl) (by kernel_rfl) ((Num_spec _ _).mono ?_))
      rintro _ w247 ⟨E247, rfl⟩
      refine After.ret (by kernel_rfl) ?_
      have sE247 := E247.size
      refine S.one (by kernel_rfl) (S.new 219 [iV 1, iV 0, .slice none 0 0] 60 (fun b => .slice (some ⟨b, 0, none⟩) 1 1) (by kernel_rfl) (by kernel_rfl) (fun b => by kernel_rfl) (fun b248 w248 E248 B248 e248 z248 => ?_))
      have sE248 := E248.size
      refine S.one (by kernel_rfl) (S.call (dst := some 220) (f := 28) (args := #[iV 9, iV 1, .slice (some ⟨b248, 0, none⟩) 1 1]) (by kernel_rfl) (by kernel_rfl) ((Of_spec _ _ _ _ _ _).mono ?_))
      rintro _ w249 ⟨E249, rfl⟩
      refine After.ret (by kernel_rfl) ?_
      have sE249 := E249.size
      refine S.one (by kernel_rfl) (S.new 221 [iV 9, iV 1, .slice (some ⟨b248, 0, none⟩) 1 1] 60 (fun b => .slice (some ⟨b, 0, none⟩) 1 1) (by kernel_rfl) (by kernel_rfl) (fun b => by kernel_rfl) (fun b250 w250 E250 B250 e250 z250 => ?_))
      have sE250 := E250.size
      have B251 := B248.ext0 E249
      have B252 := B251.ext0 E250
      have T254 := hq.pres (.of0 E218)
      have T255 := T254.pres (.of0 E219)
      have T256 := T255.pres (.of0 E220)
      have T257 := T256.pres (.of0 E221)
      have T258 := T257.pres (.of0 E247)
      have T259 := T258.pres (.of0 E248)
      have T260 := T259.pres (.of0 E249)
      have T261 := T260.pres (.of0 E250)
      have hse253 := SameProg_spec q (⟨some ⟨b250, 0, none⟩, 1, [(.mk (9, 1) (some ⟨b248, 0, none⟩) 1 1 [(.mk (1, 0) none 0 0 [])])]⟩ : LP) _ w250.heap.size _ T261 (XOk.prog (XOk.ofB (kids := [(.mk (9, 1) (some ⟨b248, 0, none⟩) 1 1 [(.mk (1, 0) none 0 0 [])])]) (k := 1) (0, 0) B250 rfl (by omega) B250.lt (List.forall_mem_cons.2 ⟨(XOk.ofB (kids := [(.mk (1, 0) none 0 0 [])]) (k := 1) (9, 1) B252 rfl (by omega) B252.lt (List.forall_mem_cons.2 ⟨(XOk.nil (1, 0)), (fun _ h => by cases h)⟩)), (fun _ h => by cases h)⟩)))
      refine S.one (by kernel_rfl) (S.call (dst := some 222) (f := 33) (args := #[.slice q.a q.xs.length q.cap, .slice (some ⟨b250, 0, none⟩) 1 1]) (by kernel_rfl) (by kernel_rfl) (hse253.mono ?_))
      rintro _ w253 ⟨E253, rfl⟩
      refine After.ret (by kernel_rfl) ?_
      have sE253 := E253.size
      refine S.subst 222 (.bool (eqX.eqL q.xs (⟨some ⟨b250, 0, none⟩, 1, [(.mk (9, 1) (some ⟨b248, 0, none⟩) 1 1 [(.mk (1, 0) none 0 0 [])])]⟩ : LP).xs)) (.bool true) (by kernel_rfl) (congrArg Value.bool (eqL_trans hqe (by kernel_rfl))) ?_
      refine S.run 2 [] [0] (rs := []) (κ' := [(0, .bool true)]) (by kernel_rfl) (by kernel_rfl) rfl ?_
      exact S.regEnd (by kernel_rfl) (S.ret1 (v := .bool true) rfl (by kernel_rfl) ⟨((((((((((((((((((((((((((((((((((((((((((((((((((((((((((((((((((((((E1.trans E2).trans E3).thenS E4 (by omega)).trans E5).trans E6).trans E7).trans E8).trans E9).trans E10).trans E11).trans E30).trans E49).trans E50).trans E51).thenS E52 (by omega)).trans E53).trans E54).trans E55).trans E60).thenS E61 (by omega)).trans E62).trans E63).trans E64).thenS E65 (by omega)).trans E66).trans E67).trans E68).thenS E69 (by omega)).trans E95).trans E96).trans E97).trans E98).trans E99).trans E100).trans E101).trans E102).trans E103).thenS E104 (by omega)).trans E105).trans E108).trans E110).trans E112).trans E114).trans E116).trans E150).thenS E151 (by omega)).trans E152).trans E153).trans E154).trans E155).trans E156).trans E157).trans E158).trans E166).trans E167).trans E168).trans E169).trans E170).trans E171).trans E172).trans E173).trans E181).trans E218).trans E219).trans E220).trans E221).trans E247).trans E248).trans E249).trans E250).trans E253, rfl⟩)
     ·skip
      show S _ _ _ _ _ (.one _ 9 :: .dreg _ #[true, true, true, true, true, false, false, false, false, true, false, false] _ _ :: _) _ _
      refine S.new 13 [iV 0, iV 0, .slice none 0 0, iV 0] 29 (fun b => pT b) (by kernel_rfl) (by kernel_rfl) (fun b => by kernel_rfl) (fun b262 w262 E262 B262 e262 z262 => ?_)
      have sE262 := E262.size
      refine S.dnext (j := 5) (l' := #[true, true, true, true, true, true, false, false, false, true, false, false]) (by kernel_rfl) (by kernel_rfl) (sw1 (by kernel_rfl) ((((E108.trans E110).trans E112).trans E114).trans E262)) ?_
      have B264 := B114.ext0 E262
      have B265 := B110.ext0 E112
      have B266 := B265.ext0 E114
      have B267 := B266.ext0 E262
      have B268 := B101.ext0 E102
      have B269 := B268.ext0 E103
      have B270 := B269.extS E104 (by omega)
      have B271 := B270.ext0 E105
      have B272 := B271.ext0 E108
      have B273 := B272.ext0 E110
      have B274 := B273.ext0 E112
      have B275 := B274.ext0 E114
      have B276 := B275.ext0 E262
      have B277 := B96.ext0 E97
      have B278 := B277.ext0 E98
      have B279 := B278.ext0 E99
      have B280 := B279.ext0 E100
      have B281 := B280.ext0 E101
      have B282 := B281.ext0 E102
      have B283 := B282.ext0 E103
      have B284 := B283.extS E104 (by omega)
      have B285 := B284.ext0 E105
      have B286 := B285.ext0 E108
      have B287 := B286.ext0 E110
      have B288 := B287.ext0 E112
      have B289 := B288.ext0 E114
      have B290 := B289.ext0 E262
      have B291 := B99.ext0 E100
      have B292 := B291.ext0 E101
      have B293 := B292.ext0 E102
      have B294 := B293.ext0 E103
      have B295 := B294.extS E104 (by omega)
      have B296 := B295.ext0 E105
      have B297 := B296.ext0 E108
      have B298 := B297.ext0 E110
      have B299 := B298.ext0 E112
      have B300 := B299.ext0 E114
      have B301 := B300.ext0 E262
      refine S.call (dst := some 142) (f := 4) (args := #[.slice (some ⟨b114, 0, none⟩) 1 1, iV 0, iV 99]) (by kernel_rfl) (by kernel_rfl) ((Run_spec w262.heap.size (⟨some ⟨b114, 0, none⟩, 1, [(.mk (11, 1) (some ⟨b110, 0, none⟩) 2 2 [(.mk (15, 0) (some ⟨b101, 0, none⟩) 2 2 [(.mk (13, 1) (some ⟨b96, 0, none⟩) 1 1 [(.mk (1, 2) none 0 0 [])]), (.mk (4, 0) (some ⟨b99, 0, none⟩) 1 1 [(.mk (1, 9) none 0 0 [])])]), (.mk (2, 0) none 0 0 [])])]⟩ : LP) 0 99 _ (XOk.prog (XOk.ofB (kids := [(.mk (11, 1) (some ⟨b110, 0, none⟩) 2 2 [(.mk (15, 0) (some ⟨b101, 0, none⟩) 2 2 [(.mk (13, 1) (some ⟨b96, 0, none⟩) 1 1 [(.mk (1, 2) none 0 0 [])]), (.mk (4, 0) (some ⟨b99, 0, none⟩) 1 1 [(.mk (1, 9) none 0 0 [])])]), (.mk (2, 0) none 0 0 [])])]) (k := 1) (0, 0) B264 rfl (by omega) B264.lt (List.forall_mem_cons.2 ⟨(XOk.ofB (kids := [(.mk (15, 0) (some ⟨b101, 0, none⟩) 2 2 [(.mk (13, 1) (some ⟨b96, 0, none⟩) 1 1 [(.mk (1, 2) none 0 0 [])]), (.mk (4, 0) (some ⟨b99, 0, none⟩) 1 1 [(.mk (1, 9) none 0 0 [])])]), (.mk (2, 0) none 0 0 [])]) (k := 2) (11, 1) B267 rfl (by omega) B267.lt (List.forall_mem_cons.2 ⟨(XOk.ofB (kids := [(.mk (13, 1) (some ⟨b96, 0, none⟩) 1 1 [(.mk (1, 2) none 0 0 [])]), (.mk (4, 0) (some ⟨b99, 0, none⟩) 1 1 [(.mk (1, 9) none 0 0 [])])]) (k := 2) (15, 0) B276 rfl (by omega) B276.lt (List.forall_mem_cons.2 ⟨(XOk.ofB (kids := [(.mk (1, 2) none 0 0 [])]) (k := 1) (13, 1) B290 rfl (by omega) B290.lt (List.forall_mem_cons.2 ⟨(XOk.nil (1, 2)), (fun _ h => by cases h)⟩)), (List.forall_mem_cons.2 ⟨(XOk.ofB (kids := [(.mk (1, 9) none 0 0 [])]) (k := 1) (4, 0) B301 rfl (by omega) B301.lt (List.forall_mem_cons.2 ⟨(XOk.nil (1, 9)), (fun _ h => by cases h)⟩)), (fun _ h => by cases h)⟩)⟩)), (List.forall_mem_cons.2 ⟨(XOk.nil (2, 0)), (fun _ h => by cases h)⟩)⟩)), (fun _ h => by cases h)⟩))) (Nat.le_refl _)).mono ?_)
      rintro _ w263 ⟨E263, ⟨hok263, r263, rfl, hr263, his263⟩ | ⟨hok263, rfl⟩⟩
      case inr => exact absurd hok263 (by rw [show okD (⟨some ⟨b114, 0, none⟩, 1, [(.mk (11, 1) (some ⟨b110, 0, none⟩) 2 2 [(.mk (15, 0) (some ⟨b101, 0, none⟩) 2 2 [(.mk (13, 1) (some ⟨b96, 0, none⟩) 1 1 [(.mk (1, 2) none 0 0 [])]), (.mk (4, 0) (some ⟨b99, 0, none⟩) 1 1 [(.mk (1, 9) none 0 0 [])])]), (.mk (2, 0) none 0 0 [])])]⟩ : LP).xs 0 [] 99 = true from by kernel_rfl]; simp)
      have to263 := LRun.to his263 (t := ⟨1, 2, [⟨4, 1, 2, [], [1]⟩, ⟨5, 0, 0, [], [1]⟩, ⟨1, 0, 9, [], [1]⟩], 92⟩) (by kernel_rfl)
      have lf263 : r263.fin = 1 := to263.1; have lv263 : r263.val = 2 := to263.2.1; have le263 : r263.les.map LE.ev = [⟨4, 1, 2, [], [1]⟩, ⟨5, 0, 0, [], [1]⟩, ⟨1, 0, 9, [], [1]⟩] := to263.2.2.1; have lu263 : r263.fuel = 92 := to263.2.2.2.1; have ll263 : r263.les.length = 3 := to263.2.2.2.2; have lb263 := hr263.2.2
      refine After.ret (by kernel_rfl) ?_
      have sE263 := E263.size
      refine S.dreads bodyPost_panicOk [6, 7, 8] 2 [] [13, 143, 144] (rs := []) (κ' := [(13, pT b262), (143, .agg #[iV r263.fin, iV r263.val, .slice r263.a r263.les.length r263.cap, iV r263.fuel]), (144, iV 0)]) (l' := #[true, true, true, true, true, true, true, true, true, true, false, false]) (by kernel_rfl) (by kernel_rfl) (by kernel_rfl) (fun _ _ => rfl) ?_
      refine S.dnext (j := 10) (l' := #[true, true, true, true, true, true, true, true, true, true, true, false]) (by kernel_rfl) (by kernel_rfl) (sw1 (by kernel_rfl) (((((E108.trans E110).trans E112).trans E114).trans E262).trans E263)) ?_
      have B302 := B262.ext0 E263
      refine S.store 0 [iV r263.fin, iV r263.val, .slice r263.a r263.les.length r263.cap, iV r263.fuel] [iV r263.fin, iV r263.val, .slice r263.a r263.les.length r263.cap, iV r263.fuel] B302 (by kernel_rfl) (by kernel_rfl) (by kernel_rfl) (by kernel_rfl) (by kernel_rfl) (fun w303 E303 B303 z303 => ?_)
      have sE303 := E303.size
      refine S.dreads bodyPost_panicOk [11] 0 [] [2, 13] (rs := []) (κ' := [(2, iV 0), (13, pT b262)]) (l' := #[true, true, true, true, true, true, true, true, true, true, true, true]) (by kernel_rfl) (by kernel_rfl) (by kernel_rfl) (fun _ _ => rfl) ?_
      refine S.dend (by kernel_rfl) (sw1 (by kernel_rfl) ((((((E108.trans E110).trans E112).trans E114).trans E262).trans E263).thenS E303 (by omega))) ?_
      refine S.seq (S.region (S.one (by kernel_rfl) (S.call (dst := some 146) (f := 29) (args := #[iV 0]) (by kernel_rfl) (by kernel_rfl) ((Num_spec _ _).mono ?_))))
      rintro _ w304 ⟨E304, rfl⟩
      refine After.ret (by kernel_rfl) ?_
      have sE304 := E304.size
      refine S.one (by kernel_rfl) (S.new 147 [iV 1, iV 0, .slice none 0 0] 60 (fun b => .slice (some ⟨b, 0, none⟩) 1 1) (by kernel_rfl) (by kernel_rfl) (fun b => by kernel_rfl) (fun b305 w305 E305 B305 e305 z305 => ?_))
      have sE305 := E305.size
      refine S.one (by kernel_rfl) (S.call (dst := some 148) (f := 28) (args := #[iV 7, iV 1, .slice (some ⟨b305, 0, none⟩) 1 1]) (by kernel_rfl) (by kernel_rfl) ((Of_spec _ _ _ _ _ _).mono ?_))
      rintro _ w306 ⟨E306, rfl⟩
      refine After.ret (by kernel_rfl) ?_
      have sE306 := E306.size
      refine S.one (by kernel_rfl) (S.call (dst := some 149) (f := 29) (args := #[iV 0]) (by kernel_rfl) (by kernel_rfl) ((Num_spec _ _).mono ?_))
      rintro _ w307 ⟨E307, rfl⟩
      refine After.ret (by kernel_rfl) ?_
      have sE307 := E307.size
      refine S.one (by kernel_rfl) (S.new 150 [iV 1, iV 0, .slice none 0 0] 60 (fun b => .slice (some ⟨b, 0, none⟩) 1 1) (by kernel_rfl) (by kernel_rfl) (fun b => by kernel_rfl) (fun b308 w308 E308 B308 e308 z308 => ?_))
      have sE308 := E308.size
      refine S.one (by kernel_rfl) (S.call (dst := some 151) (f := 28) (args := #[iV 10, iV 3, .slice (some ⟨b308, 0, none⟩) 1 1]) (by kernel_rfl) (by kernel_rfl) ((Of_spec _ _ _ _ _ _).mono ?_))
      rintro _ w309 ⟨E309, rfl⟩
      refine After.ret (by kernel_rfl) ?_
      have sE309 := E309.size
      refine S.one (by kernel_rfl) (S.new 152 [iV 7, iV 1, .slice (some ⟨b305, 0, none⟩) 1 1, iV 10, iV 3, .slice (some ⟨b308, 0, none⟩) 1 1] 60 (fun b => .slice (some ⟨b, 0, none⟩) 2 2) (by kernel_rfl) (by kernel_rfl) (fun b => by kernel_rfl) (fun b310 w310 E310 B310 e310 z310 => ?_))
      have sE310 := E310.size
      have B311 := B305.ext0 E306
      have B312 := B311.ext0 E307
      have B313 := B312.ext0 E308
      have B314 := B313.ext0 E309
      have B315 := B314.ext0 E310
      have B316 := B308.ext0 E309
      have B317 := B316.ext0 E310
      have hp318 : (⟨some ⟨b310, 0, none⟩, 2, [(.mk (7, 1) (some ⟨b305, 0, none⟩) 1 1 [(.mk (1, 0) none 0 0 [])]), (.mk (10, 3) (some ⟨b308, 0, none⟩) 1 1 [(.mk (1, 0) none 0 0 [])])]⟩ : LP).ok w310.heap.size w310 := (XOk.prog (XOk.ofB (kids := [(.mk (7, 1) (some ⟨b305, 0, none⟩) 1 1 [(.mk (1, 0) none 0 0 [])]), (.mk (10, 3) (some ⟨b308, 0, none⟩) 1 1 [(.mk (1, 0) none 0 0 [])])]) (k := 2) (0, 0) B310 rfl (by omega) B310.lt (List.forall_mem_cons.2 ⟨(XOk.ofB (kids := [(.mk (1, 0) none 0 0 [])]) (k := 1) (7, 1) B315 rfl (by omega) B315.lt (List.forall_mem_cons.2 ⟨(XOk.nil (1, 0)), (fun _ h => by cases h)⟩)), (List.forall_mem_cons.2 ⟨(XOk.ofB (kids := [(.mk (1, 0) none 0 0 [])]) (k := 1) (10, 3) B317 rfl (by omega) B317.lt (List.forall_mem_cons.2 ⟨(XOk.nil (1, 0)), (fun _ h => by cases h)⟩)), (fun _ h => by cases h)⟩)⟩)))
      have hv318a : visit (⟨some ⟨b310, 0, none⟩, 2, [(.mk (7, 1) (some ⟨b305, 0, none⟩) 1 1 [(.mk (1, 0) none 0 0 [])]), (.mk (10, 3) (some ⟨b308, 0, none⟩) 1 1 [(.mk (1, 0) none 0 0 [])])]⟩ : LP).xs 5 (.mk (7, 1) (some ⟨b305, 0, none⟩) 1 1 [(.mk (1, 0) none 0 0 [])]) (List.replicate 6 false) = some ([(.mk (7, 1) (some ⟨b305, 0, none⟩) 1 1 [(.mk (1, 0) none 0 0 [])]), (.mk (1, 0) none 0 0 []), (.mk (10, 3) (some ⟨b308, 0, none⟩) 1 1 [(.mk (1, 0) none 0 0 [])]), (.mk (1, 0) none 0 0 [])], [false, true, false, false, false, false]) := by kernel_rfl
      have hv318b : visit (⟨some ⟨b310, 0, none⟩, 2, [(.mk (7, 1) (some ⟨b305, 0, none⟩) 1 1 [(.mk (1, 0) none 0 0 [])]), (.mk (10, 3) (some ⟨b308, 0, none⟩) 1 1 [(.mk (1, 0) none 0 0 [])])]⟩ : LP).xs 5 (.mk (10, 3) (some ⟨b308, 0, none⟩) 1 1 [(.mk (1, 0) none 0 0 [])]) (List.replicate 6 false) = some ([(.mk (10, 3) (some ⟨b308, 0, none⟩) 1 1 [(.mk (1, 0) none 0 0 [])]), (.mk (1, 0) none 0 0 [])], (List.replicate 6 false)) := by kernel_rfl
      refine S.one (by kernel_rfl) (S.call (dst := some 153) (f := 6) (args := #[.slice (some ⟨b310, 0, none⟩) 2 2]) (by kernel_rfl) (by kernel_rfl) ((Errors_spec (⟨some ⟨b310, 0, none⟩, 2, [(.mk (7, 1) (some ⟨b305, 0, none⟩) 1 1 [(.mk (1, 0) none 0 0 [])]), (.mk (10, 3) (some ⟨b308, 0, none⟩) 1 1 [(.mk (1, 0) none 0 0 [])])]⟩ : LP) w310.heap.size 5 _ hp318 (Nat.le_refl _) (fun _ => List.forall_mem_cons.2 ⟨⟨_, _, hv318a, by show 4 ≤ 1000; omega⟩, List.forall_mem_cons.2 ⟨⟨_, _, hv318b, by show 2 ≤ 1000; omega⟩, fun _ h => by cases h⟩⟩)).mono ?_))
      rintro _ w318 ⟨E318, ⟨hfi, rows, oa, oc, rfl, hrow, hro, hrs⟩ | ⟨hfi, rfl⟩⟩
      case inr => exact absurd hfi (by rw [show fineS (⟨some ⟨b310, 0, none⟩, 2, [(.mk (7, 1) (some ⟨b305, 0, none⟩) 1 1 [(.mk (1, 0) none 0 0 [])]), (.mk (10, 3) (some ⟨b308, 0, none⟩) 1 1 [(.mk (1, 0) none 0 0 [])])]⟩ : LP).xs = true from by kernel_rfl]; simp)
      have hrs2 : rows.map LS.xs = [[3], [3]] := by rw [hrs]; show [errS _ 5 _, errS _ 5 _] = _; rw [errS_eq hv318a, errS_eq hv318b]; rw [show errl [(.mk (7, 1) (some ⟨b305, 0, none⟩) 1 1 [(.mk (1, 0) none 0 0 [])]), (.mk (1, 0) none 0 0 []), (.mk (10, 3) (some ⟨b308, 0, none⟩) 1 1 [(.mk (1, 0) none 0 0 [])]), (.mk (1, 0) none 0 0 [])] = [3] from by kernel_rfl, show errl [(.mk (10, 3) (some ⟨b308, 0, none⟩) 1 1 [(.mk (1, 0) none 0 0 [])]), (.mk (1, 0) none 0 0 [])] = [3] from by kernel_rfl, List.mergeSort_singleton]; rfl
      have hrl : rows.length = 2 := by have := congrArg List.length hrs2; simpa using this
      refine After.ret (by kernel_rfl) ?_
      have sE318 := E318.size
      refine S.run 5 [] [2, 7, 13, 14] (rs := []) (κ' := [(2, iV 0), (7, iV 0), (13, pT b262), (14, .slice oa rows.length oc)]) (by kernel_rfl) (by kernel_rfl) rfl ?_
      refine S.regEnd (by kernel_rfl) (S.seq (S.region (S.one (by kernel_rfl) (S.call (dst := some 157) (f := 29) (args := #[iV 0]) (by kernel_rfl) (by kernel_rfl) ((Num_spec _ _).mono ?_)))))
      rintro _ w319 ⟨E319, rfl⟩
      refine After.ret (by kernel_rfl) ?_
      have sE319 := E319.size
      refine S.one (by kernel_rfl) (S.new 158 [iV 1, iV 0, .slice none 0 0] 60 (fun b => .slice (some ⟨b, 0, none⟩) 1 1) (by kernel_rfl) (by kernel_rfl) (fun b => by kernel_rfl) (fun b320 w320 E320 B320 e320 z320 => ?_))
      have sE320 := E320.size
      refine S.one (by kernel_rfl) (S.call (dst := some 159) (f := 28) (args := #[iV 9, iV 1, .slice (some ⟨b320, 0, none⟩) 1 1]) (by kernel_rfl) (by kernel_rfl) ((Of_spec _ _ _ _ _ _).mono ?_))
      rintro _ w321 ⟨E321, rfl⟩
      refine After.ret (by kernel_rfl) ?_
      have sE321 := E321.size
      refine S.one (by kernel_rfl) (S.call (dst := some 160) (f := 29) (args := #[iV 4]) (by kernel_rfl) (by kernel_rfl) ((Num_spec _ _).mono ?_))
      rintro _ w322 ⟨E322, rfl⟩
      refine After.ret (by kernel_rfl) ?_
      have sE322 := E322.size
      refine S.one (by kernel_rfl) (S.new 161 [iV 9, iV 1, .slice (some ⟨b320, 0, none⟩) 1 1, iV 1, iV 4, .slice none 0 0] 60 (fun b => .slice (some ⟨b, 0, none⟩) 2 2) (by kernel_rfl) (by kernel_rfl) (fun b => by kernel_rfl) (fun b323 w323 E323 B323 e323 z323 => ?_))
      have sE323 := E323.size
      refine S.one (by kernel_rfl) (S.call (dst := some 162) (f := 28) (args := #[iV 8, iV 0, .slice (some ⟨b323, 0, none⟩) 2 2]) (by kernel_rfl) (by kernel_rfl) ((Of_spec _ _ _ _ _ _).mono ?_))
      rintro _ w324 ⟨E324, rfl⟩
      refine After.ret (by kernel_rfl) ?_
      have sE324 := E324.size
      refine S.one (by kernel_rfl) (S.new 163 [iV 8, iV 0, .slice (some ⟨b323, 0, none⟩) 2 2] 60 (fun b => .slice (some ⟨b, 0, none⟩) 1 1) (by kernel_rfl) (by kernel_rfl) (fun b => by kernel_rfl) (fun b325 w325 E325 B325 e325 z325 => ?_))
      have sE325 := E325.size
      have B326 := B323.ext0 E324
      have B327 := B326.ext0 E325
      have B328 := B320.ext0 E321
      have B329 := B328.ext0 E322
      have B330 := B329.ext0 E323
      have B331 := B330.ext0 E324
      have B332 := B331.ext0 E325
      have hp333 : (⟨some ⟨b325, 0, none⟩, 1, [(.mk (8, 0) (some ⟨b323, 0, none⟩) 2 2 [(.mk (9, 1) (some ⟨b320, 0, none⟩) 1 1 [(.mk (1, 0) none 0 0 [])]), (.mk (1, 4) none 0 0 [])])]⟩ : LP).ok w325.heap.size w325 := (XOk.prog (XOk.ofB (kids := [(.mk (8, 0) (some ⟨b323, 0, none⟩) 2 2 [(.mk (9, 1) (some ⟨b320, 0, none⟩) 1 1 [(.mk (1, 0) none 0 0 [])]), (.mk (1, 4) none 0 0 [])])]) (k := 1) (0, 0) B325 rfl (by omega) B325.lt (List.forall_mem_cons.2 ⟨(XOk.ofB (kids := [(.mk (9, 1) (some ⟨b320, 0, none⟩) 1 1 [(.mk (1, 0) none 0 0 [])]), (.mk (1, 4) none 0 0 [])]) (k := 2) (8, 0) B327 rfl (by omega) B327.lt (List.forall_mem_cons.2 ⟨(XOk.ofB (kids := [(.mk (1, 0) none 0 0 [])]) (k := 1) (9, 1) B332 rfl (by omega) B332.lt (List.forall_mem_cons.2 ⟨(XOk.nil (1, 0)), (fun _ h => by cases h)⟩)), (List.forall_mem_cons.2 ⟨(XOk.nil (1, 4)), (fun _ h => by cases h)⟩)⟩)), (fun _ h => by cases h)⟩)))
      have hfi333 : fineS (⟨some ⟨b325, 0, none⟩, 1, [(.mk (8, 0) (some ⟨b323, 0, none⟩) 2 2 [(.mk (9, 1) (some ⟨b320, 0, none⟩) 1 1 [(.mk (1, 0) none 0 0 [])]), (.mk (1, 4) none 0 0 [])])]⟩ : LP).xs = true := by kernel_rfl
      have hwf333 := wf_fine hfi333
      have hpl0 : Plain1 (⟨some ⟨b325, 0, none⟩, 1, [(.mk (8, 0) (some ⟨b323, 0, none⟩) 2 2 [(.mk (9, 1) (some ⟨b320, 0, none⟩) 1 1 [(.mk (1, 0) none 0 0 [])]), (.mk (1, 4) none 0 0 [])])]⟩ : LP) (.mk (1, 0) none 0 0 []) (.mk (1, 0) none 0 0 []) := plain_leaf _ (.mk (1, 0) none 0 0 []) (by show (1 : Int) ≠ 8; omega) rfl
      have hpl1 : Plain1 (⟨some ⟨b325, 0, none⟩, 1, [(.mk (8, 0) (some ⟨b323, 0, none⟩) 2 2 [(.mk (9, 1) (some ⟨b320, 0, none⟩) 1 1 [(.mk (1, 0) none 0 0 [])]), (.mk (1, 4) none 0 0 [])])]⟩ : LP) (.mk (9, 1) (some ⟨b320, 0, none⟩) 1 1 [(.mk (1, 0) none 0 0 [])]) (.mk (9, 1) none 1 0 [(.mk (1, 0) none 0 0 [])]) := plain_one _ (.mk (9, 1) (some ⟨b320, 0, none⟩) 1 1 [(.mk (1, 0) none 0 0 [])]) _ _ (by show (9 : Int) ≠ 8; omega) rfl hpl0
      have hpl2 : Plain1 (⟨some ⟨b325, 0, none⟩, 1, [(.mk (8, 0) (some ⟨b323, 0, none⟩) 2 2 [(.mk (9, 1) (some ⟨b320, 0, none⟩) 1 1 [(.mk (1, 0) none 0 0 [])]), (.mk (1, 4) none 0 0 [])])]⟩ : LP) (.mk (8, 0) (some ⟨b323, 0, none⟩) 2 2 [(.mk (9, 1) (some ⟨b320, 0, none⟩) 1 1 [(.mk (1, 0) none 0 0 [])]), (.mk (1, 4) none 0 0 [])]) (.mk (9, 1) none 1 0 [(.mk (1, 0) none 0 0 [])]) := plain_handle _ (.mk (8, 0) (some ⟨b323, 0, none⟩) 2 2 [(.mk (9, 1) (some ⟨b320, 0, none⟩) 1 1 [(.mk (1, 0) none 0 0 [])]), (.mk (1, 4) none 0 0 [])]) _ (.mk (9, 1) (some ⟨b320, 0, none⟩) 1 1 [(.mk (1, 0) none 0 0 [])]) [(.mk (1, 4) none 0 0 [])] 5 [(.mk (9, 1) (some ⟨b320, 0, none⟩) 1 1 [(.mk (1, 0) none 0 0 [])]), (.mk (1, 0) none 0 0 [])] (List.replicate 6 false) rfl rfl hwf333.1 hwf333.2.2 ((hwf333.1 _ (List.mem_cons_self ..)).kid (List.mem_cons_self ..)) (by kernel_rfl) (by kernel_rfl) hpl1
      refine S.one (by kernel_rfl) (S.call (dst := some 164) (f := 31) (args := #[.slice (some ⟨b325, 0, none⟩) 1 1]) (by kernel_rfl) (by kernel_rfl) ((Plain_spec (⟨some ⟨b325, 0, none⟩, 1, [(.mk (8, 0) (some ⟨b323, 0, none⟩) 2 2 [(.mk (9, 1) (some ⟨b320, 0, none⟩) 1 1 [(.mk (1, 0) none 0 0 [])]), (.mk (1, 4) none 0 0 [])])]⟩ : LP) (.mk (8, 0) (some ⟨b323, 0, none⟩) 2 2 [(.mk (9, 1) (some ⟨b320, 0, none⟩) 1 1 [(.mk (1, 0) none 0 0 [])]), (.mk (1, 4) none 0 0 [])]) (.mk (9, 1) none 1 0 [(.mk (1, 0) none 0 0 [])]) w325.heap.size _ hp333 (Nat.le_refl _) rfl hfi333 hpl2).mono ?_))
      rintro _ w333 ⟨E333, q, hq, rfl, hqe, hql⟩
      refine After.ret (by kernel_rfl) ?_
      have sE333 := E333.size
      refine S.run 5 [] [2, 7, 9, 13, 14, 15] (rs := []) (κ' := [(2, iV 0), (7, iV 0), (9, iV 0), (13, pT b262), (14, .slice oa rows.length oc), (15, .slice q.a q.xs.length q.cap)]) (by kernel_rfl) (by kernel_rfl) rfl ?_
      refine S.regEnd (by kernel_rfl) (S.seq (S.region ?_))
      have B334 := B303.ext0 E304
      have B335 := B334.ext0 E305
      have B336 := B335.ext0 E306
      have B337 := B336.ext0 E307
      have B338 := B337.ext0 E308
      have B339 := B338.ext0 E309
      have B340 := B339.ext0 E310
      have B341 := B340.ext0 E318
      have B342 := B341.ext0 E319
      have B343 := B342.ext0 E320
      have B344 := B343.ext0 E321
      have B345 := B344.ext0 E322
      have B346 := B345.ext0 E323
      have B347 := B346.ext0 E324
      have B348 := B347.ext0 E325
      have B349 := B348.ext0 E333
      refine S.run 16 [.v (iV r263.fin)] [13, 14, 15, 182] (rs := [.load ⟨b262, 0, none⟩ (iV r263.fin)]) (κ' := [(13, pT b262), (14, .slice oa rows.length oc), (15, .slice q.a q.xs.length q.cap), (182, .bool (r263.fin == 1))]) (by kernel_rfl) (by kernel_rfl) (.load (B349.cell 0 rfl) .nil) ?_
      refine S.subst 182 (.bool (r263.fin == 1)) (.bool true) (by kernel_rfl) (congrArg Value.bool (by rw [lf263]; rfl)) ?_
      refine S.run 5 [.v (iV r263.val)] [13, 14, 15, 187] (rs := [.load ⟨b262, 1, none⟩ (iV r263.val)]) (κ' := [(13, pT b262), (14, .slice oa rows.length oc), (15, .slice q.a q.xs.length q.cap), (187, .bool (r263.val == 2))]) (by kernel_rfl) (by kernel_rfl) (.load (B349.cell 1 rfl) .nil) ?_
      refine S.subst 187 (.bool (r263.val == 2)) (.bool true) (by kernel_rfl) (congrArg Value.bool (by rw [lv263]; rfl)) ?_
      refine S.run 6 [.v (.slice r263.a r263.les.length r263.cap)] [13, 14, 15, 193] (rs := [.load ⟨b262, 2, none⟩ (.slice r263.a r263.les.length r263.cap)]) (κ' := [(13, pT b262), (14, .slice oa rows.length oc), (15, .slice q.a q.xs.length q.cap), (193, .bool (((r263.les.length : Nat) : Int) == 3))]) (by kernel_rfl) (by kernel_rfl) (.load (B349.cell 2 rfl) .nil) ?_
      refine S.subst 193 (.bool (((r263.les.length : Nat) : Int) == 3)) (.bool true) (by kernel_rfl) (congrArg Value.bool (by rw [ll263]; rfl)) ?_
      refine S.run 2 [.v (.slice r263.a r263.les.length r263.cap)] [13, 14, 15, 193, 195] (rs := [.load ⟨b262, 2, none⟩ (.slice r263.a r263.les.length r263.cap)]) (κ' := [(13, pT b262), (14, .slice oa rows.length oc), (15, .slice q.a q.xs.length q.cap), (193, .bool true), (195, .slice r263.a r263.les.length r263.cap)]) (by kernel_rfl) (by kernel_rfl) (.load (B349.cell 2 rfl) .nil) ?_
      have R350 := hr263.1.pres (.ofE E303 B302 (by decide))
      have R351 := R350.pres (.of0 E304)
      have R352 := R351.pres (.of0 E305)
      have R353 := R352.pres (.of0 E306)
      have R354 := R353.pres (.of0 E307)
      have R355 := R354.pres (.of0 E308)
      have R356 := R355.pres (.of0 E309)
      have R357 := R356.pres (.of0 E310)
      have R358 := R357.pres (.of0 E318)
      have R359 := R358.pres (.of0 E319)
      have R360 := R359.pres (.of0 E320)
      have R361 := R360.pres (.of0 E321)
      have R362 := R361.pres (.of0 E322)
      have R363 := R362.pres (.of0 E323)
      have R364 := R363.pres (.of0 E324)
      have R365 := R364.pres (.of0 E325)
      have R366 := R365.pres (.of0 E333)
      obtain ⟨x367, b367, o367, hx367, h367, H367⟩ := R366.get 1 (by omega)
      refine S.one (by kernel_rfl) (S.law 196 (v := .pointer (some ⟨b367, o367 + 1 * 5, none⟩)) (Instr.indexAt 27 (.slice r263.a r263.les.length r263.cap) (.int .i64 ((1 : Nat) : Int))) (by kernel_rfl) (by kernel_rfl) (by kernel_rfl) (run_idx (e := 43) 1 h367 (by kernel_rfl) (by kernel_rfl) (by omega)) ?_)
      refine S.run 5 [.v (iV x367.deed)] [13, 14, 15, 201] (rs := [.load ⟨b367, o367 + 1 * 5, none⟩ (iV x367.deed)]) (κ' := [(13, pT b262), (14, .slice oa rows.length oc), (15, .slice q.a q.xs.length q.cap), (201, .bool (x367.deed == 5))]) (by kernel_rfl) (by kernel_rfl) (.load (H367.cell0 rfl) .nil) ?_
      refine S.subst 201 (.bool (x367.deed == 5)) (.bool true) (by kernel_rfl) (congrArg Value.bool (by have h9 := congrArg (Option.map Ev.deed) (ev_at le263 hx367); have h9 : (5 : Int) = x367.deed := Option.some.inj h9; rw [← h9]; rfl)) ?_
      refine S.run 2 [.v (.slice r263.a r263.les.length r263.cap)] [14, 15, 201, 203] (rs := [.load ⟨b262, 2, none⟩ (.slice r263.a r263.les.length r263.cap)]) (κ' := [(14, .slice oa rows.length oc), (15, .slice q.a q.xs.length q.cap), (201, .bool true), (203, .slice r263.a r263.les.length r263.cap)]) (by kernel_rfl) (by kernel_rfl) (.load (B349.cell 2 rfl) .nil) ?_
      obtain ⟨x368, b368, o368, hx368, h368, H368⟩ := R366.get 2 (by omega)
      refine S.one (by kernel_rfl) (S.law 204 (v := .pointer (some ⟨b368, o368 + 2 * 5, none⟩)) (Instr.indexAt 27 (.slice r263.a r263.les.length r263.cap) (.int .i64 ((2 : Nat) : Int))) (by kernel_rfl) (by kernel_rfl) (by kernel_rfl) (run_idx (e := 43) 2 h368 (by kernel_rfl) (by kernel_rfl) (by omega)) ?_)
      refine S.run 5 [.v (iV x368.val)] [14, 15, 209] (rs := [.load ⟨b368, o368 + 2 * 5 + 2, none⟩ (iV x368.val)]) (κ' := [(14, .slice oa rows.length oc), (15, .slice q.a q.xs.length q.cap), (209, .bool (x368.val == 9))]) (by kernel_rfl) (by kernel_rfl) (.load (H368.cell 2 rfl) .nil) ?_
      refine S.subst 209 (.bool (x368.val == 9)) (.bool true) (by kernel_rfl) (congrArg Value.bool (by have h9 := congrArg (Option.map Ev.val) (ev_at le263 hx368); have h9 : (9 : Int) = x368.val := Option.some.inj h9; rw [← h9]; rfl)) ?_
      refine S.run 1 [] [15, 209, 210] (rs := []) (κ' := [(15, .slice q.a q.xs.length q.cap), (209, .bool true), (210, .slice oa rows.length oc)]) (by kernel_rfl) (by kernel_rfl) rfl ?_
      refine S.one (by kernel_rfl) (S.new 211 [iV 3] 3 (fun b => .slice (some ⟨b, 0, none⟩) 1 1) (by kernel_rfl) (by kernel_rfl) (fun b => by kernel_rfl) (fun b369 w369 E369 B369 e369 z369 => ?_))
      have sE369 := E369.size
      refine S.one (by kernel_rfl) (S.new 212 [iV 3] 3 (fun b => .slice (some ⟨b, 0, none⟩) 1 1) (by kernel_rfl) (by kernel_rfl) (fun b => by kernel_rfl) (fun b370 w370 E370 B370 e370 z370 => ?_))
      have sE370 := E370.size
      refine S.one (by kernel_rfl) (S.new 213 [.slice (some ⟨b369, 0, none⟩) 1 1, .slice (some ⟨b370, 0, none⟩) 1 1] 23 (fun b => .slice (some ⟨b, 0, none⟩) 2 2) (by kernel_rfl) (by kernel_rfl) (fun b => by kernel_rfl) (fun b371 w371 E371 B371 e371 z371 => ?_))
      have sE371 := E371.size
      have B373 := B369.ext0 E370
      have B374 := B373.ext0 E371
      have B375 := B370.ext0 E371
      have R376 := hrow.pres (.of0 E319)
      have R377 := R376.pres (.of0 E320)
      have R378 := R377.pres (.of0 E321)
      have R379 := R378.pres (.of0 E322)
      have R380 := R379.pres (.of0 E323)
      have R381 := R380.pres (.of0 E324)
      have R382 := R381.pres (.of0 E325)
      have R383 := R382.pres (.of0 E333)
      have R384 := R383.pres (.of0 E369)
      have R385 := R384.pres (.of0 E370)
      have R386 := R385.pres (.of0 E371)
      have T387 := hro.pres (.of0 E319)
      have T388 := T387.pres (.of0 E320)
      have T389 := T388.pres (.of0 E321)
      have T390 := T389.pres (.of0 E322)
      have T391 := T390.pres (.of0 E323)
      have T392 := T391.pres (.of0 E324)
      have T393 := T392.pres (.of0 E325)
      have T394 := T393.pres (.of0 E333)
      have T395 := T394.pres (.of0 E369)
      have T396 := T395.pres (.of0 E370)
      have T397 := T396.pres (.of0 E371)
      have hY372 : RowsOk w371.heap.size w371 [(⟨some ⟨b369, 0, none⟩, 1, [3]⟩ : LS), (⟨some ⟨b370, 0, none⟩, 1, [3]⟩ : LS)] := (List.forall_mem_cons.2 ⟨⟨Row.ofBlk (cs := intCs) (xs := [3]) B374 (fun _ => rfl) B374.lt, by show 1 ≤ _; omega⟩, (List.forall_mem_cons.2 ⟨⟨Row.ofBlk (cs := intCs) (xs := [3]) B375 (fun _ => rfl) B375.lt, by show 1 ≤ _; omega⟩, (fun _ h => by cases h)⟩)⟩)
      have hse372 := SameLists_spec _ _ _ _ oa (some ⟨b371, 0, none⟩) oc 2 rows [(⟨some ⟨b369, 0, none⟩, 1, [3]⟩ : LS), (⟨some ⟨b370, 0, none⟩, 1, [3]⟩ : LS)] _ R386 (Row.ofBlk (cs := lsCs) (xs := [(⟨some ⟨b369, 0, none⟩, 1, [3]⟩ : LS), (⟨some ⟨b370, 0, none⟩, 1, [3]⟩ : LS)]) B371 (fun _ => rfl) B371.lt) T397 hY372 (by omega) (by show 2 ≤ _; omega)
      refine S.one (by kernel_rfl) (S.call (dst := some 214) (f := 32) (args := #[.slice oa rows.length oc, .slice (some ⟨b371, 0, none⟩) 2 2]) (by kernel_rfl) (by kernel_rfl) (hse372.mono ?_))
      rintro _ w372 ⟨E372, rfl⟩
      refine After.ret (by kernel_rfl) ?_
      have sE372 := E372.size
      refine S.subst 214 (.bool (rows.map LS.xs == [(⟨some ⟨b369, 0, none⟩, 1, [3]⟩ : LS), (⟨some ⟨b370, 0, none⟩, 1, [3]⟩ : LS)].map LS.xs)) (.bool true) (by kernel_rfl) (congrArg Value.bool (by rw [hrs2]; rfl)) ?_
      refine S.run 3 [] [216, 217] (rs := []) (κ' := [(216, .bool true), (217, .slice q.a q.xs.length q.cap)]) (by kernel_rfl) (by kernel_rfl) rfl ?_
      refine S.one (by kernel_rfl) (S.call (dst := some 218) (f := 29) (args := #[iV 0]) (by kernel_rfl) (by kernel_rfl) ((Num_spec _ _).mono ?_))
      rintro _ w398 ⟨E398, rfl⟩
      refine After.ret (by kernel_rfl) ?_
      have sE398 := E398.size
      refine S.one (by kernel_rfl) (S.new 219 [iV 1, iV 0, .slice none 0 0] 60 (fun b => .slice (some ⟨b, 0, none⟩) 1 1) (by kernel_rfl) (by kernel_rfl) (fun b => by kernel_rfl) (fun b399 w399 E399 B399 e399 z399 => ?_))
      have sE399 := E399.size
      refine S.one (by kernel_rfl) (S.call (dst := some 220) (f := 28) (args := #[iV 9, iV 1, .slice (some ⟨b399, 0, none⟩) 1 1]) (by kernel_rfl) (by kernel_rfl) ((Of_spec _ _ _ _ _ _).mono ?_))
      rintro _ w400 ⟨E400, rfl⟩
      refine After.ret (by kernel_rfl) ?_
      have sE400 := E400.size
      refine S.one (by kernel_rfl) (S.new 221 [iV 9, iV 1, .slice (some ⟨b399, 0, none⟩) 1 1] 60 (fun b => .slice (some ⟨b, 0, none⟩) 1 1) (by kernel_rfl) (by kernel_rfl) (fun b => by kernel_rfl) (fun b401 w401 E401 B401 e401 z401 => ?_))
      have sE401 := E401.size
      have B402 := B399.ext0 E400
      have B403 := B402.ext0 E401
      have T405 := hq.pres (.of0 E369)
      have T406 := T405.pres (.of0 E370)
      have T407 := T406.pres (.of0 E371)
      have T408 := T407.pres (.of0 E372)
      have T409 := T408.pres (.of0 E398)
      have T410 := T409.pres (.of0 E399)
      have T411 := T410.pres (.of0 E400)
      have T412 := T411.pres (.of0 E401)
      have hse404 := SameProg_spec q (⟨some ⟨b401, 0, none⟩, 1, [(.mk (9, 1) (some ⟨b399, 0, none⟩) 1 1 [(.mk (1, 0) none 0 0 [])])]⟩ : LP) _ w401.heap.size _ T412 (XOk.prog (XOk.ofB (kids := [(.mk (9, 1) (some ⟨b399, 0, none⟩) 1 1 [(.mk (1, 0) none 0 0 [])])]) (k := 1) (0, 0) B401 rfl (by omega) B401.lt (List.forall_mem_cons.2 ⟨(XOk.ofB (kids := [(.mk (1, 0) none 0 0 [])]) (k := 1) (9, 1) B403 rfl (by omega) B403.lt (List.forall_mem_cons.2 ⟨(XOk.nil (1, 0)), (fun _ h => by cases h)⟩)), (fun _ h => by cases h)⟩)))
      refine S.one (by kernel_rfl) (S.call (dst := some 222) (f := 33) (args := #[.slice q.a q.xs.length q.cap, .slice (some ⟨b401, 0, none⟩) 1 1]) (by kernel_rfl) (by kernel_rfl) (hse404.mono ?_))
      rintro _ w404 ⟨E404, rfl⟩
      refine After.ret (by kernel_rfl) ?_
      have sE404 := E404.size
      refine S.subst 222 (.bool (eqX.eqL q.xs (⟨some ⟨b401, 0, none⟩, 1, [(.mk (9, 1) (some ⟨b399, 0, none⟩) 1 1 [(.mk (1, 0) none 0 0 [])])]⟩ : LP).xs)) (.bool true) (by kernel_rfl) (congrArg Value.bool (eqL_trans hqe (by kernel_rfl))) ?_
      refine S.run 2 [] [0] (rs := []) (κ' := [(0, .bool true)]) (by kernel_rfl) (by kernel_rfl) rfl ?_
      exact S.regEnd (by kernel_rfl) (S.ret1 (v := .bool true) rfl (by kernel_rfl) ⟨((((((((((((((((((((((((((((((((((((((((((((((((((((((((((((((((((((((E1.trans E2).trans E3).thenS E4 (by omega)).trans E5).trans E6).trans E7).trans E8).trans E9).trans E10).trans E11).trans E30).trans E49).trans E50).trans E51).thenS E52 (by omega)).trans E53).trans E54).trans E55).trans E60).thenS E61 (by omega)).trans E62).trans E63).trans E64).thenS E65 (by omega)).trans E66).trans E67).trans E68).thenS E69 (by omega)).trans E95).trans E96).trans E97).trans E98).trans E99).trans E100).trans E101).trans E102).trans E103).thenS E104 (by omega)).trans E105).trans E108).trans E110).trans E112).trans E114).trans E262).trans E263).thenS E303 (by omega)).trans E304).trans E305).trans E306).trans E307).trans E308).trans E309).trans E310).trans E318).trans E319).trans E320).trans E321).trans E322).trans E323).trans E324).trans E325).trans E333).trans E369).trans E370).trans E371).trans E372).trans E398).trans E399).trans E400).trans E401).trans E404, rfl⟩)
    ·skip
     show S _ _ _ _ _ (.one _ 9 :: .dreg _ #[true, true, true, true, false, false, false, false, false, true, false, false] _ _ :: _) _ _
     refine S.new 13 [iV 0, iV 0, .slice none 0 0, iV 0] 29 (fun b => pT b) (by kernel_rfl) (by kernel_rfl) (fun b => by kernel_rfl) (fun b413 w413 E413 B413 e413 z413 => ?_)
     have sE413 := E413.size
     refine S.dnext (j := 4) (l' := #[true, true, true, true, true, false, false, false, false, true, false, false]) (by kernel_rfl) (by kernel_rfl) (sw1 (by kernel_rfl) (((E108.trans E110).trans E112).trans E413)) ?_
     refine S.new 141 [iV 11, iV 1, .slice (some ⟨b110, 0, none⟩) 2 2] 60 (fun b => .slice (some ⟨b, 0, none⟩) 1 1) (by kernel_rfl) (by kernel_rfl) (fun b => by kernel_rfl) (fun b414 w414 E414 B414 e414 z414 => ?_)
     have sE414 := E414.size
     refine S.dnext (j := 5) (l' := #[true, true, true, true, true, true, false, false, false, true, false, false]) (by kernel_rfl) (by kernel_rfl) (sw1 (by kernel_rfl) ((((E108.trans E110).trans E112).trans E413).trans E414)) ?_
     have B416 := B110.ext0 E112
     have B417 := B416.ext0 E413
     have B418 := B417.ext0 E414
     have B419 := B101.ext0 E102
     have B420 := B419.ext0 E103
     have B421 := B420.extS E104 (by omega)
     have B422 := B421.ext0 E105
     have B423 := B422.ext0 E108
     have B424 := B423.ext0 E110
     have B425 := B424.ext0 E112
     have B426 := B425.ext0 E413
     have B427 := B426.ext0 E414
     have B428 := B96.ext0 E97
     have B429 := B428.ext0 E98
     have B430 := B429.ext0 E99
     have B431 := B430.ext0 E100
     have B432 := B431.ext0 E101
     have B433 := B432.ext0 E102
     have B434 := B433.ext0 E103
     have B435 := B434.extS E104 (by omega)
     have B436 := B435.ext0 E105
     have B437 := B436.ext0 E108
     have B438 := B437.ext0 E110
     have B439 := B438.ext0 E112
     have B440 := B439.ext0 E413
     have B441 := B440.ext0 E414
     have B442 := B99.ext0 E100
     have B443 := B442.ext0 E101
     have B444 := B443.ext0 E102
     have B445 := B444.ext0 E103
     have B446 := B445.extS E104 (by omega)
     have B447 := B446.ext0 E105
     have B448 := B447.ext0 E108
     have B449 := B448.ext0 E110
     have B450 := B449.ext0 E112
     have B451 := B450.ext0 E413
     have B452 := B451.ext0 E414
     refine S.call (dst := some 142) (f := 4) (args := #[.slice (some ⟨b414, 0, none⟩) 1 1, iV 0, iV 99]) (by kernel_rfl) (by kernel_rfl) ((Run_spec w414.heap.size (⟨some ⟨b414, 0, none⟩, 1, [(.mk (11, 1) (some ⟨b110, 0, none⟩) 2 2 [(.mk (15, 0) (some ⟨b101, 0, none⟩) 2 2 [(.mk (13, 1) (some ⟨b96, 0, none⟩) 1 1 [(.mk (1, 2) none 0 0 [])]), (.mk (4, 0) (some ⟨b99, 0, none⟩) 1 1 [(.mk (1, 9) none 0 0 [])])]), (.mk (2, 0) none 0 0 [])])]⟩ : LP) 0 99 _ (XOk.prog (XOk.ofB (kids := [(.mk (11, 1) (some ⟨b110, 0, none⟩) 2 2 [(.mk (15, 0) (some ⟨b101, 0, none⟩) 2 2 [(.mk (13, 1) (some ⟨b96, 0, none⟩) 1 1 [(.mk (1, 2) none 0 0 [])]), (.mk (4, 0) (some ⟨b99, 0, none⟩) 1 1 [(.mk (1, 9) none 0 0 [])])]), (.mk (2, 0) none 0 0 [])])]) (k := 1) (0, 0) B414 rfl (by omega) B414.lt (List.forall_mem_cons.2 ⟨(XOk.ofB (kids := [(.mk (15, 0) (some ⟨b101, 0, none⟩) 2 2 [(.mk (13, 1) (some ⟨b96, 0, none⟩) 1 1 [(.mk (1, 2) none 0 0 [])]), (.mk (4, 0) (some ⟨b99, 0, none⟩) 1 1 [(.mk (1, 9) none 0 0 [])])]), (.mk (2, 0) none 0 0 [])]) (k := 2) (11, 1) B418 rfl (by omega) B418.lt (List.forall_mem_cons.2 ⟨(XOk.ofB (kids := [(.mk (13, 1) (some ⟨b96, 0, none⟩) 1 1 [(.mk (1, 2) none 0 0 [])]), (.mk (4, 0) (some ⟨b99, 0, none⟩) 1 1 [(.mk (1, 9) none 0 0 [])])]) (k := 2) (15, 0) B427 rfl (by omega) B427.lt (List.forall_mem_cons.2 ⟨(XOk.ofB (kids := [(.mk (1, 2) none 0 0 [])]) (k := 1) (13, 1) B441 rfl (by omega) B441.lt (List.forall_mem_cons.2 ⟨(XOk.nil (1, 2)), (fun _ h => by cases h)⟩)), (List.forall_mem_cons.2 ⟨(XOk.ofB (kids := [(.mk (1, 9) none 0 0 [])]) (k := 1) (4, 0) B452 rfl (by omega) B452.lt (List.forall_mem_cons.2 ⟨(XOk.nil (1, 9)), (fun _ h => by cases h)⟩)), (fun _ h => by cases h)⟩)⟩)), (List.forall_mem_cons.2 ⟨(XOk.nil (2, 0)), (fun _ h => by cases h)⟩)⟩)), (fun _ h => by cases h)⟩))) (Nat.le_refl _)).mono ?_)
     rintro _ w415 ⟨E415, ⟨hok415, r415, rfl, hr415, his415⟩ | ⟨hok415, rfl⟩⟩
     case inr => exact absurd hok415 (by rw [show okD (⟨some ⟨b414, 0, none⟩, 1, [(.mk (11, 1) (some ⟨b110, 0, none⟩) 2 2 [(.mk (15, 0) (some ⟨b101, 0, none⟩) 2 2 [(.mk (13, 1) (some ⟨b96, 0, none⟩) 1 1 [(.mk (1, 2) none 0 0 [])]), (.mk (4, 0) (some ⟨b99, 0, none⟩) 1 1 [(.mk (1, 9) none 0 0 [])])]), (.mk (2, 0) none 0 0 [])])]⟩ : LP).xs 0 [] 99 = true from by kernel_rfl]; simp)
     have to415 := LRun.to his415 (t := ⟨1, 2, [⟨4, 1, 2, [], [1]⟩, ⟨5, 0, 0, [], [1]⟩, ⟨1, 0, 9, [], [1]⟩], 92⟩) (by kernel_rfl)
     have lf415 : r415.fin = 1 := to415.1; have lv415 : r415.val = 2 := to415.2.1; have le415 : r415.les.map LE.ev = [⟨4, 1, 2, [], [1]⟩, ⟨5, 0, 0, [], [1]⟩, ⟨1, 0, 9, [], [1]⟩] := to415.2.2.1; have lu415 : r415.fuel = 92 := to415.2.2.2.1; have ll415 : r415.les.length = 3 := to415.2.2.2.2; have lb415 := hr415.2.2
     refine After.ret (by kernel_rfl) ?_
     have sE415 := E415.size
     refine S.dreads bodyPost_panicOk [6, 7, 8] 2 [] [13, 143, 144] (rs := []) (κ' := [(13, pT b413), (143, .agg #[iV r415.fin, iV r415.val, .slice r415.a r415.les.length r415.cap, iV r415.fuel]), (144, iV 0)]) (l' := #[true, true, true, true, true, true, true, true, true, true, false, false]) (by kernel_rfl) (by kernel_rfl) (by kernel_rfl) (fun _ _ => rfl) ?_
     refine S.dnext (j := 10) (l' := #[true, true, true, true, true, true, true, true, true, true, true, false]) (by kernel_rfl) (by kernel_rfl) (sw1 (by kernel_rfl) (((((E108.trans E110).trans E112).trans E413).trans E414).trans E415)) ?_
     have B453 := B413.ext0 E414
     have B454 := B453.ext0 E415
     refine S.store 0 [iV r415.fin, iV r415.val, .slice r415.a r415.les.length r415.cap, iV r415.fuel] [iV r415.fin, iV r415.val, .slice r415.a r415.les.length r415.cap, iV r415.fuel] B454 (by kernel_rfl) (by kernel_rfl) (by kernel_rfl) (by kernel_rfl) (by kernel_rfl) (fun w455 E455 B455 z455 => ?_)
     have sE455 := E455.size
     refine S.dreads bodyPost_panicOk [11] 0 [] [2, 13] (rs := []) (κ' := [(2, iV 0), (13, pT b413)]) (l' := #[true, true, true, true, true, true, true, true, true, true, true, true]) (by kernel_rfl) (by kernel_rfl) (by kernel_rfl) (fun _ _ => rfl) ?_
     refine S.dend (by kernel_rfl) (sw1 (by kernel_rfl) ((((((E108.trans E110).trans E112).trans E413).trans E414).trans E415).thenS E455 (by omega))) ?_
     refine S.seq (S.region (S.one (by kernel_rfl) (S.call (dst := some 146) (f := 29) (args := #[iV 0]) (by kernel_rfl) (by kernel_rfl) ((Num_spec _ _).mono ?_))))
     rintro _ w456 ⟨E456, rfl⟩
     refine After.ret (by kernel_rfl) ?_
     have sE456 := E456.size
     refine S.one (by kernel_rfl) (S.new 147 [iV 1, iV 0, .slice none 0 0] 60 (fun b => .slice (some ⟨b, 0, none⟩) 1 1) (by kernel_rfl) (by kernel_rfl) (fun b => by kernel_rfl) (fun b457 w457 E457 B457 e457 z457 => ?_))
     have sE457 := E457.size
     refine S.one (by kernel_rfl) (S.call (dst := some 148) (f := 28) (args := #[iV 7, iV 1, .slice (some ⟨b457, 0, none⟩) 1 1]) (by kernel_rfl) (by kernel_rfl) ((Of_spec _ _ _ _ _ _).mono ?_))
     rintro _ w458 ⟨E458, rfl⟩
     refine After.ret (by kernel_rfl) ?_
     have sE458 := E458.size
     refine S.one (by kernel_rfl) (S.call (dst := some 149) (f := 29) (args := #[iV 0]) (by kernel_rfl) (by kernel_rfl) ((Num_spec _ _).mono ?_))
     rintro _ w459 ⟨E459, rfl⟩
     refine After.ret (by kernel_rfl) ?_
     have sE459 := E459.size
     refine S.one (by kernel_rfl) (S.new 150 [iV 1, iV 0, .slice none 0 0] 60 (fun b => .slice (some ⟨b, 0, none⟩) 1 1) (by kernel_rfl) (by kernel_rfl) (fun b => by kernel_rfl) (fun b460 w460 E460 B460 e460 z460 => ?_))
     have sE460 := E460.size
     refine S.one (by kernel_rfl) (S.call (dst := some 151) (f := 28) (args := #[iV 10, iV 3, .slice (some ⟨b460, 0, none⟩) 1 1]) (by kernel_rfl) (by kernel_rfl) ((Of_spec _ _ _ _ _ _).mono ?_))
     rintro _ w461 ⟨E461, rfl⟩
     refine After.ret (by kernel_rfl) ?_
     have sE461 := E461.size
     refine S.one (by kernel_rfl) (S.new 152 [iV 7, iV 1, .slice (some ⟨b457, 0, none⟩) 1 1, iV 10, iV 3, .slice (some ⟨b460, 0, none⟩) 1 1] 60 (fun b => .slice (some ⟨b, 0, none⟩) 2 2) (by kernel_rfl) (by kernel_rfl) (fun b => by kernel_rfl) (fun b462 w462 E462 B462 e462 z462 => ?_))
     have sE462 := E462.size
     have B463 := B457.ext0 E458
     have B464 := B463.ext0 E459
     have B465 := B464.ext0 E460
     have B466 := B465.ext0 E461
     have B467 := B466.ext0 E462
     have B468 := B460.ext0 E461
     have B469 := B468.ext0 E462
     have hp470 : (⟨some ⟨b462, 0, none⟩, 2, [(.mk (7, 1) (some ⟨b457, 0, none⟩) 1 1 [(.mk (1, 0) none 0 0 [])]), (.mk (10, 3) (some ⟨b460, 0, none⟩) 1 1 [(.mk (1, 0) none 0 0 [])])]⟩ : LP).ok w462.heap.size w462 := (XOk.prog (XOk.ofB (kids := [(.mk (7, 1) (some ⟨b457, 0, none⟩) 1 1 [(.mk (1, 0) none 0 0 [])]), (.mk (10, 3) (some ⟨b460, 0, none⟩) 1 1 [(.mk (1, 0) none 0 0 [])])]) (k := 2) (0, 0) B462 rfl (by omega) B462.lt (List.forall_mem_cons.2 ⟨(XOk.ofB (kids := [(.mk (1, 0) none 0 0 [])]) (k := 1) (7, 1) B467 rfl (by omega) B467.lt (List.forall_mem_cons.2 ⟨(XOk.nil (1, 0)), (fun _ h => by cases h)⟩)), (List.forall_mem_cons.2 ⟨(XOk.ofB (kids := [(.mk (1, 0) none 0 0 [])]) (k := 1) (10, 3) B469 rfl (by omega) B469.lt (List.forall_mem_cons.2 ⟨(XOk.nil (1, 0)), (fun _ h => by cases h)⟩)), (fun _ h => by cases h)⟩)⟩)))
     have hv470a : visit (⟨some ⟨b462, 0, none⟩, 2, [(.mk (7, 1) (some ⟨b457, 0, none⟩) 1 1 [(.mk (1, 0) none 0 0 [])]), (.mk (10, 3) (some ⟨b460, 0, none⟩) 1 1 [(.mk (1, 0) none 0 0 [])])]⟩ : LP).xs 5 (.mk (7, 1) (some ⟨b457, 0, none⟩) 1 1 [(.mk (1, 0) none 0 0 [])]) (List.replicate 6 false) = some ([(.mk (7, 1) (some ⟨b457, 0, none⟩) 1 1 [(.mk (1, 0) none 0 0 [])]), (.mk (1, 0) none 0 0 []), (.mk (10, 3) (some ⟨b460, 0, none⟩) 1 1 [(.mk (1, 0) none 0 0 [])]), (.mk (1, 0) none 0 0 [])], [false, true, false, false, false, false]) := by kernel_rfl
     have hv470b : visit (⟨some ⟨b462, 0, none⟩, 2, [(.mk (7, 1) (some ⟨b457, 0, none⟩) 1 1 [(.mk (1, 0) none 0 0 [])]), (.mk (10, 3) (some ⟨b460, 0, none⟩) 1 1 [(.mk (1, 0) none 0 0 [])])]⟩ : LP).xs 5 (.mk (10, 3) (some ⟨b460, 0, none⟩) 1 1 [(.mk (1, 0) none 0 0 [])]) (List.replicate 6 false) = some ([(.mk (10, 3) (some ⟨b460, 0, none⟩) 1 1 [(.mk (1, 0) none 0 0 [])]), (.mk (1, 0) none 0 0 [])], (List.replicate 6 false)) := by kernel_rfl
     refine S.one (by kernel_rfl) (S.call (dst := some 153) (f := 6) (args := #[.slice (some ⟨b462, 0, none⟩) 2 2]) (by kernel_rfl) (by kernel_rfl) ((Errors_spec (⟨some ⟨b462, 0, none⟩, 2, [(.mk (7, 1) (some ⟨b457, 0, none⟩) 1 1 [(.mk (1, 0) none 0 0 [])]), (.mk (10, 3) (some ⟨b460, 0, none⟩) 1 1 [(.mk (1, 0) none 0 0 [])])]⟩ : LP) w462.heap.size 5 _ hp470 (Nat.le_refl _) (fun _ => List.forall_mem_cons.2 ⟨⟨_, _, hv470a, by show 4 ≤ 1000; omega⟩, List.forall_mem_cons.2 ⟨⟨_, _, hv470b, by show 2 ≤ 1000; omega⟩, fun _ h => by cases h⟩⟩)).mono ?_))
     rintro _ w470 ⟨E470, ⟨hfi, rows, oa, oc, rfl, hrow, hro, hrs⟩ | ⟨hfi, rfl⟩⟩
     case inr => exact absurd hfi (by rw [show fineS (⟨some ⟨b462, 0, none⟩, 2, [(.mk (7, 1) (some ⟨b457, 0, none⟩) 1 1 [(.mk (1, 0) none 0 0 [])]), (.mk (10, 3) (some ⟨b460, 0, none⟩) 1 1 [(.mk (1, 0) none 0 0 [])])]⟩ : LP).xs = true from by kernel_rfl]; simp)
     have hrs2 : rows.map LS.xs = [[3], [3]] := by rw [hrs]; show [errS _ 5 _, errS _ 5 _] = _; rw [errS_eq hv470a, errS_eq hv470b]; rw [show errl [(.mk (7, 1) (some ⟨b457, 0, none⟩) 1 1 [(.mk (1, 0) none 0 0 [])]), (.mk (1, 0) none 0 0 []), (.mk (10, 3) (some ⟨b460, 0, none⟩) 1 1 [(.mk (1, 0) none 0 0 [])]), (.mk (1, 0) none 0 0 [])] = [3] from by kernel_rfl, show errl [(.mk (10, 3) (some ⟨b460, 0, none⟩) 1 1 [(.mk (1, 0) none 0 0 [])]), (.mk (1, 0) none 0 0 [])] = [3] from by kernel_rfl, List.mergeSort_singleton]; rfl
     have hrl : rows.length = 2 := by have := congrArg List.length hrs2; simpa using this
     refine After.ret (by kernel_rfl) ?_
     have sE470 := E470.size
     refine S.run 5 [] [2, 7, 13, 14] (rs := []) (κ' := [(2, iV 0), (7, iV 0), (13, pT b413), (14, .slice oa rows.length oc)]) (by kernel_rfl) (by kernel_rfl) rfl ?_
     refine S.regEnd (by kernel_rfl) (S.seq (S.region (S.one (by kernel_rfl) (S.call (dst := some 157) (f := 29) (args := #[iV 0]) (by kernel_rfl) (by kernel_rfl) ((Num_spec _ _).mono ?_)))))
     rintro _ w471 ⟨E471, rfl⟩
     refine After.ret (by kernel_rfl) ?_
     have sE471 := E471.size
     refine S.one (by kernel_rfl) (S.new 158 [iV 1, iV 0, .slice none 0 0] 60 (fun b => .slice (some ⟨b, 0, none⟩) 1 1) (by kernel_rfl) (by kernel_rfl) (fun b => by kernel_rfl) (fun b472 w472 E472 B472 e472 z472 => ?_))
     have sE472 := E472.size
     refine S.one (by kernel_rfl) (S.call (dst := some 159) (f := 28) (args := #[iV 9, iV 1, .slice (some ⟨b472, 0, none⟩) 1 1]) (by kernel_rfl) (by kernel_rfl) ((Of_spec _ _ _ _ _ _).mono ?_))
     rintro _ w473 ⟨E473, rfl⟩
     refine After.ret (by kernel_rfl) ?_
     have sE473 := E473.size
     refine S.one (by kernel_rfl) (S.call (dst := some 160) (f := 29) (args := #[iV 4]) (by kernel_rfl) (by kernel_rfl) ((Num_spec _ _).mono ?_))
     rintro _ w474 ⟨E474, rfl⟩
     refine After.ret (by kernel_rfl) ?_
     have sE474 := E474.size
     refine S.one (by kernel_rfl) (S.new 161 [iV 9, iV 1, .slice (some ⟨b472, 0, none⟩) 1 1, iV 1, iV 4, .slice none 0 0] 60 (fun b => .slice (some ⟨b, 0, none⟩) 2 2) (by kernel_rfl) (by kernel_rfl) (fun b => by kernel_rfl) (fun b475 w475 E475 B475 e475 z475 => ?_))
     have sE475 := E475.size
     refine S.one (by kernel_rfl) (S.call (dst := some 162) (f := 28) (args := #[iV 8, iV 0, .slice (some ⟨b475, 0, none⟩) 2 2]) (by kernel_rfl) (by kernel_rfl) ((Of_spec _ _ _ _ _ _).mono ?_))
     rintro _ w476 ⟨E476, rfl⟩
     refine After.ret (by kernel_rfl) ?_
     have sE476 := E476.size
     refine S.one (by kernel_rfl) (S.new 163 [iV 8, iV 0, .slice (some ⟨b475, 0, none⟩) 2 2] 60 (fun b => .slice (some ⟨b, 0, none⟩) 1 1) (by kernel_rfl) (by kernel_rfl) (fun b => by kernel_rfl) (fun b477 w477 E477 B477 e477 z477 => ?_))
     have sE477 := E477.size
     have B478 := B475.ext0 E476
     have B479 := B478.ext0 E477
     have B480 := B472.ext0 E473
     have B481 := B480.ext0 E474
     have B482 := B481.ext0 E475
     have B483 := B482.ext0 E476
     have B484 := B483.ext0 E477
     have hp485 : (⟨some ⟨b477, 0, none⟩, 1, [(.mk (8, 0) (some ⟨b475, 0, none⟩) 2 2 [(.mk (9, 1) (some ⟨b472, 0, none⟩) 1 1 [(.mk (1, 0) none 0 0 [])]), (.mk (1, 4) none 0 0 [])])]⟩ : LP).ok w477.heap.size w477 := (XOk.prog (XOk.ofB (kids := [(.mk (8, 0) (some ⟨b475, 0, none⟩) 2 2 [(.mk (9, 1) (some ⟨b472, 0, none⟩) 1 1 [(.mk (1, 0) none 0 0 [])]), (.mk (1, 4) none 0 0 [])])]) (k := 1) (0, 0) B477 rfl (by omega) B477.lt (List.forall_mem_cons.2 ⟨(XOk.ofB (kids := [(.mk (9, 1) (some ⟨b472, 0, none⟩) 1 1 [(.mk (1, 0) none 0 0 [])]), (.mk (1, 4) none 0 0 [])]) (k := 2) (8, 0) B479 rfl (by omega) B479.lt (List.forall_mem_cons.2 ⟨(XOk.ofB (kids := [(.mk (1, 0) none 0 0 [])]) (k := 1) (9, 1) B484 rfl (by omega) B484.lt (List.forall_mem_cons.2 ⟨(XOk.nil (1, 0)), (fun _ h => by cases h)⟩)), (List.forall_mem_cons.2 ⟨(XOk.nil (1, 4)), (fun _ h => by cases h)⟩)⟩)), (fun _ h => by cases h)⟩)))
     have hfi485 : fineS (⟨some ⟨b477, 0, none⟩, 1, [(.mk (8, 0) (some ⟨b475, 0, none⟩) 2 2 [(.mk (9, 1) (some ⟨b472, 0, none⟩) 1 1 [(.mk (1, 0) none 0 0 [])]), (.mk (1, 4) none 0 0 [])])]⟩ : LP).xs = true := by kernel_rfl
     have hwf485 := wf_fine hfi485
     have hpl0 : Plain1 (⟨some ⟨b477, 0, none⟩, 1, [(.mk (8, 0) (some ⟨b475, 0, none⟩) 2 2 [(.mk (9, 1) (some ⟨b472, 0, none⟩) 1 1 [(.mk (1, 0) none 0 0 [])]), (.mk (1, 4) none 0 0 [])])]⟩ : LP) (.mk (1, 0) none 0 0 []) (.mk (1, 0) none 0 0 []) := plain_leaf _ (.mk (1, 0) none 0 0 []) (by show (1 : Int) ≠ 8; omega) rfl
     have hpl1 : Plain1 (⟨some ⟨b477, 0, none⟩, 1, [(.mk (8, 0) (some ⟨b475, 0, none⟩) 2 2 [(.mk (9, 1) (some ⟨b472, 0, none⟩) 1 1 [(.mk (1, 0) none 0 0 [])]), (.mk (1, 4) none 0 0 [])])]⟩ : LP) (.mk (9, 1) (some ⟨b472, 0, none⟩) 1 1 [(.mk (1, 0) none 0 0 [])]) (.mk (9, 1) none 1 0 [(.mk (1, 0) none 0 0 [])]) := plain_one _ (.mk (9, 1) (some ⟨b472, 0, none⟩) 1 1 [(.mk (1, 0) none 0 0 [])]) _ _ (by show (9 : Int) ≠ 8; omega) rfl hpl0
     have hpl2 : Plain1 (⟨some ⟨b477, 0, none⟩, 1, [(.mk (8, 0) (some ⟨b475, 0, none⟩) 2 2 [(.mk (9, 1) (some ⟨b472, 0, none⟩) 1 1 [(.mk (1, 0) none 0 0 [])]), (.mk (1, 4) none 0 0 [])])]⟩ : LP) (.mk (8, 0) (some ⟨b475, 0, none⟩) 2 2 [(.mk (9, 1) (some ⟨b472, 0, none⟩) 1 1 [(.mk (1, 0) none 0 0 [])]), (.mk (1, 4) none 0 0 [])]) (.mk (9, 1) none 1 0 [(.mk (1, 0) none 0 0 [])]) := plain_handle _ (.mk (8, 0) (some ⟨b475, 0, none⟩) 2 2 [(.mk (9, 1) (some ⟨b472, 0, none⟩) 1 1 [(.mk (1, 0) none 0 0 [])]), (.mk (1, 4) none 0 0 [])]) _ (.mk (9, 1) (some ⟨b472, 0, none⟩) 1 1 [(.mk (1, 0) none 0 0 [])]) [(.mk (1, 4) none 0 0 [])] 5 [(.mk (9, 1) (some ⟨b472, 0, none⟩) 1 1 [(.mk (1, 0) none 0 0 [])]), (.mk (1, 0) none 0 0 [])] (List.replicate 6 false) rfl rfl hwf485.1 hwf485.2.2 ((hwf485.1 _ (List.mem_cons_self ..)).kid (List.mem_cons_self ..)) (by kernel_rfl) (by kernel_rfl) hpl1
     refine S.one (by kernel_rfl) (S.call (dst := some 164) (f := 31) (args := #[.slice (some ⟨b477, 0, none⟩) 1 1]) (by kernel_rfl) (by kernel_rfl) ((Plain_spec (⟨some ⟨b477, 0, none⟩, 1, [(.mk (8, 0) (some ⟨b475, 0, none⟩) 2 2 [(.mk (9, 1) (some ⟨b472, 0, none⟩) 1 1 [(.mk (1, 0) none 0 0 [])]), (.mk (1, 4) none 0 0 [])])]⟩ : LP) (.mk (8, 0) (some ⟨b475, 0, none⟩) 2 2 [(.mk (9, 1) (some ⟨b472, 0, none⟩) 1 1 [(.mk (1, 0) none 0 0 [])]), (.mk (1, 4) none 0 0 [])]) (.mk (9, 1) none 1 0 [(.mk (1, 0) none 0 0 [])]) w477.heap.size _ hp485 (Nat.le_refl _) rfl hfi485 hpl2).mono ?_))
     rintro _ w485 ⟨E485, q, hq, rfl, hqe, hql⟩
     refine After.ret (by kernel_rfl) ?_
     have sE485 := E485.size
     refine S.run 5 [] [2, 7, 9, 13, 14, 15] (rs := []) (κ' := [(2, iV 0), (7, iV 0), (9, iV 0), (13, pT b413), (14, .slice oa rows.length oc), (15, .slice q.a q.xs.length q.cap)]) (by kernel_rfl) (by kernel_rfl) rfl ?_
     refine S.regEnd (by kernel_rfl) (S.seq (S.region ?_))
     have B486 := B455.ext0 E456
     have B487 := B486.ext0 E457
     have B488 := B487.ext0 E458
     have B489 := B488.ext0 E459
     have B490 := B489.ext0 E460
     have B491 := B490.ext0 E461
     have B492 := B491.ext0 E462
     have B493 := B492.ext0 E470
     have B494 := B493.ext0 E471
     have B495 := B494.ext0 E472
     have B496 := B495.ext0 E473
     have B497 := B496.ext0 E474
     have B498 := B497.ext0 E475
     have B499 := B498.ext0 E476
     have B500 := B499.ext0 E477
     have B501 := B500.ext0 E485
     refine S.run 16 [.v (iV r415.fin)] [13, 14, 15, 182] (rs := [.load ⟨b413, 0, none⟩ (iV r415.fin)]) (κ' := [(13, pT b413), (14, .slice oa rows.length oc), (15, .slice q.a q.xs.length q.cap), (182, .bool (r415.fin == 1))]) (by kernel_rfl) (by kernel_rfl) (.load (B501.cell 0 rfl) .nil) ?_
     refine S.subst 182 (.bool (r415.fin == 1)) (.bool true) (by kernel_rfl) (congrArg Value.bool (by rw [lf415]; rfl)) ?_
     refine S.run 5 [.v (iV r415.val)] [13, 14, 15, 187] (rs := [.load ⟨b413, 1, none⟩ (iV r415.val)]) (κ' := [(13, pT b413), (14, .slice oa rows.length oc), (15, .slice q.a q.xs.length q.cap), (187, .bool (r415.val == 2))]) (by kernel_rfl) (by kernel_rfl) (.load (B501.cell 1 rfl) .nil) ?_
     refine S.subst 187 (.bool (r415.val == 2)) (.bool true) (by kernel_rfl) (congrArg Value.bool (by rw [lv415]; rfl)) ?_
     refine S.run 6 [.v (.slice r415.a r415.les.length r415.cap)] [13, 14, 15, 193] (rs := [.load ⟨b413, 2, none⟩ (.slice r415.a r415.les.length r415.cap)]) (κ' := [(13, pT b413), (14, .slice oa rows.length oc), (15, .slice q.a q.xs.length q.cap), (193, .bool (((r415.les.length : Nat) : Int) == 3))]) (by kernel_rfl) (by kernel_rfl) (.load (B501.cell 2 rfl) .nil) ?_
     refine S.subst 193 (.bool (((r415.les.length : Nat) : Int) == 3)) (.bool true) (by kernel_rfl) (congrArg Value.bool (by rw [ll415]; rfl)) ?_
     refine S.run 2 [.v (.slice r415.a r415.les.length r415.cap)] [13, 14, 15, 193, 195] (rs := [.load ⟨b413, 2, none⟩ (.slice r415.a r415.les.length r415.cap)]) (κ' := [(13, pT b413), (14, .slice oa rows.length oc), (15, .slice q.a q.xs.length q.cap), (193, .bool true), (195, .slice r415.a r415.les.length r415.cap)]) (by kernel_rfl) (by kernel_rfl) (.load (B501.cell 2 rfl) .nil) ?_
     have R502 := hr415.1.pres (.ofE E455 B454 (by decide))
     have R503 := R502.pres (.of0 E456)
     have R504 := R503.pres (.of0 E457)
     have R505 := R504.pres (.of0 E458)
     have R506 := R505.pres (.of0 E459)
     have R507 := R506.pres (.of0 E460)
     have R508 := R507.pres (.of0 E461)
     have R509 := R508.pres (.of0 E462)
     have R510 := R509.pres (.of0 E470)
     have R511 := R510.pres (.of0 E471)
     have R512 := R511.pres (.of0 E472)
     have R513 := R512.pres (.of0 E473)
     have R514 := R513.pres (.of0 E474)
     have R515 := R514.pres (.of0 E475)
     have R516 := R515.pres (.of0 E476)
     have R517 := R516.pres (.of0 E477)
     have R518 := R517.pres (.of0 E485)
     obtain ⟨x519, b519, o519, hx519, h519, H519⟩ := R518.get 1 (by omega)
     refine S.one (by kernel_rfl) (S.law 196 (v := .pointer (some ⟨b519, o519 + 1 * 5, none⟩)) (Instr.indexAt 27 (.slice r415.a r415.les.length r415.cap) (.int .i64 ((1 : Nat) : Int))) (by kernel_rfl) (by kernel_rfl) (by kernel_rfl) (run_idx (e := 43) 1 h519 (by kernel_rfl) (by kernel_rfl) (by omega)) ?_)
     refine S.run 5 [.v (iV x519.deed)] [13, 14, 15, 201] (rs := [.load ⟨b519, o519 + 1 * 5, none⟩ (iV x519.deed)]) (κ' := [(13, pT b413), (14, .slice oa rows.length oc), (15, .slice q.a q.xs.length q.cap), (201, .bool (x519.deed == 5))]) (by kernel_rfl) (by kernel_rfl) (.load (H519.cell0 rfl) .nil) ?_
     refine S.subst 201 (.bool (x519.deed == 5)) (.bool true) (by kernel_rfl) (congrArg Value.bool (by have h9 := congrArg (Option.map Ev.deed) (ev_at le415 hx519); have h9 : (5 : Int) = x519.deed := Option.some.inj h9; rw [← h9]; rfl)) ?_
     refine S.run 2 [.v (.slice r415.a r415.les.length r415.cap)] [14, 15, 201, 203] (rs := [.load ⟨b413, 2, none⟩ (.slice r415.a r415.les.length r415.cap)]) (κ' := [(14, .slice oa rows.length oc), (15, .slice q.a q.xs.length q.cap), (201, .bool true), (203, .slice r415.a r415.les.length r415.cap)]) (by kernel_rfl) (by kernel_rfl) (.load (B501.cell 2 rfl) .nil) ?_
     obtain ⟨x520, b520, o520, hx520, h520, H520⟩ := R518.get 2 (by omega)
     refine S.one (by kernel_rfl) (S.law 204 (v := .pointer (some ⟨b520, o520 + 2 * 5, none⟩)) (Instr.indexAt 27 (.slice r415.a r415.les.length r415.cap) (.int .i64 ((2 : Nat) : Int))) (by kernel_rfl) (by kernel_rfl) (by kernel_rfl) (run_idx (e := 43) 2 h520 (by kernel_rfl) (by kernel_rfl) (by omega)) ?_)
     refine S.run 5 [.v (iV x520.val)] [14, 15, 209] (rs := [.load ⟨b520, o520 + 2 * 5 + 2, none⟩ (iV x520.val)]) (κ' := [(14, .slice oa rows.length oc), (15, .slice q.a q.xs.length q.cap), (209, .bool (x520.val == 9))]) (by kernel_rfl) (by kernel_rfl) (.load (H520.cell 2 rfl) .nil) ?_
     refine S.subst 209 (.bool (x520.val == 9)) (.bool true) (by kernel_rfl) (congrArg Value.bool (by have h9 := congrArg (Option.map Ev.val) (ev_at le415 hx520); have h9 : (9 : Int) = x520.val := Option.some.inj h9; rw [← h9]; rfl)) ?_
     refine S.run 1 [] [15, 209, 210] (rs := []) (κ' := [(15, .slice q.a q.xs.length q.cap), (209, .bool true), (210, .slice oa rows.length oc)]) (by kernel_rfl) (by kernel_rfl) rfl ?_
     refine S.one (by kernel_rfl) (S.new 211 [iV 3] 3 (fun b => .slice (some ⟨b, 0, none⟩) 1 1) (by kernel_rfl) (by kernel_rfl) (fun b => by kernel_rfl) (fun b521 w521 E521 B521 e521 z521 => ?_))
     have sE521 := E521.size
     refine S.one (by kernel_rfl) (S.new 212 [iV 3] 3 (fun b => .slice (some ⟨b, 0, none⟩) 1 1) (by kernel_rfl) (by kernel_rfl) (fun b => by kernel_rfl) (fun b522 w522 E522 B522 e522 z522 => ?_))
     have sE522 := E522.size
     refine S.one (by kernel_rfl) (S.new 213 [.slice (some ⟨b521, 0, none⟩) 1 1, .slice (some ⟨b522, 0, none⟩) 1 1] 23 (fun b => .slice (some ⟨b, 0, none⟩) 2 2) (by kernel_rfl) (by kernel_rfl) (fun b => by kernel_rfl) (fun b523 w523 E523 B523 e523 z523 => ?_))
     have sE523 := E523.size
     have B525 := B521.ext0 E522
     have B526 := B525.ext0 E523
     have B527 := B522.ext0 E523
     have R528 := hrow.pres (.of0 E471)
     have R529 := R528.pres (.of0 E472)
     have R530 := R529.pres (.of0 E473)
     have R531 := R530.pres (.of0 E474)
     have R532 := R531.pres (.of0 E475)
     have R533 := R532.pres (.of0 E476)
     have R534 := R533.pres (.of0 E477)
     have R535 := R534.pres (.of0 E485)
     have R536 := R535.pres (.of0 E521)
     have R537 := R536.pres (.of0 E522)
     have R538 := R537.pres (.of0 E523)
     have T539 := hro.pres (.of0 E471)
     have T540 := T539.pres (.of0 E472)
     have T541 := T540.pres (.of0 E473)
     have T542 := T541.pres (.of0 E474)
     have T543 := T542.pres (.of0 E475)
     have T544 := T543.pres (.of0 E476)
     have T545 := T544.pres (.of0 E477)
     have T546 := T545.pres (.of0 E485)
     have T547 := T546.pres (.of0 E521)
     have T548 := T547.pres (.of0 E522)
     have T549 := T548.pres (.of0 E523)
     have hY524 : RowsOk w523.heap.size w523 [(⟨some ⟨b521, 0, none⟩, 1, [3]⟩ : LS), (⟨some ⟨b522, 0, none⟩, 1, [3]⟩ : LS)] := (List.forall_mem_cons.2 ⟨⟨Row.ofBlk (cs := intCs) (xs := [3]) B526 (fun _ => rfl) B526.lt, by show 1 ≤ _; omega⟩, (List.forall_mem_cons.2 ⟨⟨Row.ofBlk (cs := intCs) (xs := [3]) B527 (fun _ => rfl) B527.lt, by show 1 ≤ _; omega⟩, (fun _ h => by cases h)⟩)⟩)
     have hse524 := SameLists_spec _ _ _ _ oa (some ⟨b523, 0, none⟩) oc 2 rows [(⟨some ⟨b521, 0, none⟩, 1, [3]⟩ : LS), (⟨some ⟨b522, 0, none⟩, 1, [3]⟩ : LS)] _ R538 (Row.ofBlk (cs := lsCs) (xs := [(⟨some ⟨b521, 0, none⟩, 1, [3]⟩ : LS), (⟨some ⟨b522, 0, none⟩, 1, [3]⟩ : LS)]) B523 (fun _ => rfl) B523.lt) T549 hY524 (by omega) (by show 2 ≤ _; omega)
     refine S.one (by kernel_rfl) (S.call (dst := some 214) (f := 32) (args := #[.slice oa rows.length oc, .slice (some ⟨b523, 0, none⟩) 2 2]) (by kernel_rfl) (by kernel_rfl) (hse524.mono ?_))
     rintro _ w524 ⟨E524, rfl⟩
     refine After.ret (by kernel_rfl) ?_
     have sE524 := E524.size
     refine S.subst 214 (.bool (rows.map LS.xs == [(⟨some ⟨b521, 0, none⟩, 1, [3]⟩ : LS), (⟨some ⟨b522, 0, none⟩, 1, [3]⟩ : LS)].map LS.xs)) (.bool true) (by kernel_rfl) (congrArg Value.bool (by rw [hrs2]; rfl)) ?_
     refine S.run 3 [] [216, 217] (rs := []) (κ' := [(216, .bool true), (217, .slice q.a q.xs.length q.cap)]) (by kernel_rfl) (by kernel_rfl) rfl ?_
     refine S.one (by kernel_rfl) (S.call (dst := some 218) (f := 29) (args := #[iV 0]) (by kernel_rfl) (by kernel_rfl) ((Num_spec _ _).mono ?_))
     rintro _ w550 ⟨E550, rfl⟩
     refine After.ret (by kernel_rfl) ?_
     have sE550 := E550.size
     refine S.one (by kernel_rfl) (S.new 219 [iV 1, iV 0, .slice none 0 0] 60 (fun b => .slice (some ⟨b, 0, none⟩) 1 1) (by kernel_rfl) (by kernel_rfl) (fun b => by kernel_rfl) (fun b551 w551 E551 B551 e551 z551 => ?_))
     have sE551 := E551.size
     refine S.one (by kernel_rfl) (S.call (dst := some 220) (f := 28) (args := #[iV 9, iV 1, .slice (some ⟨b551, 0, none⟩) 1 1]) (by kernel_rfl) (by kernel_rfl) ((Of_spec _ _ _ _ _ _).mono ?_))
     rintro _ w552 ⟨E552, rfl⟩
     refine After.ret (by kernel_rfl) ?_
     have sE552 := E552.size
     refine S.one (by kernel_rfl) (S.new 221 [iV 9, iV 1, .slice (some ⟨b551, 0, none⟩) 1 1] 60 (fun b => .slice (some ⟨b, 0, none⟩) 1 1) (by kernel_rfl) (by kernel_rfl) (fun b => by kernel_rfl) (fun b553 w553 E553 B553 e553 z553 => ?_))
     have sE553 := E553.size
     have B554 := B551.ext0 E552
     have B555 := B554.ext0 E553
     have T557 := hq.pres (.of0 E521)
     have T558 := T557.pres (.of0 E522)
     have T559 := T558.pres (.of0 E523)
     have T560 := T559.pres (.of0 E524)
     have T561 := T560.pres (.of0 E550)
     have T562 := T561.pres (.of0 E551)
     have T563 := T562.pres (.of0 E552)
     have T564 := T563.pres (.of0 E553)
     have hse556 := SameProg_spec q (⟨some ⟨b553, 0, none⟩, 1, [(.mk (9, 1) (some ⟨b551, 0, none⟩) 1 1 [(.mk (1, 0) none 0 0 [])])]⟩ : LP) _ w553.heap.size _ T564 (XOk.prog (XOk.ofB (kids := [(.mk (9, 1) (some ⟨b551, 0, none⟩) 1 1 [(.mk (1, 0) none 0 0 [])])]) (k := 1) (0, 0) B553 rfl (by omega) B553.lt (List.forall_mem_cons.2 ⟨(XOk.ofB (kids := [(.mk (1, 0) none 0 0 [])]) (k := 1) (9, 1) B555 rfl (by omega) B555.lt (List.forall_mem_cons.2 ⟨(XOk.nil (1, 0)), (fun _ h => by cases h)⟩)), (fun _ h => by cases h)⟩)))
     refine S.one (by kernel_rfl) (S.call (dst := some 222) (f := 33) (args := #[.slice q.a q.xs.length q.cap, .slice (some ⟨b553, 0, none⟩) 1 1]) (by kernel_rfl) (by kernel_rfl) (hse556.mono ?_))
     rintro _ w556 ⟨E556, rfl⟩
     refine After.ret (by kernel_rfl) ?_
     have sE556 := E556.size
     refine S.subst 222 (.bool (eqX.eqL q.xs (⟨some ⟨b553, 0, none⟩, 1, [(.mk (9, 1) (some ⟨b551, 0, none⟩) 1 1 [(.mk (1, 0) none 0 0 [])])]⟩ : LP).xs)) (.bool true) (by kernel_rfl) (congrArg Value.bool (eqL_trans hqe (by kernel_rfl))) ?_
     refine S.run 2 [] [0] (rs := []) (κ' := [(0, .bool true)]) (by kernel_rfl) (by kernel_rfl) rfl ?_
     exact S.regEnd (by kernel_rfl) (S.ret1 (v := .bool true) rfl (by kernel_rfl) ⟨((((((((((((((((((((((((((((((((((((((((((((((((((((((((((((((((((((((E1.trans E2).trans E3).thenS E4 (by omega)).trans E5).trans E6).trans E7).trans E8).trans E9).trans E10).trans E11).trans E30).trans E49).trans E50).trans E51).thenS E52 (by omega)).trans E53).trans E54).trans E55).trans E60).thenS E61 (by omega)).trans E62).trans E63).trans E64).thenS E65 (by omega)).trans E66).trans E67).trans E68).thenS E69 (by omega)).trans E95).trans E96).trans E97).trans E98).trans E99).trans E100).trans E101).trans E102).trans E103).thenS E104 (by omega)).trans E105).trans E108).trans E110).trans E112).trans E413).trans E414).trans E415).thenS E455 (by omega)).trans E456).trans E457).trans E458).trans E459).trans E460).trans E461).trans E462).trans E470).trans E471).trans E472).trans E473).trans E474).trans E475).trans E476).trans E477).trans E485).trans E521).trans E522).trans E523).trans E524).trans E550).trans E551).trans E552).trans E553).trans E556, rfl⟩)
   ·skip
    show S _ _ _ _ _ (.one _ 9 :: .dreg _ #[true, true, true, false, false, false, false, false, false, true, false, false] _ _ :: _) _ _
    refine S.new 13 [iV 0, iV 0, .slice none 0 0, iV 0] 29 (fun b => pT b) (by kernel_rfl) (by kernel_rfl) (fun b => by kernel_rfl) (fun b565 w565 E565 B565 e565 z565 => ?_)
    have sE565 := E565.size
    refine S.dnext (j := 3) (l' := #[true, true, true, true, false, false, false, false, false, true, false, false]) (by kernel_rfl) (by kernel_rfl) (sw1 (by kernel_rfl) ((E108.trans E110).trans E565)) ?_
    refine S.call (dst := some 140) (f := 28) (args := #[iV 11, iV 1, .slice (some ⟨b110, 0, none⟩) 2 2]) (by kernel_rfl) (by kernel_rfl) ((Of_spec _ _ _ _ _ _).mono ?_)
    rintro _ w566 ⟨E566, rfl⟩
    refine After.ret (by kernel_rfl) ?_
    have sE566 := E566.size
    refine S.dnext (j := 4) (l' := #[true, true, true, true, true, false, false, false, false, true, false, false]) (by kernel_rfl) (by kernel_rfl) (sw1 (by kernel_rfl) (((E108.trans E110).trans E565).trans E566)) ?_
    refine S.new 141 [iV 11, iV 1, .slice (some ⟨b110, 0, none⟩) 2 2] 60 (fun b => .slice (some ⟨b, 0, none⟩) 1 1) (by kernel_rfl) (by kernel_rfl) (fun b => by kernel_rfl) (fun b567 w567 E567 B567 e567 z567 => ?_)
    have sE567 := E567.size
    refine S.dnext (j := 5) (l' := #[true, true, true, true, true, true, false, false, false, true, false, false]) (by kernel_rfl) (by kernel_rfl) (sw1 (by kernel_rfl) ((((E108.trans E110).trans E565).trans E566).trans E567)) ?_
    have B569 := B110.ext0 E565
    have B570 := B569.ext0 E566
    have B571 := B570.ext0 E567
    have B572 := B101.ext0 E102
    have B573 := B572.ext0 E103
    have B574 := B573.extS E104 (by omega)
    have B575 := B574.ext0 E105
    have B576 := B575.ext0 E108
    have B577 := B576.ext0 E110
    have B578 := B577.ext0 E565
    have B579 := B578.ext0 E566
    have B580 := B579.ext0 E567
    have B581 := B96.ext0 E97
    have B582 := B581.ext0 E98
    have B583 := B582.ext0 E99
    have B584 := B583.ext0 E100
    have B585 := B584.ext0 E101
    have B586 := B585.ext0 E102
    have B587 := B586.ext0 E103
    have B588 := B587.extS E104 (by omega)
    have B589 := B588.ext0 E105
    have B590 := B589.ext0 E108
    have B591 := B590.ext0 E110
    have B592 := B591.ext0 E565
    have B593 := B592.ext0 E566
    have B594 := B593.ext0 E567
    have B595 := B99.ext0 E100
    have B596 := B595.ext0 E101
    have B597 := B596.ext0 E102
    have B598 := B597.ext0 E103
    have B599 := B598.extS E104 (by omega)
    have B600 := B599.ext0 E105
    have B601 := B600.ext0 E108
    have B602 := B601.ext0 E110
    have B603 := B602.ext0 E565
    have B604 := B603.ext0 E566
    have B605 := B604.ext0 E567
    refine S.call (dst := some 142) (f := 4) (args := #[.slice (some ⟨b567, 0, none⟩) 1 1, iV 0, iV 99]) (by kernel_rfl) (by kernel_rfl) ((Run_spec w567.heap.size (⟨some ⟨b567, 0, none⟩, 1, [(.mk (11, 1) (some ⟨b110, 0, none⟩) 2 2 [(.mk (15, 0) (some ⟨b101, 0, none⟩) 2 2 [(.mk (13, 1) (some ⟨b96, 0, none⟩) 1 1 [(.mk (1, 2) none 0 0 [])]), (.mk (4, 0) (some ⟨b99, 0, none⟩) 1 1 [(.mk (1, 9) none 0 0 [])])]), (.mk (2, 0) none 0 0 [])])]⟩ : LP) 0 99 _ (XOk.prog (XOk.ofB (kids := [(.mk (11, 1) (some ⟨b110, 0, none⟩) 2 2 [(.mk (15, 0) (some ⟨b101, 0, none⟩) 2 2 [(.mk (13, 1) (some ⟨b96, 0, none⟩) 1 1 [(.mk (1, 2) none 0 0 [])]), (.mk (4, 0) (some ⟨b99, 0, none⟩) 1 1 [(.mk (1, 9) none 0 0 [])])]), (.mk (2, 0) none 0 0 [])])]) (k := 1) (0, 0) B567 rfl (by omega) B567.lt (List.forall_mem_cons.2 ⟨(XOk.ofB (kids := [(.mk (15, 0) (some ⟨b101, 0, none⟩) 2 2 [(.mk (13, 1) (some ⟨b96, 0, none⟩) 1 1 [(.mk (1, 2) none 0 0 [])]), (.mk (4, 0) (some ⟨b99, 0, none⟩) 1 1 [(.mk (1, 9) none 0 0 [])])]), (.mk (2, 0) none 0 0 [])]) (k := 2) (11, 1) B571 rfl (by omega) B571.lt (List.forall_mem_cons.2 ⟨(XOk.ofB (kids := [(.mk (13, 1) (some ⟨b96, 0, none⟩) 1 1 [(.mk (1, 2) none 0 0 [])]), (.mk (4, 0) (some ⟨b99, 0, none⟩) 1 1 [(.mk (1, 9) none 0 0 [])])]) (k := 2) (15, 0) B580 rfl (by omega) B580.lt (List.forall_mem_cons.2 ⟨(XOk.ofB (kids := [(.mk (1, 2) none 0 0 [])]) (k := 1) (13, 1) B594 rfl (by omega) B594.lt (List.forall_mem_cons.2 ⟨(XOk.nil (1, 2)), (fun _ h => by cases h)⟩)), (List.forall_mem_cons.2 ⟨(XOk.ofB (kids := [(.mk (1, 9) none 0 0 [])]) (k := 1) (4, 0) B605 rfl (by omega) B605.lt (List.forall_mem_cons.2 ⟨(XOk.nil (1, 9)), (fun _ h => by cases h)⟩)), (fun _ h => by cases h)⟩)⟩)), (List.forall_mem_cons.2 ⟨(XOk.nil (2, 0)), (fun _ h => by cases h)⟩)⟩)), (fun _ h => by cases h)⟩))) (Nat.le_refl _)).mono ?_)
    rintro _ w568 ⟨E568, ⟨hok568, r568, rfl, hr568, his568⟩ | ⟨hok568, rfl⟩⟩
    case inr => exact absurd hok568 (by rw [show okD (⟨some ⟨b567, 0, none⟩, 1, [(.mk (11, 1) (some ⟨b110, 0, none⟩) 2 2 [(.mk (15, 0) (some ⟨b101, 0, none⟩) 2 2 [(.mk (13, 1) (some ⟨b96, 0, none⟩) 1 1 [(.mk (1, 2) none 0 0 [])]), (.mk (4, 0) (some ⟨b99, 0, none⟩) 1 1 [(.mk (1, 9) none 0 0 [])])]), (.mk (2, 0) none 0 0 [])])]⟩ : LP).xs 0 [] 99 = true from by kernel_rfl]; simp)
    have to568 := LRun.to his568 (t := ⟨1, 2, [⟨4, 1, 2, [], [1]⟩, ⟨5, 0, 0, [], [1]⟩, ⟨1, 0, 9, [], [1]⟩], 92⟩) (by kernel_rfl)
    have lf568 : r568.fin = 1 := to568.1; have lv568 : r568.val = 2 := to568.2.1; have le568 : r568.les.map LE.ev = [⟨4, 1, 2, [], [1]⟩, ⟨5, 0, 0, [], [1]⟩, ⟨1, 0, 9, [], [1]⟩] := to568.2.2.1; have lu568 : r568.fuel = 92 := to568.2.2.2.1; have ll568 : r568.les.length = 3 := to568.2.2.2.2; have lb568 := hr568.2.2
    refine After.ret (by kernel_rfl) ?_
    have sE568 := E568.size
    refine S.dreads bodyPost_panicOk [6, 7, 8] 2 [] [13, 143, 144] (rs := []) (κ' := [(13, pT b565), (143, .agg #[iV r568.fin, iV r568.val, .slice r568.a r568.les.length r568.cap, iV r568.fuel]), (144, iV 0)]) (l' := #[true, true, true, true, true, true, true, true, true, true, false, false]) (by kernel_rfl) (by kernel_rfl) (by kernel_rfl) (fun _ _ => rfl) ?_
    refine S.dnext (j := 10) (l' := #[true, true, true, true, true, true, true, true, true, true, true, false]) (by kernel_rfl) (by kernel_rfl) (sw1 (by kernel_rfl) (((((E108.trans E110).trans E565).trans E566).trans E567).trans E568)) ?_
    have B606 := B565.ext0 E566
    have B607 := B606.ext0 E567
    have B608 := B607.ext0 E568
    refine S.store 0 [iV r568.fin, iV r568.val, .slice r568.a r568.les.length r568.cap, iV r568.fuel] [iV r568.fin, iV r568.val, .slice r568.a r568.les.length r568.cap, iV r568.fuel] B608 (by kernel_rfl) (by kernel_rfl) (by kernel_rfl) (by kernel_rfl) (by kernel_rfl) (fun w609 E609 B609 z609 => ?_)
    have sE609 := E609.size
    refine S.dreads bodyPost_panicOk [11] 0 [] [2, 13] (rs := []) (κ' := [(2, iV 0), (13, pT b565)]) (l' := #[true, true, true, true, true, true, true, true, true, true, true, true]) (by kernel_rfl) (by kernel_rfl) (by kernel_rfl) (fun _ _ => rfl) ?_
    refine S.dend (by kernel_rfl) (sw1 (by kernel_rfl) ((((((E108.trans E110).trans E565).trans E566).trans E567).trans E568).thenS E609 (by omega))) ?_
    refine S.seq (S.region (S.one (by kernel_rfl) (S.call (dst := some 146) (f := 29) (args := #[iV 0]) (by kernel_rfl) (by kernel_rfl) ((Num_spec _ _).mono ?_))))
    rintro _ w610 ⟨E610, rfl⟩
    refine After.ret (by kernel_rfl) ?_
    have sE610 := E610.size
    refine S.one (by kernel_rfl) (S.new 147 [iV 1, iV 0, .slice none 0 0] 60 (fun b => .slice (some ⟨b, 0, none⟩) 1 1) (by kernel_rfl) (by kernel_rfl) (fun b => by kernel_rfl) (fun b611 w611 E611 B611 e611 z611 => ?_))
    have sE611 := E611.size
    refine S.one (by kernel_rfl) (S.call (dst := some 148) (f := 28) (args := #[iV 7, iV 1, .slice (some ⟨b611, 0, none⟩) 1 1]) (by kernel_rfl) (by kernel_rfl) ((Of_spec _ _ _ _ _ _).mono ?_))
    rintro _ w612 ⟨E612, rfl⟩
    refine After.ret (by kernel_rfl) ?_
    have sE612 := E612.size
    refine S.one (by kernel_rfl) (S.call (dst := some 149) (f := 29) (args := #[iV 0]) (by kernel_rfl) (by kernel_rfl) ((Num_spec _ _).mono ?_))
    rintro _ w613 ⟨E613, rfl⟩
    refine After.ret (by kernel_rfl) ?_
    have sE613 := E613.size
    refine S.one (by kernel_rfl) (S.new 150 [iV 1, iV 0, .slice none 0 0] 60 (fun b => .slice (some ⟨b, 0, none⟩) 1 1) (by kernel_rfl) (by kernel_rfl) (fun b => by kernel_rfl) (fun b614 w614 E614 B614 e614 z614 => ?_))
    have sE614 := E614.size
    refine S.one (by kernel_rfl) (S.call (dst := some 151) (f := 28) (args := #[iV 10, iV 3, .slice (some ⟨b614, 0, none⟩) 1 1]) (by kernel_rfl) (by kernel_rfl) ((Of_spec _ _ _ _ _ _).mono ?_))
    rintro _ w615 ⟨E615, rfl⟩
    refine After.ret (by kernel_rfl) ?_
    have sE615 := E615.size
    refine S.one (by kernel_rfl) (S.new 152 [iV 7, iV 1, .slice (some ⟨b611, 0, none⟩) 1 1, iV 10, iV 3, .slice (some ⟨b614, 0, none⟩) 1 1] 60 (fun b => .slice (some ⟨b, 0, none⟩) 2 2) (by kernel_rfl) (by kernel_rfl) (fun b => by kernel_rfl) (fun b616 w616 E616 B616 e616 z616 => ?_))
    have sE616 := E616.size
    have B617 := B611.ext0 E612
    have B618 := B617.ext0 E613
    have B619 := B618.ext0 E614
    have B620 := B619.ext0 E615
    have B621 := B620.ext0 E616
    have B622 := B614.ext0 E615
    have B623 := B622.ext0 E616
    have hp624 : (⟨some ⟨b616, 0, none⟩, 2, [(.mk (7, 1) (some ⟨b611, 0, none⟩) 1 1 [(.mk (1, 0) none 0 0 [])]), (.mk (10, 3) (some ⟨b614, 0, none⟩) 1 1 [(.mk (1, 0) none 0 0 [])])]⟩ : LP).ok w616.heap.size w616 := (XOk.prog (XOk.ofB (kids := [(.mk (7, 1) (some ⟨b611, 0, none⟩) 1 1 [(.mk (1, 0) none 0 0 [])]), (.mk (10, 3) (some ⟨b614, 0, none⟩) 1 1 [(.mk (1, 0) none 0 0 [])])]) (k := 2) (0, 0) B616 rfl (by omega) B616.lt (List.forall_mem_cons.2 ⟨(XOk.ofB (kids := [(.mk (1, 0) none 0 0 [])]) (k := 1) (7, 1) B621 rfl (by omega) B621.lt (List.forall_mem_cons.2 ⟨(XOk.nil (1, 0)), (fun _ h => by cases h)⟩)), (List.forall_mem_cons.2 ⟨(XOk.ofB (kids := [(.mk (1, 0) none 0 0 [])]) (k := 1) (10, 3) B623 rfl (by omega) B623.lt (List.forall_mem_cons.2 ⟨(XOk.nil (1, 0)), (fun _ h => by cases h)⟩)), (fun _ h => by cases h)⟩)⟩)))
    have hv624a : visit (⟨some ⟨b616, 0, none⟩, 2, [(.mk (7, 1) (some ⟨b611, 0, none⟩) 1 1 [(.mk (1, 0) none 0 0 [])]), (.mk (10, 3) (some ⟨b614, 0, none⟩) 1 1 [(.mk (1, 0) none 0 0 [])])]⟩ : LP).xs 5 (.mk (7, 1) (some ⟨b611, 0, none⟩) 1 1 [(.mk (1, 0) none 0 0 [])]) (List.replicate 6 false) = some ([(.mk (7, 1) (some ⟨b611, 0, none⟩) 1 1 [(.mk (1, 0) none 0 0 [])]), (.mk (1, 0) none 0 0 []), (.mk (10, 3) (some ⟨b614, 0, none⟩) 1 1 [(.mk (1, 0) none 0 0 [])]), (.mk (1, 0) none 0 0 [])], [false, true, false, false, false, false]) := by kernel_rfl
    have hv624b : visit (⟨some ⟨b616, 0, none⟩, 2, [(.mk (7, 1) (some ⟨b611, 0, none⟩) 1 1 [(.mk (1, 0) none 0 0 [])]), (.mk (10, 3) (some ⟨b614, 0, none⟩) 1 1 [(.mk (1, 0) none 0 0 [])])]⟩ : LP).xs 5 (.mk (10, 3) (some ⟨b614, 0, none⟩) 1 1 [(.mk (1, 0) none 0 0 [])]) (List.replicate 6 false) = some ([(.mk (10, 3) (some ⟨b614, 0, none⟩) 1 1 [(.mk (1, 0) none 0 0 [])]), (.mk (1, 0) none 0 0 [])], (List.replicate 6 false)) := by kernel_rfl
    refine S.one (by kernel_rfl) (S.call (dst := some 153) (f := 6) (args := #[.slice (some ⟨b616, 0, none⟩) 2 2]) (by kernel_rfl) (by kernel_rfl) ((Errors_spec (⟨some ⟨b616, 0, none⟩, 2, [(.mk (7, 1) (some ⟨b611, 0, none⟩) 1 1 [(.mk (1, 0) none 0 0 [])]), (.mk (10, 3) (some ⟨b614, 0, none⟩) 1 1 [(.mk (1, 0) none 0 0 [])])]⟩ : LP) w616.heap.size 5 _ hp624 (Nat.le_refl _) (fun _ => List.forall_mem_cons.2 ⟨⟨_, _, hv624a, by show 4 ≤ 1000; omega⟩, List.forall_mem_cons.2 ⟨⟨_, _, hv624b, by show 2 ≤ 1000; omega⟩, fun _ h => by cases h⟩⟩)).mono ?_))
    rintro _ w624 ⟨E624, ⟨hfi, rows, oa, oc, rfl, hrow, hro, hrs⟩ | ⟨hfi, rfl⟩⟩
    case inr => exact absurd hfi (by rw [show fineS (⟨some ⟨b616, 0, none⟩, 2, [(.mk (7, 1) (some ⟨b611, 0, none⟩) 1 1 [(.mk (1, 0) none 0 0 [])]), (.mk (10, 3) (some ⟨b614, 0, none⟩) 1 1 [(.mk (1, 0) none 0 0 [])])]⟩ : LP).xs = true from by kernel_rfl]; simp)
    have hrs2 : rows.map LS.xs = [[3], [3]] := by rw [hrs]; show [errS _ 5 _, errS _ 5 _] = _; rw [errS_eq hv624a, errS_eq hv624b]; rw [show errl [(.mk (7, 1) (some ⟨b611, 0, none⟩) 1 1 [(.mk (1, 0) none 0 0 [])]), (.mk (1, 0) none 0 0 []), (.mk (10, 3) (some ⟨b614, 0, none⟩) 1 1 [(.mk (1, 0) none 0 0 [])]), (.mk (1, 0) none 0 0 [])] = [3] from by kernel_rfl, show errl [(.mk (10, 3) (some ⟨b614, 0, none⟩) 1 1 [(.mk (1, 0) none 0 0 [])]), (.mk (1, 0) none 0 0 [])] = [3] from by kernel_rfl, List.mergeSort_singleton]; rfl
    have hrl : rows.length = 2 := by have := congrArg List.length hrs2; simpa using this
    refine After.ret (by kernel_rfl) ?_
    have sE624 := E624.size
    refine S.run 5 [] [2, 7, 13, 14] (rs := []) (κ' := [(2, iV 0), (7, iV 0), (13, pT b565), (14, .slice oa rows.length oc)]) (by kernel_rfl) (by kernel_rfl) rfl ?_
    refine S.regEnd (by kernel_rfl) (S.seq (S.region (S.one (by kernel_rfl) (S.call (dst := some 157) (f := 29) (args := #[iV 0]) (by kernel_rfl) (by kernel_rfl) ((Num_spec _ _).mono ?_)))))
    rintro _ w625 ⟨E625, rfl⟩
    refine After.ret (by kernel_rfl) ?_
    have sE625 := E625.size
    refine S.one (by kernel_rfl) (S.new 158 [iV 1, iV 0, .slice none 0 0] 60 (fun b => .slice (some ⟨b, 0, none⟩) 1 1) (by kernel_rfl) (by kernel_rfl) (fun b => by kernel_rfl) (fun b626 w626 E626 B626 e626 z626 => ?_))
    have sE626 := E626.size
    refine S.one (by kernel_rfl) (S.call (dst := some 159) (f := 28) (args := #[iV 9, iV 1, .slice (some ⟨b626, 0, none⟩) 1 1]) (by kernel_rfl) (by kernel_rfl) ((Of_spec _ _ _ _ _ _).mono ?_))
    rintro _ w627 ⟨E627, rfl⟩
    refine After.ret (by kernel_rfl) ?_
    have sE627 := E627.size
    refine S.one (by kernel_rfl) (S.call (dst := some 160) (f := 29) (args := #[iV 4]) (by kernel_rfl) (by kernel_rfl) ((Num_spec _ _).mono ?_))
    rintro _ w628 ⟨E628, rfl⟩
    refine After.ret (by kernel_rfl) ?_
    have sE628 := E628.size
    refine S.one (by kernel_rfl) (S.new 161 [iV 9, iV 1, .slice (some ⟨b626, 0, none⟩) 1 1, iV 1, iV 4, .slice none 0 0] 60 (fun b => .slice (some ⟨b, 0, none⟩) 2 2) (by kernel_rfl) (by kernel_rfl) (fun b => by kernel_rfl) (fun b629 w629 E629 B629 e629 z629 => ?_))
    have sE629 := E629.size
    refine S.one (by kernel_rfl) (S.call (dst := some 162) (f := 28) (args := #[iV 8, iV 0, .slice (some ⟨b629, 0, none⟩) 2 2]) (by kernel_rfl) (by kernel_rfl) ((Of_spec _ _ _ _ _ _).mono ?_))
    rintro _ w630 ⟨E630, rfl⟩
    refine After.ret (by kernel_rfl) ?_
    have sE630 := E630.size
    refine S.one (by kernel_rfl) (S.new 163 [iV 8, iV 0, .slice (some ⟨b629, 0, none⟩) 2 2] 60 (fun b => .slice (some ⟨b, 0, none⟩) 1 1) (by kernel_rfl) (by kernel_rfl) (fun b => by kernel_rfl) (fun b631 w631 E631 B631 e631 z631 => ?_))
    have sE631 := E631.size
    have B632 := B629.ext0 E630
    have B633 := B632.ext0 E631
    have B634 := B626.ext0 E627
    have B635 := B634.ext0 E628
    have B636 := B635.ext0 E629
    have B637 := B636.ext0 E630
    have B638 := B637.ext0 E631
    have hp639 : (⟨some ⟨b631, 0, none⟩, 1, [(.mk (8, 0) (some ⟨b629, 0, none⟩) 2 2 [(.mk (9, 1) (some ⟨b626, 0, none⟩) 1 1 [(.mk (1, 0) none 0 0 [])]), (.mk (1, 4) none 0 0 [])])]⟩ : LP).ok w631.heap.size w631 := (XOk.prog (XOk.ofB (kids := [(.mk (8, 0) (some ⟨b629, 0, none⟩) 2 2 [(.mk (9, 1) (some ⟨b626, 0, none⟩) 1 1 [(.mk (1, 0) none 0 0 [])]), (.mk (1, 4) none 0 0 [])])]) (k := 1) (0, 0) B631 rfl (by omega) B631.lt (List.forall_mem_cons.2 ⟨(XOk.ofB (kids := [(.mk (9, 1) (some ⟨b626, 0, none⟩) 1 1 [(.mk (1, 0) none 0 0 [])]), (.mk (1, 4) none 0 0 [])]) (k := 2) (8, 0) B633 rfl (by omega) B633.lt (List.forall_mem_cons.2 ⟨(XOk.ofB (kids := [(.mk (1, 0) none 0 0 [])]) (k := 1) (9, 1) B638 rfl (by omega) B638.lt (List.forall_mem_cons.2 ⟨(XOk.nil (1, 0)), (fun _ h => by cases h)⟩)), (List.forall_mem_cons.2 ⟨(XOk.nil (1, 4)), (fun _ h => by cases h)⟩)⟩)), (fun _ h => by cases h)⟩)))
    have hfi639 : fineS (⟨some ⟨b631, 0, none⟩, 1, [(.mk (8, 0) (some ⟨b629, 0, none⟩) 2 2 [(.mk (9, 1) (some ⟨b626, 0, none⟩) 1 1 [(.mk (1, 0) none 0 0 [])]), (.mk (1, 4) none 0 0 [])])]⟩ : LP).xs = true := by kernel_rfl
    have hwf639 := wf_fine hfi639
    have hpl0 : Plain1 (⟨some ⟨b631, 0, none⟩, 1, [(.mk (8, 0) (some ⟨b629, 0, none⟩) 2 2 [(.mk (9, 1) (some ⟨b626, 0, none⟩) 1 1 [(.mk (1, 0) none 0 0 [])]), (.mk (1, 4) none 0 0 [])])]⟩ : LP) (.mk (1, 0) none 0 0 []) (.mk (1, 0) none 0 0 []) := plain_leaf _ (.mk (1, 0) none 0 0 []) (by show (1 : Int) ≠ 8; omega) rfl
    have hpl1 : Plain1 (⟨some ⟨b631, 0, none⟩, 1, [(.mk (8, 0) (some ⟨b629, 0, none⟩) 2 2 [(.mk (9, 1) (some ⟨b626, 0, none⟩) 1 1 [(.mk (1, 0) none 0 0 [])]), (.mk (1, 4) none 0 0 [])])]⟩ : LP) (.mk (9, 1) (some ⟨b626, 0, none⟩) 1 1 [(.mk (1, 0) none 0 0 [])]) (.mk (9, 1) none 1 0 [(.mk (1, 0) none 0 0 [])]) := plain_one _ (.mk (9, 1) (some ⟨b626, 0, none⟩) 1 1 [(.mk (1, 0) none 0 0 [])]) _ _ (by show (9 : Int) ≠ 8; omega) rfl hpl0
    have hpl2 : Plain1 (⟨some ⟨b631, 0, none⟩, 1, [(.mk (8, 0) (some ⟨b629, 0, none⟩) 2 2 [(.mk (9, 1) (some ⟨b626, 0, none⟩) 1 1 [(.mk (1, 0) none 0 0 [])]), (.mk (1, 4) none 0 0 [])])]⟩ : LP) (.mk (8, 0) (some ⟨b629, 0, none⟩) 2 2 [(.mk (9, 1) (some ⟨b626, 0, none⟩) 1 1 [(.mk (1, 0) none 0 0 [])]), (.mk (1, 4) none 0 0 [])]) (.mk (9, 1) none 1 0 [(.mk (1, 0) none 0 0 [])]) := plain_handle _ (.mk (8, 0) (some ⟨b629, 0, none⟩) 2 2 [(.mk (9, 1) (some ⟨b626, 0, none⟩) 1 1 [(.mk (1, 0) none 0 0 [])]), (.mk (1, 4) none 0 0 [])]) _ (.mk (9, 1) (some ⟨b626, 0, none⟩) 1 1 [(.mk (1, 0) none 0 0 [])]) [(.mk (1, 4) none 0 0 [])] 5 [(.mk (9, 1) (some ⟨b626, 0, none⟩) 1 1 [(.mk (1, 0) none 0 0 [])]), (.mk (1, 0) none 0 0 [])] (List.replicate 6 false) rfl rfl hwf639.1 hwf639.2.2 ((hwf639.1 _ (List.mem_cons_self ..)).kid (List.mem_cons_self ..)) (by kernel_rfl) (by kernel_rfl) hpl1
    refine S.one (by kernel_rfl) (S.call (dst := some 164) (f := 31) (args := #[.slice (some ⟨b631, 0, none⟩) 1 1]) (by kernel_rfl) (by kernel_rfl) ((Plain_spec (⟨some ⟨b631, 0, none⟩, 1, [(.mk (8, 0) (some ⟨b629, 0, none⟩) 2 2 [(.mk (9, 1) (some ⟨b626, 0, none⟩) 1 1 [(.mk (1, 0) none 0 0 [])]), (.mk (1, 4) none 0 0 [])])]⟩ : LP) (.mk (8, 0) (some ⟨b629, 0, none⟩) 2 2 [(.mk (9, 1) (some ⟨b626, 0, none⟩) 1 1 [(.mk (1, 0) none 0 0 [])]), (.mk (1, 4) none 0 0 [])]) (.mk (9, 1) none 1 0 [(.mk (1, 0) none 0 0 [])]) w631.heap.size _ hp639 (Nat.le_refl _) rfl hfi639 hpl2).mono ?_))
    rintro _ w639 ⟨E639, q, hq, rfl, hqe, hql⟩
    refine After.ret (by kernel_rfl) ?_
    have sE639 := E639.size
    refine S.run 5 [] [2, 7, 9, 13, 14, 15] (rs := []) (κ' := [(2, iV 0), (7, iV 0), (9, iV 0), (13, pT b565), (14, .slice oa rows.length oc), (15, .slice q.a q.xs.length q.cap)]) (by kernel_rfl) (by kernel_rfl) rfl ?_
    refine S.regEnd (by kernel_rfl) (S.seq (S.region ?_))
    have B640 := B609.ext0 E610
    have B641 := B640.ext0 E611
    have B642 := B641.ext0 E612
    have B643 := B642.ext0 E613
    have B644 := B643.ext0 E614
    have B645 := B644.ext0 E615
    have B646 := B645.ext0 E616
    have B647 := B646.ext0 E624
    have B648 := B647.ext0 E625
    have B649 := B648.ext0 E626
    have B650 := B649.ext0 E627
    have B651 := B650.ext0 E628
    have B652 := B651.ext0 E629
    have B653 := B652.ext0 E630
    have B654 := B653.ext0 E631
    have B655 := B654.ext0 E639
    refine S.run 16 [.v (iV r568.fin)] [13, 14, 15, 182] (rs := [.load ⟨b565, 0, none⟩ (iV r568.fin)]) (κ' := [(13, pT b565), (14, .slice oa rows.length oc), (15, .slice q.a q.xs.length q.cap), (182, .bool (r568.fin == 1))]) (by kernel_rfl) (by kernel_rfl) (.load (B655.cell 0 rfl) .nil) ?_
    refine S.subst 182 (.bool (r568.fin == 1)) (.bool true) (by kernel_rfl) (congrArg Value.bool (by rw [lf568]; rfl)) ?_
    refine S.run 5 [.v (iV r568.val)] [13, 14, 15, 187] (rs := [.load ⟨b565, 1, none⟩ (iV r568.val)]) (κ' := [(13, pT b565), (14, .slice oa rows.length oc), (15, .slice q.a q.xs.length q.cap), (187, .bool (r568.val == 2))]) (by kernel_rfl) (by kernel_rfl) (.load (B655.cell 1 rfl) .nil) ?_
    refine S.subst 187 (.bool (r568.val == 2)) (.bool true) (by kernel_rfl) (congrArg Value.bool (by rw [lv568]; rfl)) ?_
    refine S.run 6 [.v (.slice r568.a r568.les.length r568.cap)] [13, 14, 15, 193] (rs := [.load ⟨b565, 2, none⟩ (.slice r568.a r568.les.length r568.cap)]) (κ' := [(13, pT b565), (14, .slice oa rows.length oc), (15, .slice q.a q.xs.length q.cap), (193, .bool (((r568.les.length : Nat) : Int) == 3))]) (by kernel_rfl) (by kernel_rfl) (.load (B655.cell 2 rfl) .nil) ?_
    refine S.subst 193 (.bool (((r568.les.length : Nat) : Int) == 3)) (.bool true) (by kernel_rfl) (congrArg Value.bool (by rw [ll568]; rfl)) ?_
    refine S.run 2 [.v (.slice r568.a r568.les.length r568.cap)] [13, 14, 15, 193, 195] (rs := [.load ⟨b565, 2, none⟩ (.slice r568.a r568.les.length r568.cap)]) (κ' := [(13, pT b565), (14, .slice oa rows.length oc), (15, .slice q.a q.xs.length q.cap), (193, .bool true), (195, .slice r568.a r568.les.length r568.cap)]) (by kernel_rfl) (by kernel_rfl) (.load (B655.cell 2 rfl) .nil) ?_
    have R656 := hr568.1.pres (.ofE E609 B608 (by decide))
    have R657 := R656.pres (.of0 E610)
    have R658 := R657.pres (.of0 E611)
    have R659 := R658.pres (.of0 E612)
    have R660 := R659.pres (.of0 E613)
    have R661 := R660.pres (.of0 E614)
    have R662 := R661.pres (.of0 E615)
    have R663 := R662.pres (.of0 E616)
    have R664 := R663.pres (.of0 E624)
    have R665 := R664.pres (.of0 E625)
    have R666 := R665.pres (.of0 E626)
    have R667 := R666.pres (.of0 E627)
    have R668 := R667.pres (.of0 E628)
    have R669 := R668.pres (.of0 E629)
    have R670 := R669.pres (.of0 E630)
    have R671 := R670.pres (.of0 E631)
    have R672 := R671.pres (.of0 E639)
    obtain ⟨x673, b673, o673, hx673, h673, H673⟩ := R672.get 1 (by omega)
    refine S.one (by kernel_rfl) (S.law 196 (v := .pointer (some ⟨b673, o673 + 1 * 5, none⟩)) (Instr.indexAt 27 (.slice r568.a r568.les.length r568.cap) (.int .i64 ((1 : Nat) : Int))) (by kernel_rfl) (by kernel_rfl) (by kernel_rfl) (run_idx (e := 43) 1 h673 (by kernel_rfl) (by kernel_rfl) (by omega)) ?_)
    refine S.run 5 [.v (iV x673.deed)] [13, 14, 15, 201] (rs := [.load ⟨b673, o673 + 1 * 5, none⟩ (iV x673.deed)]) (κ' := [(13, pT b565), (14, .slice oa rows.length oc), (15, .slice q.a q.xs.length q.cap), (201, .bool (x673.deed == 5))]) (by kernel_rfl) (by kernel_rfl) (.load (H673.cell0 rfl) .nil) ?_
    refine S.subst 201 (.bool (x673.deed == 5)) (.bool true) (by kernel_rfl) (congrArg Value.bool (by have h9 := congrArg (Option.map Ev.deed) (ev_at le568 hx673); have h9 : (5 : Int) = x673.deed := Option.some.inj h9; rw [← h9]; rfl)) ?_
    refine S.run 2 [.v (.slice r568.a r568.les.length r568.cap)] [14, 15, 201, 203] (rs := [.load ⟨b565, 2, none⟩ (.slice r568.a r568.les.length r568.cap)]) (κ' := [(14, .slice oa rows.length oc), (15, .slice q.a q.xs.length q.cap), (201, .bool true), (203, .slice r568.a r568.les.length r568.cap)]) (by kernel_rfl) (by kernel_rfl) (.load (B655.cell 2 rfl) .nil) ?_
    obtain ⟨x674, b674, o674, hx674, h674, H674⟩ := R672.get 2 (by omega)
    refine S.one (by kernel_rfl) (S.law 204 (v := .pointer (some ⟨b674, o674 + 2 * 5, none⟩)) (Instr.indexAt 27 (.slice r568.a r568.les.length r568.cap) (.int .i64 ((2 : Nat) : Int))) (by kernel_rfl) (by kernel_rfl) (by kernel_rfl) (run_idx (e := 43) 2 h674 (by kernel_rfl) (by kernel_rfl) (by omega)) ?_)
    refine S.run 5 [.v (iV x674.val)] [14, 15, 209] (rs := [.load ⟨b674, o674 + 2 * 5 + 2, none⟩ (iV x674.val)]) (κ' := [(14, .slice oa rows.length oc), (15, .slice q.a q.xs.length q.cap), (209, .bool (x674.val == 9))]) (by kernel_rfl) (by kernel_rfl) (.load (H674.cell 2 rfl) .nil) ?_
    refine S.subst 209 (.bool (x674.val == 9)) (.bool true) (by kernel_rfl) (congrArg Value.bool (by have h9 := congrArg (Option.map Ev.val) (ev_at le568 hx674); have h9 : (9 : Int) = x674.val := Option.some.inj h9; rw [← h9]; rfl)) ?_
    refine S.run 1 [] [15, 209, 210] (rs := []) (κ' := [(15, .slice q.a q.xs.length q.cap), (209, .bool true), (210, .slice oa rows.length oc)]) (by kernel_rfl) (by kernel_rfl) rfl ?_
    refine S.one (by kernel_rfl) (S.new 211 [iV 3] 3 (fun b => .slice (some ⟨b, 0, none⟩) 1 1) (by kernel_rfl) (by kernel_rfl) (fun b => by kernel_rfl) (fun b675 w675 E675 B675 e675 z675 => ?_))
    have sE675 := E675.size
    refine S.one (by kernel_rfl) (S.new 212 [iV 3] 3 (fun b => .slice (some ⟨b, 0, none⟩) 1 1) (by kernel_rfl) (by kernel_rfl) (fun b => by kernel_rfl) (fun b676 w676 E676 B676 e676 z676 => ?_))
    have sE676 := E676.size
    refine S.one (by kernel_rfl) (S.new 213 [.slice (some ⟨b675, 0, none⟩) 1 1, .slice (some ⟨b676, 0, none⟩) 1 1] 23 (fun b => .slice (some ⟨b, 0, none⟩) 2 2) (by kernel_rfl) (by kernel_rfl) (fun b => by kernel_rfl) (fun b677 w677 E677 B677 e677 z677 => ?_))
    have sE677 := E677.size
    have B679 := B675.ext0 E676
    have B680 := B679.ext0 E677
    have B681 := B676.ext0 E677
    have R682 := hrow.pres (.of0 E625)
    have R683 := R682.pres (.of0 E626)
    have R684 := R683.pres (.of0 E627)
    have R685 := R684.pres (.of0 E628)
    have R686 := R685.pres (.of0 E629)
    have R687 := R686.pres (.of0 E630)
    have R688 := R687.pres (.of0 E631)
    have R689 := R688.pres (.of0 E639)
    have R690 := R689.pres (.of0 E675)
    have R691 := R690.pres (.of0 E676)
    have R692 := R691.pres (.of0 E677)
    have T693 := hro.pres (.of0 E625)
    have T694 := T693.pres (.of0 E626)
    have T695 := T694.pres (.of0 E627)
    have T696 := T695.pres (.of0 E628)
    have T697 := T696.pres (.of0 E629)
    have T698 := T697.pres (.of0 E630)
    have T699 := T698.pres (.of0 E631)
    have T700 := T699.pres (.of0 E639)
    have T701 := T700.pres (.of0 E675)
    have T702 := T701.pres (.of0 E676)
    have T703 := T702.pres (.of0 E677)
    have hY678 : RowsOk w677.heap.size w677 [(⟨some ⟨b675, 0, none⟩, 1, [3]⟩ : LS), (⟨some ⟨b676, 0, none⟩, 1, [3]⟩ : LS)] := (List.forall_mem_cons.2 ⟨⟨Row.ofBlk (cs := intCs) (xs := [3]) B680 (fun _ => rfl) B680.lt, by show 1 ≤ _; omega⟩, (List.forall_mem_cons.2 ⟨⟨Row.ofBlk (cs := intCs) (xs := [3]) B681 (fun _ => rfl) B681.lt, by show 1 ≤ _; omega⟩, (fun _ h => by cases h)⟩)⟩)
    have hse678 := SameLists_spec _ _ _ _ oa (some ⟨b677, 0, none⟩) oc 2 rows [(⟨some ⟨b675, 0, none⟩, 1, [3]⟩ : LS), (⟨some ⟨b676, 0, none⟩, 1, [3]⟩ : LS)] _ R692 (Row.ofBlk (cs := lsCs) (xs := [(⟨some ⟨b675, 0, none⟩, 1, [3]⟩ : LS), (⟨some ⟨b676, 0, none⟩, 1, [3]⟩ : LS)]) B677 (fun _ => rfl) B677.lt) T703 hY678 (by omega) (by show 2 ≤ _; omega)
    refine S.one (by kernel_rfl) (S.call (dst := some 214) (f := 32) (args := #[.slice oa rows.length oc, .slice (some ⟨b677, 0, none⟩) 2 2]) (by kernel_rfl) (by kernel_rfl) (hse678.mono ?_))
    rintro _ w678 ⟨E678, rfl⟩
    refine After.ret (by kernel_rfl) ?_
    have sE678 := E678.size
    refine S.subst 214 (.bool (rows.map LS.xs == [(⟨some ⟨b675, 0, none⟩, 1, [3]⟩ : LS), (⟨some ⟨b676, 0, none⟩, 1, [3]⟩ : LS)].map LS.xs)) (.bool true) (by kernel_rfl) (congrArg Value.bool (by rw [hrs2]; rfl)) ?_
    refine S.run 3 [] [216, 217] (rs := []) (κ' := [(216, .bool true), (217, .slice q.a q.xs.length q.cap)]) (by kernel_rfl) (by kernel_rfl) rfl ?_
    refine S.one (by kernel_rfl) (S.call (dst := some 218) (f := 29) (args := #[iV 0]) (by kernel_rfl) (by kernel_rfl) ((Num_spec _ _).mono ?_))
    rintro _ w704 ⟨E704, rfl⟩
    refine After.ret (by kernel_rfl) ?_
    have sE704 := E704.size
    refine S.one (by kernel_rfl) (S.new 219 [iV 1, iV 0, .slice none 0 0] 60 (fun b => .slice (some ⟨b, 0, none⟩) 1 1) (by kernel_rfl) (by kernel_rfl) (fun b => by kernel_rfl) (fun b705 w705 E705 B705 e705 z705 => ?_))
    have sE705 := E705.size
    refine S.one (by kernel_rfl) (S.call (dst := some 220) (f := 28) (args := #[iV 9, iV 1, .slice (some ⟨b705, 0, none⟩) 1 1]) (by kernel_rfl) (by kernel_rfl) ((Of_spec _ _ _ _ _ _).mono ?_))
    rintro _ w706 ⟨E706, rfl⟩
    refine After.ret (by kernel_rfl) ?_
    have sE706 := E706.size
    refine S.one (by kernel_rfl) (S.new 221 [iV 9, iV 1, .slice (some ⟨b705, 0, none⟩) 1 1] 60 (fun b => .slice (some ⟨b, 0, none⟩) 1 1) (by kernel_rfl) (by kernel_rfl) (fun b => by kernel_rfl) (fun b707 w707 E707 B707 e707 z707 => ?_))
    have sE707 := E707.size
    have B708 := B705.ext0 E706
    have B709 := B708.ext0 E707
    have T711 := hq.pres (.of0 E675)
    have T712 := T711.pres (.of0 E676)
    have T713 := T712.pres (.of0 E677)
    have T714 := T713.pres (.of0 E678)
    have T715 := T714.pres (.of0 E704)
    have T716 := T715.pres (.of0 E705)
    have T717 := T716.pres (.of0 E706)
    have T718 := T717.pres (.of0 E707)
    have hse710 := SameProg_spec q (⟨some ⟨b707, 0, none⟩, 1, [(.mk (9, 1) (some ⟨b705, 0, none⟩) 1 1 [(.mk (1, 0) none 0 0 [])])]⟩ : LP) _ w707.heap.size _ T718 (XOk.prog (XOk.ofB (kids := [(.mk (9, 1) (some ⟨b705, 0, none⟩) 1 1 [(.mk (1, 0) none 0 0 [])])]) (k := 1) (0, 0) B707 rfl (by omega) B707.lt (List.forall_mem_cons.2 ⟨(XOk.ofB (kids := [(.mk (1, 0) none 0 0 [])]) (k := 1) (9, 1) B709 rfl (by omega) B709.lt (List.forall_mem_cons.2 ⟨(XOk.nil (1, 0)), (fun _ h => by cases h)⟩)), (fun _ h => by cases h)⟩)))
    refine S.one (by kernel_rfl) (S.call (dst := some 222) (f := 33) (args := #[.slice q.a q.xs.length q.cap, .slice (some ⟨b707, 0, none⟩) 1 1]) (by kernel_rfl) (by kernel_rfl) (hse710.mono ?_))
    rintro _ w710 ⟨E710, rfl⟩
    refine After.ret (by kernel_rfl) ?_
    have sE710 := E710.size
    refine S.subst 222 (.bool (eqX.eqL q.xs (⟨some ⟨b707, 0, none⟩, 1, [(.mk (9, 1) (some ⟨b705, 0, none⟩) 1 1 [(.mk (1, 0) none 0 0 [])])]⟩ : LP).xs)) (.bool true) (by kernel_rfl) (congrArg Value.bool (eqL_trans hqe (by kernel_rfl))) ?_
    refine S.run 2 [] [0] (rs := []) (κ' := [(0, .bool true)]) (by kernel_rfl) (by kernel_rfl) rfl ?_
    exact S.regEnd (by kernel_rfl) (S.ret1 (v := .bool true) rfl (by kernel_rfl) ⟨((((((((((((((((((((((((((((((((((((((((((((((((((((((((((((((((((((((E1.trans E2).trans E3).thenS E4 (by omega)).trans E5).trans E6).trans E7).trans E8).trans E9).trans E10).trans E11).trans E30).trans E49).trans E50).trans E51).thenS E52 (by omega)).trans E53).trans E54).trans E55).trans E60).thenS E61 (by omega)).trans E62).trans E63).trans E64).thenS E65 (by omega)).trans E66).trans E67).trans E68).thenS E69 (by omega)).trans E95).trans E96).trans E97).trans E98).trans E99).trans E100).trans E101).trans E102).trans E103).thenS E104 (by omega)).trans E105).trans E108).trans E110).trans E565).trans E566).trans E567).trans E568).thenS E609 (by omega)).trans E610).trans E611).trans E612).trans E613).trans E614).trans E615).trans E616).trans E624).trans E625).trans E626).trans E627).trans E628).trans E629).trans E630).trans E631).trans E639).trans E675).trans E676).trans E677).trans E678).trans E704).trans E705).trans E706).trans E707).trans E710, rfl⟩)
  ·skip
   show S _ _ _ _ _ (.one _ 9 :: .dreg _ #[true, true, false, false, false, false, false, false, false, true, false, false] _ _ :: _) _ _
   refine S.new 13 [iV 0, iV 0, .slice none 0 0, iV 0] 29 (fun b => pT b) (by kernel_rfl) (by kernel_rfl) (fun b => by kernel_rfl) (fun b719 w719 E719 B719 e719 z719 => ?_)
   have sE719 := E719.size
   refine S.dnext (j := 2) (l' := #[true, true, true, false, false, false, false, false, false, true, false, false]) (by kernel_rfl) (by kernel_rfl) (sw1 (by kernel_rfl) (E108.trans E719)) ?_
   refine S.new 139 [iV 15, iV 0, .slice (some ⟨b101, 0, none⟩) 2 2, iV 2, iV 0, .slice none 0 0] 60 (fun b => .slice (some ⟨b, 0, none⟩) 2 2) (by kernel_rfl) (by kernel_rfl) (fun b => by kernel_rfl) (fun b720 w720 E720 B720 e720 z720 => ?_)
   have sE720 := E720.size
   refine S.dnext (j := 3) (l' := #[true, true, true, true, false, false, false, false, false, true, false, false]) (by kernel_rfl) (by kernel_rfl) (sw1 (by kernel_rfl) ((E108.trans E719).trans E720)) ?_
   refine S.call (dst := some 140) (f := 28) (args := #[iV 11, iV 1, .slice (some ⟨b720, 0, none⟩) 2 2]) (by kernel_rfl) (by kernel_rfl) ((Of_spec _ _ _ _ _ _).mono ?_)
   rintro _ w721 ⟨E721, rfl⟩
   refine After.ret (by kernel_rfl) ?_
   have sE721 := E721.size
   refine S.dnext (j := 4) (l' := #[true, true, true, true, true, false, false, false, false, true, false, false]) (by kernel_rfl) (by kernel_rfl) (sw1 (by kernel_rfl) (((E108.trans E719).trans E720).trans E721)) ?_
   refine S.new 141 [iV 11, iV 1, .slice (some ⟨b720, 0, none⟩) 2 2] 60 (fun b => .slice (some ⟨b, 0, none⟩) 1 1) (by kernel_rfl) (by kernel_rfl) (fun b => by kernel_rfl) (fun b722 w722 E722 B722 e722 z722 => ?_)
   have sE722 := E722.size
   refine S.dnext (j := 5) (l' := #[true, true, true, true, true, true, false, false, false, true, false, false]) (by kernel_rfl) (by kernel_rfl) (sw1 (by kernel_rfl) ((((E108.trans E719).trans E720).trans E721).trans E722)) ?_
   have B724 := B720.ext0 E721
   have B725 := B724.ext0 E722
   have B726 := B101.ext0 E102
   have B727 := B726.ext0 E103
   have B728 := B727.extS E104 (by omega)
   have B729 := B728.ext0 E105
   have B730 := B729.ext0 E108
   have B731 := B730.ext0 E719
   have B732 := B731.ext0 E720
   have B733 := B732.ext0 E721
   have B734 := B733.ext0 E722
   have B735 := B96.ext0 E97
   have B736 := B735.ext0 E98
   have B737 := B736.ext0 E99
   have B738 := B737.ext0 E100
   have B739 := B738.ext0 E101
   have B740 := B739.ext0 E102
   have B741 := B740.ext0 E103
   have B742 := B741.extS E104 (by omega)
   have B743 := B742.ext0 E105
   have B744 := B743.ext0 E108
   have B745 := B744.ext0 E719
   have B746 := B745.ext0 E720
   have B747 := B746.ext0 E721
   have B748 := B747.ext0 E722
   have B749 := B99.ext0 E100
   have B750 := B749.ext0 E101
   have B751 := B750.ext0 E102
   have B752 := B751.ext0 E103
   have B753 := B752.extS E104 (by omega)
   have B754 := B753.ext0 E105
   have B755 := B754.ext0 E108
   have B756 := B755.ext0 E719
   have B757 := B756.ext0 E720
   have B758 := B757.ext0 E721
   have B759 := B758.ext0 E722
   refine S.call (dst := some 142) (f := 4) (args := #[.slice (some ⟨b722, 0, none⟩) 1 1, iV 0, iV 99]) (by kernel_rfl) (by kernel_rfl) ((Run_spec w722.heap.size (⟨some ⟨b722, 0, none⟩, 1, [(.mk (11, 1) (some ⟨b720, 0, none⟩) 2 2 [(.mk (15, 0) (some ⟨b101, 0, none⟩) 2 2 [(.mk (13, 1) (some ⟨b96, 0, none⟩) 1 1 [(.mk (1, 2) none 0 0 [])]), (.mk (4, 0) (some ⟨b99, 0, none⟩) 1 1 [(.mk (1, 9) none 0 0 [])])]), (.mk (2, 0) none 0 0 [])])]⟩ : LP) 0 99 _ (XOk.prog (XOk.ofB (kids := [(.mk (11, 1) (some ⟨b720, 0, none⟩) 2 2 [(.mk (15, 0) (some ⟨b101, 0, none⟩) 2 2 [(.mk (13, 1) (some ⟨b96, 0, none⟩) 1 1 [(.mk (1, 2) none 0 0 [])]), (.mk (4, 0) (some ⟨b99, 0, none⟩) 1 1 [(.mk (1, 9) none 0 0 [])])]), (.mk (2, 0) none 0 0 [])])]) (k := 1) (0, 0) B722 rfl (by omega) B722.lt (List.forall_mem_cons.2 ⟨(XOk.ofB (kids := [(.mk (15, 0) (some ⟨b101, 0, none⟩) 2 2 [(.mk (13, 1) (some ⟨b96, 0, none⟩) 1 1 [(.mk (1, 2) none 0 0 [])]), (.mk (4, 0) (some ⟨b99, 0, none⟩) 1 1 [(.mk (1, 9) none 0 0 [])])]), (.mk (2, 0) none 0 0 [])]) (k := 2) (11, 1) B725 rfl (by omega) B725.lt (List.forall_mem_cons.2 ⟨(XOk.ofB (kids := [(.mk (13, 1) (some ⟨b96, 0, none⟩) 1 1 [(.mk (1, 2) none 0 0 [])]), (.mk (4, 0) (some ⟨b99, 0, none⟩) 1 1 [(.mk (1, 9) none 0 0 [])])]) (k := 2) (15, 0) B734 rfl (by omega) B734.lt (List.forall_mem_cons.2 ⟨(XOk.ofB (kids := [(.mk (1, 2) none 0 0 [])]) (k := 1) (13, 1) B748 rfl (by omega) B748.lt (List.forall_mem_cons.2 ⟨(XOk.nil (1, 2)), (fun _ h => by cases h)⟩)), (List.forall_mem_cons.2 ⟨(XOk.ofB (kids := [(.mk (1, 9) none 0 0 [])]) (k := 1) (4, 0) B759 rfl (by omega) B759.lt (List.forall_mem_cons.2 ⟨(XOk.nil (1, 9)), (fun _ h => by cases h)⟩)), (fun _ h => by cases h)⟩)⟩)), (List.forall_mem_cons.2 ⟨(XOk.nil (2, 0)), (fun _ h => by cases h)⟩)⟩)), (fun _ h => by cases h)⟩))) (Nat.le_refl _)).mono ?_)
   rintro _ w723 ⟨E723, ⟨hok723, r723, rfl, hr723, his723⟩ | ⟨hok723, rfl⟩⟩
   case inr => exact absurd hok723 (by rw [show okD (⟨some ⟨b722, 0, none⟩, 1, [(.mk (11, 1) (some ⟨b720, 0, none⟩) 2 2 [(.mk (15, 0) (some ⟨b101, 0, none⟩) 2 2 [(.mk (13, 1) (some ⟨b96, 0, none⟩) 1 1 [(.mk (1, 2) none 0 0 [])]), (.mk (4, 0) (some ⟨b99, 0, none⟩) 1 1 [(.mk (1, 9) none 0 0 [])])]), (.mk (2, 0) none 0 0 [])])]⟩ : LP).xs 0 [] 99 = true from by kernel_rfl]; simp)
   have to723 := LRun.to his723 (t := ⟨1, 2, [⟨4, 1, 2, [], [1]⟩, ⟨5, 0, 0, [], [1]⟩, ⟨1, 0, 9, [], [1]⟩], 92⟩) (by kernel_rfl)
   have lf723 : r723.fin = 1 := to723.1; have lv723 : r723.val = 2 := to723.2.1; have le723 : r723.les.map LE.ev = [⟨4, 1, 2, [], [1]⟩, ⟨5, 0, 0, [], [1]⟩, ⟨1, 0, 9, [], [1]⟩] := to723.2.2.1; have lu723 : r723.fuel = 92 := to723.2.2.2.1; have ll723 : r723.les.length = 3 := to723.2.2.2.2; have lb723 := hr723.2.2
   refine After.ret (by kernel_rfl) ?_
   have sE723 := E723.size
   refine S.dreads bodyPost_panicOk [6, 7, 8] 2 [] [13, 143, 144] (rs := []) (κ' := [(13, pT b719), (143, .agg #[iV r723.fin, iV r723.val, .slice r723.a r723.les.length r723.cap, iV r723.fuel]), (144, iV 0)]) (l' := #[true, true, true, true, true, true, true, true, true, true, false, false]) (by kernel_rfl) (by kernel_rfl) (by kernel_rfl) (fun _ _ => rfl) ?_
   refine S.dnext (j := 10) (l' := #[true, true, true, true, true, true, true, true, true, true, true, false]) (by kernel_rfl) (by kernel_rfl) (sw1 (by kernel_rfl) (((((E108.trans E719).trans E720).trans E721).trans E722).trans E723)) ?_
   have B760 := B719.ext0 E720
   have B761 := B760.ext0 E721
   have B762 := B761.ext0 E722
   have B763 := B762.ext0 E723
   refine S.store 0 [iV r723.fin, iV r723.val, .slice r723.a r723.les.length r723.cap, iV r723.fuel] [iV r723.fin, iV r723.val, .slice r723.a r723.les.length r723.cap, iV r723.fuel] B763 (by kernel_rfl) (by kernel_rfl) (by kernel_rfl) (by kernel_rfl) (by kernel_rfl) (fun w764 E764 B764 z764 => ?_)
   have sE764 := E764.size
   refine S.dreads bodyPost_panicOk [11] 0 [] [2, 13] (rs := []) (κ' := [(2, iV 0), (13, pT b719)]) (l' := #[true, true, true, true, true, true, true, true, true, true, true, true]) (by kernel_rfl) (by kernel_rfl) (by kernel_rfl) (fun _ _ => rfl) ?_
   refine S.dend (by kernel_rfl) (sw1 (by kernel_rfl) ((((((E108.trans E719).trans E720).trans E721).trans E722).trans E723).thenS E764 (by omega))) ?_
   refine S.seq (S.region (S.one (by kernel_rfl) (S.call (dst := some 146) (f := 29) (args := #[iV 0]) (by kernel_rfl) (by kernel_rfl) ((Num_spec _ _).mono ?_))))
   rintro _ w765 ⟨E765, rfl⟩
   refine After.ret (by kernel_rfl) ?_
   have sE765 := E765.size
   refine S.one (by kernel_rfl) (S.new 147 [iV 1, iV 0, .slice none 0 0] 60 (fun b => .slice (some ⟨b, 0, none⟩) 1 1) (by kernel_rfl) (by kernel_rfl) (fun b => by kernel_rfl) (fun b766 w766 E766 B766 e766 z766 => ?_))
   have sE766 := E766.size
   refine S.one (by kernel_rfl) (S.call (dst := some 148) (f := 28) (args := #[iV 7, iV 1, .slice (some ⟨b766, 0, none⟩) 1 1]) (by kernel_rfl) (by kernel_rfl) ((Of_spec _ _ _ _ _ _).mono ?_))
   rintro _ w767 ⟨E767, rfl⟩
   refine After.ret (by kernel_rfl) ?_
   have sE767 := E767.size
   refine S.one (by kernel_rfl) (S.call (dst := some 149) (f := 29) (args := #[iV 0]) (by kernel_rfl) (by kernel_rfl) ((Num_spec _ _).mono ?_))
   rintro _ w768 ⟨E768, rfl⟩
   refine After.ret (by kernel_rfl) ?_
   have sE768 := E768.size
   refine S.one (by kernel_rfl) (S.new 150 [iV 1, iV 0, .slice none 0 0] 60 (fun b => .slice (some ⟨b, 0, none⟩) 1 1) (by kernel_rfl) (by kernel_rfl) (fun b => by kernel_rfl) (fun b769 w769 E769 B769 e769 z769 => ?_))
   have sE769 := E769.size
   refine S.one (by kernel_rfl) (S.call (dst := some 151) (f := 28) (args := #[iV 10, iV 3, .slice (some ⟨b769, 0, none⟩) 1 1]) (by kernel_rfl) (by kernel_rfl) ((Of_spec _ _ _ _ _ _).mono ?_))
   rintro _ w770 ⟨E770, rfl⟩
   refine After.ret (by kernel_rfl) ?_
   have sE770 := E770.size
   refine S.one (by kernel_rfl) (S.new 152 [iV 7, iV 1, .slice (some ⟨b766, 0, none⟩) 1 1, iV 10, iV 3, .slice (some ⟨b769, 0, none⟩) 1 1] 60 (fun b => .slice (some ⟨b, 0, none⟩) 2 2) (by kernel_rfl) (by kernel_rfl) (fun b => by kernel_rfl) (fun b771 w771 E771 B771 e771 z771 => ?_))
   have sE771 := E771.size
   have B772 := B766.ext0 E767
   have B773 := B772.ext0 E768
   have B774 := B773.ext0 E769
   have B775 := B774.ext0 E770
   have B776 := B775.ext0 E771
   have B777 := B769.ext0 E770
   have B778 := B777.ext0 E771
   have hp779 : (⟨some ⟨b771, 0, none⟩, 2, [(.mk (7, 1) (some ⟨b766, 0, none⟩) 1 1 [(.mk (1, 0) none 0 0 [])]), (.mk (10, 3) (some ⟨b769, 0, none⟩) 1 1 [(.mk (1, 0) none 0 0 [])])]⟩ : LP).ok w771.heap.size w771 := (XOk.prog (XOk.ofB (kids := [(.mk (7, 1) (some ⟨b766, 0, none⟩) 1 1 [(.mk (1, 0) none 0 0 [])]), (.mk (10, 3) (some ⟨b769, 0, none⟩) 1 1 [(.mk (1, 0) none 0 0 [])])]) (k := 2) (0, 0) B771 rfl (by omega) B771.lt (List.forall_mem_cons.2 ⟨(XOk.ofB (kids := [(.mk (1, 0) none 0 0 [])]) (k := 1) (7, 1) B776 rfl (by omega) B776.lt (List.forall_mem_cons.2 ⟨(XOk.nil (1, 0)), (fun _ h => by cases h)⟩)), (List.forall_mem_cons.2 ⟨(XOk.ofB (kids := [(.mk (1, 0) none 0 0 [])]) (k := 1) (10, 3) B778 rfl (by omega) B778.lt (List.forall_mem_cons.2 ⟨(XOk.nil (1, 0)), (fun _ h => by cases h)⟩)), (fun _ h => by cases h)⟩)⟩)))
   have hv779a : visit (⟨some ⟨b771, 0, none⟩, 2, [(.mk (7, 1) (some ⟨b766, 0, none⟩) 1 1 [(.mk (1, 0) none 0 0 [])]), (.mk (10, 3) (some ⟨b769, 0, none⟩) 1 1 [(.mk (1, 0) none 0 0 [])])]⟩ : LP).xs 5 (.mk (7, 1) (some ⟨b766, 0, none⟩) 1 1 [(.mk (1, 0) none 0 0 [])]) (List.replicate 6 false) = some ([(.mk (7, 1) (some ⟨b766, 0, none⟩) 1 1 [(.mk (1, 0) none 0 0 [])]), (.mk (1, 0) none 0 0 []), (.mk (10, 3) (some ⟨b769, 0, none⟩) 1 1 [(.mk (1, 0) none 0 0 [])]), (.mk (1, 0) none 0 0 [])], [false, true, false, false, false, false]) := by kernel_rfl
   have hv779b : visit (⟨some ⟨b771, 0, none⟩, 2, [(.mk (7, 1) (some ⟨b766, 0, none⟩) 1 1 [(.mk (1, 0) none 0 0 [])]), (.mk (10, 3) (some ⟨b769, 0, none⟩) 1 1 [(.mk (1, 0) none 0 0 [])])]⟩ : LP).xs 5 (.mk (10, 3) (some ⟨b769, 0, none⟩) 1 1 [(.mk (1, 0) none 0 0 [])]) (List.replicate 6 false) = some ([(.mk (10, 3) (some ⟨b769, 0, none⟩) 1 1 [(.mk (1, 0) none 0 0 [])]), (.mk (1, 0) none 0 0 [])], (List.replicate 6 false)) := by kernel_rfl
   refine S.one (by kernel_rfl) (S.call (dst := some 153) (f := 6) (args := #[.slice (some ⟨b771, 0, none⟩) 2 2]) (by kernel_rfl) (by kernel_rfl) ((Errors_spec (⟨some ⟨b771, 0, none⟩, 2, [(.mk (7, 1) (some ⟨b766, 0, none⟩) 1 1 [(.mk (1, 0) none 0 0 [])]), (.mk (10, 3) (some ⟨b769, 0, none⟩) 1 1 [(.mk (1, 0) none 0 0 [])])]⟩ : LP) w771.heap.size 5 _ hp779 (Nat.le_refl _) (fun _ => List.forall_mem_cons.2 ⟨⟨_, _, hv779a, by show 4 ≤ 1000; omega⟩, List.forall_mem_cons.2 ⟨⟨_, _, hv779b, by show 2 ≤ 1000; omega⟩, fun _ h => by cases h⟩⟩)).mono ?_))
   rintro _ w779 ⟨E779, ⟨hfi, rows, oa, oc, rfl, hrow, hro, hrs⟩ | ⟨hfi, rfl⟩⟩
   case inr => exact absurd hfi (by rw [show fineS (⟨some ⟨b771, 0, none⟩, 2, [(.mk (7, 1) (some ⟨b766, 0, none⟩) 1 1 [(.mk (1, 0) none 0 0 [])]), (.mk (10, 3) (some ⟨b769, 0, none⟩) 1 1 [(.mk (1, 0) none 0 0 [])])]⟩ : LP).xs = true from by kernel_rfl]; simp)
   have hrs2 : rows.map LS.xs = [[3], [3]] := by rw [hrs]; show [errS _ 5 _, errS _ 5 _] = _; rw [errS_eq hv779a, errS_eq hv779b]; rw [show errl [(.mk (7, 1) (some ⟨b766, 0, none⟩) 1 1 [(.mk (1, 0) none 0 0 [])]), (.mk (1, 0) none 0 0 []), (.mk (10, 3) (some ⟨b769, 0, none⟩) 1 1 [(.mk (1, 0) none 0 0 [])]), (.mk (1, 0) none 0 0 [])] = [3] from by kernel_rfl, show errl [(.mk (10, 3) (some ⟨b769, 0, none⟩) 1 1 [(.mk (1, 0) none 0 0 [])]), (.mk (1, 0) none 0 0 [])] = [3] from by kernel_rfl, List.mergeSort_singleton]; rfl
   have hrl : rows.length = 2 := by have := congrArg List.length hrs2; simpa using this
   refine After.ret (by kernel_rfl) ?_
   have sE779 := E779.size
   refine S.run 5 [] [2, 7, 13, 14] (rs := []) (κ' := [(2, iV 0), (7, iV 0), (13, pT b719), (14, .slice oa rows.length oc)]) (by kernel_rfl) (by kernel_rfl) rfl ?_
   refine S.regEnd (by kernel_rfl) (S.seq (S.region (S.one (by kernel_rfl) (S.call (dst := some 157) (f := 29) (args := #[iV 0]) (by kernel_rfl) (by kernel_rfl) ((Num_spec _ _).mono ?_)))))
   rintro _ w780 ⟨E780, rfl⟩
   refine After.ret (by kernel_rfl) ?_
   have sE780 := E780.size
   refine S.one (by kernel_rfl) (S.new 158 [iV 1, iV 0, .slice none 0 0] 60 (fun b => .slice (some ⟨b, 0, none⟩) 1 1) (by kernel_rfl) (by kernel_rfl) (fun b => by kernel_rfl) (fun b781 w781 E781 B781 e781 z781 => ?_))
   have sE781 := E781.size
   refine S.one (by kernel_rfl) (S.call (dst := some 159) (f := 28) (args := #[iV 9, iV 1, .slice (some ⟨b781, 0, none⟩) 1 1]) (by kernel_rfl) (by kernel_rfl) ((Of_spec _ _ _ _ _ _).mono ?_))
   rintro _ w782 ⟨E782, rfl⟩
   refine After.ret (by kernel_rfl) ?_
   have sE782 := E782.size
   refine S.one (by kernel_rfl) (S.call (dst := some 160) (f := 29) (args := #[iV 4]) (by kernel_rfl) (by kernel_rfl) ((Num_spec _ _).mono ?_))
   rintro _ w783 ⟨E783, rfl⟩
   refine After.ret (by kernel_rfl) ?_
   have sE783 := E783.size
   refine S.one (by kernel_rfl) (S.new 161 [iV 9, iV 1, .slice (some ⟨b781, 0, none⟩) 1 1, iV 1, iV 4, .slice none 0 0] 60 (fun b => .slice (some ⟨b, 0, none⟩) 2 2) (by kernel_rfl) (by kernel_rfl) (fun b => by kernel_rfl) (fun b784 w784 E784 B784 e784 z784 => ?_))
   have sE784 := E784.size
   refine S.one (by kernel_rfl) (S.call (dst := some 162) (f := 28) (args := #[iV 8, iV 0, .slice (some ⟨b784, 0, none⟩) 2 2]) (by kernel_rfl) (by kernel_rfl) ((Of_spec _ _ _ _ _ _).mono ?_))
   rintro _ w785 ⟨E785, rfl⟩
   refine After.ret (by kernel_rfl) ?_
   have sE785 := E785.size
   refine S.one (by kernel_rfl) (S.new 163 [iV 8, iV 0, .slice (some ⟨b784, 0, none⟩) 2 2] 60 (fun b => .slice (some ⟨b, 0, none⟩) 1 1) (by kernel_rfl) (by kernel_rfl) (fun b => by kernel_rfl) (fun b786 w786 E786 B786 e786 z786 => ?_))
   have sE786 := E786.size
   have B787 := B784.ext0 E785
   have B788 := B787.ext0 E786
   have B789 := B781.ext0 E782
   have B790 := B789.ext0 E783
   have B791 := B790.ext0 E784
   have B792 := B791.ext0 E785
   have B793 := B792.ext0 E786
   have hp794 : (⟨some ⟨b786, 0, none⟩, 1, [(.mk (8, 0) (some ⟨b784, 0, none⟩) 2 2 [(.mk (9, 1) (some ⟨b781, 0, none⟩) 1 1 [(.mk (1, 0) none 0 0 [])]), (.mk (1, 4) none 0 0 [])])]⟩ : LP).ok w786.heap.size w786 := (XOk.prog (XOk.ofB (kids := [(.mk (8, 0) (some ⟨b784, 0, none⟩) 2 2 [(.mk (9, 1) (some ⟨b781, 0, none⟩) 1 1 [(.mk (1, 0) none 0 0 [])]), (.mk (1, 4) none 0 0 [])])]) (k := 1) (0, 0) B786 rfl (by omega) B786.lt (List.forall_mem_cons.2 ⟨(XOk.ofB (kids := [(.mk (9, 1) (some ⟨b781, 0, none⟩) 1 1 [(.mk (1, 0) none 0 0 [])]), (.mk (1, 4) none 0 0 [])]) (k := 2) (8, 0) B788 rfl (by omega) B788.lt (List.forall_mem_cons.2 ⟨(XOk.ofB (kids := [(.mk (1, 0) none 0 0 [])]) (k := 1) (9, 1) B793 rfl (by omega) B793.lt (List.forall_mem_cons.2 ⟨(XOk.nil (1, 0)), (fun _ h => by cases h)⟩)), (List.forall_mem_cons.2 ⟨(XOk.nil (1, 4)), (fun _ h => by cases h)⟩)⟩)), (fun _ h => by cases h)⟩)))
   have hfi794 : fineS (⟨some ⟨b786, 0, none⟩, 1, [(.mk (8, 0) (some ⟨b784, 0, none⟩) 2 2 [(.mk (9, 1) (some ⟨b781, 0, none⟩) 1 1 [(.mk (1, 0) none 0 0 [])]), (.mk (1, 4) none 0 0 [])])]⟩ : LP).xs = true := by kernel_rfl
   have hwf794 := wf_fine hfi794
   have hpl0 : Plain1 (⟨some ⟨b786, 0, none⟩, 1, [(.mk (8, 0) (some ⟨b784, 0, none⟩) 2 2 [(.mk (9, 1) (some ⟨b781, 0, none⟩) 1 1 [(.mk (1, 0) none 0 0 [])]), (.mk (1, 4) none 0 0 [])])]⟩ : LP) (.mk (1, 0) none 0 0 []) (.mk (1, 0) none 0 0 []) := plain_leaf _ (.mk (1, 0) none 0 0 []) (by show (1 : Int) ≠ 8; omega) rfl
   have hpl1 : Plain1 (⟨some ⟨b786, 0, none⟩, 1, [(.mk (8, 0) (some ⟨b784, 0, none⟩) 2 2 [(.mk (9, 1) (some ⟨b781, 0, none⟩) 1 1 [(.mk (1, 0) none 0 0 [])]), (.mk (1, 4) none 0 0 [])])]⟩ : LP) (.mk (9, 1) (some ⟨b781, 0, none⟩) 1 1 [(.mk (1, 0) none 0 0 [])]) (.mk (9, 1) none 1 0 [(.mk (1, 0) none 0 0 [])]) := plain_one _ (.mk (9, 1) (some ⟨b781, 0, none⟩) 1 1 [(.mk (1, 0) none 0 0 [])]) _ _ (by show (9 : Int) ≠ 8; omega) rfl hpl0
   have hpl2 : Plain1 (⟨some ⟨b786, 0, none⟩, 1, [(.mk (8, 0) (some ⟨b784, 0, none⟩) 2 2 [(.mk (9, 1) (some ⟨b781, 0, none⟩) 1 1 [(.mk (1, 0) none 0 0 [])]), (.mk (1, 4) none 0 0 [])])]⟩ : LP) (.mk (8, 0) (some ⟨b784, 0, none⟩) 2 2 [(.mk (9, 1) (some ⟨b781, 0, none⟩) 1 1 [(.mk (1, 0) none 0 0 [])]), (.mk (1, 4) none 0 0 [])]) (.mk (9, 1) none 1 0 [(.mk (1, 0) none 0 0 [])]) := plain_handle _ (.mk (8, 0) (some ⟨b784, 0, none⟩) 2 2 [(.mk (9, 1) (some ⟨b781, 0, none⟩) 1 1 [(.mk (1, 0) none 0 0 [])]), (.mk (1, 4) none 0 0 [])]) _ (.mk (9, 1) (some ⟨b781, 0, none⟩) 1 1 [(.mk (1, 0) none 0 0 [])]) [(.mk (1, 4) none 0 0 [])] 5 [(.mk (9, 1) (some ⟨b781, 0, none⟩) 1 1 [(.mk (1, 0) none 0 0 [])]), (.mk (1, 0) none 0 0 [])] (List.replicate 6 false) rfl rfl hwf794.1 hwf794.2.2 ((hwf794.1 _ (List.mem_cons_self ..)).kid (List.mem_cons_self ..)) (by kernel_rfl) (by kernel_rfl) hpl1
   refine S.one (by kernel_rfl) (S.call (dst := some 164) (f := 31) (args := #[.slice (some ⟨b786, 0, none⟩) 1 1]) (by kernel_rfl) (by kernel_rfl) ((Plain_spec (⟨some ⟨b786, 0, none⟩, 1, [(.mk (8, 0) (some ⟨b784, 0, none⟩) 2 2 [(.mk (9, 1) (some ⟨b781, 0, none⟩) 1 1 [(.mk (1, 0) none 0 0 [])]), (.mk (1, 4) none 0 0 [])])]⟩ : LP) (.mk (8, 0) (some ⟨b784, 0, none⟩) 2 2 [(.mk (9, 1) (some ⟨b781, 0, none⟩) 1 1 [(.mk (1, 0) none 0 0 [])]), (.mk (1, 4) none 0 0 [])]) (.mk (9, 1) none 1 0 [(.mk (1, 0) none 0 0 [])]) w786.heap.size _ hp794 (Nat.le_refl _) rfl hfi794 hpl2).mono ?_))
   rintro _ w794 ⟨E794, q, hq, rfl, hqe, hql⟩
   refine After.ret (by kernel_rfl) ?_
   have sE794 := E794.size
   refine S.run 5 [] [2, 7, 9, 13, 14, 15] (rs := []) (κ' := [(2, iV 0), (7, iV 0), (9, iV 0), (13, pT b719), (14, .slice oa rows.length oc), (15, .slice q.a q.xs.length q.cap)]) (by kernel_rfl) (by kernel_rfl) rfl ?_
   refine S.regEnd (by kernel_rfl) (S.seq (S.region ?_))
   have B795 := B764.ext0 E765
   have B796 := B795.ext0 E766
   have B797 := B796.ext0 E767
   have B798 := B797.ext0 E768
   have B799 := B798.ext0 E769
   have B800 := B799.ext0 E770
   have B801 := B800.ext0 E771
   have B802 := B801.ext0 E779
   have B803 := B802.ext0 E780
   have B804 := B803.ext0 E781
   have B805 := B804.ext0 E782
   have B806 := B805.ext0 E783
   have B807 := B806.ext0 E784
   have B808 := B807.ext0 E785
   have B809 := B808.ext0 E786
   have B810 := B809.ext0 E794
   refine S.run 16 [.v (iV r723.fin)] [13, 14, 15, 182] (rs := [.load ⟨b719, 0, none⟩ (iV r723.fin)]) (κ' := [(13, pT b719), (14, .slice oa rows.length oc), (15, .slice q.a q.xs.length q.cap), (182, .bool (r723.fin == 1))]) (by kernel_rfl) (by kernel_rfl) (.load (B810.cell 0 rfl) .nil) ?_
   refine S.subst 182 (.bool (r723.fin == 1)) (.bool true) (by kernel_rfl) (congrArg Value.bool (by rw [lf723]; rfl)) ?_
   refine S.run 5 [.v (iV r723.val)] [13, 14, 15, 187] (rs := [.load ⟨b719, 1, none⟩ (iV r723.val)]) (κ' := [(13, pT b719), (14, .slice oa rows.length oc), (15, .slice q.a q.xs.length q.cap), (187, .bool (r723.val == 2))]) (by kernel_rfl) (by kernel_rfl) (.load (B810.cell 1 rfl) .nil) ?_
   refine S.subst 187 (.bool (r723.val == 2)) (.bool true) (by kernel_rfl) (congrArg Value.bool (by rw [lv723]; rfl)) ?_
   refine S.run 6 [.v (.slice r723.a r723.les.length r723.cap)] [13, 14, 15, 193] (rs := [.load ⟨b719, 2, none⟩ (.slice r723.a r723.les.length r723.cap)]) (κ' := [(13, pT b719), (14, .slice oa rows.length oc), (15, .slice q.a q.xs.length q.cap), (193, .bool (((r723.les.length : Nat) : Int) == 3))]) (by kernel_rfl) (by kernel_rfl) (.load (B810.cell 2 rfl) .nil) ?_
   refine S.subst 193 (.bool (((r723.les.length : Nat) : Int) == 3)) (.bool true) (by kernel_rfl) (congrArg Value.bool (by rw [ll723]; rfl)) ?_
   refine S.run 2 [.v (.slice r723.a r723.les.length r723.cap)] [13, 14, 15, 193, 195] (rs := [.load ⟨b719, 2, none⟩ (.slice r723.a r723.les.length r723.cap)]) (κ' := [(13, pT b719), (14, .slice oa rows.length oc), (15, .slice q.a q.xs.length q.cap), (193, .bool true), (195, .slice r723.a r723.les.length r723.cap)]) (by kernel_rfl) (by kernel_rfl) (.load (B810.cell 2 rfl) .nil) ?_
   have R811 := hr723.1.pres (.ofE E764 B763 (by decide))
   have R812 := R811.pres (.of0 E765)
   have R813 := R812.pres (.of0 E766)
   have R814 := R813.pres (.of0 E767)
   have R815 := R814.pres (.of0 E768)
   have R816 := R815.pres (.of0 E769)
   have R817 := R816.pres (.of0 E770)
   have R818 := R817.pres (.of0 E771)
   have R819 := R818.pres (.of0 E779)
   have R820 := R819.pres (.of0 E780)
   have R821 := R820.pres (.of0 E781)
   have R822 := R821.pres (.of0 E782)
   have R823 := R822.pres (.of0 E783)
   have R824 := R823.pres (.of0 E784)
   have R825 := R824.pres (.of0 E785)
   have R826 := R825.pres (.of0 E786)
   have R827 := R826.pres (.of0 E794)
   obtain ⟨x828, b828, o828, hx828, h828, H828⟩ := R827.get 1 (by omega)
   refine S.one (by kernel_rfl) (S.law 196 (v := .pointer (some ⟨b828, o828 + 1 * 5, none⟩)) (Instr.indexAt 27 (.slice r723.a r723.les.length r723.cap) (.int .i64 ((1 : Nat) : Int))) (by kernel_rfl) (by kernel_rfl) (by kernel_rfl) (run_idx (e := 43) 1 h828 (by kernel_rfl) (by kernel_rfl) (by omega)) ?_)
   refine S.run 5 [.v (iV x828.deed)] [13, 14, 15, 201] (rs := [.load ⟨b828, o828 + 1 * 5, none⟩ (iV x828.deed)]) (κ' := [(13, pT b719), (14, .slice oa rows.length oc), (15, .slice q.a q.xs.length q.cap), (201, .bool (x828.deed == 5))]) (by kernel_rfl) (by kernel_rfl) (.load (H828.cell0 rfl) .nil) ?_
   refine S.subst 201 (.bool (x828.deed == 5)) (.bool true) (by kernel_rfl) (congrArg Value.bool (by have h9 := congrArg (Option.map Ev.deed) (ev_at le723 hx828); have h9 : (5 : Int) = x828.deed := Option.some.inj h9; rw [← h9]; rfl)) ?_
   refine S.run 2 [.v (.slice r723.a r723.les.length r723.cap)] [14, 15, 201, 203] (rs := [.load ⟨b719, 2, none⟩ (.slice r723.a r723.les.length r723.cap)]) (κ' := [(14, .slice oa rows.length oc), (15, .slice q.a q.xs.length q.cap), (201, .bool true), (203, .slice r723.a r723.les.length r723.cap)]) (by kernel_rfl) (by kernel_rfl) (.load (B810.cell 2 rfl) .nil) ?_
   obtain ⟨x829, b829, o829, hx829, h829, H829⟩ := R827.get 2 (by omega)
   refine S.one (by kernel_rfl) (S.law 204 (v := .pointer (some ⟨b829, o829 + 2 * 5, none⟩)) (Instr.indexAt 27 (.slice r723.a r723.les.length r723.cap) (.int .i64 ((2 : Nat) : Int))) (by kernel_rfl) (by kernel_rfl) (by kernel_rfl) (run_idx (e := 43) 2 h829 (by kernel_rfl) (by kernel_rfl) (by omega)) ?_)
   refine S.run 5 [.v (iV x829.val)] [14, 15, 209] (rs := [.load ⟨b829, o829 + 2 * 5 + 2, none⟩ (iV x829.val)]) (κ' := [(14, .slice oa rows.length oc), (15, .slice q.a q.xs.length q.cap), (209, .bool (x829.val == 9))]) (by kernel_rfl) (by kernel_rfl) (.load (H829.cell 2 rfl) .nil) ?_
   refine S.subst 209 (.bool (x829.val == 9)) (.bool true) (by kernel_rfl) (congrArg Value.bool (by have h9 := congrArg (Option.map Ev.val) (ev_at le723 hx829); have h9 : (9 : Int) = x829.val := Option.some.inj h9; rw [← h9]; rfl)) ?_
   refine S.run 1 [] [15, 209, 210] (rs := []) (κ' := [(15, .slice q.a q.xs.length q.cap), (209, .bool true), (210, .slice oa rows.length oc)]) (by kernel_rfl) (by kernel_rfl) rfl ?_
   refine S.one (by kernel_rfl) (S.new 211 [iV 3] 3 (fun b => .slice (some ⟨b, 0, none⟩) 1 1) (by kernel_rfl) (by kernel_rfl) (fun b => by kernel_rfl) (fun b830 w830 E830 B830 e830 z830 => ?_))
   have sE830 := E830.size
   refine S.one (by kernel_rfl) (S.new 212 [iV 3] 3 (fun b => .slice (some ⟨b, 0, none⟩) 1 1) (by kernel_rfl) (by kernel_rfl) (fun b => by kernel_rfl) (fun b831 w831 E831 B831 e831 z831 => ?_))
   have sE831 := E831.size
   refine S.one (by kernel_rfl) (S.new 213 [.slice (some ⟨b830, 0, none⟩) 1 1, .slice (some ⟨b831, 0, none⟩) 1 1] 23 (fun b => .slice (some ⟨b, 0, none⟩) 2 2) (by kernel_rfl) (by kernel_rfl) (fun b => by kernel_rfl) (fun b832 w832 E832 B832 e832 z832 => ?_))
   have sE832 := E832.size
   have B834 := B830.ext0 E831
   have B835 := B834.ext0 E832
   have B836 := B831.ext0 E832
   have R837 := hrow.pres (.of0 E780)
   have R838 := R837.pres (.of0 E781)
   have R839 := R838.pres (.of0 E782)
   have R840 := R839.pres (.of0 E783)
   have R841 := R840.pres (.of0 E784)
   have R842 := R841.pres (.of0 E785)
   have R843 := R842.pres (.of0 E786)
   have R844 := R843.pres (.of0 E794)
   have R845 := R844.pres (.of0 E830)
   have R846 := R845.pres (.of0 E831)
   have R847 := R846.pres (.of0 E832)
   have T848 := hro.pres (.of0 E780)
   have T849 := T848.pres (.of0 E781)
   have T850 := T849.pres (.of0 E782)
   have T851 := T850.pres (.of0 E783)
   have T852 := T851.pres (.of0 E784)
   have T853 := T852.pres (.of0 E785)
   have T854 := T853.pres (.of0 E786)
   have T855 := T854.pres (.of0 E794)
   have T856 := T855.pres (.of0 E830)
   have T857 := T856.pres (.of0 E831)
   have T858 := T857.pres (.of0 E832)
   have hY833 : RowsOk w832.heap.size w832 [(⟨some ⟨b830, 0, none⟩, 1, [3]⟩ : LS), (⟨some ⟨b831, 0, none⟩, 1, [3]⟩ : LS)] := (List.forall_mem_cons.2 ⟨⟨Row.ofBlk (cs := intCs) (xs := [3]) B835 (fun _ => rfl) B835.lt, by show 1 ≤ _; omega⟩, (List.forall_mem_cons.2 ⟨⟨Row.ofBlk (cs := intCs) (xs := [3]) B836 (fun _ => rfl) B836.lt, by show 1 ≤ _; omega⟩, (fun _ h => by cases h)⟩)⟩)
   have hse833 := SameLists_spec _ _ _ _ oa (some ⟨b832, 0, none⟩) oc 2 rows [(⟨some ⟨b830, 0, none⟩, 1, [3]⟩ : LS), (⟨some ⟨b831, 0, none⟩, 1, [3]⟩ : LS)] _ R847 (Row.ofBlk (cs := lsCs) (xs := [(⟨some ⟨b830, 0, none⟩, 1, [3]⟩ : LS), (⟨some ⟨b831, 0, none⟩, 1, [3]⟩ : LS)]) B832 (fun _ => rfl) B832.lt) T858 hY833 (by omega) (by show 2 ≤ _; omega)
   refine S.one (by kernel_rfl) (S.call (dst := some 214) (f := 32) (args := #[.slice oa rows.length oc, .slice (some ⟨b832, 0, none⟩) 2 2]) (by kernel_rfl) (by kernel_rfl) (hse833.mono ?_))
   rintro _ w833 ⟨E833, rfl⟩
   refine After.ret (by kernel_rfl) ?_
   have sE833 := E833.size
   refine S.subst 214 (.bool (rows.map LS.xs == [(⟨some ⟨b830, 0, none⟩, 1, [3]⟩ : LS), (⟨some ⟨b831, 0, none⟩, 1, [3]⟩ : LS)].map LS.xs)) (.bool true) (by kernel_rfl) (congrArg Value.bool (by rw [hrs2]; rfl)) ?_
   refine S.run 3 [] [216, 217] (rs := []) (κ' := [(216, .bool true), (217, .slice q.a q.xs.length q.cap)]) (by kernel_rfl) (by kernel_rfl) rfl ?_
   refine S.one (by kernel_rfl) (S.call (dst := some 218) (f := 29) (args := #[iV 0]) (by kernel_rfl) (by kernel_rfl) ((Num_spec _ _).mono ?_))
   rintro _ w859 ⟨E859, rfl⟩
   refine After.ret (by kernel_rfl) ?_
   have sE859 := E859.size
   refine S.one (by kernel_rfl) (S.new 219 [iV 1, iV 0, .slice none 0 0] 60 (fun b => .slice (some ⟨b, 0, none⟩) 1 1) (by kernel_rfl) (by kernel_rfl) (fun b => by kernel_rfl) (fun b860 w860 E860 B860 e860 z860 => ?_))
   have sE860 := E860.size
   refine S.one (by kernel_rfl) (S.call (dst := some 220) (f := 28) (args := #[iV 9, iV 1, .slice (some ⟨b860, 0, none⟩) 1 1]) (by kernel_rfl) (by kernel_rfl) ((Of_spec _ _ _ _ _ _).mono ?_))
   rintro _ w861 ⟨E861, rfl⟩
   refine After.ret (by kernel_rfl) ?_
   have sE861 := E861.size
   refine S.one (by kernel_rfl) (S.new 221 [iV 9, iV 1, .slice (some ⟨b860, 0, none⟩) 1 1] 60 (fun b => .slice (some ⟨b, 0, none⟩) 1 1) (by kernel_rfl) (by kernel_rfl) (fun b => by kernel_rfl) (fun b862 w862 E862 B862 e862 z862 => ?_))
   have sE862 := E862.size
   have B863 := B860.ext0 E861
   have B864 := B863.ext0 E862
   have T866 := hq.pres (.of0 E830)
   have T867 := T866.pres (.of0 E831)
   have T868 := T867.pres (.of0 E832)
   have T869 := T868.pres (.of0 E833)
   have T870 := T869.pres (.of0 E859)
   have T871 := T870.pres (.of0 E860)
   have T872 := T871.pres (.of0 E861)
   have T873 := T872.pres (.of0 E862)
   have hse865 := SameProg_spec q (⟨some ⟨b862, 0, none⟩, 1, [(.mk (9, 1) (some ⟨b860, 0, none⟩) 1 1 [(.mk (1, 0) none 0 0 [])])]⟩ : LP) _ w862.heap.size _ T873 (XOk.prog (XOk.ofB (kids := [(.mk (9, 1) (some ⟨b860, 0, none⟩) 1 1 [(.mk (1, 0) none 0 0 [])])]) (k := 1) (0, 0) B862 rfl (by omega) B862.lt (List.forall_mem_cons.2 ⟨(XOk.ofB (kids := [(.mk (1, 0) none 0 0 [])]) (k := 1) (9, 1) B864 rfl (by omega) B864.lt (List.forall_mem_cons.2 ⟨(XOk.nil (1, 0)), (fun _ h => by cases h)⟩)), (fun _ h => by cases h)⟩)))
   refine S.one (by kernel_rfl) (S.call (dst := some 222) (f := 33) (args := #[.slice q.a q.xs.length q.cap, .slice (some ⟨b862, 0, none⟩) 1 1]) (by kernel_rfl) (by kernel_rfl) (hse865.mono ?_))
   rintro _ w865 ⟨E865, rfl⟩
   refine After.ret (by kernel_rfl) ?_
   have sE865 := E865.size
   refine S.subst 222 (.bool (eqX.eqL q.xs (⟨some ⟨b862, 0, none⟩, 1, [(.mk (9, 1) (some ⟨b860, 0, none⟩) 1 1 [(.mk (1, 0) none 0 0 [])])]⟩ : LP).xs)) (.bool true) (by kernel_rfl) (congrArg Value.bool (eqL_trans hqe (by kernel_rfl))) ?_
   refine S.run 2 [] [0] (rs := []) (κ' := [(0, .bool true)]) (by kernel_rfl) (by kernel_rfl) rfl ?_
   exact S.regEnd (by kernel_rfl) (S.ret1 (v := .bool true) rfl (by kernel_rfl) ⟨((((((((((((((((((((((((((((((((((((((((((((((((((((((((((((((((((((((E1.trans E2).trans E3).thenS E4 (by omega)).trans E5).trans E6).trans E7).trans E8).trans E9).trans E10).trans E11).trans E30).trans E49).trans E50).trans E51).thenS E52 (by omega)).trans E53).trans E54).trans E55).trans E60).thenS E61 (by omega)).trans E62).trans E63).trans E64).thenS E65 (by omega)).trans E66).trans E67).trans E68).thenS E69 (by omega)).trans E95).trans E96).trans E97).trans E98).trans E99).trans E100).trans E101).trans E102).trans E103).thenS E104 (by omega)).trans E105).trans E108).trans E719).trans E720).trans E721).trans E722).trans E723).thenS E764 (by omega)).trans E765).trans E766).trans E767).trans E768).trans E769).trans E770).trans E771).trans E779).trans E780).trans E781).trans E782).trans E783).trans E784).trans E785).trans E786).trans E794).trans E830).trans E831).trans E832).trans E833).trans E859).trans E860).trans E861).trans E862).trans E865, rfl⟩)
 ·skip
  show S _ _ _ _ _ (.one _ 9 :: .dreg _ #[true, false, false, false, false, false, false, false, false, true, false, false] _ _ :: _) _ _
  refine S.new 13 [iV 0, iV 0, .slice none 0 0, iV 0] 29 (fun b => pT b) (by kernel_rfl) (by kernel_rfl) (fun b => by kernel_rfl) (fun b874 w874 E874 B874 e874 z874 => ?_)
  have sE874 := E874.size
  refine S.dnext (j := 1) (l' := #[true, true, false, false, false, false, false, false, false, true, false, false]) (by kernel_rfl) (by kernel_rfl) (sw1 (by kernel_rfl) E874) ?_
  refine S.call (dst := some 138) (f := 30) (args := #[]) (by kernel_rfl) (by kernel_rfl) ((Hand_spec  _).mono ?_)
  rintro _ w875 ⟨E875, rfl⟩
  refine After.ret (by kernel_rfl) ?_
  have sE875 := E875.size
  refine S.dnext (j := 2) (l' := #[true, true, true, false, false, false, false, false, false, true, false, false]) (by kernel_rfl) (by kernel_rfl) (sw1 (by kernel_rfl) (E874.trans E875)) ?_
  refine S.new 139 [iV 15, iV 0, .slice (some ⟨b101, 0, none⟩) 2 2, iV 2, iV 0, .slice none 0 0] 60 (fun b => .slice (some ⟨b, 0, none⟩) 2 2) (by kernel_rfl) (by kernel_rfl) (fun b => by kernel_rfl) (fun b876 w876 E876 B876 e876 z876 => ?_)
  have sE876 := E876.size
  refine S.dnext (j := 3) (l' := #[true, true, true, true, false, false, false, false, false, true, false, false]) (by kernel_rfl) (by kernel_rfl) (sw1 (by kernel_rfl) ((E874.trans E875).trans E876)) ?_
  refine S.call (dst := some 140) (f := 28) (args := #[iV 11, iV 1, .slice (some ⟨b876, 0, none⟩) 2 2]) (by kernel_rfl) (by kernel_rfl) ((Of_spec _ _ _ _ _ _).mono ?_)
  rintro _ w877 ⟨E877, rfl⟩
  refine After.ret (by kernel_rfl) ?_
  have sE877 := E877.size
  refine S.dnext (j := 4) (l' := #[true, true, true, true, true, false, false, false, false, true, false, false]) (by kernel_rfl) (by kernel_rfl) (sw1 (by kernel_rfl) (((E874.trans E875).trans E876).trans E877)) ?_
  refine S.new 141 [iV 11, iV 1, .slice (some ⟨b876, 0, none⟩) 2 2] 60 (fun b => .slice (some ⟨b, 0, none⟩) 1 1) (by kernel_rfl) (by kernel_rfl) (fun b => by kernel_rfl) (fun b878 w878 E878 B878 e878 z878 => ?_)
  have sE878 := E878.size
  refine S.dnext (j := 5) (l' := #[true, true, true, true, true, true, false, false, false, true, false, false]) (by kernel_rfl) (by kernel_rfl) (sw1 (by kernel_rfl) ((((E874.trans E875).trans E876).trans E877).trans E878)) ?_
  have B880 := B876.ext0 E877
  have B881 := B880.ext0 E878
  have B882 := B101.ext0 E102
  have B883 := B882.ext0 E103
  have B884 := B883.extS E104 (by omega)
  have B885 := B884.ext0 E105
  have B886 := B885.ext0 E874
  have B887 := B886.ext0 E875
  have B888 := B887.ext0 E876
  have B889 := B888.ext0 E877
  have B890 := B889.ext0 E878
  have B891 := B96.ext0 E97
  have B892 := B891.ext0 E98
  have B893 := B892.ext0 E99
  have B894 := B893.ext0 E100
  have B895 := B894.ext0 E101
  have B896 := B895.ext0 E102
  have B897 := B896.ext0 E103
  have B898 := B897.extS E104 (by omega)
  have B899 := B898.ext0 E105
  have B900 := B899.ext0 E874
  have B901 := B900.ext0 E875
  have B902 := B901.ext0 E876
  have B903 := B902.ext0 E877
  have B904 := B903.ext0 E878
  have B905 := B99.ext0 E100
  have B906 := B905.ext0 E101
  have B907 := B906.ext0 E102
  have B908 := B907.ext0 E103
  have B909 := B908.extS E104 (by omega)
  have B910 := B909.ext0 E105
  have B911 := B910.ext0 E874
  have B912 := B911.ext0 E875
  have B913 := B912.ext0 E876
  have B914 := B913.ext0 E877
  have B915 := B914.ext0 E878
  refine S.call (dst := some 142) (f := 4) (args := #[.slice (some ⟨b878, 0, none⟩) 1 1, iV 0, iV 99]) (by kernel_rfl) (by kernel_rfl) ((Run_spec w878.heap.size (⟨some ⟨b878, 0, none⟩, 1, [(.mk (11, 1) (some ⟨b876, 0, none⟩) 2 2 [(.mk (15, 0) (some ⟨b101, 0, none⟩) 2 2 [(.mk (13, 1) (some ⟨b96, 0, none⟩) 1 1 [(.mk (1, 2) none 0 0 [])]), (.mk (4, 0) (some ⟨b99, 0, none⟩) 1 1 [(.mk (1, 9) none 0 0 [])])]), (.mk (2, 0) none 0 0 [])])]⟩ : LP) 0 99 _ (XOk.prog (XOk.ofB (kids := [(.mk (11, 1) (some ⟨b876, 0, none⟩) 2 2 [(.mk (15, 0) (some ⟨b101, 0, none⟩) 2 2 [(.mk (13, 1) (some ⟨b96, 0, none⟩) 1 1 [(.mk (1, 2) none 0 0 [])]), (.mk (4, 0) (some ⟨b99, 0, none⟩) 1 1 [(.mk (1, 9) none 0 0 [])])]), (.mk (2, 0) none 0 0 [])])]) (k := 1) (0, 0) B878 rfl (by omega) B878.lt (List.forall_mem_cons.2 ⟨(XOk.ofB (kids := [(.mk (15, 0) (some ⟨b101, 0, none⟩) 2 2 [(.mk (13, 1) (some ⟨b96, 0, none⟩) 1 1 [(.mk (1, 2) none 0 0 [])]), (.mk (4, 0) (some ⟨b99, 0, none⟩) 1 1 [(.mk (1, 9) none 0 0 [])])]), (.mk (2, 0) none 0 0 [])]) (k := 2) (11, 1) B881 rfl (by omega) B881.lt (List.forall_mem_cons.2 ⟨(XOk.ofB (kids := [(.mk (13, 1) (some ⟨b96, 0, none⟩) 1 1 [(.mk (1, 2) none 0 0 [])]), (.mk (4, 0) (some ⟨b99, 0, none⟩) 1 1 [(.mk (1, 9) none 0 0 [])])]) (k := 2) (15, 0) B890 rfl (by omega) B890.lt (List.forall_mem_cons.2 ⟨(XOk.ofB (kids := [(.mk (1, 2) none 0 0 [])]) (k := 1) (13, 1) B904 rfl (by omega) B904.lt (List.forall_mem_cons.2 ⟨(XOk.nil (1, 2)), (fun _ h => by cases h)⟩)), (List.forall_mem_cons.2 ⟨(XOk.ofB (kids := [(.mk (1, 9) none 0 0 [])]) (k := 1) (4, 0) B915 rfl (by omega) B915.lt (List.forall_mem_cons.2 ⟨(XOk.nil (1, 9)), (fun _ h => by cases h)⟩)), (fun _ h => by cases h)⟩)⟩)), (List.forall_mem_cons.2 ⟨(XOk.nil (2, 0)), (fun _ h => by cases h)⟩)⟩)), (fun _ h => by cases h)⟩))) (Nat.le_refl _)).mono ?_)
  rintro _ w879 ⟨E879, ⟨hok879, r879, rfl, hr879, his879⟩ | ⟨hok879, rfl⟩⟩
  case inr => exact absurd hok879 (by rw [show okD (⟨some ⟨b878, 0, none⟩, 1, [(.mk (11, 1) (some ⟨b876, 0, none⟩) 2 2 [(.mk (15, 0) (some ⟨b101, 0, none⟩) 2 2 [(.mk (13, 1) (some ⟨b96, 0, none⟩) 1 1 [(.mk (1, 2) none 0 0 [])]), (.mk (4, 0) (some ⟨b99, 0, none⟩) 1 1 [(.mk (1, 9) none 0 0 [])])]), (.mk (2, 0) none 0 0 [])])]⟩ : LP).xs 0 [] 99 = true from by kernel_rfl]; simp)
  have to879 := LRun.to his879 (t := ⟨1, 2, [⟨4, 1, 2, [], [1]⟩, ⟨5, 0, 0, [], [1]⟩, ⟨1, 0, 9, [], [1]⟩], 92⟩) (by kernel_rfl)
  have lf879 : r879.fin = 1 := to879.1; have lv879 : r879.val = 2 := to879.2.1; have le879 : r879.les.map LE.ev = [⟨4, 1, 2, [], [1]⟩, ⟨5, 0, 0, [], [1]⟩, ⟨1, 0, 9, [], [1]⟩] := to879.2.2.1; have lu879 : r879.fuel = 92 := to879.2.2.2.1; have ll879 : r879.les.length = 3 := to879.2.2.2.2; have lb879 := hr879.2.2
  refine After.ret (by kernel_rfl) ?_
  have sE879 := E879.size
  refine S.dreads bodyPost_panicOk [6, 7, 8] 2 [] [13, 143, 144] (rs := []) (κ' := [(13, pT b874), (143, .agg #[iV r879.fin, iV r879.val, .slice r879.a r879.les.length r879.cap, iV r879.fuel]), (144, iV 0)]) (l' := #[true, true, true, true, true, true, true, true, true, true, false, false]) (by kernel_rfl) (by kernel_rfl) (by kernel_rfl) (fun _ _ => rfl) ?_
  refine S.dnext (j := 10) (l' := #[true, true, true, true, true, true, true, true, true, true, true, false]) (by kernel_rfl) (by kernel_rfl) (sw1 (by kernel_rfl) (((((E874.trans E875).trans E876).trans E877).trans E878).trans E879)) ?_
  have B916 := B874.ext0 E875
  have B917 := B916.ext0 E876
  have B918 := B917.ext0 E877
  have B919 := B918.ext0 E878
  have B920 := B919.ext0 E879
  refine S.store 0 [iV r879.fin, iV r879.val, .slice r879.a r879.les.length r879.cap, iV r879.fuel] [iV r879.fin, iV r879.val, .slice r879.a r879.les.length r879.cap, iV r879.fuel] B920 (by kernel_rfl) (by kernel_rfl) (by kernel_rfl) (by kernel_rfl) (by kernel_rfl) (fun w921 E921 B921 z921 => ?_)
  have sE921 := E921.size
  refine S.dreads bodyPost_panicOk [11] 0 [] [2, 13] (rs := []) (κ' := [(2, iV 0), (13, pT b874)]) (l' := #[true, true, true, true, true, true, true, true, true, true, true, true]) (by kernel_rfl) (by kernel_rfl) (by kernel_rfl) (fun _ _ => rfl) ?_
  refine S.dend (by kernel_rfl) (sw1 (by kernel_rfl) ((((((E874.trans E875).trans E876).trans E877).trans E878).trans E879).thenS E921 (by omega))) ?_
  refine S.seq (S.region (S.one (by kernel_rfl) (S.call (dst := some 146) (f := 29) (args := #[iV 0]) (by kernel_rfl) (by kernel_rfl) ((Num_spec _ _).mono ?_))))
  rintro _ w922 ⟨E922, rfl⟩
  refine After.ret (by kernel_rfl) ?_
  have sE922 := E922.size
  refine S.one (by kernel_rfl) (S.new 147 [iV 1, iV 0, .slice none 0 0] 60 (fun b => .slice (some ⟨b, 0, none⟩) 1 1) (by kernel_rfl) (by kernel_rfl) (fun b => by kernel_rfl) (fun b923 w923 E923 B923 e923 z923 => ?_))
  have sE923 := E923.size
  refine S.one (by kernel_rfl) (S.call (dst := some 148) (f := 28) (args := #[iV 7, iV 1, .slice (some ⟨b923, 0, none⟩) 1 1]) (by kernel_rfl) (by kernel_rfl) ((Of_spec _ _ _ _ _ _).mono ?_))
  rintro _ w924 ⟨E924, rfl⟩
  refine After.ret (by kernel_rfl) ?_
  have sE924 := E924.size
  refine S.one (by kernel_rfl) (S.call (dst := some 149) (f := 29) (args := #[iV 0]) (by kernel_rfl) (by kernel_rfl) ((Num_spec _ _).mono ?_))
  rintro _ w925 ⟨E925, rfl⟩
  refine After.ret (by kernel_rfl) ?_
  have sE925 := E925.size
  refine S.one (by kernel_rfl) (S.new 150 [iV 1, iV 0, .slice none 0 0] 60 (fun b => .slice (some ⟨b, 0, none⟩) 1 1) (by kernel_rfl) (by kernel_rfl) (fun b => by kernel_rfl) (fun b926 w926 E926 B926 e926 z926 => ?_))
  have sE926 := E926.size
  refine S.one (by kernel_rfl) (S.call (dst := some 151) (f := 28) (args := #[iV 10, iV 3, .slice (some ⟨b926, 0, none⟩) 1 1]) (by kernel_rfl) (by kernel_rfl) ((Of_spec _ _ _ _ _ _).mono ?_))
  rintro _ w927 ⟨E927, rfl⟩
  refine After.ret (by kernel_rfl) ?_
  have sE927 := E927.size
  refine S.one (by kernel_rfl) (S.new 152 [iV 7, iV 1, .slice (some ⟨b923, 0, none⟩) 1 1, iV 10, iV 3, .slice (some ⟨b926, 0, none⟩) 1 1] 60 (fun b => .slice (some ⟨b, 0, none⟩) 2 2) (by kernel_rfl) (by kernel_rfl) (fun b => by kernel_rfl) (fun b928 w928 E928 B928 e928 z928 => ?_))
  have sE928 := E928.size
  have B929 := B923.ext0 E924
  have B930 := B929.ext0 E925
  have B931 := B930.ext0 E926
  have B932 := B931.ext0 E927
  have B933 := B932.ext0 E928
  have B934 := B926.ext0 E927
  have B935 := B934.ext0 E928
  have hp936 : (⟨some ⟨b928, 0, none⟩, 2, [(.mk (7, 1) (some ⟨b923, 0, none⟩) 1 1 [(.mk (1, 0) none 0 0 [])]), (.mk (10, 3) (some ⟨b926, 0, none⟩) 1 1 [(.mk (1, 0) none 0 0 [])])]⟩ : LP).ok w928.heap.size w928 := (XOk.prog (XOk.ofB (kids := [(.mk (7, 1) (some ⟨b923, 0, none⟩) 1 1 [(.mk (1, 0) none 0 0 [])]), (.mk (10, 3) (some ⟨b926, 0, none⟩) 1 1 [(.mk (1, 0) none 0 0 [])])]) (k := 2) (0, 0) B928 rfl (by omega) B928.lt (List.forall_mem_cons.2 ⟨(XOk.ofB (kids := [(.mk (1, 0) none 0 0 [])]) (k := 1) (7, 1) B933 rfl (by omega) B933.lt (List.forall_mem_cons.2 ⟨(XOk.nil (1, 0)), (fun _ h => by cases h)⟩)), (List.forall_mem_cons.2 ⟨(XOk.ofB (kids := [(.mk (1, 0) none 0 0 [])]) (k := 1) (10, 3) B935 rfl (by omega) B935.lt (List.forall_mem_cons.2 ⟨(XOk.nil (1, 0)), (fun _ h => by cases h)⟩)), (fun _ h => by cases h)⟩)⟩)))
  have hv936a : visit (⟨some ⟨b928, 0, none⟩, 2, [(.mk (7, 1) (some ⟨b923, 0, none⟩) 1 1 [(.mk (1, 0) none 0 0 [])]), (.mk (10, 3) (some ⟨b926, 0, none⟩) 1 1 [(.mk (1, 0) none 0 0 [])])]⟩ : LP).xs 5 (.mk (7, 1) (some ⟨b923, 0, none⟩) 1 1 [(.mk (1, 0) none 0 0 [])]) (List.replicate 6 false) = some ([(.mk (7, 1) (some ⟨b923, 0, none⟩) 1 1 [(.mk (1, 0) none 0 0 [])]), (.mk (1, 0) none 0 0 []), (.mk (10, 3) (some ⟨b926, 0, none⟩) 1 1 [(.mk (1, 0) none 0 0 [])]), (.mk (1, 0) none 0 0 [])], [false, true, false, false, false, false]) := by kernel_rfl
  have hv936b : visit (⟨some ⟨b928, 0, none⟩, 2, [(.mk (7, 1) (some ⟨b923, 0, none⟩) 1 1 [(.mk (1, 0) none 0 0 [])]), (.mk (10, 3) (some ⟨b926, 0, none⟩) 1 1 [(.mk (1, 0) none 0 0 [])])]⟩ : LP).xs 5 (.mk (10, 3) (some ⟨b926, 0, none⟩) 1 1 [(.mk (1, 0) none 0 0 [])]) (List.replicate 6 false) = some ([(.mk (10, 3) (some ⟨b926, 0, none⟩) 1 1 [(.mk (1, 0) none 0 0 [])]), (.mk (1, 0) none 0 0 [])], (List.replicate 6 false)) := by kernel_rfl
  refine S.one (by kernel_rfl) (S.call (dst := some 153) (f := 6) (args := #[.slice (some ⟨b928, 0, none⟩) 2 2]) (by kernel_rfl) (by kernel_rfl) ((Errors_spec (⟨some ⟨b928, 0, none⟩, 2, [(.mk (7, 1) (some ⟨b923, 0, none⟩) 1 1 [(.mk (1, 0) none 0 0 [])]), (.mk (10, 3) (some ⟨b926, 0, none⟩) 1 1 [(.mk (1, 0) none 0 0 [])])]⟩ : LP) w928.heap.size 5 _ hp936 (Nat.le_refl _) (fun _ => List.forall_mem_cons.2 ⟨⟨_, _, hv936a, by show 4 ≤ 1000; omega⟩, List.forall_mem_cons.2 ⟨⟨_, _, hv936b, by show 2 ≤ 1000; omega⟩, fun _ h => by cases h⟩⟩)).mono ?_))
  rintro _ w936 ⟨E936, ⟨hfi, rows, oa, oc, rfl, hrow, hro, hrs⟩ | ⟨hfi, rfl⟩⟩
  case inr => exact absurd hfi (by rw [show fineS (⟨some ⟨b928, 0, none⟩, 2, [(.mk (7, 1) (some ⟨b923, 0, none⟩) 1 1 [(.mk (1, 0) none 0 0 [])]), (.mk (10, 3) (some ⟨b926, 0, none⟩) 1 1 [(.mk (1, 0) none 0 0 [])])]⟩ : LP).xs = true from by kernel_rfl]; simp)
  have hrs2 : rows.map LS.xs = [[3], [3]] := by rw [hrs]; show [errS _ 5 _, errS _ 5 _] = _; rw [errS_eq hv936a, errS_eq hv936b]; rw [show errl [(.mk (7, 1) (some ⟨b923, 0, none⟩) 1 1 [(.mk (1, 0) none 0 0 [])]), (.mk (1, 0) none 0 0 []), (.mk (10, 3) (some ⟨b926, 0, none⟩) 1 1 [(.mk (1, 0) none 0 0 [])]), (.mk (1, 0) none 0 0 [])] = [3] from by kernel_rfl, show errl [(.mk (10, 3) (some ⟨b926, 0, none⟩) 1 1 [(.mk (1, 0) none 0 0 [])]), (.mk (1, 0) none 0 0 [])] = [3] from by kernel_rfl, List.mergeSort_singleton]; rfl
  have hrl : rows.length = 2 := by have := congrArg List.length hrs2; simpa using this
  refine After.ret (by kernel_rfl) ?_
  have sE936 := E936.size
  refine S.run 5 [] [2, 7, 13, 14] (rs := []) (κ' := [(2, iV 0), (7, iV 0), (13, pT b874), (14, .slice oa rows.length oc)]) (by kernel_rfl) (by kernel_rfl) rfl ?_
  refine S.regEnd (by kernel_rfl) (S.seq (S.region (S.one (by kernel_rfl) (S.call (dst := some 157) (f := 29) (args := #[iV 0]) (by kernel_rfl) (by kernel_rfl) ((Num_spec _ _).mono ?_)))))
  rintro _ w937 ⟨E937, rfl⟩
  refine After.ret (by kernel_rfl) ?_
  have sE937 := E937.size
  refine S.one (by kernel_rfl) (S.new 158 [iV 1, iV 0, .slice none 0 0] 60 (fun b => .slice (some ⟨b, 0, none⟩) 1 1) (by kernel_rfl) (by kernel_rfl) (fun b => by kernel_rfl) (fun b938 w938 E938 B938 e938 z938 => ?_))
  have sE938 := E938.size
  refine S.one (by kernel_rfl) (S.call (dst := some 159) (f := 28) (args := #[iV 9, iV 1, .slice (some ⟨b938, 0, none⟩) 1 1]) (by kernel_rfl) (by kernel_rfl) ((Of_spec _ _ _ _ _ _).mono ?_))
  rintro _ w939 ⟨E939, rfl⟩
  refine After.ret (by kernel_rfl) ?_
  have sE939 := E939.size
  refine S.one (by kernel_rfl) (S.call (dst := some 160) (f := 29) (args := #[iV 4]) (by kernel_rfl) (by kernel_rfl) ((Num_spec _ _).mono ?_))
  rintro _ w940 ⟨E940, rfl⟩
  refine After.ret (by kernel_rfl) ?_
  have sE940 := E940.size
  refine S.one (by kernel_rfl) (S.new 161 [iV 9, iV 1, .slice (some ⟨b938, 0, none⟩) 1 1, iV 1, iV 4, .slice none 0 0] 60 (fun b => .slice (some ⟨b, 0, none⟩) 2 2) (by kernel_rfl) (by kernel_rfl) (fun b => by kernel_rfl) (fun b941 w941 E941 B941 e941 z941 => ?_))
  have sE941 := E941.size
  refine S.one (by kernel_rfl) (S.call (dst := some 162) (f := 28) (args := #[iV 8, iV 0, .slice (some ⟨b941, 0, none⟩) 2 2]) (by kernel_rfl) (by kernel_rfl) ((Of_spec _ _ _ _ _ _).mono ?_))
  rintro _ w942 ⟨E942, rfl⟩
  refine After.ret (by kernel_rfl) ?_
  have sE942 := E942.size
  refine S.one (by kernel_rfl) (S.new 163 [iV 8, iV 0, .slice (some ⟨b941, 0, none⟩) 2 2] 60 (fun b => .slice (some ⟨b, 0, none⟩) 1 1) (by kernel_rfl) (by kernel_rfl) (fun b => by kernel_rfl) (fun b943 w943 E943 B943 e943 z943 => ?_))
  have sE943 := E943.size
  have B944 := B941.ext0 E942
  have B945 := B944.ext0 E943
  have B946 := B938.ext0 E939
  have B947 := B946.ext0 E940
  have B948 := B947.ext0 E941
  have B949 := B948.ext0 E942
  have B950 := B949.ext0 E943
  have hp951 : (⟨some ⟨b943, 0, none⟩, 1, [(.mk (8, 0) (some ⟨b941, 0, none⟩) 2 2 [(.mk (9, 1) (some ⟨b938, 0, none⟩) 1 1 [(.mk (1, 0) none 0 0 [])]), (.mk (1, 4) none 0 0 [])])]⟩ : LP).ok w943.heap.size w943 := (XOk.prog (XOk.ofB (kids := [(.mk (8, 0) (some ⟨b941, 0, none⟩) 2 2 [(.mk (9, 1) (some ⟨b938, 0, none⟩) 1 1 [(.mk (1, 0) none 0 0 [])]), (.mk (1, 4) none 0 0 [])])]) (k := 1) (0, 0) B943 rfl (by omega) B943.lt (List.forall_mem_cons.2 ⟨(XOk.ofB (kids := [(.mk (9, 1) (some ⟨b938, 0, none⟩) 1 1 [(.mk (1, 0) none 0 0 [])]), (.mk (1, 4) none 0 0 [])]) (k := 2) (8, 0) B945 rfl (by omega) B945.lt (List.forall_mem_cons.2 ⟨(XOk.ofB (kids := [(.mk (1, 0) none 0 0 [])]) (k := 1) (9, 1) B950 rfl (by omega) B950.lt (List.forall_mem_cons.2 ⟨(XOk.nil (1, 0)), (fun _ h => by cases h)⟩)), (List.forall_mem_cons.2 ⟨(XOk.nil (1, 4)), (fun _ h => by cases h)⟩)⟩)), (fun _ h => by cases h)⟩)))
  have hfi951 : fineS (⟨some ⟨b943, 0, none⟩, 1, [(.mk (8, 0) (some ⟨b941, 0, none⟩) 2 2 [(.mk (9, 1) (some ⟨b938, 0, none⟩) 1 1 [(.mk (1, 0) none 0 0 [])]), (.mk (1, 4) none 0 0 [])])]⟩ : LP).xs = true := by kernel_rfl
  have hwf951 := wf_fine hfi951
  have hpl0 : Plain1 (⟨some ⟨b943, 0, none⟩, 1, [(.mk (8, 0) (some ⟨b941, 0, none⟩) 2 2 [(.mk (9, 1) (some ⟨b938, 0, none⟩) 1 1 [(.mk (1, 0) none 0 0 [])]), (.mk (1, 4) none 0 0 [])])]⟩ : LP) (.mk (1, 0) none 0 0 []) (.mk (1, 0) none 0 0 []) := plain_leaf _ (.mk (1, 0) none 0 0 []) (by show (1 : Int) ≠ 8; omega) rfl
  have hpl1 : Plain1 (⟨some ⟨b943, 0, none⟩, 1, [(.mk (8, 0) (some ⟨b941, 0, none⟩) 2 2 [(.mk (9, 1) (some ⟨b938, 0, none⟩) 1 1 [(.mk (1, 0) none 0 0 [])]), (.mk (1, 4) none 0 0 [])])]⟩ : LP) (.mk (9, 1) (some ⟨b938, 0, none⟩) 1 1 [(.mk (1, 0) none 0 0 [])]) (.mk (9, 1) none 1 0 [(.mk (1, 0) none 0 0 [])]) := plain_one _ (.mk (9, 1) (some ⟨b938, 0, none⟩) 1 1 [(.mk (1, 0) none 0 0 [])]) _ _ (by show (9 : Int) ≠ 8; omega) rfl hpl0
  have hpl2 : Plain1 (⟨some ⟨b943, 0, none⟩, 1, [(.mk (8, 0) (some ⟨b941, 0, none⟩) 2 2 [(.mk (9, 1) (some ⟨b938, 0, none⟩) 1 1 [(.mk (1, 0) none 0 0 [])]), (.mk (1, 4) none 0 0 [])])]⟩ : LP) (.mk (8, 0) (some ⟨b941, 0, none⟩) 2 2 [(.mk (9, 1) (some ⟨b938, 0, none⟩) 1 1 [(.mk (1, 0) none 0 0 [])]), (.mk (1, 4) none 0 0 [])]) (.mk (9, 1) none 1 0 [(.mk (1, 0) none 0 0 [])]) := plain_handle _ (.mk (8, 0) (some ⟨b941, 0, none⟩) 2 2 [(.mk (9, 1) (some ⟨b938, 0, none⟩) 1 1 [(.mk (1, 0) none 0 0 [])]), (.mk (1, 4) none 0 0 [])]) _ (.mk (9, 1) (some ⟨b938, 0, none⟩) 1 1 [(.mk (1, 0) none 0 0 [])]) [(.mk (1, 4) none 0 0 [])] 5 [(.mk (9, 1) (some ⟨b938, 0, none⟩) 1 1 [(.mk (1, 0) none 0 0 [])]), (.mk (1, 0) none 0 0 [])] (List.replicate 6 false) rfl rfl hwf951.1 hwf951.2.2 ((hwf951.1 _ (List.mem_cons_self ..)).kid (List.mem_cons_self ..)) (by kernel_rfl) (by kernel_rfl) hpl1
  refine S.one (by kernel_rfl) (S.call (dst := some 164) (f := 31) (args := #[.slice (some ⟨b943, 0, none⟩) 1 1]) (by kernel_rfl) (by kernel_rfl) ((Plain_spec (⟨some ⟨b943, 0, none⟩, 1, [(.mk (8, 0) (some ⟨b941, 0, none⟩) 2 2 [(.mk (9, 1) (some ⟨b938, 0, none⟩) 1 1 [(.mk (1, 0) none 0 0 [])]), (.mk (1, 4) none 0 0 [])])]⟩ : LP) (.mk (8, 0) (some ⟨b941, 0, none⟩) 2 2 [(.mk (9, 1) (some ⟨b938, 0, none⟩) 1 1 [(.mk (1, 0) none 0 0 [])]), (.mk (1, 4) none 0 0 [])]) (.mk (9, 1) none 1 0 [(.mk (1, 0) none 0 0 [])]) w943.heap.size _ hp951 (Nat.le_refl _) rfl hfi951 hpl2).mono ?_))
  rintro _ w951 ⟨E951, q, hq, rfl, hqe, hql⟩
  refine After.ret (by kernel_rfl) ?_
  have sE951 := E951.size
  refine S.run 5 [] [2, 7, 9, 13, 14, 15] (rs := []) (κ' := [(2, iV 0), (7, iV 0), (9, iV 0), (13, pT b874), (14, .slice oa rows.length oc), (15, .slice q.a q.xs.length q.cap)]) (by kernel_rfl) (by kernel_rfl) rfl ?_
  refine S.regEnd (by kernel_rfl) (S.seq (S.region ?_))
  have B952 := B921.ext0 E922
  have B953 := B952.ext0 E923
  have B954 := B953.ext0 E924
  have B955 := B954.ext0 E925
  have B956 := B955.ext0 E926
  have B957 := B956.ext0 E927
  have B958 := B957.ext0 E928
  have B959 := B958.ext0 E936
  have B960 := B959.ext0 E937
  have B961 := B960.ext0 E938
  have B962 := B961.ext0 E939
  have B963 := B962.ext0 E940
  have B964 := B963.ext0 E941
  have B965 := B964.ext0 E942
  have B966 := B965.ext0 E943
  have B967 := B966.ext0 E951
  refine S.run 16 [.v (iV r879.fin)] [13, 14, 15, 182] (rs := [.load ⟨b874, 0, none⟩ (iV r879.fin)]) (κ' := [(13, pT b874), (14, .slice oa rows.length oc), (15, .slice q.a q.xs.length q.cap), (182, .bool (r879.fin == 1))]) (by kernel_rfl) (by kernel_rfl) (.load (B967.cell 0 rfl) .nil) ?_
  refine S.subst 182 (.bool (r879.fin == 1)) (.bool true) (by kernel_rfl) (congrArg Value.bool (by rw [lf879]; rfl)) ?_
  refine S.run 5 [.v (iV r879.val)] [13, 14, 15, 187] (rs := [.load ⟨b874, 1, none⟩ (iV r879.val)]) (κ' := [(13, pT b874), (14, .slice oa rows.length oc), (15, .slice q.a q.xs.length q.cap), (187, .bool (r879.val == 2))]) (by kernel_rfl) (by kernel_rfl) (.load (B967.cell 1 rfl) .nil) ?_
  refine S.subst 187 (.bool (r879.val == 2)) (.bool true) (by kernel_rfl) (congrArg Value.bool (by rw [lv879]; rfl)) ?_
  refine S.run 6 [.v (.slice r879.a r879.les.length r879.cap)] [13, 14, 15, 193] (rs := [.load ⟨b874, 2, none⟩ (.slice r879.a r879.les.length r879.cap)]) (κ' := [(13, pT b874), (14, .slice oa rows.length oc), (15, .slice q.a q.xs.length q.cap), (193, .bool (((r879.les.length : Nat) : Int) == 3))]) (by kernel_rfl) (by kernel_rfl) (.load (B967.cell 2 rfl) .nil) ?_
  refine S.subst 193 (.bool (((r879.les.length : Nat) : Int) == 3)) (.bool true) (by kernel_rfl) (congrArg Value.bool (by rw [ll879]; rfl)) ?_
  refine S.run 2 [.v (.slice r879.a r879.les.length r879.cap)] [13, 14, 15, 193, 195] (rs := [.load ⟨b874, 2, none⟩ (.slice r879.a r879.les.length r879.cap)]) (κ' := [(13, pT b874), (14, .slice oa rows.length oc), (15, .slice q.a q.xs.length q.cap), (193, .bool true), (195, .slice r879.a r879.les.length r879.cap)]) (by kernel_rfl) (by kernel_rfl) (.load (B967.cell 2 rfl) .nil) ?_
  have R968 := hr879.1.pres (.ofE E921 B920 (by decide))
  have R969 := R968.pres (.of0 E922)
  have R970 := R969.pres (.of0 E923)
  have R971 := R970.pres (.of0 E924)
  have R972 := R971.pres (.of0 E925)
  have R973 := R972.pres (.of0 E926)
  have R974 := R973.pres (.of0 E927)
  have R975 := R974.pres (.of0 E928)
  have R976 := R975.pres (.of0 E936)
  have R977 := R976.pres (.of0 E937)
  have R978 := R977.pres (.of0 E938)
  have R979 := R978.pres (.of0 E939)
  have R980 := R979.pres (.of0 E940)
  have R981 := R980.pres (.of0 E941)
  have R982 := R981.pres (.of0 E942)
  have R983 := R982.pres (.of0 E943)
  have R984 := R983.pres (.of0 E951)
  obtain ⟨x985, b985, o985, hx985, h985, H985⟩ := R984.get 1 (by omega)
  refine S.one (by kernel_rfl) (S.law 196 (v := .pointer (some ⟨b985, o985 + 1 * 5, none⟩)) (Instr.indexAt 27 (.slice r879.a r879.les.length r879.cap) (.int .i64 ((1 : Nat) : Int))) (by kernel_rfl) (by kernel_rfl) (by kernel_rfl) (run_idx (e := 43) 1 h985 (by kernel_rfl) (by kernel_rfl) (by omega)) ?_)
  refine S.run 5 [.v (iV x985.deed)] [13, 14, 15, 201] (rs := [.load ⟨b985, o985 + 1 * 5, none⟩ (iV x985.deed)]) (κ' := [(13, pT b874), (14, .slice oa rows.length oc), (15, .slice q.a q.xs.length q.cap), (201, .bool (x985.deed == 5))]) (by kernel_rfl) (by kernel_rfl) (.load (H985.cell0 rfl) .nil) ?_
  refine S.subst 201 (.bool (x985.deed == 5)) (.bool true) (by kernel_rfl) (congrArg Value.bool (by have h9 := congrArg (Option.map Ev.deed) (ev_at le879 hx985); have h9 : (5 : Int) = x985.deed := Option.some.inj h9; rw [← h9]; rfl)) ?_
  refine S.run 2 [.v (.slice r879.a r879.les.length r879.cap)] [14, 15, 201, 203] (rs := [.load ⟨b874, 2, none⟩ (.slice r879.a r879.les.length r879.cap)]) (κ' := [(14, .slice oa rows.length oc), (15, .slice q.a q.xs.length q.cap), (201, .bool true), (203, .slice r879.a r879.les.length r879.cap)]) (by kernel_rfl) (by kernel_rfl) (.load (B967.cell 2 rfl) .nil) ?_
  obtain ⟨x986, b986, o986, hx986, h986, H986⟩ := R984.get 2 (by omega)
  refine S.one (by kernel_rfl) (S.law 204 (v := .pointer (some ⟨b986, o986 + 2 * 5, none⟩)) (Instr.indexAt 27 (.slice r879.a r879.les.length r879.cap) (.int .i64 ((2 : Nat) : Int))) (by kernel_rfl) (by kernel_rfl) (by kernel_rfl) (run_idx (e := 43) 2 h986 (by kernel_rfl) (by kernel_rfl) (by omega)) ?_)
  refine S.run 5 [.v (iV x986.val)] [14, 15, 209] (rs := [.load ⟨b986, o986 + 2 * 5 + 2, none⟩ (iV x986.val)]) (κ' := [(14, .slice oa rows.length oc), (15, .slice q.a q.xs.length q.cap), (209, .bool (x986.val == 9))]) (by kernel_rfl) (by kernel_rfl) (.load (H986.cell 2 rfl) .nil) ?_
  refine S.subst 209 (.bool (x986.val == 9)) (.bool true) (by kernel_rfl) (congrArg Value.bool (by have h9 := congrArg (Option.map Ev.val) (ev_at le879 hx986); have h9 : (9 : Int) = x986.val := Option.some.inj h9; rw [← h9]; rfl)) ?_
  refine S.run 1 [] [15, 209, 210] (rs := []) (κ' := [(15, .slice q.a q.xs.length q.cap), (209, .bool true), (210, .slice oa rows.length oc)]) (by kernel_rfl) (by kernel_rfl) rfl ?_
  refine S.one (by kernel_rfl) (S.new 211 [iV 3] 3 (fun b => .slice (some ⟨b, 0, none⟩) 1 1) (by kernel_rfl) (by kernel_rfl) (fun b => by kernel_rfl) (fun b987 w987 E987 B987 e987 z987 => ?_))
  have sE987 := E987.size
  refine S.one (by kernel_rfl) (S.new 212 [iV 3] 3 (fun b => .slice (some ⟨b, 0, none⟩) 1 1) (by kernel_rfl) (by kernel_rfl) (fun b => by kernel_rfl) (fun b988 w988 E988 B988 e988 z988 => ?_))
  have sE988 := E988.size
  refine S.one (by kernel_rfl) (S.new 213 [.slice (some ⟨b987, 0, none⟩) 1 1, .slice (some ⟨b988, 0, none⟩) 1 1] 23 (fun b => .slice (some ⟨b, 0, none⟩) 2 2) (by kernel_rfl) (by kernel_rfl) (fun b => by kernel_rfl) (fun b989 w989 E989 B989 e989 z989 => ?_))
  have sE989 := E989.size
  have B991 := B987.ext0 E988
  have B992 := B991.ext0 E989
  have B993 := B988.ext0 E989
  have R994 := hrow.pres (.of0 E937)
  have R995 := R994.pres (.of0 E938)
  have R996 := R995.pres (.of0 E939)
  have R997 := R996.pres (.of0 E940)
  have R998 := R997.pres (.of0 E941)
  have R999 := R998.pres (.of0 E942)
  have R1000 := R999.pres (.of0 E943)
  have R1001 := R1000.pres (.of0 E951)
  have R1002 := R1001.pres (.of0 E987)
  have R1003 := R1002.pres (.of0 E988)
  have R1004 := R1003.pres (.of0 E989)
  have T1005 := hro.pres (.of0 E937)
  have T1006 := T1005.pres (.of0 E938)
  have T1007 := T1006.pres (.of0 E939)
  have T1008 := T1007.pres (.of0 E940)
  have T1009 := T1008.pres (.of0 E941)
  have T1010 := T1009.pres (.of0 E942)
  have T1011 := T1010.pres (.of0 E943)
  have T1012 := T1011.pres (.of0 E951)
  have T1013 := T1012.pres (.of0 E987)
  have T1014 := T1013.pres (.of0 E988)
  have T1015 := T1014.pres (.of0 E989)
  have hY990 : RowsOk w989.heap.size w989 [(⟨some ⟨b987, 0, none⟩, 1, [3]⟩ : LS), (⟨some ⟨b988, 0, none⟩, 1, [3]⟩ : LS)] := (List.forall_mem_cons.2 ⟨⟨Row.ofBlk (cs := intCs) (xs := [3]) B992 (fun _ => rfl) B992.lt, by show 1 ≤ _; omega⟩, (List.forall_mem_cons.2 ⟨⟨Row.ofBlk (cs := intCs) (xs := [3]) B993 (fun _ => rfl) B993.lt, by show 1 ≤ _; omega⟩, (fun _ h => by cases h)⟩)⟩)
  have hse990 := SameLists_spec _ _ _ _ oa (some ⟨b989, 0, none⟩) oc 2 rows [(⟨some ⟨b987, 0, none⟩, 1, [3]⟩ : LS), (⟨some ⟨b988, 0, none⟩, 1, [3]⟩ : LS)] _ R1004 (Row.ofBlk (cs := lsCs) (xs := [(⟨some ⟨b987, 0, none⟩, 1, [3]⟩ : LS), (⟨some ⟨b988, 0, none⟩, 1, [3]⟩ : LS)]) B989 (fun _ => rfl) B989.lt) T1015 hY990 (by omega) (by show 2 ≤ _; omega)
  refine S.one (by kernel_rfl) (S.call (dst := some 214) (f := 32) (args := #[.slice oa rows.length oc, .slice (some ⟨b989, 0, none⟩) 2 2]) (by kernel_rfl) (by kernel_rfl) (hse990.mono ?_))
  rintro _ w990 ⟨E990, rfl⟩
  refine After.ret (by kernel_rfl) ?_
  have sE990 := E990.size
  refine S.subst 214 (.bool (rows.map LS.xs == [(⟨some ⟨b987, 0, none⟩, 1, [3]⟩ : LS), (⟨some ⟨b988, 0, none⟩, 1, [3]⟩ : LS)].map LS.xs)) (.bool true) (by kernel_rfl) (congrArg Value.bool (by rw [hrs2]; rfl)) ?_
  refine S.run 3 [] [216, 217] (rs := []) (κ' := [(216, .bool true), (217, .slice q.a q.xs.length q.cap)]) (by kernel_rfl) (by kernel_rfl) rfl ?_
  refine S.one (by kernel_rfl) (S.call (dst := some 218) (f := 29) (args := #[iV 0]) (by kernel_rfl) (by kernel_rfl) ((Num_spec _ _).mono ?_))
  rintro _ w1016 ⟨E1016, rfl⟩
  refine After.ret (by kernel_rfl) ?_
  have sE1016 := E1016.size
  refine S.one (by kernel_rfl) (S.new 219 [iV 1, iV 0, .slice none 0 0] 60 (fun b => .slice (some ⟨b, 0, none⟩) 1 1) (by kernel_rfl) (by kernel_rfl) (fun b => by kernel_rfl) (fun b1017 w1017 E1017 B1017 e1017 z1017 => ?_))
  have sE1017 := E1017.size
  refine S.one (by kernel_rfl) (S.call (dst := some 220) (f := 28) (args := #[iV 9, iV 1, .slice (some ⟨b1017, 0, none⟩) 1 1]) (by kernel_rfl) (by kernel_rfl) ((Of_spec _ _ _ _ _ _).mono ?_))
  rintro _ w1018 ⟨E1018, rfl⟩
  refine After.ret (by kernel_rfl) ?_
  have sE1018 := E1018.size
  refine S.one (by kernel_rfl) (S.new 221 [iV 9, iV 1, .slice (some ⟨b1017, 0, none⟩) 1 1] 60 (fun b => .slice (some ⟨b, 0, none⟩) 1 1) (by kernel_rfl) (by kernel_rfl) (fun b => by kernel_rfl) (fun b1019 w1019 E1019 B1019 e1019 z1019 => ?_))
  have sE1019 := E1019.size
  have B1020 := B1017.ext0 E1018
  have B1021 := B1020.ext0 E1019
  have T1023 := hq.pres (.of0 E987)
  have T1024 := T1023.pres (.of0 E988)
  have T1025 := T1024.pres (.of0 E989)
  have T1026 := T1025.pres (.of0 E990)
  have T1027 := T1026.pres (.of0 E1016)
  have T1028 := T1027.pres (.of0 E1017)
  have T1029 := T1028.pres (.of0 E1018)
  have T1030 := T1029.pres (.of0 E1019)
  have hse1022 := SameProg_spec q (⟨some ⟨b1019, 0, none⟩, 1, [(.mk (9, 1) (some ⟨b1017, 0, none⟩) 1 1 [(.mk (1, 0) none 0 0 [])])]⟩ : LP) _ w1019.heap.size _ T1030 (XOk.prog (XOk.ofB (kids := [(.mk (9, 1) (some ⟨b1017, 0, none⟩) 1 1 [(.mk (1, 0) none 0 0 [])])]) (k := 1) (0, 0) B1019 rfl (by omega) B1019.lt (List.forall_mem_cons.2 ⟨(XOk.ofB (kids := [(.mk (1, 0) none 0 0 [])]) (k := 1) (9, 1) B1021 rfl (by omega) B1021.lt (List.forall_mem_cons.2 ⟨(XOk.nil (1, 0)), (fun _ h => by cases h)⟩)), (fun _ h => by cases h)⟩)))
  refine S.one (by kernel_rfl) (S.call (dst := some 222) (f := 33) (args := #[.slice q.a q.xs.length q.cap, .slice (some ⟨b1019, 0, none⟩) 1 1]) (by kernel_rfl) (by kernel_rfl) (hse1022.mono ?_))
  rintro _ w1022 ⟨E1022, rfl⟩
  refine After.ret (by kernel_rfl) ?_
  have sE1022 := E1022.size
  refine S.subst 222 (.bool (eqX.eqL q.xs (⟨some ⟨b1019, 0, none⟩, 1, [(.mk (9, 1) (some ⟨b1017, 0, none⟩) 1 1 [(.mk (1, 0) none 0 0 [])])]⟩ : LP).xs)) (.bool true) (by kernel_rfl) (congrArg Value.bool (eqL_trans hqe (by kernel_rfl))) ?_
  refine S.run 2 [] [0] (rs := []) (κ' := [(0, .bool true)]) (by kernel_rfl) (by kernel_rfl) rfl ?_
  exact S.regEnd (by kernel_rfl) (S.ret1 (v := .bool true) rfl (by kernel_rfl) ⟨((((((((((((((((((((((((((((((((((((((((((((((((((((((((((((((((((((((E1.trans E2).trans E3).thenS E4 (by omega)).trans E5).trans E6).trans E7).trans E8).trans E9).trans E10).trans E11).trans E30).trans E49).trans E50).trans E51).thenS E52 (by omega)).trans E53).trans E54).trans E55).trans E60).thenS E61 (by omega)).trans E62).trans E63).trans E64).thenS E65 (by omega)).trans E66).trans E67).trans E68).thenS E69 (by omega)).trans E95).trans E96).trans E97).trans E98).trans E99).trans E100).trans E101).trans E102).trans E103).thenS E104 (by omega)).trans E105).trans E874).trans E875).trans E876).trans E877).trans E878).trans E879).thenS E921 (by omega)).trans E922).trans E923).trans E924).trans E925).trans E926).trans E927).trans E928).trans E936).trans E937).trans E938).trans E939).trans E940).trans E941).trans E942).trans E943).trans E951).trans E987).trans E988).trans E989).trans E990).trans E1016).trans E1017).trans E1018).trans E1019).trans E1022, rfl⟩)

end Go.Proofs.Ytmgakpnejbembaa
