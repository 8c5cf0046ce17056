/-
  CondChoice, a part of the proof (printed by a program of the prover): what functions of the given program compute, each under the conditions that its theorem names.
-/
import Derived.Test.YtmgakpnejbembaaA28
namespace Go.Proofs.Ytmgakpnejbembaa
open Go Go.Proofs.Ytmgakpnejbembaa.L

theorem okD_fine {p : List X} {hand fuel : Int} {ks : List Int} (h : okD p hand ks fuel = true) : fineS p = true := by
  unfold okD at h
  simp only [Bool.and_eq_true] at h
  exact h.1.1.1.1
theorem okD_picks {p : List X} {hand fuel : Int} {ks : List Int} (h : okD p hand ks fuel = true) : ∀ q, q ∈ ks → q ≥ 0 := by
  unfold okD at h
  simp only [Bool.and_eq_true] at h
  intro q hq
  exact of_decide_eq_true (List.all_eq_true.1 h.2 q hq)

set_option maxHeartbeats 4000000 in
theorem CondChoice_spec (n : Nat) (p : LP) (k : LS) (hand fuel : Int) (w : World) (hp : p.ok n w) (hk : k.okA n w) (hc : k.xs.length ≤ k.cap) (hn : n ≤ w.heap.size) :
    Calls Try.prog 3 #[.agg #[.slice p.a p.xs.length p.cap, iV hand, .slice k.a k.xs.length k.cap, iV fuel]] w (fun e w' => Ext E0 w w' ∧ e = .returned (.bool true)) := by
 refine calls_of_S (n := 157) Try.func3 rfl rfl (by kernel_rfl) ?_
 have hkb := hk.2
 refine S.seq (S.region (S.one (by kernel_rfl) (S.new 1 [.slice p.a p.xs.length p.cap, iV hand, .slice k.a k.xs.length k.cap, iV fuel] 25 (fun b => pT b) (by kernel_rfl) (by kernel_rfl) (fun b => by kernel_rfl) (fun b1 w1 E1 B1 e1 z1 => ?_))))
 have sE1 := E1.size
 refine S.run 1 [] [1] (rs := []) (κ' := [(1, pT b1)]) (by kernel_rfl) (by kernel_rfl) rfl ?_
 refine S.regEnd (by kernel_rfl) (S.seq (S.region (S.run 6 [.v (.slice p.a p.xs.length p.cap), .v (iV hand), .v (iV fuel)] [1, 14, 16, 18] (rs := [.load ⟨b1, 0, none⟩ (.slice p.a p.xs.length p.cap), .load ⟨b1, 1, none⟩ (iV hand), .load ⟨b1, 3, none⟩ (iV fuel)]) (κ' := [(1, pT b1), (14, .slice p.a p.xs.length p.cap), (16, iV hand), (18, iV fuel)]) (by kernel_rfl) (by kernel_rfl) (.load (B1.cell 0 rfl) (.load (B1.cell 1 rfl) (.load (B1.cell 3 rfl) .nil))) ?_)))
 have T2 := hp.pres (.of0 E1)
 refine S.one (by kernel_rfl) (S.call (dst := some 19) (f := 4) (args := #[.slice p.a p.xs.length p.cap, iV hand, iV fuel]) (by kernel_rfl) (by kernel_rfl) ((Run_spec n p hand fuel _ T2 (by omega)).mono ?_))
 rintro _ w3 ⟨E3, ⟨hok3, r3, rfl, hr3, his3⟩ | ⟨hok3, rfl⟩⟩
 ·skip
  refine After.ret (by kernel_rfl) ?_
  have sE3 := E3.size
  refine S.run 3 [] [1, 20, 21] (rs := []) (κ' := [(1, pT b1), (20, .agg #[iV r3.fin, iV r3.val, .slice r3.a r3.les.length r3.cap, iV r3.fuel]), (21, iV 0)]) (by kernel_rfl) (by kernel_rfl) rfl ?_
  refine S.one (by kernel_rfl) (S.new 3 [iV 0, iV 0, .slice none 0 0, iV 0] 29 (fun b => pT b) (by kernel_rfl) (by kernel_rfl) (fun b => by kernel_rfl) (fun b4 w4 E4 B4 e4 z4 => ?_))
  have sE4 := E4.size
  refine S.one (by kernel_rfl) (S.store 0 [iV r3.fin, iV r3.val, .slice r3.a r3.les.length r3.cap, iV r3.fuel] [iV r3.fin, iV r3.val, .slice r3.a r3.les.length r3.cap, iV r3.fuel] B4 (by kernel_rfl) (by kernel_rfl) (by kernel_rfl) (by kernel_rfl) (by kernel_rfl) (fun w5 E5 B5 z5 => ?_))
  have sE5 := E5.size
  refine S.run 1 [] [1, 3, 4] (rs := []) (κ' := [(1, pT b1), (3, pT b4), (4, iV 0)]) (by kernel_rfl) (by kernel_rfl) rfl ?_
  refine S.regEnd (by kernel_rfl) (S.seq (S.region ?_))
  have B6 := B1.ext0 E3
  have B7 := B6.ext0 E4
  have B8 := B7.extT E5 B4 (by decide)
  refine S.run 8 [.v (.slice p.a p.xs.length p.cap), .v (iV hand), .v (.slice k.a k.xs.length k.cap), .v (iV fuel)] [1, 3, 4, 24, 26, 28, 30] (rs := [.load ⟨b1, 0, none⟩ (.slice p.a p.xs.length p.cap), .load ⟨b1, 1, none⟩ (iV hand), .load ⟨b1, 2, none⟩ (.slice k.a k.xs.length k.cap), .load ⟨b1, 3, none⟩ (iV fuel)]) (κ' := [(1, pT b1), (3, pT b4), (4, iV 0), (24, .slice p.a p.xs.length p.cap), (26, iV hand), (28, .slice k.a k.xs.length k.cap), (30, iV fuel)]) (by kernel_rfl) (by kernel_rfl) (.load (B8.cell 0 rfl) (.load (B8.cell 1 rfl) (.load (B8.cell 2 rfl) (.load (B8.cell 3 rfl) .nil)))) ?_
  have T9 := T2.pres (.of0 E3)
  have T10 := T9.pres (.of0 E4)
  have T11 := T10.pres (.ofS E5 (by omega))
  have T12 := hk.pres (.of0 E1)
  have T13 := T12.pres (.of0 E3)
  have T14 := T13.pres (.of0 E4)
  have T15 := T14.pres (.ofS E5 (by omega))
  refine S.one (by kernel_rfl) (S.call (dst := some 31) (f := 5) (args := #[.slice p.a p.xs.length p.cap, iV hand, .slice k.a k.xs.length k.cap, iV fuel]) (by kernel_rfl) (by kernel_rfl) ((Drive_spec n p k hand fuel _ T11 T15 hc (by omega)).mono ?_))
  rintro _ w16 ⟨E16, ⟨hok16, r16, rfl, hr16, his16⟩ | ⟨hok16, rfl⟩⟩
  ·skip
   refine After.ret (by kernel_rfl) ?_
   have sE16 := E16.size
   refine S.run 3 [] [1, 3, 4, 32, 33] (rs := []) (κ' := [(1, pT b1), (3, pT b4), (4, iV 0), (32, .agg #[iV r16.fin, iV r16.val, .slice r16.a r16.les.length r16.cap, iV r16.fuel]), (33, iV 0)]) (by kernel_rfl) (by kernel_rfl) rfl ?_
   refine S.one (by kernel_rfl) (S.new 5 [iV 0, iV 0, .slice none 0 0, iV 0] 29 (fun b => pT b) (by kernel_rfl) (by kernel_rfl) (fun b => by kernel_rfl) (fun b17 w17 E17 B17 e17 z17 => ?_))
   have sE17 := E17.size
   refine S.one (by kernel_rfl) (S.store 0 [iV r16.fin, iV r16.val, .slice r16.a r16.les.length r16.cap, iV r16.fuel] [iV r16.fin, iV r16.val, .slice r16.a r16.les.length r16.cap, iV r16.fuel] B17 (by kernel_rfl) (by kernel_rfl) (by kernel_rfl) (by kernel_rfl) (by kernel_rfl) (fun w18 E18 B18 z18 => ?_))
   have sE18 := E18.size
   refine S.run 1 [] [1, 3, 4, 5, 6] (rs := []) (κ' := [(1, pT b1), (3, pT b4), (4, iV 0), (5, pT b17), (6, iV 0)]) (by kernel_rfl) (by kernel_rfl) rfl ?_
   refine S.regEnd (by kernel_rfl) (S.seq (S.region ?_))
   have B19 := B8.ext0 E16
   have B20 := B19.ext0 E17
   have B21 := B20.extT E18 B17 (by decide)
   refine S.run 2 [.v (.slice p.a p.xs.length p.cap)] [1, 3, 4, 5, 6, 36] (rs := [.load ⟨b1, 0, none⟩ (.slice p.a p.xs.length p.cap)]) (κ' := [(1, pT b1), (3, pT b4), (4, iV 0), (5, pT b17), (6, iV 0), (36, .slice p.a p.xs.length p.cap)]) (by kernel_rfl) (by kernel_rfl) (.load (B21.cell 0 rfl) .nil) ?_
   refine S.one (by kernel_rfl) ?_
   have T23 := T11.pres (.of0 E16)
   have T24 := T23.pres (.of0 E17)
   have T25 := T24.pres (.ofS E18 (by omega))
   refine S.call (dst := some 37) (f := 6) (args := #[.slice p.a p.xs.length p.cap]) (by kernel_rfl) (by kernel_rfl) ((Errors_spec p n 160 _ T25 (by omega) (fun hf => vis_fine hf)).mono ?_)
   rintro _ w22 ⟨E22, ⟨hfine, rows, oa, oc, rfl, hrow, hro, hrs⟩ | ⟨hfine, rfl⟩⟩
   ·skip
    refine After.ret (by kernel_rfl) ?_
    have sE22 := E22.size
    have lb3 := hr3.2.2
    have lb16 := hr16.2.2
    obtain ⟨s0, rest, hrw, hcs⟩ := choice_cases hfine his3 his16 hrs
    have hrl : rows.length = rest.length + 1 := by rw [hrw]; rfl
    rcases hcs with ⟨a1, a2, a3, a4, a5⟩ | ⟨a1, hany, a2, a3, a4, a5⟩ | ⟨a1, hany, q, qs, e9, hks, hat, hpre, hlt, bc1, bc2, bc3, hany2⟩
    ·skip
     have hll : r16.les.length = r3.les.length := by have h9 := congrArg List.length a4; simpa using h9
     have hpre : (r16.les.take r3.les.length).map LE.ev = r3.les.map LE.ev := by rw [← hll, List.take_length]; exact a4
     refine S.run 3 [] [1, 3, 4, 5, 6, 38, 39] (rs := []) (κ' := [(1, pT b1), (3, pT b4), (4, iV 0), (5, pT b17), (6, iV 0), (38, .slice oa rows.length oc), (39, iV 0)]) (by kernel_rfl) (by kernel_rfl) rfl ?_
     refine S.one (by kernel_rfl) (S.new 7 [.slice none 0 0] 34 (fun b => pT b) (by kernel_rfl) (by kernel_rfl) (fun b => by kernel_rfl) (fun b26 w26 E26 B26 e26 z26 => ?_))
     have sE26 := E26.size
     refine S.one (by kernel_rfl) (S.store 0 [.slice oa rows.length oc] [.slice oa rows.length oc] B26 (by kernel_rfl) (by kernel_rfl) (by kernel_rfl) (by kernel_rfl) (by kernel_rfl) (fun w27 E27 B27 z27 => ?_))
     have sE27 := E27.size
     refine S.run 1 [] [1, 3, 4, 5, 6, 7, 8] (rs := []) (κ' := [(1, pT b1), (3, pT b4), (4, iV 0), (5, pT b17), (6, iV 0), (7, pT b26), (8, iV 0)]) (by kernel_rfl) (by kernel_rfl) rfl ?_
     refine S.regEnd (by kernel_rfl) (S.seq (S.seq (S.region (S.run 6 [] [1, 3, 5, 7, 8, 45] (rs := []) (κ' := [(1, pT b1), (3, pT b4), (5, pT b17), (7, pT b26), (8, iV 0), (45, .bool false)]) (by kernel_rfl) (by kernel_rfl) rfl ?_))))
     refine S.regEnd (by kernel_rfl) (S.no (by kernel_rfl) (S.skip (S.seq (S.seq (S.drawN 23 #[false, false, false, false, false, false, false, false, false, false, false, false, false, false, false, false, false, false, false, false, false, false, false] 23 (fun u u' => Ext E0 u u') (fun u u' => Ext E0 u u') (by kernel_rfl) (by kernel_rfl) (by kernel_rfl) (fun w28 E28 z28 => ?_))))))
     have sE28 := E28.size
     have B29 := B5.ext0 E16
     have B30 := B29.ext0 E17
     have B31 := B30.extS E18 (by omega)
     have B32 := B31.ext0 E22
     have B33 := B32.ext0 E26
     have B34 := B33.extT E27 B26 (by decide)
     have B35 := B34.ext0 E28
     have B36 := B18.ext0 E22
     have B37 := B36.ext0 E26
     have B38 := B37.extT E27 B26 (by decide)
     have B39 := B38.ext0 E28
     refine S.dreads bodyPost_panicOk [0, 1, 2, 3, 4, 5, 6, 7, 8, 9, 10, 11] 11 [.v (.slice r3.a r3.les.length r3.cap), .v (.slice r16.a r16.les.length r16.cap)] [1, 3, 5, 7, 58] (rs := [.load ⟨b4, 2, none⟩ (.slice r3.a r3.les.length r3.cap), .load ⟨b17, 2, none⟩ (.slice r16.a r16.les.length r16.cap)]) (κ' := [(1, pT b1), (3, pT b4), (5, pT b17), (7, pT b26), (58, .bool (decide (((r3.les.length : Nat) : Int) > ((r16.les.length : Nat) : Int))))]) (l' := #[true, true, true, true, true, true, true, true, true, true, true, true, false, false, false, false, false, false, false, false, false, false, false]) (by kernel_rfl) (by kernel_rfl) (by kernel_rfl) (fun w' hw => have hw := hw.elim id id; (.load ((B35.ext0 hw).cell 2 rfl) (.load ((B39.ext0 hw).cell 2 rfl) .nil))) ?_
     refine S.subst 58 (.bool (decide (((r3.les.length : Nat) : Int) > ((r16.les.length : Nat) : Int)))) (.bool false) (by kernel_rfl) (congrArg Value.bool (decide_eq_false (by omega))) ?_
     refine S.dreads bodyPost_panicOk [12, 13, 14, 15, 16, 17, 18] 4 [.v (.slice r3.a r3.les.length r3.cap), .v (.slice r16.a r16.les.length r16.cap), .v (.slice r3.a r3.les.length r3.cap)] [1, 3, 5, 7, 58, 60, 62, 65] (rs := [.load ⟨b4, 2, none⟩ (.slice r3.a r3.les.length r3.cap), .load ⟨b17, 2, none⟩ (.slice r16.a r16.les.length r16.cap), .load ⟨b4, 2, none⟩ (.slice r3.a r3.les.length r3.cap)]) (κ' := [(1, pT b1), (3, pT b4), (5, pT b17), (7, pT b26), (58, .bool false), (60, .slice r3.a r3.les.length r3.cap), (62, .slice r16.a r16.les.length r16.cap), (65, iV ((r3.les.length : Nat) : Int))]) (l' := #[true, true, true, true, true, true, true, true, true, true, true, true, true, true, true, true, true, true, true, false, false, false, false]) (by kernel_rfl) (by kernel_rfl) (by kernel_rfl) (fun w' hw => have hw := hw.elim id id; (.load ((B35.ext0 hw).cell 2 rfl) (.load ((B39.ext0 hw).cell 2 rfl) (.load ((B35.ext0 hw).cell 2 rfl) .nil)))) ?_
     have R40 := hr16.1.pres (.of0 E17)
     have R41 := R40.pres (.ofE E18 B17 (by decide))
     have R42 := R41.pres (.of0 E22)
     have R43 := R42.pres (.of0 E26)
     have R44 := R43.pres (.ofE E27 B26 (by decide))
     have R45 := R44.pres (.of0 E28)
     obtain ⟨a9, c9, hsl, hrow9⟩ := run_head (len := r16.les.length) (cap := r16.cap) (h := r3.les.length) rfl (by omega) (by omega) R45
     refine S.dlaw bodyPost_panicOk 19 66 3 (v := .slice a9 r3.les.length c9) (l' := #[true, true, true, true, true, true, true, true, true, true, true, true, true, true, true, true, true, true, true, true, false, false, false]) (by kernel_rfl) (by kernel_rfl) (by kernel_rfl) (by kernel_rfl) (fun w' hw => lawRun (s := Instr.sliceAt 27 (.slice r16.a r16.les.length r16.cap) none (some (iV ((r3.les.length : Nat) : Int))) none) (by kernel_rfl) (hsl w')) ?_
     refine S.dnext (j := 20) (l' := #[true, true, true, true, true, true, true, true, true, true, true, true, true, true, true, true, true, true, true, true, true, false, false]) (by kernel_rfl) (by kernel_rfl) (sw1 (by kernel_rfl) (Ext.refl _)) ?_
     have R47 := hr3.1.pres (.of0 E4)
     have R48 := R47.pres (.ofE E5 B4 (by decide))
     have R49 := R48.pres (.of0 E16)
     have R50 := R49.pres (.of0 E17)
     have R51 := R50.pres (.ofE E18 B17 (by decide))
     have R52 := R51.pres (.of0 E22)
     have R53 := R52.pres (.of0 E26)
     have R54 := R53.pres (.ofE E27 B26 (by decide))
     have R55 := R54.pres (.of0 E28)
     have T56 := hr3.2.1.pres (.of0 E4)
     have T57 := T56.pres (.ofE E5 B4 (by decide))
     have T58 := T57.pres (.of0 E16)
     have T59 := T58.pres (.of0 E17)
     have T60 := T59.pres (.ofE E18 B17 (by decide))
     have T61 := T60.pres (.of0 E22)
     have T62 := T61.pres (.of0 E26)
     have T63 := T62.pres (.ofE E27 B26 (by decide))
     have T64 := T63.pres (.of0 E28)
     have T65 := hr16.2.1.pres (.of0 E17)
     have T66 := T65.pres (.ofE E18 B17 (by decide))
     have T67 := T66.pres (.of0 E22)
     have T68 := T67.pres (.of0 E26)
     have T69 := T68.pres (.ofE E27 B26 (by decide))
     have T70 := T69.pres (.of0 E28)
     have htl : (r16.les.take r3.les.length).length = r3.les.length := by rw [List.length_take]; omega
     have hse46 := SameEvents_spec _ _ _ _ r3.a a9 r3.cap c9 r3.les (r16.les.take r3.les.length) _ R55 hrow9 T64 (fun e he => T70 e (List.mem_of_mem_take he)) (by omega) (by omega)
     rw [htl] at hse46
     refine S.call (dst := some 67) (f := 8) (args := #[.slice r3.a r3.les.length r3.cap, .slice a9 r3.les.length c9]) (by kernel_rfl) (by kernel_rfl) (hse46.mono ?_)
     rintro _ w46 ⟨E46, rfl⟩
     refine After.ret (by kernel_rfl) ?_
     have sE46 := E46.size
     refine S.subst 67 (.bool (r3.les.map LE.ev == (r16.les.take r3.les.length).map LE.ev)) (.bool true) (by kernel_rfl) (congrArg Value.bool (by rw [hpre]; exact beq_self_eq_true _)) ?_
     refine S.dreads bodyPost_panicOk [21, 22] 0 [] [1, 3, 5, 7, 69] (rs := []) (κ' := [(1, pT b1), (3, pT b4), (5, pT b17), (7, pT b26), (69, .bool false)]) (l' := #[true, true, true, true, true, true, true, true, true, true, true, true, true, true, true, true, true, true, true, true, true, true, true]) (by kernel_rfl) (by kernel_rfl) (by kernel_rfl) (fun _ _ => rfl) ?_
     refine S.dend (by kernel_rfl) (sw1 (by kernel_rfl) E46) ?_
     refine S.no (by kernel_rfl) (S.skip (S.seq (S.seq (S.region ?_))))
     have B71 := B5.ext0 E16
     have B72 := B71.ext0 E17
     have B73 := B72.extS E18 (by omega)
     have B74 := B73.ext0 E22
     have B75 := B74.ext0 E26
     have B76 := B75.extT E27 B26 (by decide)
     have B77 := B76.ext0 E28
     have B78 := B77.ext0 E46
     refine S.run 3 [.v (iV r3.fin)] [1, 3, 5, 7, 72] (rs := [.load ⟨b4, 0, none⟩ (iV r3.fin)]) (κ' := [(1, pT b1), (3, pT b4), (5, pT b17), (7, pT b26), (72, .bool (r3.fin != 2))]) (by kernel_rfl) (by kernel_rfl) (.load (B78.cell 0 rfl) .nil) ?_
     refine S.regEnd (by kernel_rfl) (S.subst 72 (.bool (r3.fin != 2)) (.bool true) (by kernel_rfl) (congrArg Value.bool (by simp [a1])) ?_)
     refine S.yes (by kernel_rfl) (S.seq (S.region ?_))
     have B79 := B18.ext0 E22
     have B80 := B79.ext0 E26
     have B81 := B80.extT E27 B26 (by decide)
     have B82 := B81.ext0 E28
     have B83 := B82.ext0 E46
     refine S.run 2 [.v (iV r3.fin), .v (iV r3.val), .v (.slice r3.a r3.les.length r3.cap), .v (iV r3.fuel), .v (iV r16.fin), .v (iV r16.val), .v (.slice r16.a r16.les.length r16.cap), .v (iV r16.fuel)] [73, 74] (rs := [.load ⟨b4, 0, none⟩ (iV r3.fin), .load ⟨b4, 1, none⟩ (iV r3.val), .load ⟨b4, 2, none⟩ (.slice r3.a r3.les.length r3.cap), .load ⟨b4, 3, none⟩ (iV r3.fuel), .load ⟨b17, 0, none⟩ (iV r16.fin), .load ⟨b17, 1, none⟩ (iV r16.val), .load ⟨b17, 2, none⟩ (.slice r16.a r16.les.length r16.cap), .load ⟨b17, 3, none⟩ (iV r16.fuel)]) (κ' := [(73, .agg #[iV r3.fin, iV r3.val, .slice r3.a r3.les.length r3.cap, iV r3.fuel]), (74, .agg #[iV r16.fin, iV r16.val, .slice r16.a r16.les.length r16.cap, iV r16.fuel])]) (by kernel_rfl) (by kernel_rfl) (.load (B78.cell 0 rfl) (.load (B78.cell 1 rfl) (.load (B78.cell 2 rfl) (.load (B78.cell 3 rfl) (.load (B83.cell 0 rfl) (.load (B83.cell 1 rfl) (.load (B83.cell 2 rfl) (.load (B83.cell 3 rfl) .nil)))))))) ?_
     have R85 := R55.pres (.of0 E46)
     have R86 := R45.pres (.of0 E46)
     have T87 := T64.pres (.of0 E46)
     have T88 := T70.pres (.of0 E46)
     refine S.one (by kernel_rfl) (S.call (dst := some 75) (f := 9) (args := #[.agg #[iV r3.fin, iV r3.val, .slice r3.a r3.les.length r3.cap, iV r3.fuel], .agg #[iV r16.fin, iV r16.val, .slice r16.a r16.les.length r16.cap, iV r16.fuel]]) (by kernel_rfl) (by kernel_rfl) ((Same_spec _ _ _ _ r3.a r16.a r3.cap r16.cap r3.fin r3.val r3.fuel r16.fin r16.val r16.fuel r3.les r16.les _ R85 R86 T87 T88 (by omega) (by omega)).mono ?_))
     rintro _ w84 ⟨E84, rfl⟩
     refine After.ret (by kernel_rfl) ?_
     have sE84 := E84.size
     refine S.subst 75 (.bool (decide (r3.fin = r16.fin) && decide (r3.val = r16.val) && decide (r3.fuel = r16.fuel) && (r3.les.map LE.ev == r16.les.map LE.ev))) (.bool true) (by kernel_rfl) (congrArg Value.bool (by rw [a2, a3, a4, a5]; simp)) ?_
     refine S.run 1 [] [76] (rs := []) (κ' := [(76, .bool true)]) (by kernel_rfl) (by kernel_rfl) rfl ?_
     refine S.one (by kernel_rfl) (S.call (dst := some 77) (f := 7) (args := #[]) (by kernel_rfl) (by kernel_rfl) ((known_spec _).mono ?_))
     rintro _ w89 ⟨E89, rfl⟩
     refine After.ret (by kernel_rfl) ?_
     have sE89 := E89.size
     refine S.run 2 [] [2] (rs := []) (κ' := [(2, .bool true)]) (by kernel_rfl) (by kernel_rfl) rfl ?_
     exact S.regEnd (by kernel_rfl) (S.ret1 (v := .bool true) rfl (by kernel_rfl) ⟨((((((((((((E1.trans E3).trans E4).thenS E5 (by omega)).trans E16).trans E17).thenS E18 (by omega)).trans E22).trans E26).thenS E27 (by omega)).trans E28).trans E46).trans E84).trans E89, rfl⟩)
    ·skip
     have hll : r16.les.length = r3.les.length := by have h9 := congrArg List.length a4; simpa using h9
     have hpre : (r16.les.take r3.les.length).map LE.ev = r3.les.map LE.ev := by rw [← hll, List.take_length]; exact a4
     refine S.run 3 [] [1, 3, 4, 5, 6, 38, 39] (rs := []) (κ' := [(1, pT b1), (3, pT b4), (4, iV 0), (5, pT b17), (6, iV 0), (38, .slice oa rows.length oc), (39, iV 0)]) (by kernel_rfl) (by kernel_rfl) rfl ?_
     refine S.one (by kernel_rfl) (S.new 7 [.slice none 0 0] 34 (fun b => pT b) (by kernel_rfl) (by kernel_rfl) (fun b => by kernel_rfl) (fun b90 w90 E90 B90 e90 z90 => ?_))
     have sE90 := E90.size
     refine S.one (by kernel_rfl) (S.store 0 [.slice oa rows.length oc] [.slice oa rows.length oc] B90 (by kernel_rfl) (by kernel_rfl) (by kernel_rfl) (by kernel_rfl) (by kernel_rfl) (fun w91 E91 B91 z91 => ?_))
     have sE91 := E91.size
     refine S.run 1 [] [1, 3, 4, 5, 6, 7, 8] (rs := []) (κ' := [(1, pT b1), (3, pT b4), (4, iV 0), (5, pT b17), (6, iV 0), (7, pT b90), (8, iV 0)]) (by kernel_rfl) (by kernel_rfl) rfl ?_
     refine S.regEnd (by kernel_rfl) (S.seq (S.seq (S.region (S.run 6 [] [1, 3, 5, 7, 8, 45] (rs := []) (κ' := [(1, pT b1), (3, pT b4), (5, pT b17), (7, pT b90), (8, iV 0), (45, .bool false)]) (by kernel_rfl) (by kernel_rfl) rfl ?_))))
     refine S.regEnd (by kernel_rfl) (S.no (by kernel_rfl) (S.skip (S.seq (S.seq (S.drawN 23 #[false, false, false, false, false, false, false, false, false, false, false, false, false, false, false, false, false, false, false, false, false, false, false] 23 (fun u u' => Ext E0 u u') (fun u u' => Ext E0 u u') (by kernel_rfl) (by kernel_rfl) (by kernel_rfl) (fun w92 E92 z92 => ?_))))))
     have sE92 := E92.size
     have B93 := B5.ext0 E16
     have B94 := B93.ext0 E17
     have B95 := B94.extS E18 (by omega)
     have B96 := B95.ext0 E22
     have B97 := B96.ext0 E90
     have B98 := B97.extT E91 B90 (by decide)
     have B99 := B98.ext0 E92
     have B100 := B18.ext0 E22
     have B101 := B100.ext0 E90
     have B102 := B101.extT E91 B90 (by decide)
     have B103 := B102.ext0 E92
     refine S.dreads bodyPost_panicOk [0, 1, 2, 3, 4, 5, 6, 7, 8, 9, 10, 11] 11 [.v (.slice r3.a r3.les.length r3.cap), .v (.slice r16.a r16.les.length r16.cap)] [1, 3, 5, 7, 58] (rs := [.load ⟨b4, 2, none⟩ (.slice r3.a r3.les.length r3.cap), .load ⟨b17, 2, none⟩ (.slice r16.a r16.les.length r16.cap)]) (κ' := [(1, pT b1), (3, pT b4), (5, pT b17), (7, pT b90), (58, .bool (decide (((r3.les.length : Nat) : Int) > ((r16.les.length : Nat) : Int))))]) (l' := #[true, true, true, true, true, true, true, true, true, true, true, true, false, false, false, false, false, false, false, false, false, false, false]) (by kernel_rfl) (by kernel_rfl) (by kernel_rfl) (fun w' hw => have hw := hw.elim id id; (.load ((B99.ext0 hw).cell 2 rfl) (.load ((B103.ext0 hw).cell 2 rfl) .nil))) ?_
     refine S.subst 58 (.bool (decide (((r3.les.length : Nat) : Int) > ((r16.les.length : Nat) : Int)))) (.bool false) (by kernel_rfl) (congrArg Value.bool (decide_eq_false (by omega))) ?_
     refine S.dreads bodyPost_panicOk [12, 13, 14, 15, 16, 17, 18] 4 [.v (.slice r3.a r3.les.length r3.cap), .v (.slice r16.a r16.les.length r16.cap), .v (.slice r3.a r3.les.length r3.cap)] [1, 3, 5, 7, 58, 60, 62, 65] (rs := [.load ⟨b4, 2, none⟩ (.slice r3.a r3.les.length r3.cap), .load ⟨b17, 2, none⟩ (.slice r16.a r16.les.length r16.cap), .load ⟨b4, 2, none⟩ (.slice r3.a r3.les.length r3.cap)]) (κ' := [(1, pT b1), (3, pT b4), (5, pT b17), (7, pT b90), (58, .bool false), (60, .slice r3.a r3.les.length r3.cap), (62, .slice r16.a r16.les.length r16.cap), (65, iV ((r3.les.length : Nat) : Int))]) (l' := #[true, true, true, true, true, true, true, true, true, true, true, true, true, true, true, true, true, true, true, false, false, false, false]) (by kernel_rfl) (by kernel_rfl) (by kernel_rfl) (fun w' hw => have hw := hw.elim id id; (.load ((B99.ext0 hw).cell 2 rfl) (.load ((B103.ext0 hw).cell 2 rfl) (.load ((B99.ext0 hw).cell 2 rfl) .nil)))) ?_
     have R104 := hr16.1.pres (.of0 E17)
     have R105 := R104.pres (.ofE E18 B17 (by decide))
     have R106 := R105.pres (.of0 E22)
     have R107 := R106.pres (.of0 E90)
     have R108 := R107.pres (.ofE E91 B90 (by decide))
     have R109 := R108.pres (.of0 E92)
     obtain ⟨a9, c9, hsl, hrow9⟩ := run_head (len := r16.les.length) (cap := r16.cap) (h := r3.les.length) rfl (by omega) (by omega) R109
     refine S.dlaw bodyPost_panicOk 19 66 3 (v := .slice a9 r3.les.length c9) (l' := #[true, true, true, true, true, true, true, true, true, true, true, true, true, true, true, true, true, true, true, true, false, false, false]) (by kernel_rfl) (by kernel_rfl) (by kernel_rfl) (by kernel_rfl) (fun w' hw => lawRun (s := Instr.sliceAt 27 (.slice r16.a r16.les.length r16.cap) none (some (iV ((r3.les.length : Nat) : Int))) none) (by kernel_rfl) (hsl w')) ?_
     refine S.dnext (j := 20) (l' := #[true, true, true, true, true, true, true, true, true, true, true, true, true, true, true, true, true, true, true, true, true, false, false]) (by kernel_rfl) (by kernel_rfl) (sw1 (by kernel_rfl) (Ext.refl _)) ?_
     have R111 := hr3.1.pres (.of0 E4)
     have R112 := R111.pres (.ofE E5 B4 (by decide))
     have R113 := R112.pres (.of0 E16)
     have R114 := R113.pres (.of0 E17)
     have R115 := R114.pres (.ofE E18 B17 (by decide))
     have R116 := R115.pres (.of0 E22)
     have R117 := R116.pres (.of0 E90)
     have R118 := R117.pres (.ofE E91 B90 (by decide))
     have R119 := R118.pres (.of0 E92)
     have T120 := hr3.2.1.pres (.of0 E4)
     have T121 := T120.pres (.ofE E5 B4 (by decide))
     have T122 := T121.pres (.of0 E16)
     have T123 := T122.pres (.of0 E17)
     have T124 := T123.pres (.ofE E18 B17 (by decide))
     have T125 := T124.pres (.of0 E22)
     have T126 := T125.pres (.of0 E90)
     have T127 := T126.pres (.ofE E91 B90 (by decide))
     have T128 := T127.pres (.of0 E92)
     have T129 := hr16.2.1.pres (.of0 E17)
     have T130 := T129.pres (.ofE E18 B17 (by decide))
     have T131 := T130.pres (.of0 E22)
     have T132 := T131.pres (.of0 E90)
     have T133 := T132.pres (.ofE E91 B90 (by decide))
     have T134 := T133.pres (.of0 E92)
     have htl : (r16.les.take r3.les.length).length = r3.les.length := by rw [List.length_take]; omega
     have hse110 := SameEvents_spec _ _ _ _ r3.a a9 r3.cap c9 r3.les (r16.les.take r3.les.length) _ R119 hrow9 T128 (fun e he => T134 e (List.mem_of_mem_take he)) (by omega) (by omega)
     rw [htl] at hse110
     refine S.call (dst := some 67) (f := 8) (args := #[.slice r3.a r3.les.length r3.cap, .slice a9 r3.les.length c9]) (by kernel_rfl) (by kernel_rfl) (hse110.mono ?_)
     rintro _ w110 ⟨E110, rfl⟩
     refine After.ret (by kernel_rfl) ?_
     have sE110 := E110.size
     refine S.subst 67 (.bool (r3.les.map LE.ev == (r16.les.take r3.les.length).map LE.ev)) (.bool true) (by kernel_rfl) (congrArg Value.bool (by rw [hpre]; exact beq_self_eq_true _)) ?_
     refine S.dreads bodyPost_panicOk [21, 22] 0 [] [1, 3, 5, 7, 69] (rs := []) (κ' := [(1, pT b1), (3, pT b4), (5, pT b17), (7, pT b90), (69, .bool false)]) (l' := #[true, true, true, true, true, true, true, true, true, true, true, true, true, true, true, true, true, true, true, true, true, true, true]) (by kernel_rfl) (by kernel_rfl) (by kernel_rfl) (fun _ _ => rfl) ?_
     refine S.dend (by kernel_rfl) (sw1 (by kernel_rfl) E110) ?_
     refine S.no (by kernel_rfl) (S.skip (S.seq (S.seq (S.region ?_))))
     have B135 := B5.ext0 E16
     have B136 := B135.ext0 E17
     have B137 := B136.extS E18 (by omega)
     have B138 := B137.ext0 E22
     have B139 := B138.ext0 E90
     have B140 := B139.extT E91 B90 (by decide)
     have B141 := B140.ext0 E92
     have B142 := B141.ext0 E110
     refine S.run 3 [.v (iV r3.fin)] [1, 3, 5, 7, 72] (rs := [.load ⟨b4, 0, none⟩ (iV r3.fin)]) (κ' := [(1, pT b1), (3, pT b4), (5, pT b17), (7, pT b90), (72, .bool (r3.fin != 2))]) (by kernel_rfl) (by kernel_rfl) (.load (B142.cell 0 rfl) .nil) ?_
     refine S.regEnd (by kernel_rfl) (S.subst 72 (.bool (r3.fin != 2)) (.bool false) (by kernel_rfl) (congrArg Value.bool (by simp [a1])) ?_)
     refine S.no (by kernel_rfl) (S.skip (S.seq (S.region (S.run 4 [.v (.slice r3.a r3.les.length r3.cap)] [1, 3, 5, 7, 9] (rs := [.load ⟨b4, 2, none⟩ (.slice r3.a r3.les.length r3.cap)]) (κ' := [(1, pT b1), (3, pT b4), (5, pT b17), (7, pT b90), (9, iV ((r3.les.length : Nat) : Int))]) (by kernel_rfl) (by kernel_rfl) (.load (B142.cell 2 rfl) .nil) ?_))))
     refine S.regEnd (by kernel_rfl) (S.seq (S.seq (S.region ?_)))
     have B143 := B91.ext0 E92
     have B144 := B143.ext0 E110
     refine S.run 4 [.v (.slice oa rows.length oc)] [1, 3, 5, 7, 9, 85] (rs := [.load ⟨b90, 0, none⟩ (.slice oa rows.length oc)]) (κ' := [(1, pT b1), (3, pT b4), (5, pT b17), (7, pT b90), (9, iV ((r3.les.length : Nat) : Int)), (85, .bool (((rows.length : Nat) : Int) == 0))]) (by kernel_rfl) (by kernel_rfl) (.load (B144.cell 0 rfl) .nil) ?_
     refine S.subst 85 (.bool (((rows.length : Nat) : Int) == 0)) (.bool false) (by kernel_rfl) (congrArg Value.bool (by rw [beq_eq_false_iff_ne]; omega)) ?_
     refine S.run 3 [.v (.slice r3.a r3.les.length r3.cap)] [1, 3, 5, 7, 9, 85, 87, 88] (rs := [.load ⟨b4, 2, none⟩ (.slice r3.a r3.les.length r3.cap)]) (κ' := [(1, pT b1), (3, pT b4), (5, pT b17), (7, pT b90), (9, iV ((r3.les.length : Nat) : Int)), (85, .bool false), (87, .slice r3.a r3.les.length r3.cap), (88, .func (.func 11) #[] #[pT b90])]) (by kernel_rfl) (by kernel_rfl) (.load (B142.cell 2 rfl) .nil) ?_
     have R146 := R119.pres (.of0 E110)
     have T147 := T128.pres (.of0 E110)
     have R148 := hrow.pres (.of0 E90)
     have R149 := R148.pres (.ofE E91 B90 (by decide))
     have R150 := R149.pres (.of0 E92)
     have R151 := R150.pres (.of0 E110)
     have T152 := hro.pres (.of0 E90)
     have T153 := T152.pres (.ofE E91 B90 (by decide))
     have T154 := T153.pres (.of0 E92)
     have T155 := T154.pres (.of0 E110)
     have hm1 : RowsOk w110.heap.size _ rows := T155.mono (by omega)
     have hm2 : Row w110.heap.size 23 1 lsCs _ oa rows := R151.mono (by omega)
     have hcf145 := ContainsFunc_pure (c := r3.cap) (f := .func (.func 11) #[] #[pT b90]) (fun y => decide (y.deed = 2) && s0.xs.contains y.n) (by omega) R146 (fun x w' hx Ew => callSem_func (fn := Try.f11) (by kernel_rfl) (pred1_spec w110.heap.size b90 x oa oc rows rest s0 w' (B144.ext0 Ew) (hm2.pres (.of0 Ew)) (hm1.pres (.of0 Ew)) hrw))
     refine S.one (by kernel_rfl) (S.call (dst := some 89) (f := 10) (args := #[.slice r3.a r3.les.length r3.cap, .func (.func 11) #[] #[pT b90]]) (by kernel_rfl) (by kernel_rfl) (hcf145.mono ?_))
     rintro _ w145 ⟨E145, rfl⟩
     refine After.ret (by kernel_rfl) ?_
     have sE145 := E145.size
     refine S.subst 89 (.bool (r3.les.any (fun y => decide (y.deed = 2) && s0.xs.contains y.n))) (.bool true) (by kernel_rfl) (congrArg Value.bool hany) ?_
     refine S.run 2 [] [1, 3, 5, 7, 9, 91] (rs := []) (κ' := [(1, pT b1), (3, pT b4), (5, pT b17), (7, pT b90), (9, iV ((r3.les.length : Nat) : Int)), (91, .bool false)]) (by kernel_rfl) (by kernel_rfl) rfl ?_
     refine S.regEnd (by kernel_rfl) (S.no (by kernel_rfl) (S.skip (S.seq (S.seq (S.region ?_)))))
     have B156 := B18.ext0 E22
     have B157 := B156.ext0 E90
     have B158 := B157.extT E91 B90 (by decide)
     have B159 := B158.ext0 E92
     have B160 := B159.ext0 E110
     have B161 := B160.ext0 E145
     refine S.run 5 [.v (.slice r16.a r16.les.length r16.cap)] [1, 3, 5, 7, 9, 96] (rs := [.load ⟨b17, 2, none⟩ (.slice r16.a r16.les.length r16.cap)]) (κ' := [(1, pT b1), (3, pT b4), (5, pT b17), (7, pT b90), (9, iV ((r3.les.length : Nat) : Int)), (96, .bool (((r16.les.length : Nat) : Int) == ((r3.les.length : Nat) : Int)))]) (by kernel_rfl) (by kernel_rfl) (.load (B161.cell 2 rfl) .nil) ?_
     refine S.regEnd (by kernel_rfl) (S.subst 96 (.bool (((r16.les.length : Nat) : Int) == ((r3.les.length : Nat) : Int))) (.bool true) (by kernel_rfl) (congrArg Value.bool (by rw [beq_iff_eq]; omega)) ?_)
     refine S.yes (by kernel_rfl) (S.seq (S.region ?_))
     have B162 := B142.ext0 E145
     refine S.run 2 [.v (iV r3.fin), .v (iV r3.val), .v (.slice r3.a r3.les.length r3.cap), .v (iV r3.fuel), .v (iV r16.fin), .v (iV r16.val), .v (.slice r16.a r16.les.length r16.cap), .v (iV r16.fuel)] [97, 98] (rs := [.load ⟨b4, 0, none⟩ (iV r3.fin), .load ⟨b4, 1, none⟩ (iV r3.val), .load ⟨b4, 2, none⟩ (.slice r3.a r3.les.length r3.cap), .load ⟨b4, 3, none⟩ (iV r3.fuel), .load ⟨b17, 0, none⟩ (iV r16.fin), .load ⟨b17, 1, none⟩ (iV r16.val), .load ⟨b17, 2, none⟩ (.slice r16.a r16.les.length r16.cap), .load ⟨b17, 3, none⟩ (iV r16.fuel)]) (κ' := [(97, .agg #[iV r3.fin, iV r3.val, .slice r3.a r3.les.length r3.cap, iV r3.fuel]), (98, .agg #[iV r16.fin, iV r16.val, .slice r16.a r16.les.length r16.cap, iV r16.fuel])]) (by kernel_rfl) (by kernel_rfl) (.load (B162.cell 0 rfl) (.load (B162.cell 1 rfl) (.load (B162.cell 2 rfl) (.load (B162.cell 3 rfl) (.load (B161.cell 0 rfl) (.load (B161.cell 1 rfl) (.load (B161.cell 2 rfl) (.load (B161.cell 3 rfl) .nil)))))))) ?_
     have R164 := R146.pres (.of0 E145)
     have R165 := R109.pres (.of0 E110)
     have R166 := R165.pres (.of0 E145)
     have T167 := T147.pres (.of0 E145)
     have T168 := T134.pres (.of0 E110)
     have T169 := T168.pres (.of0 E145)
     refine S.one (by kernel_rfl) (S.call (dst := some 99) (f := 9) (args := #[.agg #[iV r3.fin, iV r3.val, .slice r3.a r3.les.length r3.cap, iV r3.fuel], .agg #[iV r16.fin, iV r16.val, .slice r16.a r16.les.length r16.cap, iV r16.fuel]]) (by kernel_rfl) (by kernel_rfl) ((Same_spec _ _ _ _ r3.a r16.a r3.cap r16.cap r3.fin r3.val r3.fuel r16.fin r16.val r16.fuel r3.les r16.les _ R164 R166 T167 T169 (by omega) (by omega)).mono ?_))
     rintro _ w163 ⟨E163, rfl⟩
     refine After.ret (by kernel_rfl) ?_
     have sE163 := E163.size
     refine S.subst 99 (.bool (decide (r3.fin = r16.fin) && decide (r3.val = r16.val) && decide (r3.fuel = r16.fuel) && (r3.les.map LE.ev == r16.les.map LE.ev))) (.bool true) (by kernel_rfl) (congrArg Value.bool (by rw [a2, a3, a4, a5]; simp)) ?_
     refine S.run 1 [] [100] (rs := []) (κ' := [(100, .bool true)]) (by kernel_rfl) (by kernel_rfl) rfl ?_
     refine S.one (by kernel_rfl) (S.call (dst := some 101) (f := 7) (args := #[]) (by kernel_rfl) (by kernel_rfl) ((known_spec _).mono ?_))
     rintro _ w170 ⟨E170, rfl⟩
     refine After.ret (by kernel_rfl) ?_
     have sE170 := E170.size
     refine S.run 2 [] [2] (rs := []) (κ' := [(2, .bool true)]) (by kernel_rfl) (by kernel_rfl) rfl ?_
     exact S.regEnd (by kernel_rfl) (S.ret1 (v := .bool true) rfl (by kernel_rfl) ⟨(((((((((((((E1.trans E3).trans E4).thenS E5 (by omega)).trans E16).trans E17).thenS E18 (by omega)).trans E22).trans E90).thenS E91 (by omega)).trans E92).trans E110).trans E145).trans E163).trans E170, rfl⟩)
    ·skip
     refine S.run 3 [] [1, 3, 4, 5, 6, 38, 39] (rs := []) (κ' := [(1, pT b1), (3, pT b4), (4, iV 0), (5, pT b17), (6, iV 0), (38, .slice oa rows.length oc), (39, iV 0)]) (by kernel_rfl) (by kernel_rfl) rfl ?_
     refine S.one (by kernel_rfl) (S.new 7 [.slice none 0 0] 34 (fun b => pT b) (by kernel_rfl) (by kernel_rfl) (fun b => by kernel_rfl) (fun b171 w171 E171 B171 e171 z171 => ?_))
     have sE171 := E171.size
     refine S.one (by kernel_rfl) (S.store 0 [.slice oa rows.length oc] [.slice oa rows.length oc] B171 (by kernel_rfl) (by kernel_rfl) (by kernel_rfl) (by kernel_rfl) (by kernel_rfl) (fun w172 E172 B172 z172 => ?_))
     have sE172 := E172.size
     refine S.run 1 [] [1, 3, 4, 5, 6, 7, 8] (rs := []) (κ' := [(1, pT b1), (3, pT b4), (4, iV 0), (5, pT b17), (6, iV 0), (7, pT b171), (8, iV 0)]) (by kernel_rfl) (by kernel_rfl) rfl ?_
     refine S.regEnd (by kernel_rfl) (S.seq (S.seq (S.region (S.run 6 [] [1, 3, 5, 7, 8, 45] (rs := []) (κ' := [(1, pT b1), (3, pT b4), (5, pT b17), (7, pT b171), (8, iV 0), (45, .bool false)]) (by kernel_rfl) (by kernel_rfl) rfl ?_))))
     refine S.regEnd (by kernel_rfl) (S.no (by kernel_rfl) (S.skip (S.seq (S.seq (S.drawN 23 #[false, false, false, false, false, false, false, false, false, false, false, false, false, false, false, false, false, false, false, false, false, false, false] 23 (fun u u' => Ext E0 u u') (fun u u' => Ext E0 u u') (by kernel_rfl) (by kernel_rfl) (by kernel_rfl) (fun w173 E173 z173 => ?_))))))
     have sE173 := E173.size
     have B174 := B5.ext0 E16
     have B175 := B174.ext0 E17
     have B176 := B175.extS E18 (by omega)
     have B177 := B176.ext0 E22
     have B178 := B177.ext0 E171
     have B179 := B178.extT E172 B171 (by decide)
     have B180 := B179.ext0 E173
     have B181 := B18.ext0 E22
     have B182 := B181.ext0 E171
     have B183 := B182.extT E172 B171 (by decide)
     have B184 := B183.ext0 E173
     refine S.dreads bodyPost_panicOk [0, 1, 2, 3, 4, 5, 6, 7, 8, 9, 10, 11] 11 [.v (.slice r3.a r3.les.length r3.cap), .v (.slice r16.a r16.les.length r16.cap)] [1, 3, 5, 7, 58] (rs := [.load ⟨b4, 2, none⟩ (.slice r3.a r3.les.length r3.cap), .load ⟨b17, 2, none⟩ (.slice r16.a r16.les.length r16.cap)]) (κ' := [(1, pT b1), (3, pT b4), (5, pT b17), (7, pT b171), (58, .bool (decide (((r3.les.length : Nat) : Int) > ((r16.les.length : Nat) : Int))))]) (l' := #[true, true, true, true, true, true, true, true, true, true, true, true, false, false, false, false, false, false, false, false, false, false, false]) (by kernel_rfl) (by kernel_rfl) (by kernel_rfl) (fun w' hw => have hw := hw.elim id id; (.load ((B180.ext0 hw).cell 2 rfl) (.load ((B184.ext0 hw).cell 2 rfl) .nil))) ?_
     refine S.subst 58 (.bool (decide (((r3.les.length : Nat) : Int) > ((r16.les.length : Nat) : Int)))) (.bool false) (by kernel_rfl) (congrArg Value.bool (decide_eq_false (by omega))) ?_
     refine S.dreads bodyPost_panicOk [12, 13, 14, 15, 16, 17, 18] 4 [.v (.slice r3.a r3.les.length r3.cap), .v (.slice r16.a r16.les.length r16.cap), .v (.slice r3.a r3.les.length r3.cap)] [1, 3, 5, 7, 58, 60, 62, 65] (rs := [.load ⟨b4, 2, none⟩ (.slice r3.a r3.les.length r3.cap), .load ⟨b17, 2, none⟩ (.slice r16.a r16.les.length r16.cap), .load ⟨b4, 2, none⟩ (.slice r3.a r3.les.length r3.cap)]) (κ' := [(1, pT b1), (3, pT b4), (5, pT b17), (7, pT b171), (58, .bool false), (60, .slice r3.a r3.les.length r3.cap), (62, .slice r16.a r16.les.length r16.cap), (65, iV ((r3.les.length : Nat) : Int))]) (l' := #[true, true, true, true, true, true, true, true, true, true, true, true, true, true, true, true, true, true, true, false, false, false, false]) (by kernel_rfl) (by kernel_rfl) (by kernel_rfl) (fun w' hw => have hw := hw.elim id id; (.load ((B180.ext0 hw).cell 2 rfl) (.load ((B184.ext0 hw).cell 2 rfl) (.load ((B180.ext0 hw).cell 2 rfl) .nil)))) ?_
     have R185 := hr16.1.pres (.of0 E17)
     have R186 := R185.pres (.ofE E18 B17 (by decide))
     have R187 := R186.pres (.of0 E22)
     have R188 := R187.pres (.of0 E171)
     have R189 := R188.pres (.ofE E172 B171 (by decide))
     have R190 := R189.pres (.of0 E173)
     obtain ⟨a9, c9, hsl, hrow9⟩ := run_head (len := r16.les.length) (cap := r16.cap) (h := r3.les.length) rfl (by omega) (by omega) R190
     refine S.dlaw bodyPost_panicOk 19 66 3 (v := .slice a9 r3.les.length c9) (l' := #[true, true, true, true, true, true, true, true, true, true, true, true, true, true, true, true, true, true, true, true, false, false, false]) (by kernel_rfl) (by kernel_rfl) (by kernel_rfl) (by kernel_rfl) (fun w' hw => lawRun (s := Instr.sliceAt 27 (.slice r16.a r16.les.length r16.cap) none (some (iV ((r3.les.length : Nat) : Int))) none) (by kernel_rfl) (hsl w')) ?_
     refine S.dnext (j := 20) (l' := #[true, true, true, true, true, true, true, true, true, true, true, true, true, true, true, true, true, true, true, true, true, false, false]) (by kernel_rfl) (by kernel_rfl) (sw1 (by kernel_rfl) (Ext.refl _)) ?_
     have R192 := hr3.1.pres (.of0 E4)
     have R193 := R192.pres (.ofE E5 B4 (by decide))
     have R194 := R193.pres (.of0 E16)
     have R195 := R194.pres (.of0 E17)
     have R196 := R195.pres (.ofE E18 B17 (by decide))
     have R197 := R196.pres (.of0 E22)
     have R198 := R197.pres (.of0 E171)
     have R199 := R198.pres (.ofE E172 B171 (by decide))
     have R200 := R199.pres (.of0 E173)
     have T201 := hr3.2.1.pres (.of0 E4)
     have T202 := T201.pres (.ofE E5 B4 (by decide))
     have T203 := T202.pres (.of0 E16)
     have T204 := T203.pres (.of0 E17)
     have T205 := T204.pres (.ofE E18 B17 (by decide))
     have T206 := T205.pres (.of0 E22)
     have T207 := T206.pres (.of0 E171)
     have T208 := T207.pres (.ofE E172 B171 (by decide))
     have T209 := T208.pres (.of0 E173)
     have T210 := hr16.2.1.pres (.of0 E17)
     have T211 := T210.pres (.ofE E18 B17 (by decide))
     have T212 := T211.pres (.of0 E22)
     have T213 := T212.pres (.of0 E171)
     have T214 := T213.pres (.ofE E172 B171 (by decide))
     have T215 := T214.pres (.of0 E173)
     have htl : (r16.les.take r3.les.length).length = r3.les.length := by rw [List.length_take]; omega
     have hse191 := SameEvents_spec _ _ _ _ r3.a a9 r3.cap c9 r3.les (r16.les.take r3.les.length) _ R200 hrow9 T209 (fun e he => T215 e (List.mem_of_mem_take he)) (by omega) (by omega)
     rw [htl] at hse191
     refine S.call (dst := some 67) (f := 8) (args := #[.slice r3.a r3.les.length r3.cap, .slice a9 r3.les.length c9]) (by kernel_rfl) (by kernel_rfl) (hse191.mono ?_)
     rintro _ w191 ⟨E191, rfl⟩
     refine After.ret (by kernel_rfl) ?_
     have sE191 := E191.size
     refine S.subst 67 (.bool (r3.les.map LE.ev == (r16.les.take r3.les.length).map LE.ev)) (.bool true) (by kernel_rfl) (congrArg Value.bool (by rw [hpre]; exact beq_self_eq_true _)) ?_
     refine S.dreads bodyPost_panicOk [21, 22] 0 [] [1, 3, 5, 7, 69] (rs := []) (κ' := [(1, pT b1), (3, pT b4), (5, pT b17), (7, pT b171), (69, .bool false)]) (l' := #[true, true, true, true, true, true, true, true, true, true, true, true, true, true, true, true, true, true, true, true, true, true, true]) (by kernel_rfl) (by kernel_rfl) (by kernel_rfl) (fun _ _ => rfl) ?_
     refine S.dend (by kernel_rfl) (sw1 (by kernel_rfl) E191) ?_
     refine S.no (by kernel_rfl) (S.skip (S.seq (S.seq (S.region ?_))))
     have B216 := B5.ext0 E16
     have B217 := B216.ext0 E17
     have B218 := B217.extS E18 (by omega)
     have B219 := B218.ext0 E22
     have B220 := B219.ext0 E171
     have B221 := B220.extT E172 B171 (by decide)
     have B222 := B221.ext0 E173
     have B223 := B222.ext0 E191
     refine S.run 3 [.v (iV r3.fin)] [1, 3, 5, 7, 72] (rs := [.load ⟨b4, 0, none⟩ (iV r3.fin)]) (κ' := [(1, pT b1), (3, pT b4), (5, pT b17), (7, pT b171), (72, .bool (r3.fin != 2))]) (by kernel_rfl) (by kernel_rfl) (.load (B223.cell 0 rfl) .nil) ?_
     refine S.regEnd (by kernel_rfl) (S.subst 72 (.bool (r3.fin != 2)) (.bool false) (by kernel_rfl) (congrArg Value.bool (by simp [a1])) ?_)
     refine S.no (by kernel_rfl) (S.skip (S.seq (S.region (S.run 4 [.v (.slice r3.a r3.les.length r3.cap)] [1, 3, 5, 7, 9] (rs := [.load ⟨b4, 2, none⟩ (.slice r3.a r3.les.length r3.cap)]) (κ' := [(1, pT b1), (3, pT b4), (5, pT b17), (7, pT b171), (9, iV ((r3.les.length : Nat) : Int))]) (by kernel_rfl) (by kernel_rfl) (.load (B223.cell 2 rfl) .nil) ?_))))
     refine S.regEnd (by kernel_rfl) (S.seq (S.seq (S.region ?_)))
     have B224 := B172.ext0 E173
     have B225 := B224.ext0 E191
     refine S.run 4 [.v (.slice oa rows.length oc)] [1, 3, 5, 7, 9, 85] (rs := [.load ⟨b171, 0, none⟩ (.slice oa rows.length oc)]) (κ' := [(1, pT b1), (3, pT b4), (5, pT b17), (7, pT b171), (9, iV ((r3.les.length : Nat) : Int)), (85, .bool (((rows.length : Nat) : Int) == 0))]) (by kernel_rfl) (by kernel_rfl) (.load (B225.cell 0 rfl) .nil) ?_
     refine S.subst 85 (.bool (((rows.length : Nat) : Int) == 0)) (.bool false) (by kernel_rfl) (congrArg Value.bool (by rw [beq_eq_false_iff_ne]; omega)) ?_
     refine S.run 3 [.v (.slice r3.a r3.les.length r3.cap)] [1, 3, 5, 7, 9, 85, 87, 88] (rs := [.load ⟨b4, 2, none⟩ (.slice r3.a r3.les.length r3.cap)]) (κ' := [(1, pT b1), (3, pT b4), (5, pT b17), (7, pT b171), (9, iV ((r3.les.length : Nat) : Int)), (85, .bool false), (87, .slice r3.a r3.les.length r3.cap), (88, .func (.func 11) #[] #[pT b171])]) (by kernel_rfl) (by kernel_rfl) (.load (B223.cell 2 rfl) .nil) ?_
     have R227 := R200.pres (.of0 E191)
     have T228 := T209.pres (.of0 E191)
     have R229 := hrow.pres (.of0 E171)
     have R230 := R229.pres (.ofE E172 B171 (by decide))
     have R231 := R230.pres (.of0 E173)
     have R232 := R231.pres (.of0 E191)
     have T233 := hro.pres (.of0 E171)
     have T234 := T233.pres (.ofE E172 B171 (by decide))
     have T235 := T234.pres (.of0 E173)
     have T236 := T235.pres (.of0 E191)
     have hm1 : RowsOk w191.heap.size _ rows := T236.mono (by omega)
     have hm2 : Row w191.heap.size 23 1 lsCs _ oa rows := R232.mono (by omega)
     have hcf226 := ContainsFunc_pure (c := r3.cap) (f := .func (.func 11) #[] #[pT b171]) (fun y => decide (y.deed = 2) && s0.xs.contains y.n) (by omega) R227 (fun x w' hx Ew => callSem_func (fn := Try.f11) (by kernel_rfl) (pred1_spec w191.heap.size b171 x oa oc rows rest s0 w' (B225.ext0 Ew) (hm2.pres (.of0 Ew)) (hm1.pres (.of0 Ew)) hrw))
     refine S.one (by kernel_rfl) (S.call (dst := some 89) (f := 10) (args := #[.slice r3.a r3.les.length r3.cap, .func (.func 11) #[] #[pT b171]]) (by kernel_rfl) (by kernel_rfl) (hcf226.mono ?_))
     rintro _ w226 ⟨E226, rfl⟩
     refine After.ret (by kernel_rfl) ?_
     have sE226 := E226.size
     refine S.subst 89 (.bool (r3.les.any (fun y => decide (y.deed = 2) && s0.xs.contains y.n))) (.bool true) (by kernel_rfl) (congrArg Value.bool hany) ?_
     refine S.run 2 [] [1, 3, 5, 7, 9, 91] (rs := []) (κ' := [(1, pT b1), (3, pT b4), (5, pT b17), (7, pT b171), (9, iV ((r3.les.length : Nat) : Int)), (91, .bool false)]) (by kernel_rfl) (by kernel_rfl) rfl ?_
     refine S.regEnd (by kernel_rfl) (S.no (by kernel_rfl) (S.skip (S.seq (S.seq (S.region ?_)))))
     have B237 := B18.ext0 E22
     have B238 := B237.ext0 E171
     have B239 := B238.extT E172 B171 (by decide)
     have B240 := B239.ext0 E173
     have B241 := B240.ext0 E191
     have B242 := B241.ext0 E226
     refine S.run 5 [.v (.slice r16.a r16.les.length r16.cap)] [1, 3, 5, 7, 9, 96] (rs := [.load ⟨b17, 2, none⟩ (.slice r16.a r16.les.length r16.cap)]) (κ' := [(1, pT b1), (3, pT b4), (5, pT b17), (7, pT b171), (9, iV ((r3.les.length : Nat) : Int)), (96, .bool (((r16.les.length : Nat) : Int) == ((r3.les.length : Nat) : Int)))]) (by kernel_rfl) (by kernel_rfl) (.load (B242.cell 2 rfl) .nil) ?_
     refine S.regEnd (by kernel_rfl) (S.subst 96 (.bool (((r16.les.length : Nat) : Int) == ((r3.les.length : Nat) : Int))) (.bool false) (by kernel_rfl) (congrArg Value.bool (by rw [beq_eq_false_iff_ne]; omega)) ?_)
     refine S.no (by kernel_rfl) (S.skip (S.seq (S.region (S.run 3 [.v (.slice r16.a r16.les.length r16.cap)] [1, 3, 7, 104, 105] (rs := [.load ⟨b17, 2, none⟩ (.slice r16.a r16.les.length r16.cap)]) (κ' := [(1, pT b1), (3, pT b4), (7, pT b171), (104, .slice r16.a r16.les.length r16.cap), (105, iV ((r3.les.length : Nat) : Int))]) (by kernel_rfl) (by kernel_rfl) (.load (B242.cell 2 rfl) .nil) ?_))))
     have R243 := R190.pres (.of0 E191)
     have R244 := R243.pres (.of0 E226)
     obtain ⟨x245, b245, o245, hx245, h245, H245⟩ := R244.get r3.les.length (by omega)
     have T246 := T215.pres (.of0 E191)
     have T247 := T246.pres (.of0 E226)
     have h9 : x245 = e9 := Option.some.inj (hx245.symm.trans hat)
     subst h9
     have K245 := T247 _ (List.mem_of_getElem? hx245)
     refine S.one (by kernel_rfl) (S.law 106 (v := .pointer (some ⟨b245, o245 + r3.les.length * 5, none⟩)) (Instr.indexAt 27 (.slice r16.a r16.les.length r16.cap) (.int .i64 ((r3.les.length : Nat) : Int))) (by kernel_rfl) (by kernel_rfl) (by kernel_rfl) (run_idx (e := 43) r3.les.length h245 (by kernel_rfl) (by kernel_rfl) (by omega)) ?_)
     refine S.run 1 [.v (iV x245.deed), .v (iV x245.n), .v (iV x245.val), .v (.slice x245.h.a x245.h.xs.length x245.h.cap), .v (.slice x245.r.a x245.r.xs.length x245.r.cap)] [1, 3, 7, 107] (rs := [.load ⟨b245, o245 + r3.les.length * 5, none⟩ (iV x245.deed), .load ⟨b245, o245 + r3.les.length * 5 + 1, none⟩ (iV x245.n), .load ⟨b245, o245 + r3.les.length * 5 + 2, none⟩ (iV x245.val), .load ⟨b245, o245 + r3.les.length * 5 + 3, none⟩ (.slice x245.h.a x245.h.xs.length x245.h.cap), .load ⟨b245, o245 + r3.les.length * 5 + 4, none⟩ (.slice x245.r.a x245.r.xs.length x245.r.cap)]) (κ' := [(1, pT b1), (3, pT b4), (7, pT b171), (107, .agg #[iV x245.deed, iV x245.n, iV x245.val, .slice x245.h.a x245.h.xs.length x245.h.cap, .slice x245.r.a x245.r.xs.length x245.r.cap])]) (by kernel_rfl) (by kernel_rfl) (.load (H245.cell0 rfl) (.load (H245.cell 1 rfl) (.load (H245.cell 2 rfl) (.load (H245.cell 3 rfl) (.load (H245.cell 4 rfl) .nil))))) ?_
     refine S.one (by kernel_rfl) (S.new 10 [iV 0, iV 0, iV 0, .slice none 0 0, .slice none 0 0] 43 (fun b => pT b) (by kernel_rfl) (by kernel_rfl) (fun b => by kernel_rfl) (fun b248 w248 E248 B248 e248 z248 => ?_))
     have sE248 := E248.size
     refine S.one (by kernel_rfl) (S.store 0 [iV x245.deed, iV x245.n, iV x245.val, .slice x245.h.a x245.h.xs.length x245.h.cap, .slice x245.r.a x245.r.xs.length x245.r.cap] [iV x245.deed, iV x245.n, iV x245.val, .slice x245.h.a x245.h.xs.length x245.h.cap, .slice x245.r.a x245.r.xs.length x245.r.cap] B248 (by kernel_rfl) (by kernel_rfl) (by kernel_rfl) (by kernel_rfl) (by kernel_rfl) (fun w249 E249 B249 z249 => ?_))
     have sE249 := E249.size
     refine S.regEnd (by kernel_rfl) (S.seq (S.region ?_))
     have B250 := B223.ext0 E226
     have B251 := B250.ext0 E248
     have B252 := B251.extT E249 B248 (by decide)
     refine S.run 3 [.v (.slice r3.a r3.les.length r3.cap)] [1, 10, 109, 110] (rs := [.load ⟨b4, 2, none⟩ (.slice r3.a r3.les.length r3.cap)]) (κ' := [(1, pT b1), (10, pT b248), (109, .slice r3.a r3.les.length r3.cap), (110, .func (.func 13) #[] #[pT b171, pT b248])]) (by kernel_rfl) (by kernel_rfl) (.load (B252.cell 2 rfl) .nil) ?_
     have R254 := R227.pres (.of0 E226)
     have R255 := R254.pres (.of0 E248)
     have R256 := R255.pres (.ofS E249 (by omega))
     have T257 := T228.pres (.of0 E226)
     have T258 := T257.pres (.of0 E248)
     have T259 := T258.pres (.ofE E249 B248 (by decide))
     have B260 := B225.ext0 E226
     have B261 := B260.ext0 E248
     have B262 := B261.extT E249 B248 (by decide)
     have R263 := R232.pres (.of0 E226)
     have R264 := R263.pres (.of0 E248)
     have R265 := R264.pres (.ofE E249 B248 (by decide))
     have T266 := T236.pres (.of0 E226)
     have T267 := T266.pres (.of0 E248)
     have T268 := T267.pres (.ofE E249 B248 (by decide))
     have hm1 : RowsOk w249.heap.size _ rows := T268.mono (by omega)
     have hm2 : Row w249.heap.size 23 1 lsCs _ oa rows := R265.mono (by omega)
     have T269 := K245.pres (.of0 E248)
     have T270 := T269.pres (.ofE E249 B248 (by decide))
     have hm3 : x245.ok w249.heap.size _ := LE.ok.mono T270 (by omega)
     have hm4 : EvsOk w249.heap.size _ r3.les := T259.mono (by omega)
     have hcf253 := ContainsFunc_pure (c := r3.cap) (f := .func (.func 13) #[] #[pT b171, pT b248]) (fun y => decide (y.deed = 2) && s0.xs.contains y.n && decide (y.val = x245.val) && (y.h.xs == x245.h.xs) && (y.r.xs == x245.r.xs)) (by omega) R256 (fun x w' hx Ew => callSem_func (fn := Try.f13) (by kernel_rfl) (pred2_spec w249.heap.size b171 b248 x245 x oa oc rows rest s0 w' (B262.ext0 Ew) (B249.ext0 Ew) (hm2.pres (.of0 Ew)) (hm1.pres (.of0 Ew)) hrw (hm3.pres (.of0 Ew)) (hm4.pres (.of0 Ew) x hx)))
     refine S.one (by kernel_rfl) (S.call (dst := some 111) (f := 10) (args := #[.slice r3.a r3.les.length r3.cap, .func (.func 13) #[] #[pT b171, pT b248]]) (by kernel_rfl) (by kernel_rfl) (hcf253.mono ?_))
     rintro _ w253 ⟨E253, rfl⟩
     refine After.ret (by kernel_rfl) ?_
     have sE253 := E253.size
     refine S.subst 111 (.bool (r3.les.any (fun y => decide (y.deed = 2) && s0.xs.contains y.n && decide (y.val = x245.val) && (y.h.xs == x245.h.xs) && (y.r.xs == x245.r.xs)))) (.bool true) (by kernel_rfl) (congrArg Value.bool hany2) ?_
     refine S.run 1 [] [1, 10, 11] (rs := []) (κ' := [(1, pT b1), (10, pT b248), (11, .bool true)]) (by kernel_rfl) (by kernel_rfl) rfl ?_
     refine S.regEnd (by kernel_rfl) (S.seq (S.drawN 46 #[false, false, false, false, false, false, false, false, false, false, false, false, false, false, false, false, false, false, false, false, false, false, false, false, false, false, false, false, false, false, false, false, false, false, false, false, false, false, false, false, false, false, false, false, false, false] 46 (fun u u' => Ext E0 u u') (fun u u' => Ext E0 u u') (by kernel_rfl) (by kernel_rfl) (by kernel_rfl) (fun w271 E271 z271 => ?_)))
     have sE271 := E271.size
     have B272 := B21.ext0 E22
     have B273 := B272.ext0 E171
     have B274 := B273.extT E172 B171 (by decide)
     have B275 := B274.ext0 E173
     have B276 := B275.ext0 E191
     have B277 := B276.ext0 E226
     have B278 := B277.ext0 E248
     have B279 := B278.extT E249 B248 (by decide)
     have B280 := B279.ext0 E253
     have B281 := B280.ext0 E271
     refine S.dreads bodyPost_panicOk [0, 1, 2, 3, 4, 5, 6, 7] 38 [.v (.slice k.a k.xs.length k.cap)] [1, 10, 119] (rs := [.load ⟨b1, 2, none⟩ (.slice k.a k.xs.length k.cap)]) (κ' := [(1, pT b1), (10, pT b248), (119, .bool (decide (((k.xs.length : Nat) : Int) > 0)))]) (l' := #[true, true, true, true, true, true, true, true, false, false, false, false, false, false, false, false, false, false, false, false, false, false, false, false, false, false, false, false, false, false, false, false, false, false, false, false, false, false, false, false, false, false, false, false, false, false]) (by kernel_rfl) (by kernel_rfl) (by kernel_rfl) (fun w' hw => have hw := hw.elim id id; (.load ((B281.ext0 hw).cell 2 rfl) .nil)) ?_
     refine S.subst 119 (.bool (decide (((k.xs.length : Nat) : Int) > 0))) (.bool true) (by kernel_rfl) (congrArg Value.bool (decide_eq_true (by rw [hks]; simp only [List.length_cons]; omega))) ?_
     refine S.dreads bodyPost_panicOk [8, 9] 36 [.v (.slice k.a k.xs.length k.cap)] [1, 10, 119, 121] (rs := [.load ⟨b1, 2, none⟩ (.slice k.a k.xs.length k.cap)]) (κ' := [(1, pT b1), (10, pT b248), (119, .bool true), (121, .slice k.a k.xs.length k.cap)]) (l' := #[true, true, true, true, true, true, true, true, true, true, false, false, false, false, false, false, false, false, false, false, false, false, false, false, false, false, false, false, false, false, false, false, false, false, false, false, false, false, false, false, false, false, false, false, false, false]) (by kernel_rfl) (by kernel_rfl) (by kernel_rfl) (fun w' hw => have hw := hw.elim id id; (.load ((B281.ext0 hw).cell 2 rfl) .nil)) ?_
     have R283 := hk.1.pres (.of0 E1)
     have R284 := R283.pres (.of0 E3)
     have R285 := R284.pres (.of0 E4)
     have R286 := R285.pres (.ofS E5 (by omega))
     have R287 := R286.pres (.of0 E16)
     have R288 := R287.pres (.of0 E17)
     have R289 := R288.pres (.ofS E18 (by omega))
     have R290 := R289.pres (.of0 E22)
     have R291 := R290.pres (.of0 E171)
     have R292 := R291.pres (.ofS E172 (by omega))
     have R293 := R292.pres (.of0 E173)
     have R294 := R293.pres (.of0 E191)
     have R295 := R294.pres (.of0 E226)
     have R296 := R295.pres (.of0 E248)
     have R297 := R296.pres (.ofS E249 (by omega))
     have R298 := R297.pres (.of0 E253)
     have R299 := R298.pres (.of0 E271)
     have hkl9 : k.xs.length = qs.length + 1 := by rw [hks]; rfl
     obtain ⟨b282, o282, h282, H282⟩ := R299 0 q (by rw [hks]; rfl)
     refine S.dlaw bodyPost_panicOk 10 122 35 (v := .pointer (some ⟨b282, o282 + 0 * 1, none⟩)) (l' := #[true, true, true, true, true, true, true, true, true, true, true, false, false, false, false, false, false, false, false, false, false, false, false, false, false, false, false, false, false, false, false, false, false, false, false, false, false, false, false, false, false, false, false, false, false, false]) (by kernel_rfl) (by kernel_rfl) (by kernel_rfl) (by kernel_rfl) (fun w' hw => lawRun (s := Instr.indexAt 23 (.slice k.a k.xs.length k.cap) (.int .i64 0)) (by kernel_rfl) (run_idx (e := 3) 0 h282 (by kernel_rfl) (by kernel_rfl) (by omega))) ?_
     refine S.dreads bodyPost_panicOk [11, 12, 13, 14] 31 [.v (iV q)] [1, 10, 126] (rs := [.load ⟨b282, o282 + 0 * 1, none⟩ (iV q)]) (κ' := [(1, pT b1), (10, pT b248), (126, .bool (decide (q ≥ 0)))]) (l' := #[true, true, true, true, true, true, true, true, true, true, true, true, true, true, true, false, false, false, false, false, false, false, false, false, false, false, false, false, false, false, false, false, false, false, false, false, false, false, false, false, false, false, false, false, false, false]) (by kernel_rfl) (by kernel_rfl) (by kernel_rfl) (fun w' hw => have hw := hw.elim id id; (.load ((H282.pres (.of0 hw)).cell0 rfl) .nil)) ?_
     have hq0 := okD_picks hok16 q (by rw [hks]; exact List.mem_cons_self ..)
     refine S.subst 126 (.bool (decide (q ≥ 0))) (.bool true) (by kernel_rfl) (congrArg Value.bool (decide_eq_true hq0)) ?_
     have B300 := B249.ext0 E253
     have B301 := B300.ext0 E271
     refine S.dreads bodyPost_panicOk [15, 16, 17, 18, 19] 26 [.v (iV x245.deed)] [1, 10, 131] (rs := [.load ⟨b248, 0, none⟩ (iV x245.deed)]) (κ' := [(1, pT b1), (10, pT b248), (131, .bool (x245.deed == 4))]) (l' := #[true, true, true, true, true, true, true, true, true, true, true, true, true, true, true, true, true, true, true, true, false, false, false, false, false, false, false, false, false, false, false, false, false, false, false, false, false, false, false, false, false, false, false, false, false, false]) (by kernel_rfl) (by kernel_rfl) (by kernel_rfl) (fun w' hw => have hw := hw.elim id id; (.load ((B301.ext0 hw).cell 0 rfl) .nil)) ?_
     refine S.subst 131 (.bool (x245.deed == 4)) (.bool true) (by kernel_rfl) (congrArg Value.bool (by rw [bc1]; rfl)) ?_
     refine S.dreads bodyPost_panicOk [20, 21, 22, 23, 24, 25] 20 [.v (.slice x245.r.a x245.r.xs.length x245.r.cap)] [1, 10, 137] (rs := [.load ⟨b248, 4, none⟩ (.slice x245.r.a x245.r.xs.length x245.r.cap)]) (κ' := [(1, pT b1), (10, pT b248), (137, .bool (decide (((x245.r.xs.length : Nat) : Int) > 0)))]) (l' := #[true, true, true, true, true, true, true, true, true, true, true, true, true, true, true, true, true, true, true, true, true, true, true, true, true, true, false, false, false, false, false, false, false, false, false, false, false, false, false, false, false, false, false, false, false, false]) (by kernel_rfl) (by kernel_rfl) (by kernel_rfl) (fun w' hw => have hw := hw.elim id id; (.load ((B301.ext0 hw).cell 4 rfl) .nil)) ?_
     refine S.subst 137 (.bool (decide (((x245.r.xs.length : Nat) : Int) > 0))) (.bool true) (by kernel_rfl) (congrArg Value.bool (decide_eq_true (by omega))) ?_
     refine S.dreads bodyPost_panicOk [26, 27, 28, 29, 32, 33, 34, 38, 39] 11 [.v (.slice x245.r.a x245.r.xs.length x245.r.cap), .v (.slice k.a k.xs.length k.cap), .v (.slice x245.r.a x245.r.xs.length x245.r.cap), .v (iV x245.n)] [137, 139, 141, 146, 151] (rs := [.load ⟨b248, 4, none⟩ (.slice x245.r.a x245.r.xs.length x245.r.cap), .load ⟨b1, 2, none⟩ (.slice k.a k.xs.length k.cap), .load ⟨b248, 4, none⟩ (.slice x245.r.a x245.r.xs.length x245.r.cap), .load ⟨b248, 1, none⟩ (iV x245.n)]) (κ' := [(137, .bool true), (139, .slice x245.r.a x245.r.xs.length x245.r.cap), (141, .slice k.a k.xs.length k.cap), (146, iV ((x245.r.xs.length : Nat) : Int)), (151, iV x245.n)]) (l' := #[true, true, true, true, true, true, true, true, true, true, true, true, true, true, true, true, true, true, true, true, true, true, true, true, true, true, true, true, true, true, false, false, true, true, true, false, false, false, true, true, false, false, false, false, false, false]) (by kernel_rfl) (by kernel_rfl) (by kernel_rfl) (fun w' hw => have hw := hw.elim id id; (.load ((B301.ext0 hw).cell 4 rfl) (.load ((B281.ext0 hw).cell 2 rfl) (.load ((B301.ext0 hw).cell 4 rfl) (.load ((B301.ext0 hw).cell 1 rfl) .nil))))) ?_
     have hkl9 : k.xs.length = qs.length + 1 := by rw [hks]; rfl
     obtain ⟨b302, o302, h302, H302⟩ := R299 0 q (by rw [hks]; rfl)
     refine S.dlaw bodyPost_panicOk 30 142 10 (v := .pointer (some ⟨b302, o302 + 0 * 1, none⟩)) (l' := #[true, true, true, true, true, true, true, true, true, true, true, true, true, true, true, true, true, true, true, true, true, true, true, true, true, true, true, true, true, true, true, false, true, true, true, false, false, false, true, true, false, false, false, false, false, false]) (by kernel_rfl) (by kernel_rfl) (by kernel_rfl) (by kernel_rfl) (fun w' hw => lawRun (s := Instr.indexAt 23 (.slice k.a k.xs.length k.cap) (.int .i64 0)) (by kernel_rfl) (run_idx (e := 3) 0 h302 (by kernel_rfl) (by kernel_rfl) (by omega))) ?_
     refine S.dreads bodyPost_panicOk [31] 9 [.v (iV q)] [137, 139, 143, 146, 151] (rs := [.load ⟨b302, o302 + 0 * 1, none⟩ (iV q)]) (κ' := [(137, .bool true), (139, .slice x245.r.a x245.r.xs.length x245.r.cap), (143, iV q), (146, iV ((x245.r.xs.length : Nat) : Int)), (151, iV x245.n)]) (l' := #[true, true, true, true, true, true, true, true, true, true, true, true, true, true, true, true, true, true, true, true, true, true, true, true, true, true, true, true, true, true, true, true, true, true, true, false, false, false, true, true, false, false, false, false, false, false]) (by kernel_rfl) (by kernel_rfl) (by kernel_rfl) (fun w' hw => have hw := hw.elim id id; (.load ((H302.pres (.of0 hw)).cell0 rfl) .nil)) ?_
     obtain ⟨j, hj, hj1, hj2⟩ := rem_nat (q := q) (n := x245.r.xs.length) (by omega) bc2; rw [hj2] at bc3
     refine S.dlaw bodyPost_panicOk 35 147 8 (v := iV ((j : Nat) : Int)) (l' := #[true, true, true, true, true, true, true, true, true, true, true, true, true, true, true, true, true, true, true, true, true, true, true, true, true, true, true, true, true, true, true, true, true, true, true, true, false, false, true, true, false, false, false, false, false, false]) (by kernel_rfl) (by kernel_rfl) (by kernel_rfl) (by kernel_rfl) (fun w' hw => lawRun (s := binOp .rem 3 (iV q) (iV ((x245.r.xs.length : Nat) : Int))) (by kernel_rfl) (by rw [run_rem (by omega), hj1])) ?_
     have R303 := K245.2.1.pres (.of0 E248)
     have R304 := R303.pres (.ofE E249 B248 (by decide))
     have R305 := R304.pres (.of0 E253)
     have R306 := R305.pres (.of0 E271)
     obtain ⟨x307, b307, o307, hx307, h307, H307⟩ := R306.get j (by omega)
     refine S.dlaw bodyPost_panicOk 36 148 7 (v := .pointer (some ⟨b307, o307 + j * 1, none⟩)) (l' := #[true, true, true, true, true, true, true, true, true, true, true, true, true, true, true, true, true, true, true, true, true, true, true, true, true, true, true, true, true, true, true, true, true, true, true, true, true, false, true, true, false, false, false, false, false, false]) (by kernel_rfl) (by kernel_rfl) (by kernel_rfl) (by kernel_rfl) (fun w' hw => lawRun (s := Instr.indexAt 23 (.slice x245.r.a x245.r.xs.length x245.r.cap) (.int .i64 ((j : Nat) : Int))) (by kernel_rfl) (run_idx (e := 3) j h307 (by kernel_rfl) (by kernel_rfl) (by omega))) ?_
     refine S.dreads bodyPost_panicOk [37, 40, 41, 42] 3 [.v (iV x307)] [154] (rs := [.load ⟨b307, o307 + j * 1, none⟩ (iV x307)]) (κ' := [(154, .bool (x307 == x245.n))]) (l' := #[true, true, true, true, true, true, true, true, true, true, true, true, true, true, true, true, true, true, true, true, true, true, true, true, true, true, true, true, true, true, true, true, true, true, true, true, true, true, true, true, true, true, true, false, false, false]) (by kernel_rfl) (by kernel_rfl) (by kernel_rfl) (fun w' hw => have hw := hw.elim id id; (.load ((H307.pres (.of0 hw)).cell0 rfl) .nil)) ?_
     have h8 := getD_eq (d := 0) hx307; rw [h8] at bc3
     refine S.subst 154 (.bool (x307 == x245.n)) (.bool true) (by kernel_rfl) (congrArg Value.bool (by rw [bc3]; exact beq_self_eq_true _)) ?_
     refine S.dnext (j := 43) (l' := #[true, true, true, true, true, true, true, true, true, true, true, true, true, true, true, true, true, true, true, true, true, true, true, true, true, true, true, true, true, true, true, true, true, true, true, true, true, true, true, true, true, true, true, true, false, false]) (by kernel_rfl) (by kernel_rfl) (sw1 (by kernel_rfl) (Ext.refl _)) ?_
     refine S.call (dst := some 155) (f := 7) (args := #[]) (by kernel_rfl) (by kernel_rfl) ((known_spec _).mono ?_)
     rintro _ w308 ⟨E308, rfl⟩
     refine After.ret (by kernel_rfl) ?_
     have sE308 := E308.size
     refine S.dreads bodyPost_panicOk [44, 45] 0 [] [2] (rs := []) (κ' := [(2, .bool true)]) (l' := #[true, true, true, true, true, true, true, true, true, true, true, true, true, true, true, true, true, true, true, true, true, true, true, true, true, true, true, true, true, true, true, true, true, true, true, true, true, true, true, true, true, true, true, true, true, true]) (by kernel_rfl) (by kernel_rfl) (by kernel_rfl) (fun _ _ => rfl) ?_
     refine S.dend (by kernel_rfl) (sw1 (by kernel_rfl) E308) ?_
     exact S.ret1 (v := .bool true) rfl (by kernel_rfl) ⟨((((((((((((((((E1.trans E3).trans E4).thenS E5 (by omega)).trans E16).trans E17).thenS E18 (by omega)).trans E22).trans E171).thenS E172 (by omega)).trans E173).trans E191).trans E226).trans E248).thenS E249 (by omega)).trans E253).trans E271).trans E308, rfl⟩
   ·skip
    exact absurd (okD_fine hok3) (by rw [hfine]; simp)
  ·skip
   refine After.ret (by kernel_rfl) ?_
   have sE16 := E16.size
   refine S.run 3 [] [1, 3, 4, 32, 33] (rs := []) (κ' := [(1, pT b1), (3, pT b4), (4, iV 0), (32, .agg #[iV 0, iV 0, .slice none 0 0, iV 0]), (33, iV 2)]) (by kernel_rfl) (by kernel_rfl) rfl ?_
   refine S.one (by kernel_rfl) (S.new 5 [iV 0, iV 0, .slice none 0 0, iV 0] 29 (fun b => pT b) (by kernel_rfl) (by kernel_rfl) (fun b => by kernel_rfl) (fun b309 w309 E309 B309 e309 z309 => ?_))
   have sE309 := E309.size
   refine S.one (by kernel_rfl) (S.store 0 [iV 0, iV 0, .slice none 0 0, iV 0] [iV 0, iV 0, .slice none 0 0, iV 0] B309 (by kernel_rfl) (by kernel_rfl) (by kernel_rfl) (by kernel_rfl) (by kernel_rfl) (fun w310 E310 B310 z310 => ?_))
   have sE310 := E310.size
   refine S.run 1 [] [1, 3, 4, 5, 6] (rs := []) (κ' := [(1, pT b1), (3, pT b4), (4, iV 0), (5, pT b309), (6, iV 2)]) (by kernel_rfl) (by kernel_rfl) rfl ?_
   refine S.regEnd (by kernel_rfl) (S.seq (S.region ?_))
   have B311 := B8.ext0 E16
   have B312 := B311.ext0 E309
   have B313 := B312.extT E310 B309 (by decide)
   refine S.run 2 [.v (.slice p.a p.xs.length p.cap)] [1, 3, 4, 5, 6, 36] (rs := [.load ⟨b1, 0, none⟩ (.slice p.a p.xs.length p.cap)]) (κ' := [(1, pT b1), (3, pT b4), (4, iV 0), (5, pT b309), (6, iV 2), (36, .slice p.a p.xs.length p.cap)]) (by kernel_rfl) (by kernel_rfl) (.load (B313.cell 0 rfl) .nil) ?_
   refine S.one (by kernel_rfl) ?_
   have T315 := T11.pres (.of0 E16)
   have T316 := T315.pres (.of0 E309)
   have T317 := T316.pres (.ofS E310 (by omega))
   refine S.call (dst := some 37) (f := 6) (args := #[.slice p.a p.xs.length p.cap]) (by kernel_rfl) (by kernel_rfl) ((Errors_spec p n 160 _ T317 (by omega) (fun hf => vis_fine hf)).mono ?_)
   rintro _ w314 ⟨E314, ⟨hfine, rows, oa, oc, rfl, hrow, hro, hrs⟩ | ⟨hfine, rfl⟩⟩
   ·skip
    refine After.ret (by kernel_rfl) ?_
    have sE314 := E314.size
    refine S.run 3 [] [1, 3, 4, 5, 6, 38, 39] (rs := []) (κ' := [(1, pT b1), (3, pT b4), (4, iV 0), (5, pT b309), (6, iV 2), (38, .slice oa rows.length oc), (39, iV 0)]) (by kernel_rfl) (by kernel_rfl) rfl ?_
    refine S.one (by kernel_rfl) (S.new 7 [.slice none 0 0] 34 (fun b => pT b) (by kernel_rfl) (by kernel_rfl) (fun b => by kernel_rfl) (fun b318 w318 E318 B318 e318 z318 => ?_))
    have sE318 := E318.size
    refine S.one (by kernel_rfl) (S.store 0 [.slice oa rows.length oc] [.slice oa rows.length oc] B318 (by kernel_rfl) (by kernel_rfl) (by kernel_rfl) (by kernel_rfl) (by kernel_rfl) (fun w319 E319 B319 z319 => ?_))
    have sE319 := E319.size
    refine S.run 1 [] [1, 3, 4, 5, 6, 7, 8] (rs := []) (κ' := [(1, pT b1), (3, pT b4), (4, iV 0), (5, pT b309), (6, iV 2), (7, pT b318), (8, iV 0)]) (by kernel_rfl) (by kernel_rfl) rfl ?_
    refine S.regEnd (by kernel_rfl) (S.seq (S.seq (S.region (S.run 6 [] [1, 3, 5, 7, 8, 45] (rs := []) (κ' := [(1, pT b1), (3, pT b4), (5, pT b309), (7, pT b318), (8, iV 0), (45, .bool true)]) (by kernel_rfl) (by kernel_rfl) rfl ?_))))
    refine S.regEnd (by kernel_rfl) (S.yes (by kernel_rfl) (S.seq (S.region (S.one (by kernel_rfl) (S.call (dst := some 46) (f := 7) (args := #[]) (by kernel_rfl) (by kernel_rfl) ((known_spec _).mono ?_))))))
    rintro _ w320 ⟨E320, rfl⟩
    refine After.ret (by kernel_rfl) ?_
    have sE320 := E320.size
    refine S.run 1 [] [2] (rs := []) (κ' := [(2, .bool true)]) (by kernel_rfl) (by kernel_rfl) rfl ?_
    exact S.regEnd (by kernel_rfl) (S.ret1 (v := .bool true) rfl (by kernel_rfl) ⟨(((((((((E1.trans E3).trans E4).thenS E5 (by omega)).trans E16).trans E309).thenS E310 (by omega)).trans E314).trans E318).thenS E319 (by omega)).trans E320, rfl⟩)
   ·skip
    exact absurd (okD_fine hok3) (by rw [hfine]; simp)
 ·skip
  refine After.ret (by kernel_rfl) ?_
  have sE3 := E3.size
  refine S.run 3 [] [1, 20, 21] (rs := []) (κ' := [(1, pT b1), (20, .agg #[iV 0, iV 0, .slice none 0 0, iV 0]), (21, iV 2)]) (by kernel_rfl) (by kernel_rfl) rfl ?_
  refine S.one (by kernel_rfl) (S.new 3 [iV 0, iV 0, .slice none 0 0, iV 0] 29 (fun b => pT b) (by kernel_rfl) (by kernel_rfl) (fun b => by kernel_rfl) (fun b321 w321 E321 B321 e321 z321 => ?_))
  have sE321 := E321.size
  refine S.one (by kernel_rfl) (S.store 0 [iV 0, iV 0, .slice none 0 0, iV 0] [iV 0, iV 0, .slice none 0 0, iV 0] B321 (by kernel_rfl) (by kernel_rfl) (by kernel_rfl) (by kernel_rfl) (by kernel_rfl) (fun w322 E322 B322 z322 => ?_))
  have sE322 := E322.size
  refine S.run 1 [] [1, 3, 4] (rs := []) (κ' := [(1, pT b1), (3, pT b321), (4, iV 2)]) (by kernel_rfl) (by kernel_rfl) rfl ?_
  refine S.regEnd (by kernel_rfl) (S.seq (S.region ?_))
  have B323 := B1.ext0 E3
  have B324 := B323.ext0 E321
  have B325 := B324.extT E322 B321 (by decide)
  refine S.run 8 [.v (.slice p.a p.xs.length p.cap), .v (iV hand), .v (.slice k.a k.xs.length k.cap), .v (iV fuel)] [1, 3, 4, 24, 26, 28, 30] (rs := [.load ⟨b1, 0, none⟩ (.slice p.a p.xs.length p.cap), .load ⟨b1, 1, none⟩ (iV hand), .load ⟨b1, 2, none⟩ (.slice k.a k.xs.length k.cap), .load ⟨b1, 3, none⟩ (iV fuel)]) (κ' := [(1, pT b1), (3, pT b321), (4, iV 2), (24, .slice p.a p.xs.length p.cap), (26, iV hand), (28, .slice k.a k.xs.length k.cap), (30, iV fuel)]) (by kernel_rfl) (by kernel_rfl) (.load (B325.cell 0 rfl) (.load (B325.cell 1 rfl) (.load (B325.cell 2 rfl) (.load (B325.cell 3 rfl) .nil)))) ?_
  have T326 := T2.pres (.of0 E3)
  have T327 := T326.pres (.of0 E321)
  have T328 := T327.pres (.ofS E322 (by omega))
  have T329 := hk.pres (.of0 E1)
  have T330 := T329.pres (.of0 E3)
  have T331 := T330.pres (.of0 E321)
  have T332 := T331.pres (.ofS E322 (by omega))
  refine S.one (by kernel_rfl) (S.call (dst := some 31) (f := 5) (args := #[.slice p.a p.xs.length p.cap, iV hand, .slice k.a k.xs.length k.cap, iV fuel]) (by kernel_rfl) (by kernel_rfl) ((Drive_spec n p k hand fuel _ T328 T332 hc (by omega)).mono ?_))
  rintro _ w333 ⟨E333, ⟨hok333, r333, rfl, hr333, his333⟩ | ⟨hok333, rfl⟩⟩
  ·skip
   refine After.ret (by kernel_rfl) ?_
   have sE333 := E333.size
   refine S.run 3 [] [1, 3, 4, 32, 33] (rs := []) (κ' := [(1, pT b1), (3, pT b321), (4, iV 2), (32, .agg #[iV r333.fin, iV r333.val, .slice r333.a r333.les.length r333.cap, iV r333.fuel]), (33, iV 0)]) (by kernel_rfl) (by kernel_rfl) rfl ?_
   refine S.one (by kernel_rfl) (S.new 5 [iV 0, iV 0, .slice none 0 0, iV 0] 29 (fun b => pT b) (by kernel_rfl) (by kernel_rfl) (fun b => by kernel_rfl) (fun b334 w334 E334 B334 e334 z334 => ?_))
   have sE334 := E334.size
   refine S.one (by kernel_rfl) (S.store 0 [iV r333.fin, iV r333.val, .slice r333.a r333.les.length r333.cap, iV r333.fuel] [iV r333.fin, iV r333.val, .slice r333.a r333.les.length r333.cap, iV r333.fuel] B334 (by kernel_rfl) (by kernel_rfl) (by kernel_rfl) (by kernel_rfl) (by kernel_rfl) (fun w335 E335 B335 z335 => ?_))
   have sE335 := E335.size
   refine S.run 1 [] [1, 3, 4, 5, 6] (rs := []) (κ' := [(1, pT b1), (3, pT b321), (4, iV 2), (5, pT b334), (6, iV 0)]) (by kernel_rfl) (by kernel_rfl) rfl ?_
   refine S.regEnd (by kernel_rfl) (S.seq (S.region ?_))
   have B336 := B325.ext0 E333
   have B337 := B336.ext0 E334
   have B338 := B337.extT E335 B334 (by decide)
   refine S.run 2 [.v (.slice p.a p.xs.length p.cap)] [1, 3, 4, 5, 6, 36] (rs := [.load ⟨b1, 0, none⟩ (.slice p.a p.xs.length p.cap)]) (κ' := [(1, pT b1), (3, pT b321), (4, iV 2), (5, pT b334), (6, iV 0), (36, .slice p.a p.xs.length p.cap)]) (by kernel_rfl) (by kernel_rfl) (.load (B338.cell 0 rfl) .nil) ?_
   refine S.one (by kernel_rfl) ?_
   have T340 := T328.pres (.of0 E333)
   have T341 := T340.pres (.of0 E334)
   have T342 := T341.pres (.ofS E335 (by omega))
   refine S.call (dst := some 37) (f := 6) (args := #[.slice p.a p.xs.length p.cap]) (by kernel_rfl) (by kernel_rfl) ((Errors_spec p n 160 _ T342 (by omega) (fun hf => vis_fine hf)).mono ?_)
   rintro _ w339 ⟨E339, ⟨hfine, rows, oa, oc, rfl, hrow, hro, hrs⟩ | ⟨hfine, rfl⟩⟩
   ·skip
    refine After.ret (by kernel_rfl) ?_
    have sE339 := E339.size
    refine S.run 3 [] [1, 3, 4, 5, 6, 38, 39] (rs := []) (κ' := [(1, pT b1), (3, pT b321), (4, iV 2), (5, pT b334), (6, iV 0), (38, .slice oa rows.length oc), (39, iV 0)]) (by kernel_rfl) (by kernel_rfl) rfl ?_
    refine S.one (by kernel_rfl) (S.new 7 [.slice none 0 0] 34 (fun b => pT b) (by kernel_rfl) (by kernel_rfl) (fun b => by kernel_rfl) (fun b343 w343 E343 B343 e343 z343 => ?_))
    have sE343 := E343.size
    refine S.one (by kernel_rfl) (S.store 0 [.slice oa rows.length oc] [.slice oa rows.length oc] B343 (by kernel_rfl) (by kernel_rfl) (by kernel_rfl) (by kernel_rfl) (by kernel_rfl) (fun w344 E344 B344 z344 => ?_))
    have sE344 := E344.size
    refine S.run 1 [] [1, 3, 4, 5, 6, 7, 8] (rs := []) (κ' := [(1, pT b1), (3, pT b321), (4, iV 2), (5, pT b334), (6, iV 0), (7, pT b343), (8, iV 0)]) (by kernel_rfl) (by kernel_rfl) rfl ?_
    refine S.regEnd (by kernel_rfl) (S.seq (S.seq (S.region (S.run 6 [] [1, 3, 5, 7, 8, 45] (rs := []) (κ' := [(1, pT b1), (3, pT b321), (5, pT b334), (7, pT b343), (8, iV 0), (45, .bool true)]) (by kernel_rfl) (by kernel_rfl) rfl ?_))))
    refine S.regEnd (by kernel_rfl) (S.yes (by kernel_rfl) (S.seq (S.region (S.one (by kernel_rfl) (S.call (dst := some 46) (f := 7) (args := #[]) (by kernel_rfl) (by kernel_rfl) ((known_spec _).mono ?_))))))
    rintro _ w345 ⟨E345, rfl⟩
    refine After.ret (by kernel_rfl) ?_
    have sE345 := E345.size
    refine S.run 1 [] [2] (rs := []) (κ' := [(2, .bool true)]) (by kernel_rfl) (by kernel_rfl) rfl ?_
    exact S.regEnd (by kernel_rfl) (S.ret1 (v := .bool true) rfl (by kernel_rfl) ⟨(((((((((E1.trans E3).trans E321).thenS E322 (by omega)).trans E333).trans E334).thenS E335 (by omega)).trans E339).trans E343).thenS E344 (by omega)).trans E345, rfl⟩)
   ·skip
    refine After.ret (by kernel_rfl) ?_
    have sE339 := E339.size
    refine S.run 3 [] [1, 3, 4, 5, 6, 38, 39] (rs := []) (κ' := [(1, pT b1), (3, pT b321), (4, iV 2), (5, pT b334), (6, iV 0), (38, .slice none 0 0), (39, iV 2)]) (by kernel_rfl) (by kernel_rfl) rfl ?_
    refine S.one (by kernel_rfl) (S.new 7 [.slice none 0 0] 34 (fun b => pT b) (by kernel_rfl) (by kernel_rfl) (fun b => by kernel_rfl) (fun b346 w346 E346 B346 e346 z346 => ?_))
    have sE346 := E346.size
    refine S.one (by kernel_rfl) (S.store 0 [.slice none 0 0] [.slice none 0 0] B346 (by kernel_rfl) (by kernel_rfl) (by kernel_rfl) (by kernel_rfl) (by kernel_rfl) (fun w347 E347 B347 z347 => ?_))
    have sE347 := E347.size
    refine S.run 1 [] [1, 3, 4, 5, 6, 7, 8] (rs := []) (κ' := [(1, pT b1), (3, pT b321), (4, iV 2), (5, pT b334), (6, iV 0), (7, pT b346), (8, iV 2)]) (by kernel_rfl) (by kernel_rfl) rfl ?_
    refine S.regEnd (by kernel_rfl) (S.seq (S.seq (S.region (S.run 6 [] [1, 3, 5, 7, 8, 45] (rs := []) (κ' := [(1, pT b1), (3, pT b321), (5, pT b334), (7, pT b346), (8, iV 2), (45, .bool true)]) (by kernel_rfl) (by kernel_rfl) rfl ?_))))
    refine S.regEnd (by kernel_rfl) (S.yes (by kernel_rfl) (S.seq (S.region (S.one (by kernel_rfl) (S.call (dst := some 46) (f := 7) (args := #[]) (by kernel_rfl) (by kernel_rfl) ((known_spec _).mono ?_))))))
    rintro _ w348 ⟨E348, rfl⟩
    refine After.ret (by kernel_rfl) ?_
    have sE348 := E348.size
    refine S.run 1 [] [2] (rs := []) (κ' := [(2, .bool true)]) (by kernel_rfl) (by kernel_rfl) rfl ?_
    exact S.regEnd (by kernel_rfl) (S.ret1 (v := .bool true) rfl (by kernel_rfl) ⟨(((((((((E1.trans E3).trans E321).thenS E322 (by omega)).trans E333).trans E334).thenS E335 (by omega)).trans E339).trans E346).thenS E347 (by omega)).trans E348, rfl⟩)
  ·skip
   refine After.ret (by kernel_rfl) ?_
   have sE333 := E333.size
   refine S.run 3 [] [1, 3, 4, 32, 33] (rs := []) (κ' := [(1, pT b1), (3, pT b321), (4, iV 2), (32, .agg #[iV 0, iV 0, .slice none 0 0, iV 0]), (33, iV 2)]) (by kernel_rfl) (by kernel_rfl) rfl ?_
   refine S.one (by kernel_rfl) (S.new 5 [iV 0, iV 0, .slice none 0 0, iV 0] 29 (fun b => pT b) (by kernel_rfl) (by kernel_rfl) (fun b => by kernel_rfl) (fun b349 w349 E349 B349 e349 z349 => ?_))
   have sE349 := E349.size
   refine S.one (by kernel_rfl) (S.store 0 [iV 0, iV 0, .slice none 0 0, iV 0] [iV 0, iV 0, .slice none 0 0, iV 0] B349 (by kernel_rfl) (by kernel_rfl) (by kernel_rfl) (by kernel_rfl) (by kernel_rfl) (fun w350 E350 B350 z350 => ?_))
   have sE350 := E350.size
   refine S.run 1 [] [1, 3, 4, 5, 6] (rs := []) (κ' := [(1, pT b1), (3, pT b321), (4, iV 2), (5, pT b349), (6, iV 2)]) (by kernel_rfl) (by kernel_rfl) rfl ?_
   refine S.regEnd (by kernel_rfl) (S.seq (S.region ?_))
   have B351 := B325.ext0 E333
   have B352 := B351.ext0 E349
   have B353 := B352.extT E350 B349 (by decide)
   refine S.run 2 [.v (.slice p.a p.xs.length p.cap)] [1, 3, 4, 5, 6, 36] (rs := [.load ⟨b1, 0, none⟩ (.slice p.a p.xs.length p.cap)]) (κ' := [(1, pT b1), (3, pT b321), (4, iV 2), (5, pT b349), (6, iV 2), (36, .slice p.a p.xs.length p.cap)]) (by kernel_rfl) (by kernel_rfl) (.load (B353.cell 0 rfl) .nil) ?_
   refine S.one (by kernel_rfl) ?_
   have T355 := T328.pres (.of0 E333)
   have T356 := T355.pres (.of0 E349)
   have T357 := T356.pres (.ofS E350 (by omega))
   refine S.call (dst := some 37) (f := 6) (args := #[.slice p.a p.xs.length p.cap]) (by kernel_rfl) (by kernel_rfl) ((Errors_spec p n 160 _ T357 (by omega) (fun hf => vis_fine hf)).mono ?_)
   rintro _ w354 ⟨E354, ⟨hfine, rows, oa, oc, rfl, hrow, hro, hrs⟩ | ⟨hfine, rfl⟩⟩
   ·skip
    refine After.ret (by kernel_rfl) ?_
    have sE354 := E354.size
    refine S.run 3 [] [1, 3, 4, 5, 6, 38, 39] (rs := []) (κ' := [(1, pT b1), (3, pT b321), (4, iV 2), (5, pT b349), (6, iV 2), (38, .slice oa rows.length oc), (39, iV 0)]) (by kernel_rfl) (by kernel_rfl) rfl ?_
    refine S.one (by kernel_rfl) (S.new 7 [.slice none 0 0] 34 (fun b => pT b) (by kernel_rfl) (by kernel_rfl) (fun b => by kernel_rfl) (fun b358 w358 E358 B358 e358 z358 => ?_))
    have sE358 := E358.size
    refine S.one (by kernel_rfl) (S.store 0 [.slice oa rows.length oc] [.slice oa rows.length oc] B358 (by kernel_rfl) (by kernel_rfl) (by kernel_rfl) (by kernel_rfl) (by kernel_rfl) (fun w359 E359 B359 z359 => ?_))
    have sE359 := E359.size
    refine S.run 1 [] [1, 3, 4, 5, 6, 7, 8] (rs := []) (κ' := [(1, pT b1), (3, pT b321), (4, iV 2), (5, pT b349), (6, iV 2), (7, pT b358), (8, iV 0)]) (by kernel_rfl) (by kernel_rfl) rfl ?_
    refine S.regEnd (by kernel_rfl) (S.seq (S.seq (S.region (S.run 6 [] [1, 3, 5, 7, 8, 45] (rs := []) (κ' := [(1, pT b1), (3, pT b321), (5, pT b349), (7, pT b358), (8, iV 0), (45, .bool true)]) (by kernel_rfl) (by kernel_rfl) rfl ?_))))
    refine S.regEnd (by kernel_rfl) (S.yes (by kernel_rfl) (S.seq (S.region (S.one (by kernel_rfl) (S.call (dst := some 46) (f := 7) (args := #[]) (by kernel_rfl) (by kernel_rfl) ((known_spec _).mono ?_))))))
    rintro _ w360 ⟨E360, rfl⟩
    refine After.ret (by kernel_rfl) ?_
    have sE360 := E360.size
    refine S.run 1 [] [2] (rs := []) (κ' := [(2, .bool true)]) (by kernel_rfl) (by kernel_rfl) rfl ?_
    exact S.regEnd (by kernel_rfl) (S.ret1 (v := .bool true) rfl (by kernel_rfl) ⟨(((((((((E1.trans E3).trans E321).thenS E322 (by omega)).trans E333).trans E349).thenS E350 (by omega)).trans E354).trans E358).thenS E359 (by omega)).trans E360, rfl⟩)
   ·skip
    refine After.ret (by kernel_rfl) ?_
    have sE354 := E354.size
    refine S.run 3 [] [1, 3, 4, 5, 6, 38, 39] (rs := []) (κ' := [(1, pT b1), (3, pT b321), (4, iV 2), (5, pT b349), (6, iV 2), (38, .slice none 0 0), (39, iV 2)]) (by kernel_rfl) (by kernel_rfl) rfl ?_
    refine S.one (by kernel_rfl) (S.new 7 [.slice none 0 0] 34 (fun b => pT b) (by kernel_rfl) (by kernel_rfl) (fun b => by kernel_rfl) (fun b361 w361 E361 B361 e361 z361 => ?_))
    have sE361 := E361.size
    refine S.one (by kernel_rfl) (S.store 0 [.slice none 0 0] [.slice none 0 0] B361 (by kernel_rfl) (by kernel_rfl) (by kernel_rfl) (by kernel_rfl) (by kernel_rfl) (fun w362 E362 B362 z362 => ?_))
    have sE362 := E362.size
    refine S.run 1 [] [1, 3, 4, 5, 6, 7, 8] (rs := []) (κ' := [(1, pT b1), (3, pT b321), (4, iV 2), (5, pT b349), (6, iV 2), (7, pT b361), (8, iV 2)]) (by kernel_rfl) (by kernel_rfl) rfl ?_
    refine S.regEnd (by kernel_rfl) (S.seq (S.seq (S.region (S.run 6 [] [1, 3, 5, 7, 8, 45] (rs := []) (κ' := [(1, pT b1), (3, pT b321), (5, pT b349), (7, pT b361), (8, iV 2), (45, .bool true)]) (by kernel_rfl) (by kernel_rfl) rfl ?_))))
    refine S.regEnd (by kernel_rfl) (S.yes (by kernel_rfl) (S.seq (S.region (S.one (by kernel_rfl) (S.call (dst := some 46) (f := 7) (args := #[]) (by kernel_rfl) (by kernel_rfl) ((known_spec _).mono ?_))))))
    rintro _ w363 ⟨E363, rfl⟩
    refine After.ret (by kernel_rfl) ?_
    have sE363 := E363.size
    refine S.run 1 [] [2] (rs := []) (κ' := [(2, .bool true)]) (by kernel_rfl) (by kernel_rfl) rfl ?_
    exact S.regEnd (by kernel_rfl) (S.ret1 (v := .bool true) rfl (by kernel_rfl) ⟨(((((((((E1.trans E3).trans E321).thenS E322 (by omega)).trans E333).trans E349).thenS E350 (by omega)).trans E354).trans E361).thenS E362 (by omega)).trans E363, rfl⟩)

end Go.Proofs.Ytmgakpnejbembaa
