/-
  CondChoice, a part of the proof (printed by a program of the prover): what functions of the given program compute, each under the conditions that its theorem names.
-/
import Derived.Test.YtmgakpnejbembaaA8
namespace Go.Proofs.Ytmgakpnejbembaa
open Go Go.Proofs.Ytmgakpnejbembaa.L

theorem tellS_ev {hand : Int} {hl : List H} {rl : List RR} {deed n val : Int} {σ : RSt} : tellS (scOf hand hl rl) deed n val σ = { σ with evs := σ.evs ++ [⟨deed, n, val, hl.map (·.2.1), rl.map (·.2)⟩] } := by
  simp [tellS, scOf, List.map_map, Function.comp_def]
theorem scOf_with {v hand : Int} {hl : List H} {rl : List RR} : (⟨v, (scOf hand hl rl).hs, (scOf hand hl rl).rs⟩ : Sc) = scOf v hl rl := rfl
theorem Rg.clamp (v : Int) : Rg (clamp v) := by unfold Rg Go.Proofs.Ytmgakpnejbembaa.clamp; split <;> split <;> omega

theorem with_spec (hand v : Int) (hl : List H) (rl : List RR) (w : World) :
    Calls Try.prog 70 #[.agg #[iV hand, .pointer (hp hl), .pointer (rp rl)], iV v] w (fun e w' => Ext E0 w w' ∧ e = .returned (.agg #[.int .i64 v, .pointer (hp hl), .pointer (rp rl)])) := by
 refine calls_of_S (n := 8) Try.func70 rfl rfl (by kernel_rfl) ?_
 refine S.seq (S.region (S.one (by kernel_rfl) (S.new 2 [iV hand, .pointer (hp hl), .pointer (rp rl)] 94 (fun b => pT b) (by kernel_rfl) (by kernel_rfl) (fun b => by kernel_rfl) (fun b1 w1 E1 B1 e1 z1 => ?_))))
 have sE1 := E1.size
 refine S.one (by kernel_rfl) (S.new 4 [iV 0, .pointer none, .pointer none] 94 (fun b => pT b) (by kernel_rfl) (by kernel_rfl) (fun b => by kernel_rfl) (fun b2 w2 E2 B2 e2 z2 => ?_))
 have sE2 := E2.size
 refine S.regEnd (by kernel_rfl) (S.seq (S.region (S.run 2 [] [2, 4, 5, 6] (rs := []) (κ' := [(2, pT b1), (4, pT b2), (5, iV v), (6, pT b1)]) (by kernel_rfl) (by kernel_rfl) rfl ?_)))
 have B3 := B1.ext0 E2
 refine S.one (by kernel_rfl) (S.store 0 [iV v] [iV v, .pointer (hp hl), .pointer (rp rl)] B3 (by kernel_rfl) (by kernel_rfl) (by kernel_rfl) (by kernel_rfl) (by kernel_rfl) (fun w4 E4 B4 z4 => ?_))
 have sE4 := E4.size
 refine S.regEnd (by kernel_rfl) (S.seq (S.region (S.run 1 [.v (iV v), .v (.pointer (hp hl)), .v (.pointer (rp rl))] [4, 7] (rs := [.load ⟨b1, 0, none⟩ (iV v), .load ⟨b1, 1, none⟩ (.pointer (hp hl)), .load ⟨b1, 2, none⟩ (.pointer (rp rl))]) (κ' := [(4, pT b2), (7, .agg #[iV v, .pointer (hp hl), .pointer (rp rl)])]) (by kernel_rfl) (by kernel_rfl) (.load (B4.cell 0 rfl) (.load (B4.cell 1 rfl) (.load (B4.cell 2 rfl) .nil))) ?_)))
 have B5 := B2.extS E4 (by omega)
 refine S.one (by kernel_rfl) (S.store 0 [iV v, .pointer (hp hl), .pointer (rp rl)] [iV v, .pointer (hp hl), .pointer (rp rl)] B5 (by kernel_rfl) (by kernel_rfl) (by kernel_rfl) (by kernel_rfl) (by kernel_rfl) (fun w6 E6 B6 z6 => ?_))
 have sE6 := E6.size
 exact S.regEnd (by kernel_rfl) (S.retR (A := [.v (iV v), .v (.pointer (hp hl)), .v (.pointer (rp rl))]) (rs := [.load ⟨b2, 0, none⟩ (iV v), .load ⟨b2, 1, none⟩ (.pointer (hp hl)), .load ⟨b2, 2, none⟩ (.pointer (rp rl))]) (v := .agg #[iV v, .pointer (hp hl), .pointer (rp rl)]) (fun _ => by kernel_rfl) (.load (B6.cell 0 rfl) (.load (B6.cell 1 rfl) (.load (B6.cell 2 rfl) .nil))) ⟨((E1.trans E2).thenS E4 (by omega)).thenS E6 (by omega), rfl⟩)

theorem op_call (p : LP) (k : Nat) (IH : EvalC p k) (hpw : ∀ y, y ∈ p.xs → WfX p.xs.length y) (n₀ rb md : Nat) (w : World) (σ : RSt) (les : List LE) (x : X) (hand : Int) (hl : List H) (rl : List RR) (hR : RunE n₀ rb md p w σ les) (hx : XOk n₀ w x) (hwf : WfX p.xs.length x) (hS : ScOk p.xs.length n₀ 899 4992 w hand hl rl σ) (hk : σ.fuel ≤ k) (hlen : x.len = 1) (hlo : 0 ≤ x.d.2) (hhi : x.d.2 < p.xs.length) :
    Calls Try.prog 49 #[pT rb, .agg #[iV x.d.1, iV x.d.2, .slice x.a x.len x.cap], .agg #[iV hand, .pointer (hp hl), .pointer (rp rl)]] w (Post n₀ rb md p w les rl (bnd ((evalS p.xs k) (kid x 0) (scOf hand hl rl) σ) fun v σ => (evalS p.xs k) (p.xs.getD x.d.2.toNat default) ⟨v, (scOf hand hl rl).hs, (scOf hand hl rl).rs⟩ σ)) := by
 refine calls_of_S (n := 26) Try.func49 rfl rfl (by kernel_rfl) ?_
 have hev0 := hS.ev; have hh0 := hS.h1; have hr0 := hS.r1; have hrg := hS.rg; have P0 := RunP.refl hR; have hn0 := P0.n0
 have hkl := hx.len
 obtain ⟨ea, ec, ka, kc, hR0⟩ := hR
 refine S.seq (S.region (S.one (by kernel_rfl) (S.new 4 [iV x.d.1, iV x.d.2, .slice x.a x.len x.cap] 60 (fun b => pT b) (by kernel_rfl) (by kernel_rfl) (fun b => by kernel_rfl) (fun b1 w1 E1 B1 e1 z1 => ?_))))
 have sE1 := E1.size
 refine S.one (by kernel_rfl) (S.new 5 [iV hand, .pointer (hp hl), .pointer (rp rl)] 94 (fun b => pT b) (by kernel_rfl) (by kernel_rfl) (fun b => by kernel_rfl) (fun b2 w2 E2 B2 e2 z2 => ?_))
 have sE2 := E2.size
 refine S.run 1 [] [0, 4, 5] (rs := []) (κ' := [(0, pT rb), (4, pT b1), (5, pT b2)]) (by kernel_rfl) (by kernel_rfl) rfl ?_
 refine S.regEnd (by kernel_rfl) (S.seq (S.drawN 20 #[false, false, false, false, false, false, false, false, false, false, false, false, false, false, false, false, false, false, false, false] 16 (fun u u' => Ext E0 u u') (fun u u' => Xt n₀ [56, 43] u u' ∧ u'.cell? ⟨rb, 4, none⟩ = some (.slice p.a p.xs.length p.cap)) (by kernel_rfl) (by kernel_rfl) (by kernel_rfl) (fun w3 E3 z3 => ?_)))
 have sE3 := E3.size
 refine S.dreads bodyPost_panicOk [0, 1, 2, 3, 5, 10, 11] 13 [] [5, 7, 10, 12, 17, 18] (rs := []) (κ' := [(5, pT b2), (7, pT rb), (10, .pointer (some ⟨rb, 4, none⟩)), (12, .pointer (some ⟨b1, 1, none⟩)), (17, pT rb), (18, .pointer (some ⟨b1, 2, none⟩))]) (l' := #[true, true, true, true, false, true, false, false, false, false, true, true, false, false, false, false, false, false, false, false]) (by kernel_rfl) (by kernel_rfl) (by kernel_rfl) (fun _ _ => rfl) ?_
 have B4 := hR0.blk.ext0 E1
 have B5 := B4.ext0 E2
 have B6 := B5.ext0 E3
 refine S.dreads bodyPost_panicOk [4] 12 [.v (.slice p.a p.xs.length p.cap)] [5, 7, 11, 12, 17, 18] (rs := [.load ⟨rb, 4, none⟩ (.slice p.a p.xs.length p.cap)]) (κ' := [(5, pT b2), (7, pT rb), (11, .slice p.a p.xs.length p.cap), (12, .pointer (some ⟨b1, 1, none⟩)), (17, pT rb), (18, .pointer (some ⟨b1, 2, none⟩))]) (l' := #[true, true, true, true, true, true, false, false, false, false, true, true, false, false, false, false, false, false, false, false]) (by kernel_rfl) (by kernel_rfl) (by kernel_rfl) (fun w' hw => hw.elim (fun hw => (.load ((B6.ext0 hw).cell 4 rfl) .nil)) (fun hw => (.load hw.2 .nil))) ?_
 have B7 := B1.ext0 E2
 have B8 := B7.ext0 E3
 refine S.dreads bodyPost_panicOk [6] 11 [.v (iV x.d.2)] [5, 7, 11, 13, 17, 18] (rs := [.load ⟨b1, 1, none⟩ (iV x.d.2)]) (κ' := [(5, pT b2), (7, pT rb), (11, .slice p.a p.xs.length p.cap), (13, iV x.d.2), (17, pT rb), (18, .pointer (some ⟨b1, 2, none⟩))]) (l' := #[true, true, true, true, true, true, true, false, false, false, true, true, false, false, false, false, false, false, false, false]) (by kernel_rfl) (by kernel_rfl) (by kernel_rfl) (fun w' hw => hw.elim (fun hw => (.load ((B8.ext0 hw).cell 1 rfl) .nil)) (fun hw => (.load ((B8.xt hw.1 (by decide)).cell 1 rfl) .nil))) ?_
 have B9 := B2.ext0 E3
 refine S.dreads bodyPost_panicOk [9] 10 [.v (iV hand), .v (.pointer (hp hl)), .v (.pointer (rp rl))] [5, 7, 11, 13, 16, 17, 18] (rs := [.load ⟨b2, 0, none⟩ (iV hand), .load ⟨b2, 1, none⟩ (.pointer (hp hl)), .load ⟨b2, 2, none⟩ (.pointer (rp rl))]) (κ' := [(5, pT b2), (7, pT rb), (11, .slice p.a p.xs.length p.cap), (13, iV x.d.2), (16, .agg #[iV hand, .pointer (hp hl), .pointer (rp rl)]), (17, pT rb), (18, .pointer (some ⟨b1, 2, none⟩))]) (l' := #[true, true, true, true, true, true, true, false, false, true, true, true, false, false, false, false, false, false, false, false]) (by kernel_rfl) (by kernel_rfl) (by kernel_rfl) (fun w' hw => hw.elim (fun hw => (.load ((B9.ext0 hw).cell 0 rfl) (.load ((B9.ext0 hw).cell 1 rfl) (.load ((B9.ext0 hw).cell 2 rfl) .nil)))) (fun hw => (.load ((B9.xt hw.1 (by decide)).cell 0 rfl) (.load ((B9.xt hw.1 (by decide)).cell 1 rfl) (.load ((B9.xt hw.1 (by decide)).cell 2 rfl) .nil))))) ?_
 refine S.dreads bodyPost_panicOk [12] 9 [.v (.slice x.a x.len x.cap)] [5, 7, 11, 13, 16, 17, 19] (rs := [.load ⟨b1, 2, none⟩ (.slice x.a x.len x.cap)]) (κ' := [(5, pT b2), (7, pT rb), (11, .slice p.a p.xs.length p.cap), (13, iV x.d.2), (16, .agg #[iV hand, .pointer (hp hl), .pointer (rp rl)]), (17, pT rb), (19, .slice x.a x.len x.cap)]) (l' := #[true, true, true, true, true, true, true, false, false, true, true, true, true, false, false, false, false, false, false, false]) (by kernel_rfl) (by kernel_rfl) (by kernel_rfl) (fun w' hw => hw.elim (fun hw => (.load ((B8.ext0 hw).cell 2 rfl) .nil)) (fun hw => (.load ((B8.xt hw.1 (by decide)).cell 2 rfl) .nil))) ?_
 refine S.dreads bodyPost_panicOk [15] 8 [.v (iV hand), .v (.pointer (hp hl)), .v (.pointer (rp rl))] [7, 11, 13, 16, 17, 19, 22] (rs := [.load ⟨b2, 0, none⟩ (iV hand), .load ⟨b2, 1, none⟩ (.pointer (hp hl)), .load ⟨b2, 2, none⟩ (.pointer (rp rl))]) (κ' := [(7, pT rb), (11, .slice p.a p.xs.length p.cap), (13, iV x.d.2), (16, .agg #[iV hand, .pointer (hp hl), .pointer (rp rl)]), (17, pT rb), (19, .slice x.a x.len x.cap), (22, .agg #[iV hand, .pointer (hp hl), .pointer (rp rl)])]) (l' := #[true, true, true, true, true, true, true, false, false, true, true, true, true, false, false, true, false, false, false, false]) (by kernel_rfl) (by kernel_rfl) (by kernel_rfl) (fun w' hw => hw.elim (fun hw => (.load ((B9.ext0 hw).cell 0 rfl) (.load ((B9.ext0 hw).cell 1 rfl) (.load ((B9.ext0 hw).cell 2 rfl) .nil)))) (fun hw => (.load ((B9.xt hw.1 (by decide)).cell 0 rfl) (.load ((B9.xt hw.1 (by decide)).cell 1 rfl) (.load ((B9.xt hw.1 (by decide)).cell 2 rfl) .nil))))) ?_
 have R10 := hR0.prog.1.pres (.of0 E1)
 have R11 := R10.pres (.of0 E2)
 have R12 := R11.pres (.of0 E3)
 obtain ⟨x13, b13, o13, hx13, h13, H13⟩ := R12.get x.d.2.toNat (by omega)
 have T14 := hR0.prog.pres (.of0 E1)
 have T15 := T14.pres (.of0 E2)
 have T16 := T15.pres (.of0 E3)
 have K13 := T16.2.2 _ (List.mem_of_getElem? hx13)
 have W13 := hpw _ (List.mem_of_getElem? hx13)
 have hget13 := getD_eq (d := default) hx13
 refine S.dlaw bodyPost_panicOk 7 14 7 (v := .pointer (some ⟨b13, o13 + x.d.2.toNat * 3, none⟩)) (l' := #[true, true, true, true, true, true, true, true, false, true, true, true, true, false, false, true, false, false, false, false]) (by kernel_rfl) (by kernel_rfl) (by kernel_rfl) (by kernel_rfl) (fun w' hw => lawRun (s := Instr.indexAt 22 (.slice p.a p.xs.length p.cap) (.int .i64 x.d.2)) (by kernel_rfl) (run_idxI (e := 60) x.d.2 h13 (by kernel_rfl) (by kernel_rfl) (by omega) (by omega))) ?_
 refine S.dreads bodyPost_panicOk [8] 6 [.v (iV x13.d.1), .v (iV x13.d.2), .v (.slice x13.a x13.len x13.cap)] [7, 15, 16, 17, 19, 22] (rs := [.load ⟨b13, o13 + x.d.2.toNat * 3, none⟩ (iV x13.d.1), .load ⟨b13, o13 + x.d.2.toNat * 3 + 1, none⟩ (iV x13.d.2), .load ⟨b13, o13 + x.d.2.toNat * 3 + 2, none⟩ (.slice x13.a x13.len x13.cap)]) (κ' := [(7, pT rb), (15, .agg #[iV x13.d.1, iV x13.d.2, .slice x13.a x13.len x13.cap]), (16, .agg #[iV hand, .pointer (hp hl), .pointer (rp rl)]), (17, pT rb), (19, .slice x.a x.len x.cap), (22, .agg #[iV hand, .pointer (hp hl), .pointer (rp rl)])]) (l' := #[true, true, true, true, true, true, true, true, true, true, true, true, true, false, false, true, false, false, false, false]) (by kernel_rfl) (by kernel_rfl) (by kernel_rfl) (fun w' hw => hw.elim (fun hw => (.load ((H13.pres (.of0 hw)).cell0 rfl) (.load ((H13.pres (.of0 hw)).cell 1 rfl) (.load ((H13.pres (.of0 hw)).cell 2 rfl) .nil)))) (fun hw => (.load ((H13.pres (.ofXn hw.1 (by omega))).cell0 rfl) (.load ((H13.pres (.ofXn hw.1 (by omega))).cell 1 rfl) (.load ((H13.pres (.ofXn hw.1 (by omega))).cell 2 rfl) .nil))))) ?_
 have R17 := hx.row.pres (.of0 E1)
 have R18 := R17.pres (.of0 E2)
 have R19 := R18.pres (.of0 E3)
 obtain ⟨x20, b20, o20, hx20, h20, H20⟩ := R19.get 0 (by omega)
 have T21 := hx.pres (.of0 E1)
 have T22 := T21.pres (.of0 E2)
 have T23 := T22.pres (.of0 E3)
 have K20 := T23.kid (List.mem_of_getElem? hx20)
 have W20 := hwf.kid (List.mem_of_getElem? hx20)
 have hkid20 := kid_eq hx20
 refine S.dlaw bodyPost_panicOk 13 20 5 (v := .pointer (some ⟨b20, o20 + 0 * 3, none⟩)) (l' := #[true, true, true, true, true, true, true, true, true, true, true, true, true, true, false, true, false, false, false, false]) (by kernel_rfl) (by kernel_rfl) (by kernel_rfl) (by kernel_rfl) (fun w' hw => lawRun (s := Instr.indexAt 22 (.slice x.a x.len x.cap) (.int .i64 ((0 : Nat) : Int))) (by kernel_rfl) (run_idx (e := 60) 0 h20 (by kernel_rfl) (by kernel_rfl) (by omega))) ?_
 refine S.dreads bodyPost_panicOk [14] 4 [.v (iV x20.d.1), .v (iV x20.d.2), .v (.slice x20.a x20.len x20.cap)] [7, 15, 16, 17, 21, 22] (rs := [.load ⟨b20, o20 + 0 * 3, none⟩ (iV x20.d.1), .load ⟨b20, o20 + 0 * 3 + 1, none⟩ (iV x20.d.2), .load ⟨b20, o20 + 0 * 3 + 2, none⟩ (.slice x20.a x20.len x20.cap)]) (κ' := [(7, pT rb), (15, .agg #[iV x13.d.1, iV x13.d.2, .slice x13.a x13.len x13.cap]), (16, .agg #[iV hand, .pointer (hp hl), .pointer (rp rl)]), (17, pT rb), (21, .agg #[iV x20.d.1, iV x20.d.2, .slice x20.a x20.len x20.cap]), (22, .agg #[iV hand, .pointer (hp hl), .pointer (rp rl)])]) (l' := #[true, true, true, true, true, true, true, true, true, true, true, true, true, true, true, true, false, false, false, false]) (by kernel_rfl) (by kernel_rfl) (by kernel_rfl) (fun w' hw => hw.elim (fun hw => (.load ((H20.pres (.of0 hw)).cell0 rfl) (.load ((H20.pres (.of0 hw)).cell 1 rfl) (.load ((H20.pres (.of0 hw)).cell 2 rfl) .nil)))) (fun hw => (.load ((H20.pres (.ofXn hw.1 (by omega))).cell0 rfl) (.load ((H20.pres (.ofXn hw.1 (by omega))).cell 1 rfl) (.load ((H20.pres (.ofXn hw.1 (by omega))).cell 2 rfl) .nil))))) ?_
 refine S.dnext (j := 16) (l' := #[true, true, true, true, true, true, true, true, true, true, true, true, true, true, true, true, true, false, false, false]) (by kernel_rfl) (by kernel_rfl) (sw1 (by kernel_rfl) (Ext.refl _)) ?_
 have P25 := P0.std (.of0 E1) (P0.1.trans (.of0 E1))
 have P26 := P25.std (.of0 E2) (P25.1.trans (.of0 E2))
 have P27 := P26.std (.of0 E3) (P26.1.trans (.of0 E3))
 obtain ⟨les24, hR24, back24⟩ := P27.open
 have N28 := hS.keeps (.of0 E1)
 have N29 := N28.keeps (.of0 E2)
 have N30 := N29.keeps (.of0 E3)
 refine S.call (dst := some 23) (f := 59) (args := #[pT rb, .agg #[iV x20.d.1, iV x20.d.2, .slice x20.a x20.len x20.cap], .agg #[iV hand, .pointer (hp hl), .pointer (rp rl)]]) (by kernel_rfl) (by kernel_rfl) ((IH n₀ rb md _ σ les24 x20 hand hl rl hR24 K20 W20 ((N30.next (E' := 5000) hrg (by omega) (by omega)).mono (by omega) (Nat.le_refl _)) (by omega)).mono ?_)
 rintro e24 w24 ⟨ho24, hP24⟩
 have PP24 : RunP n₀ rb md p w w24 les (evalS p.xs k x20 (scOf hand hl rl) σ).2 := back24 _ _ hP24; have X24 := hP24.1; have hfin24 : Fin 0 1 σ (evalS p.xs k x20 (scOf hand hl rl) σ) := fin_eval p.xs k _ _ _; have ho24 : OutE rl (evalS p.xs k x20 (scOf hand hl rl) σ).1 e24 := ho24; have hP24 : RunP n₀ rb md p w3 w24 les24 (evalS p.xs k x20 (scOf hand hl rl) σ).2 := hP24
 rcases hr24 : evalS p.xs k x20 (scOf hand hl rl) σ with ⟨o24, σ24⟩
 rw [hr24] at ho24 PP24 hfin24 hP24
 have PQ24 : RunP n₀ rb md p w w24 les σ24 := PP24; have hq24 : OutE rl o24 e24 := ho24; have PR24 : RunP n₀ rb md p w3 w24 les24 σ24 := hP24
 clear PP24 ho24 hP24
 rcases outE_cases hq24 with ⟨v24, rfl, rfl, hv24⟩ | ⟨ch, rfl, hb24, hn24⟩
 ·skip
  have hf24 := hfin24.val
  refine After.ret (by kernel_rfl) ?_
  have sX24 := X24.size
  refine S.dnext (j := 17) (l' := #[true, true, true, true, true, true, true, true, true, true, true, true, true, true, true, true, true, true, false, false]) (by kernel_rfl) (by kernel_rfl) (sw2 (by kernel_rfl) ⟨X24, PQ24.cell4⟩) ?_
  refine S.call (dst := some 24) (f := 70) (args := #[.agg #[iV hand, .pointer (hp hl), .pointer (rp rl)], iV v24]) (by kernel_rfl) (by kernel_rfl) ((with_spec hand v24 hl rl _).mono ?_)
  rintro _ w31 ⟨E31, rfl⟩
  refine After.ret (by kernel_rfl) ?_
  have sE31 := E31.size
  have P32 := PQ24.std (.of0 E31) (PQ24.1.trans (.of0 E31))
  refine S.dnext (j := 18) (l' := #[true, true, true, true, true, true, true, true, true, true, true, true, true, true, true, true, true, true, true, false]) (by kernel_rfl) (by kernel_rfl) (sw2 (by kernel_rfl) ⟨(X24.trans (Xt.of0 E31)), P32.cell4⟩) ?_
  obtain ⟨les33, hR33, back33⟩ := P32.open
  have T34 := K13.pres (.ofXn X24 (by omega))
  have T35 := T34.pres (.of0 E31)
  have N36 := N30.keeps (.ofX X24 (by decide) (by omega))
  have N37 := N36.keeps (.of0 E31)
  refine S.call (dst := some 25) (f := 59) (args := #[pT rb, .agg #[iV x13.d.1, iV x13.d.2, .slice x13.a x13.len x13.cap], .agg #[iV v24, .pointer (hp hl), .pointer (rp rl)]]) (by kernel_rfl) (by kernel_rfl) ((IH n₀ rb md _ σ24 les33 x13 v24 hl rl hR33 T35 W13 ((N37.next (E' := 5000) hv24 (by omega) (by omega)).mono (by omega) (Nat.le_refl _)) (by omega)).mono ?_)
  rintro e33 w33 ⟨ho33, hP33⟩
  have PP33 : RunP n₀ rb md p w w33 les (evalS p.xs k x13 (scOf v24 hl rl) σ24).2 := back33 _ _ hP33; have X33 := hP33.1; have hfin33 : Fin 0 1 σ24 (evalS p.xs k x13 (scOf v24 hl rl) σ24) := fin_eval p.xs k _ _ _; have ho33 : OutE rl (evalS p.xs k x13 (scOf v24 hl rl) σ24).1 e33 := ho33; have hP33 : RunP n₀ rb md p w31 w33 les33 (evalS p.xs k x13 (scOf v24 hl rl) σ24).2 := hP33
  rcases hr33 : evalS p.xs k x13 (scOf v24 hl rl) σ24 with ⟨o33, σ33⟩
  rw [hr33] at ho33 PP33 hfin33 hP33
  have PQ33 : RunP n₀ rb md p w w33 les σ33 := PP33; have hq33 : OutE rl o33 e33 := ho33; have PR33 : RunP n₀ rb md p w31 w33 les33 σ33 := hP33
  clear PP33 ho33 hP33
  rcases outE_cases hq33 with ⟨v33, rfl, rfl, hv33⟩ | ⟨ch, rfl, hb33, hn33⟩
  ·skip
   have hf33 := hfin33.val
   refine After.ret (by kernel_rfl) ?_
   have sX33 := X33.size
   refine S.dreads2 bodyPost_panicOk [19] 0 [] [6] (rs := []) (κ' := [(6, iV v33)]) (l' := #[true, true, true, true, true, true, true, true, true, true, true, true, true, true, true, true, true, true, true, true]) (by kernel_rfl) (by kernel_rfl) (by kernel_rfl) (by kernel_rfl) (fun w' hw => rfl) ?_
   refine S.dend (by kernel_rfl) (sw2 (by kernel_rfl) ⟨((X24.trans (Xt.of0 E31)).trans X33), PQ33.cell4⟩) ?_
   have hs : (bnd ((evalS p.xs k) (kid x 0) (scOf hand hl rl) σ) fun v σ => (evalS p.xs k) (p.xs.getD x.d.2.toNat default) ⟨v, (scOf hand hl rl).hs, (scOf hand hl rl).rs⟩ σ : Res Int) = (.val v33, σ33) := by simp only [hget13, hkid20, hr24, hr33, bnd_val, bnd_bnd, scOf_with]
   rw [hs]
   exact S.ret1 (v := iV v33) rfl (by kernel_rfl) (⟨⟨rfl, hv33⟩, PQ33⟩)
  ·skip
   exact fun _ _ _ hd => ⟨hd, (by have hs : (bnd ((evalS p.xs k) (kid x 0) (scOf hand hl rl) σ) fun v σ => (evalS p.xs k) (p.xs.getD x.d.2.toNat default) ⟨v, (scOf hand hl rl).hs, (scOf hand hl rl).rs⟩ σ : Res Int) = (o33, σ33) := (by simp only [hget13, hkid20, hr24, hr33, hb33, bnd_val, bnd_bnd, scOf_with]); rw [hs]; exact ⟨hq33, PQ33⟩)⟩
 ·skip
  exact fun _ _ _ hd => ⟨hd, (by have hs : (bnd ((evalS p.xs k) (kid x 0) (scOf hand hl rl) σ) fun v σ => (evalS p.xs k) (p.xs.getD x.d.2.toNat default) ⟨v, (scOf hand hl rl).hs, (scOf hand hl rl).rs⟩ σ : Res Int) = (o24, σ24) := (by simp only [hget13, hkid20, hr24, hb24, bnd_val, bnd_bnd, scOf_with]); rw [hs]; exact ⟨hq24, PQ24⟩)⟩

theorem op_handle (p : LP) (k : Nat) (IH : EvalC p k) (hpw : ∀ y, y ∈ p.xs → WfX p.xs.length y) (n₀ rb md : Nat) (w : World) (σ : RSt) (les : List LE) (x : X) (hand : Int) (hl : List H) (rl : List RR) (hR : RunE n₀ rb md p w σ les) (hx : XOk n₀ w x) (hwf : WfX p.xs.length x) (hS : ScOk p.xs.length n₀ 899 4992 w hand hl rl σ) (hk : σ.fuel ≤ k) (hlen : x.len = 2) :
    Calls Try.prog 50 #[pT rb, .agg #[iV x.d.1, iV x.d.2, .slice x.a x.len x.cap], .agg #[iV hand, .pointer (hp hl), .pointer (rp rl)]] w (Post n₀ rb md p w les rl ((evalS p.xs k) (kid x 0) ⟨(scOf hand hl rl).hand, (x.d.2, kid x 1) :: (scOf hand hl rl).hs, (scOf hand hl rl).rs⟩ σ)) := by
 refine calls_of_S (n := 25) Try.func50 rfl rfl (by kernel_rfl) ?_
 have hev0 := hS.ev; have hh0 := hS.h1; have hr0 := hS.r1; have hrg := hS.rg; have P0 := RunP.refl hR; have hn0 := P0.n0
 have hkl := hx.len
 refine S.seq (S.region (S.one (by kernel_rfl) (S.new 4 [iV x.d.1, iV x.d.2, .slice x.a x.len x.cap] 60 (fun b => pT b) (by kernel_rfl) (by kernel_rfl) (fun b => by kernel_rfl) (fun b1 w1 E1 B1 e1 z1 => ?_))))
 have sE1 := E1.size
 refine S.one (by kernel_rfl) (S.new 5 [iV hand, .pointer (hp hl), .pointer (rp rl)] 94 (fun b => pT b) (by kernel_rfl) (by kernel_rfl) (fun b => by kernel_rfl) (fun b2 w2 E2 B2 e2 z2 => ?_))
 have sE2 := E2.size
 refine S.run 1 [] [0, 4, 5] (rs := []) (κ' := [(0, pT rb), (4, pT b1), (5, pT b2)]) (by kernel_rfl) (by kernel_rfl) rfl ?_
 refine S.regEnd (by kernel_rfl) (S.seq (S.drawN 12 #[false, false, false, false, false, false, false, false, false, false, false, false] 11 (fun u u' => Ext E0 u u') (fun u u' => Xt w.heap.size [94, 3] u u') (by kernel_rfl) (by kernel_rfl) (by kernel_rfl) (fun w3 E3 z3 => ?_)))
 have sE3 := E3.size
 refine S.dreads bodyPost_panicOk [0, 2, 4] 9 [] [0, 4, 5, 7, 9, 11] (rs := []) (κ' := [(0, pT rb), (4, pT b1), (5, pT b2), (7, .pointer (some ⟨b2, 1, none⟩)), (9, .pointer (some ⟨b1, 1, none⟩)), (11, .pointer (some ⟨b1, 2, none⟩))]) (l' := #[true, false, true, false, true, false, false, false, false, false, false, false]) (by kernel_rfl) (by kernel_rfl) (by kernel_rfl) (fun _ _ => rfl) ?_
 have B4 := B2.ext0 E3
 refine S.dreads1 bodyPost_panicOk [1] 8 [8, 9, 10, 11] [.v (.pointer (hp hl))] [0, 4, 5, 8, 9, 11] (rs := [.load ⟨b2, 1, none⟩ (.pointer (hp hl))]) (κ' := [(0, pT rb), (4, pT b1), (5, pT b2), (8, .pointer (hp hl)), (9, .pointer (some ⟨b1, 1, none⟩)), (11, .pointer (some ⟨b1, 2, none⟩))]) (l' := #[true, true, true, false, true, false, false, false, false, false, false, false]) (by kernel_rfl) (by kernel_rfl) (by kernel_rfl) (by kernel_rfl) (fun w' hw => (.load ((B4.ext0 hw).cell 1 rfl) .nil)) ?_
 have B5 := B1.ext0 E2
 have B6 := B5.ext0 E3
 refine S.dreads bodyPost_panicOk [3] 7 [.v (iV x.d.2)] [0, 4, 5, 8, 10, 11] (rs := [.load ⟨b1, 1, none⟩ (iV x.d.2)]) (κ' := [(0, pT rb), (4, pT b1), (5, pT b2), (8, .pointer (hp hl)), (10, iV x.d.2), (11, .pointer (some ⟨b1, 2, none⟩))]) (l' := #[true, true, true, true, true, false, false, false, false, false, false, false]) (by kernel_rfl) (by kernel_rfl) (by kernel_rfl) (fun w' hw => hw.elim (fun hw => (.load ((B6.ext0 hw).cell 1 rfl) .nil)) (fun hw => (.load ((B6.xt hw (by decide)).cell 1 rfl) .nil))) ?_
 refine S.dreads bodyPost_panicOk [5] 6 [.v (.slice x.a x.len x.cap)] [0, 4, 5, 8, 10, 12] (rs := [.load ⟨b1, 2, none⟩ (.slice x.a x.len x.cap)]) (κ' := [(0, pT rb), (4, pT b1), (5, pT b2), (8, .pointer (hp hl)), (10, iV x.d.2), (12, .slice x.a x.len x.cap)]) (l' := #[true, true, true, true, true, true, false, false, false, false, false, false]) (by kernel_rfl) (by kernel_rfl) (by kernel_rfl) (fun w' hw => hw.elim (fun hw => (.load ((B6.ext0 hw).cell 2 rfl) .nil)) (fun hw => (.load ((B6.xt hw (by decide)).cell 2 rfl) .nil))) ?_
 have R7 := hx.row.pres (.of0 E1)
 have R8 := R7.pres (.of0 E2)
 have R9 := R8.pres (.of0 E3)
 obtain ⟨x10, b10, o10, hx10, h10, H10⟩ := R9.get 1 (by omega)
 have T11 := hx.pres (.of0 E1)
 have T12 := T11.pres (.of0 E2)
 have T13 := T12.pres (.of0 E3)
 have K10 := T13.kid (List.mem_of_getElem? hx10)
 have W10 := hwf.kid (List.mem_of_getElem? hx10)
 have hkid10 := kid_eq hx10
 refine S.dlaw bodyPost_panicOk 6 13 5 (v := .pointer (some ⟨b10, o10 + 1 * 3, none⟩)) (l' := #[true, true, true, true, true, true, true, false, false, false, false, false]) (by kernel_rfl) (by kernel_rfl) (by kernel_rfl) (by kernel_rfl) (fun w' hw => lawRun (s := Instr.indexAt 22 (.slice x.a x.len x.cap) (.int .i64 ((1 : Nat) : Int))) (by kernel_rfl) (run_idx (e := 60) 1 h10 (by kernel_rfl) (by kernel_rfl) (by omega))) ?_
 refine S.dreads bodyPost_panicOk [7] 4 [.v (iV x10.d.1), .v (iV x10.d.2), .v (.slice x10.a x10.len x10.cap)] [0, 4, 5, 8, 10, 14] (rs := [.load ⟨b10, o10 + 1 * 3, none⟩ (iV x10.d.1), .load ⟨b10, o10 + 1 * 3 + 1, none⟩ (iV x10.d.2), .load ⟨b10, o10 + 1 * 3 + 2, none⟩ (.slice x10.a x10.len x10.cap)]) (κ' := [(0, pT rb), (4, pT b1), (5, pT b2), (8, .pointer (hp hl)), (10, iV x.d.2), (14, .agg #[iV x10.d.1, iV x10.d.2, .slice x10.a x10.len x10.cap])]) (l' := #[true, true, true, true, true, true, true, true, false, false, false, false]) (by kernel_rfl) (by kernel_rfl) (by kernel_rfl) (fun w' hw => hw.elim (fun hw => (.load ((H10.pres (.of0 hw)).cell0 rfl) (.load ((H10.pres (.of0 hw)).cell 1 rfl) (.load ((H10.pres (.of0 hw)).cell 2 rfl) .nil)))) (fun hw => (.load ((H10.pres (.ofXn hw (by omega))).cell0 rfl) (.load ((H10.pres (.ofXn hw (by omega))).cell 1 rfl) (.load ((H10.pres (.ofXn hw (by omega))).cell 2 rfl) .nil))))) ?_
 refine S.dreads bodyPost_panicOk [8] 3 [] [0, 4, 5, 15] (rs := []) (κ' := [(0, pT rb), (4, pT b1), (5, pT b2), (15, .agg #[.pointer (hp hl), iV x.d.2, iV x10.d.1, iV x10.d.2, .slice x10.a x10.len x10.cap])]) (l' := #[true, true, true, true, true, true, true, true, true, false, false, false]) (by kernel_rfl) (by kernel_rfl) (by kernel_rfl) (fun _ _ => rfl) ?_
 refine S.dnext (j := 9) (l' := #[true, true, true, true, true, true, true, true, true, true, false, false]) (by kernel_rfl) (by kernel_rfl) (sw1 (by kernel_rfl) (Ext.refl _)) ?_
 refine S.new 16 [.pointer (hp hl), iV x.d.2, iV x10.d.1, iV x10.d.2, .slice x10.a x10.len x10.cap] 106 (fun b => pT b) (by kernel_rfl) (by kernel_rfl) (fun b => by kernel_rfl) (fun b14 w14 E14 B14 e14 z14 => ?_)
 have sE14 := E14.size
 refine S.dreads bodyPost_panicOk [10] 1 [] [0, 4, 5, 16, 17] (rs := []) (κ' := [(0, pT rb), (4, pT b1), (5, pT b2), (16, pT b14), (17, .pointer (some ⟨b2, 1, none⟩))]) (l' := #[true, true, true, true, true, true, true, true, true, true, true, false]) (by kernel_rfl) (by kernel_rfl) (by kernel_rfl) (fun _ _ => rfl) ?_
 refine S.dnext (j := 11) (l' := #[true, true, true, true, true, true, true, true, true, true, true, true]) (by kernel_rfl) (by kernel_rfl) (sw1 (by kernel_rfl) E14) ?_
 have B15 := B2.ext0 E3
 have B16 := B15.ext0 E14
 refine S.store 1 [pT b14] [iV hand, pT b14, .pointer (rp rl)] B16 (by kernel_rfl) (by kernel_rfl) (by kernel_rfl) (by kernel_rfl) (by kernel_rfl) (fun w17 E17 B17 z17 => ?_)
 have sE17 := E17.size
 refine S.dend (by kernel_rfl) (sw2 (by kernel_rfl) ((Xt.of0 E14).trans (Xt.ofS E17 B16 (by decide) (by omega)))) ?_
 refine S.seq (S.drawN 8 #[false, false, false, false, false, false, false, false] 6 (fun u u' => Ext E0 u u') (fun u u' => Xt n₀ [56, 43] u u') (by kernel_rfl) (by kernel_rfl) (by kernel_rfl) (fun w18 E18 z18 => ?_))
 have sE18 := E18.size
 refine S.dreads bodyPost_panicOk [0, 1] 6 [] [5, 18, 19] (rs := []) (κ' := [(5, pT b2), (18, pT rb), (19, .pointer (some ⟨b1, 2, none⟩))]) (l' := #[true, true, false, false, false, false, false, false]) (by kernel_rfl) (by kernel_rfl) (by kernel_rfl) (fun _ _ => rfl) ?_
 have B19 := B1.ext0 E2
 have B20 := B19.ext0 E3
 have B21 := B20.ext0 E14
 have B22 := B21.extT E17 B16 (by decide)
 have B23 := B22.ext0 E18
 refine S.dreads bodyPost_panicOk [2] 5 [.v (.slice x.a x.len x.cap)] [5, 18, 20] (rs := [.load ⟨b1, 2, none⟩ (.slice x.a x.len x.cap)]) (κ' := [(5, pT b2), (18, pT rb), (20, .slice x.a x.len x.cap)]) (l' := #[true, true, true, false, false, false, false, false]) (by kernel_rfl) (by kernel_rfl) (by kernel_rfl) (fun w' hw => hw.elim (fun hw => (.load ((B23.ext0 hw).cell 2 rfl) .nil)) (fun hw => (.load ((B23.xt hw (by decide)).cell 2 rfl) .nil))) ?_
 have B24 := B17.ext0 E18
 refine S.dreads bodyPost_panicOk [5] 4 [.v (iV hand), .v (pT b14), .v (.pointer (rp rl))] [18, 20, 23] (rs := [.load ⟨b2, 0, none⟩ (iV hand), .load ⟨b2, 1, none⟩ (pT b14), .load ⟨b2, 2, none⟩ (.pointer (rp rl))]) (κ' := [(18, pT rb), (20, .slice x.a x.len x.cap), (23, .agg #[iV hand, pT b14, .pointer (rp rl)])]) (l' := #[true, true, true, false, false, true, false, false]) (by kernel_rfl) (by kernel_rfl) (by kernel_rfl) (fun w' hw => hw.elim (fun hw => (.load ((B24.ext0 hw).cell 0 rfl) (.load ((B24.ext0 hw).cell 1 rfl) (.load ((B24.ext0 hw).cell 2 rfl) .nil)))) (fun hw => (.load ((B24.xt hw (by decide)).cell 0 rfl) (.load ((B24.xt hw (by decide)).cell 1 rfl) (.load ((B24.xt hw (by decide)).cell 2 rfl) .nil))))) ?_
 have R25 := hx.row.pres (.of0 E1)
 have R26 := R25.pres (.of0 E2)
 have R27 := R26.pres (.of0 E3)
 have R28 := R27.pres (.of0 E14)
 have R29 := R28.pres (.ofS E17 (by omega))
 have R30 := R29.pres (.of0 E18)
 obtain ⟨x31, b31, o31, hx31, h31, H31⟩ := R30.get 0 (by omega)
 have T32 := T13.pres (.of0 E14)
 have T33 := T32.pres (.ofS E17 (by omega))
 have T34 := T33.pres (.of0 E18)
 have K31 := T34.kid (List.mem_of_getElem? hx31)
 have W31 := hwf.kid (List.mem_of_getElem? hx31)
 have hkid31 := kid_eq hx31
 refine S.dlaw bodyPost_panicOk 3 21 3 (v := .pointer (some ⟨b31, o31 + 0 * 3, none⟩)) (l' := #[true, true, true, true, false, true, false, false]) (by kernel_rfl) (by kernel_rfl) (by kernel_rfl) (by kernel_rfl) (fun w' hw => lawRun (s := Instr.indexAt 22 (.slice x.a x.len x.cap) (.int .i64 ((0 : Nat) : Int))) (by kernel_rfl) (run_idx (e := 60) 0 h31 (by kernel_rfl) (by kernel_rfl) (by omega))) ?_
 refine S.dreads bodyPost_panicOk [4] 2 [.v (iV x31.d.1), .v (iV x31.d.2), .v (.slice x31.a x31.len x31.cap)] [18, 22, 23] (rs := [.load ⟨b31, o31 + 0 * 3, none⟩ (iV x31.d.1), .load ⟨b31, o31 + 0 * 3 + 1, none⟩ (iV x31.d.2), .load ⟨b31, o31 + 0 * 3 + 2, none⟩ (.slice x31.a x31.len x31.cap)]) (κ' := [(18, pT rb), (22, .agg #[iV x31.d.1, iV x31.d.2, .slice x31.a x31.len x31.cap]), (23, .agg #[iV hand, pT b14, .pointer (rp rl)])]) (l' := #[true, true, true, true, true, true, false, false]) (by kernel_rfl) (by kernel_rfl) (by kernel_rfl) (fun w' hw => hw.elim (fun hw => (.load ((H31.pres (.of0 hw)).cell0 rfl) (.load ((H31.pres (.of0 hw)).cell 1 rfl) (.load ((H31.pres (.of0 hw)).cell 2 rfl) .nil)))) (fun hw => (.load ((H31.pres (.ofXn hw (by omega))).cell0 rfl) (.load ((H31.pres (.ofXn hw (by omega))).cell 1 rfl) (.load ((H31.pres (.ofXn hw (by omega))).cell 2 rfl) .nil))))) ?_
 refine S.dnext (j := 6) (l' := #[true, true, true, true, true, true, true, false]) (by kernel_rfl) (by kernel_rfl) (sw1 (by kernel_rfl) (Ext.refl _)) ?_
 have P36 := P0.std (.of0 E1) (P0.1.trans (.of0 E1))
 have P37 := P36.std (.of0 E2) (P36.1.trans (.of0 E2))
 have P38 := P37.std (.of0 E3) (P37.1.trans (.of0 E3))
 have P39 := P38.std (.of0 E14) (P38.1.trans (.of0 E14))
 have P40 := P39.std (.ofS E17 B16 (by decide) (by omega)) (P39.1.ofNew E17 (by rintro _ rfl; omega))
 have P41 := P40.std (.of0 E18) (P40.1.trans (.of0 E18))
 obtain ⟨les35, hR35, back35⟩ := P41.open
 have N42 := hS.keeps (.of0 E1)
 have N43 := N42.keeps (.of0 E2)
 have N44 := N43.keeps (.of0 E3)
 have N45 := N44.keeps (.of0 E14)
 have N46 := N45.keeps (.ofS E17 B16 (by decide) (by omega))
 have N47 := N46.keeps (.of0 E18)
 have B48 := B14.extT E17 B16 (by decide)
 have B49 := B48.ext0 E18
 have T50 := K10.pres (.of0 E14)
 have T51 := T50.pres (.ofS E17 (by omega))
 have T52 := T51.pres (.of0 E18)
 refine S.call (dst := some 24) (f := 59) (args := #[pT rb, .agg #[iV x31.d.1, iV x31.d.2, .slice x31.a x31.len x31.cap], .agg #[iV hand, pT b14, .pointer (rp rl)]]) (by kernel_rfl) (by kernel_rfl) ((IH n₀ rb md _ σ les35 x31 hand ((b14, x.d.2, x10) :: hl) rl hR35 K31 W31 ((show ScOk p.xs.length n₀ 899 5000 _ hand hl rl σ from N47.next (E' := 5000) hrg (by omega) (by omega)).cons B49 T52 W10) (by omega)).mono ?_)
 rintro e35 w35 ⟨ho35, hP35⟩
 have PP35 : RunP n₀ rb md p w w35 les (evalS p.xs k x31 (⟨(scOf hand hl rl).hand, (x.d.2, x10) :: (scOf hand hl rl).hs, (scOf hand hl rl).rs⟩ : Sc) σ).2 := back35 _ _ hP35; have X35 := hP35.1; have hfin35 : Fin 0 1 σ (evalS p.xs k x31 (⟨(scOf hand hl rl).hand, (x.d.2, x10) :: (scOf hand hl rl).hs, (scOf hand hl rl).rs⟩ : Sc) σ) := fin_eval p.xs k _ _ _; have ho35 : OutE rl (evalS p.xs k x31 (⟨(scOf hand hl rl).hand, (x.d.2, x10) :: (scOf hand hl rl).hs, (scOf hand hl rl).rs⟩ : Sc) σ).1 e35 := ho35; have hP35 : RunP n₀ rb md p w18 w35 les35 (evalS p.xs k x31 (⟨(scOf hand hl rl).hand, (x.d.2, x10) :: (scOf hand hl rl).hs, (scOf hand hl rl).rs⟩ : Sc) σ).2 := hP35
 rcases hr35 : evalS p.xs k x31 (⟨(scOf hand hl rl).hand, (x.d.2, x10) :: (scOf hand hl rl).hs, (scOf hand hl rl).rs⟩ : Sc) σ with ⟨o35, σ35⟩
 rw [hr35] at ho35 PP35 hfin35 hP35
 have PQ35 : RunP n₀ rb md p w w35 les σ35 := PP35; have hq35 : OutE rl o35 e35 := ho35; have PR35 : RunP n₀ rb md p w18 w35 les35 σ35 := hP35
 clear PP35 ho35 hP35
 rcases outE_cases hq35 with ⟨v35, rfl, rfl, hv35⟩ | ⟨ch, rfl, hb35, hn35⟩
 ·skip
  have hf35 := hfin35.val
  refine After.ret (by kernel_rfl) ?_
  have sX35 := X35.size
  refine S.dreads2 bodyPost_panicOk [7] 0 [] [6] (rs := []) (κ' := [(6, iV v35)]) (l' := #[true, true, true, true, true, true, true, true]) (by kernel_rfl) (by kernel_rfl) (by kernel_rfl) (by kernel_rfl) (fun w' hw => rfl) ?_
  refine S.dend (by kernel_rfl) (sw2 (by kernel_rfl) X35) ?_
  have hs : ((evalS p.xs k) (kid x 0) ⟨(scOf hand hl rl).hand, (x.d.2, kid x 1) :: (scOf hand hl rl).hs, (scOf hand hl rl).rs⟩ σ : Res Int) = (.val v35, σ35) := by simp only [hkid10, hkid31, hr35, bnd_val, bnd_bnd]
  rw [hs]
  exact S.ret1 (v := iV v35) rfl (by kernel_rfl) (⟨⟨rfl, hv35⟩, PQ35⟩)
 ·skip
  exact fun _ _ _ hd => ⟨hd, (by have hs : ((evalS p.xs k) (kid x 0) ⟨(scOf hand hl rl).hand, (x.d.2, kid x 1) :: (scOf hand hl rl).hs, (scOf hand hl rl).rs⟩ σ : Res Int) = (o35, σ35) := (by simp only [hkid10, hkid31, hr35, hb35, bnd_val, bnd_bnd]); rw [hs]; exact ⟨hq35, PQ35⟩)⟩

theorem op_int (p : LP) (k : Nat) (IH : EvalC p k) (hpw : ∀ y, y ∈ p.xs → WfX p.xs.length y) (n₀ rb md : Nat) (w : World) (σ : RSt) (les : List LE) (x : X) (hand : Int) (hl : List H) (rl : List RR) (hR : RunE n₀ rb md p w σ les) (hx : XOk n₀ w x) (hwf : WfX p.xs.length x) (hS : ScOk p.xs.length n₀ 899 4992 w hand hl rl σ) (hk : σ.fuel ≤ k) (hlo : -1000000000 ≤ x.d.2) (hhi : x.d.2 ≤ 1000000000) :
    Calls Try.prog 43 #[pT rb, .agg #[iV x.d.1, iV x.d.2, .slice x.a x.len x.cap], .agg #[iV hand, .pointer (hp hl), .pointer (rp rl)]] w (Post n₀ rb md p w les rl ((.val x.d.2, σ))) := by
 refine calls_of_S (n := 9) Try.func43 rfl rfl (by kernel_rfl) ?_
 have hev0 := hS.ev; have hh0 := hS.h1; have hr0 := hS.r1; have hrg := hS.rg; have P0 := RunP.refl hR; have hn0 := P0.n0
 have hkl := hx.len
 refine S.seq (S.region (S.one (by kernel_rfl) (S.new 4 [iV x.d.1, iV x.d.2, .slice x.a x.len x.cap] 60 (fun b => pT b) (by kernel_rfl) (by kernel_rfl) (fun b => by kernel_rfl) (fun b1 w1 E1 B1 e1 z1 => ?_))))
 have sE1 := E1.size
 refine S.one (by kernel_rfl) (S.new 5 [iV hand, .pointer (hp hl), .pointer (rp rl)] 94 (fun b => pT b) (by kernel_rfl) (by kernel_rfl) (fun b => by kernel_rfl) (fun b2 w2 E2 B2 e2 z2 => ?_))
 have sE2 := E2.size
 refine S.run 1 [] [4] (rs := []) (κ' := [(4, pT b1)]) (by kernel_rfl) (by kernel_rfl) rfl ?_
 refine S.regEnd (by kernel_rfl) (S.seq (S.region ?_))
 have B3 := B1.ext0 E2
 refine S.run 3 [.v (iV x.d.2)] [6] (rs := [.load ⟨b1, 1, none⟩ (iV x.d.2)]) (κ' := [(6, iV x.d.2)]) (by kernel_rfl) (by kernel_rfl) (.load (B3.cell 1 rfl) .nil) ?_
 refine S.regEnd (by kernel_rfl) ?_
 have hs : ((.val x.d.2, σ) : Res Int) = (.val x.d.2, σ) := by simp only [bnd_val, bnd_bnd]
 rw [hs]
 have P4 := P0.std (.of0 E1) (P0.1.trans (.of0 E1))
 have P5 := P4.std (.of0 E2) (P4.1.trans (.of0 E2))
 exact S.ret1 (v := iV x.d.2) rfl (by kernel_rfl) (⟨⟨rfl, ⟨hlo, hhi⟩⟩, P5⟩)

theorem op_hand (p : LP) (k : Nat) (IH : EvalC p k) (hpw : ∀ y, y ∈ p.xs → WfX p.xs.length y) (n₀ rb md : Nat) (w : World) (σ : RSt) (les : List LE) (x : X) (hand : Int) (hl : List H) (rl : List RR) (hR : RunE n₀ rb md p w σ les) (hx : XOk n₀ w x) (hwf : WfX p.xs.length x) (hS : ScOk p.xs.length n₀ 899 4992 w hand hl rl σ) (hk : σ.fuel ≤ k) :
    Calls Try.prog 44 #[pT rb, .agg #[iV x.d.1, iV x.d.2, .slice x.a x.len x.cap], .agg #[iV hand, .pointer (hp hl), .pointer (rp rl)]] w (Post n₀ rb md p w les rl ((.val hand, σ))) := by
 refine calls_of_S (n := 9) Try.func44 rfl rfl (by kernel_rfl) ?_
 have hev0 := hS.ev; have hh0 := hS.h1; have hr0 := hS.r1; have hrg := hS.rg; have P0 := RunP.refl hR; have hn0 := P0.n0
 have hkl := hx.len
 refine S.seq (S.region (S.one (by kernel_rfl) (S.new 4 [iV x.d.1, iV x.d.2, .slice x.a x.len x.cap] 60 (fun b => pT b) (by kernel_rfl) (by kernel_rfl) (fun b => by kernel_rfl) (fun b1 w1 E1 B1 e1 z1 => ?_))))
 have sE1 := E1.size
 refine S.one (by kernel_rfl) (S.new 5 [iV hand, .pointer (hp hl), .pointer (rp rl)] 94 (fun b => pT b) (by kernel_rfl) (by kernel_rfl) (fun b => by kernel_rfl) (fun b2 w2 E2 B2 e2 z2 => ?_))
 have sE2 := E2.size
 refine S.run 1 [] [5] (rs := []) (κ' := [(5, pT b2)]) (by kernel_rfl) (by kernel_rfl) rfl ?_
 refine S.regEnd (by kernel_rfl) (S.seq (S.region (S.run 3 [.v (iV hand)] [6] (rs := [.load ⟨b2, 0, none⟩ (iV hand)]) (κ' := [(6, iV hand)]) (by kernel_rfl) (by kernel_rfl) (.load (B2.cell 0 rfl) .nil) ?_)))
 refine S.regEnd (by kernel_rfl) ?_
 have hs : ((.val hand, σ) : Res Int) = (.val hand, σ) := by simp only [bnd_val, bnd_bnd]
 rw [hs]
 have P3 := P0.std (.of0 E1) (P0.1.trans (.of0 E1))
 have P4 := P3.std (.of0 E2) (P3.1.trans (.of0 E2))
 exact S.ret1 (v := iV hand) rfl (by kernel_rfl) (⟨⟨rfl, hrg⟩, P4⟩)

theorem op_add (p : LP) (k : Nat) (IH : EvalC p k) (hpw : ∀ y, y ∈ p.xs → WfX p.xs.length y) (n₀ rb md : Nat) (w : World) (σ : RSt) (les : List LE) (x : X) (hand : Int) (hl : List H) (rl : List RR) (hR : RunE n₀ rb md p w σ les) (hx : XOk n₀ w x) (hwf : WfX p.xs.length x) (hS : ScOk p.xs.length n₀ 899 4992 w hand hl rl σ) (hk : σ.fuel ≤ k) (hlen : x.len = 2) :
    Calls Try.prog 45 #[pT rb, .agg #[iV x.d.1, iV x.d.2, .slice x.a x.len x.cap], .agg #[iV hand, .pointer (hp hl), .pointer (rp rl)]] w (Post n₀ rb md p w les rl (bnd ((evalS p.xs k) (kid x 0) (scOf hand hl rl) σ) fun v σ => bnd ((evalS p.xs k) (kid x 1) (scOf hand hl rl) σ) fun u σ => (.val (clamp (IntKind.i64.wrap (v + u))), σ))) := by
 refine calls_of_S (n := 27) Try.func45 rfl rfl (by kernel_rfl) ?_
 have hev0 := hS.ev; have hh0 := hS.h1; have hr0 := hS.r1; have hrg := hS.rg; have P0 := RunP.refl hR; have hn0 := P0.n0
 have hkl := hx.len
 refine S.seq (S.region (S.one (by kernel_rfl) (S.new 4 [iV x.d.1, iV x.d.2, .slice x.a x.len x.cap] 60 (fun b => pT b) (by kernel_rfl) (by kernel_rfl) (fun b => by kernel_rfl) (fun b1 w1 E1 B1 e1 z1 => ?_))))
 have sE1 := E1.size
 refine S.one (by kernel_rfl) (S.new 5 [iV hand, .pointer (hp hl), .pointer (rp rl)] 94 (fun b => pT b) (by kernel_rfl) (by kernel_rfl) (fun b => by kernel_rfl) (fun b2 w2 E2 B2 e2 z2 => ?_))
 have sE2 := E2.size
 refine S.run 1 [] [0, 4, 5] (rs := []) (κ' := [(0, pT rb), (4, pT b1), (5, pT b2)]) (by kernel_rfl) (by kernel_rfl) rfl ?_
 refine S.regEnd (by kernel_rfl) (S.seq (S.drawN 8 #[false, false, false, false, false, false, false, false] 6 (fun u u' => Ext E0 u u') (fun u u' => Xt n₀ [56, 43] u u') (by kernel_rfl) (by kernel_rfl) (by kernel_rfl) (fun w3 E3 z3 => ?_)))
 have sE3 := E3.size
 refine S.dreads bodyPost_panicOk [0, 1] 6 [] [0, 4, 5, 8, 9] (rs := []) (κ' := [(0, pT rb), (4, pT b1), (5, pT b2), (8, pT rb), (9, .pointer (some ⟨b1, 2, none⟩))]) (l' := #[true, true, false, false, false, false, false, false]) (by kernel_rfl) (by kernel_rfl) (by kernel_rfl) (fun _ _ => rfl) ?_
 have B4 := B1.ext0 E2
 have B5 := B4.ext0 E3
 refine S.dreads bodyPost_panicOk [2] 5 [.v (.slice x.a x.len x.cap)] [0, 4, 5, 8, 10] (rs := [.load ⟨b1, 2, none⟩ (.slice x.a x.len x.cap)]) (κ' := [(0, pT rb), (4, pT b1), (5, pT b2), (8, pT rb), (10, .slice x.a x.len x.cap)]) (l' := #[true, true, true, false, false, false, false, false]) (by kernel_rfl) (by kernel_rfl) (by kernel_rfl) (fun w' hw => hw.elim (fun hw => (.load ((B5.ext0 hw).cell 2 rfl) .nil)) (fun hw => (.load ((B5.xt hw (by decide)).cell 2 rfl) .nil))) ?_
 have B6 := B2.ext0 E3
 refine S.dreads bodyPost_panicOk [5] 4 [.v (iV hand), .v (.pointer (hp hl)), .v (.pointer (rp rl))] [0, 4, 5, 8, 10, 13] (rs := [.load ⟨b2, 0, none⟩ (iV hand), .load ⟨b2, 1, none⟩ (.pointer (hp hl)), .load ⟨b2, 2, none⟩ (.pointer (rp rl))]) (κ' := [(0, pT rb), (4, pT b1), (5, pT b2), (8, pT rb), (10, .slice x.a x.len x.cap), (13, .agg #[iV hand, .pointer (hp hl), .pointer (rp rl)])]) (l' := #[true, true, true, false, false, true, false, false]) (by kernel_rfl) (by kernel_rfl) (by kernel_rfl) (fun w' hw => hw.elim (fun hw => (.load ((B6.ext0 hw).cell 0 rfl) (.load ((B6.ext0 hw).cell 1 rfl) (.load ((B6.ext0 hw).cell 2 rfl) .nil)))) (fun hw => (.load ((B6.xt hw (by decide)).cell 0 rfl) (.load ((B6.xt hw (by decide)).cell 1 rfl) (.load ((B6.xt hw (by decide)).cell 2 rfl) .nil))))) ?_
 have R7 := hx.row.pres (.of0 E1)
 have R8 := R7.pres (.of0 E2)
 have R9 := R8.pres (.of0 E3)
 obtain ⟨x10, b10, o10, hx10, h10, H10⟩ := R9.get 0 (by omega)
 have T11 := hx.pres (.of0 E1)
 have T12 := T11.pres (.of0 E2)
 have T13 := T12.pres (.of0 E3)
 have K10 := T13.kid (List.mem_of_getElem? hx10)
 have W10 := hwf.kid (List.mem_of_getElem? hx10)
 have hkid10 := kid_eq hx10
 refine S.dlaw bodyPost_panicOk 3 11 3 (v := .pointer (some ⟨b10, o10 + 0 * 3, none⟩)) (l' := #[true, true, true, true, false, true, false, false]) (by kernel_rfl) (by kernel_rfl) (by kernel_rfl) (by kernel_rfl) (fun w' hw => lawRun (s := Instr.indexAt 22 (.slice x.a x.len x.cap) (.int .i64 ((0 : Nat) : Int))) (by kernel_rfl) (run_idx (e := 60) 0 h10 (by kernel_rfl) (by kernel_rfl) (by omega))) ?_
 refine S.dreads bodyPost_panicOk [4] 2 [.v (iV x10.d.1), .v (iV x10.d.2), .v (.slice x10.a x10.len x10.cap)] [0, 4, 5, 8, 12, 13] (rs := [.load ⟨b10, o10 + 0 * 3, none⟩ (iV x10.d.1), .load ⟨b10, o10 + 0 * 3 + 1, none⟩ (iV x10.d.2), .load ⟨b10, o10 + 0 * 3 + 2, none⟩ (.slice x10.a x10.len x10.cap)]) (κ' := [(0, pT rb), (4, pT b1), (5, pT b2), (8, pT rb), (12, .agg #[iV x10.d.1, iV x10.d.2, .slice x10.a x10.len x10.cap]), (13, .agg #[iV hand, .pointer (hp hl), .pointer (rp rl)])]) (l' := #[true, true, true, true, true, true, false, false]) (by kernel_rfl) (by kernel_rfl) (by kernel_rfl) (fun w' hw => hw.elim (fun hw => (.load ((H10.pres (.of0 hw)).cell0 rfl) (.load ((H10.pres (.of0 hw)).cell 1 rfl) (.load ((H10.pres (.of0 hw)).cell 2 rfl) .nil)))) (fun hw => (.load ((H10.pres (.ofXn hw (by omega))).cell0 rfl) (.load ((H10.pres (.ofXn hw (by omega))).cell 1 rfl) (.load ((H10.pres (.ofXn hw (by omega))).cell 2 rfl) .nil))))) ?_
 refine S.dnext (j := 6) (l' := #[true, true, true, true, true, true, true, false]) (by kernel_rfl) (by kernel_rfl) (sw1 (by kernel_rfl) (Ext.refl _)) ?_
 have P15 := P0.std (.of0 E1) (P0.1.trans (.of0 E1))
 have P16 := P15.std (.of0 E2) (P15.1.trans (.of0 E2))
 have P17 := P16.std (.of0 E3) (P16.1.trans (.of0 E3))
 obtain ⟨les14, hR14, back14⟩ := P17.open
 have N18 := hS.keeps (.of0 E1)
 have N19 := N18.keeps (.of0 E2)
 have N20 := N19.keeps (.of0 E3)
 refine S.call (dst := some 14) (f := 59) (args := #[pT rb, .agg #[iV x10.d.1, iV x10.d.2, .slice x10.a x10.len x10.cap], .agg #[iV hand, .pointer (hp hl), .pointer (rp rl)]]) (by kernel_rfl) (by kernel_rfl) ((IH n₀ rb md _ σ les14 x10 hand hl rl hR14 K10 W10 ((N20.next (E' := 5000) hrg (by omega) (by omega)).mono (by omega) (Nat.le_refl _)) (by omega)).mono ?_)
 rintro e14 w14 ⟨ho14, hP14⟩
 have PP14 : RunP n₀ rb md p w w14 les (evalS p.xs k x10 (scOf hand hl rl) σ).2 := back14 _ _ hP14; have X14 := hP14.1; have hfin14 : Fin 0 1 σ (evalS p.xs k x10 (scOf hand hl rl) σ) := fin_eval p.xs k _ _ _; have ho14 : OutE rl (evalS p.xs k x10 (scOf hand hl rl) σ).1 e14 := ho14; have hP14 : RunP n₀ rb md p w3 w14 les14 (evalS p.xs k x10 (scOf hand hl rl) σ).2 := hP14
 rcases hr14 : evalS p.xs k x10 (scOf hand hl rl) σ with ⟨o14, σ14⟩
 rw [hr14] at ho14 PP14 hfin14 hP14
 have PQ14 : RunP n₀ rb md p w w14 les σ14 := PP14; have hq14 : OutE rl o14 e14 := ho14; have PR14 : RunP n₀ rb md p w3 w14 les14 σ14 := hP14
 clear PP14 ho14 hP14
 rcases outE_cases hq14 with ⟨v14, rfl, rfl, hv14⟩ | ⟨ch, rfl, hb14, hn14⟩
 ·skip
  have hf14 := hfin14.val
  refine After.ret (by kernel_rfl) ?_
  have sX14 := X14.size
  refine S.dreads2 bodyPost_panicOk [7] 0 [] [0, 4, 5, 7] (rs := []) (κ' := [(0, pT rb), (4, pT b1), (5, pT b2), (7, iV v14)]) (l' := #[true, true, true, true, true, true, true, true]) (by kernel_rfl) (by kernel_rfl) (by kernel_rfl) (by kernel_rfl) (fun w' hw => rfl) ?_
  refine S.dend (by kernel_rfl) (sw2 (by kernel_rfl) X14) ?_
  refine S.seq (S.drawN 10 #[false, false, false, false, false, false, false, false, false, false] 7 (fun u u' => Ext E0 u u') (fun u u' => Xt n₀ [56, 43] u u') (by kernel_rfl) (by kernel_rfl) (by kernel_rfl) (fun w21 E21 z21 => ?_))
  have sE21 := E21.size
  refine S.dreads bodyPost_panicOk [0, 1, 2] 7 [] [5, 7, 15, 16, 17] (rs := []) (κ' := [(5, pT b2), (7, iV v14), (15, iV v14), (16, pT rb), (17, .pointer (some ⟨b1, 2, none⟩))]) (l' := #[true, true, true, false, false, false, false, false, false, false]) (by kernel_rfl) (by kernel_rfl) (by kernel_rfl) (fun _ _ => rfl) ?_
  have B22 := B1.ext0 E2
  have B23 := B22.ext0 E3
  have B24 := B23.xt X14 (by decide)
  have B25 := B24.ext0 E21
  refine S.dreads bodyPost_panicOk [3] 6 [.v (.slice x.a x.len x.cap)] [5, 7, 15, 16, 18] (rs := [.load ⟨b1, 2, none⟩ (.slice x.a x.len x.cap)]) (κ' := [(5, pT b2), (7, iV v14), (15, iV v14), (16, pT rb), (18, .slice x.a x.len x.cap)]) (l' := #[true, true, true, true, false, false, false, false, false, false]) (by kernel_rfl) (by kernel_rfl) (by kernel_rfl) (fun w' hw => hw.elim (fun hw => (.load ((B25.ext0 hw).cell 2 rfl) .nil)) (fun hw => (.load ((B25.xt hw (by decide)).cell 2 rfl) .nil))) ?_
  have B26 := B2.ext0 E3
  have B27 := B26.xt X14 (by decide)
  have B28 := B27.ext0 E21
  refine S.dreads bodyPost_panicOk [6] 5 [.v (iV hand), .v (.pointer (hp hl)), .v (.pointer (rp rl))] [7, 15, 16, 18, 21] (rs := [.load ⟨b2, 0, none⟩ (iV hand), .load ⟨b2, 1, none⟩ (.pointer (hp hl)), .load ⟨b2, 2, none⟩ (.pointer (rp rl))]) (κ' := [(7, iV v14), (15, iV v14), (16, pT rb), (18, .slice x.a x.len x.cap), (21, .agg #[iV hand, .pointer (hp hl), .pointer (rp rl)])]) (l' := #[true, true, true, true, false, false, true, false, false, false]) (by kernel_rfl) (by kernel_rfl) (by kernel_rfl) (fun w' hw => hw.elim (fun hw => (.load ((B28.ext0 hw).cell 0 rfl) (.load ((B28.ext0 hw).cell 1 rfl) (.load ((B28.ext0 hw).cell 2 rfl) .nil)))) (fun hw => (.load ((B28.xt hw (by decide)).cell 0 rfl) (.load ((B28.xt hw (by decide)).cell 1 rfl) (.load ((B28.xt hw (by decide)).cell 2 rfl) .nil))))) ?_
  have R29 := hx.row.pres (.of0 E1)
  have R30 := R29.pres (.of0 E2)
  have R31 := R30.pres (.of0 E3)
  have R32 := R31.pres (.ofXn X14 (by omega))
  have R33 := R32.pres (.of0 E21)
  obtain ⟨x34, b34, o34, hx34, h34, H34⟩ := R33.get 1 (by omega)
  have T35 := T13.pres (.ofXn X14 (by omega))
  have T36 := T35.pres (.of0 E21)
  have K34 := T36.kid (List.mem_of_getElem? hx34)
  have W34 := hwf.kid (List.mem_of_getElem? hx34)
  have hkid34 := kid_eq hx34
  refine S.dlaw bodyPost_panicOk 4 19 4 (v := .pointer (some ⟨b34, o34 + 1 * 3, none⟩)) (l' := #[true, true, true, true, true, false, true, false, false, false]) (by kernel_rfl) (by kernel_rfl) (by kernel_rfl) (by kernel_rfl) (fun w' hw => lawRun (s := Instr.indexAt 22 (.slice x.a x.len x.cap) (.int .i64 ((1 : Nat) : Int))) (by kernel_rfl) (run_idx (e := 60) 1 h34 (by kernel_rfl) (by kernel_rfl) (by omega))) ?_
  refine S.dreads bodyPost_panicOk [5] 3 [.v (iV x34.d.1), .v (iV x34.d.2), .v (.slice x34.a x34.len x34.cap)] [7, 15, 16, 20, 21] (rs := [.load ⟨b34, o34 + 1 * 3, none⟩ (iV x34.d.1), .load ⟨b34, o34 + 1 * 3 + 1, none⟩ (iV x34.d.2), .load ⟨b34, o34 + 1 * 3 + 2, none⟩ (.slice x34.a x34.len x34.cap)]) (κ' := [(7, iV v14), (15, iV v14), (16, pT rb), (20, .agg #[iV x34.d.1, iV x34.d.2, .slice x34.a x34.len x34.cap]), (21, .agg #[iV hand, .pointer (hp hl), .pointer (rp rl)])]) (l' := #[true, true, true, true, true, true, true, false, false, false]) (by kernel_rfl) (by kernel_rfl) (by kernel_rfl) (fun w' hw => hw.elim (fun hw => (.load ((H34.pres (.of0 hw)).cell0 rfl) (.load ((H34.pres (.of0 hw)).cell 1 rfl) (.load ((H34.pres (.of0 hw)).cell 2 rfl) .nil)))) (fun hw => (.load ((H34.pres (.ofXn hw (by omega))).cell0 rfl) (.load ((H34.pres (.ofXn hw (by omega))).cell 1 rfl) (.load ((H34.pres (.ofXn hw (by omega))).cell 2 rfl) .nil))))) ?_
  refine S.dnext (j := 7) (l' := #[true, true, true, true, true, true, true, true, false, false]) (by kernel_rfl) (by kernel_rfl) (sw1 (by kernel_rfl) (Ext.refl _)) ?_
  have P38 := PQ14.std (.of0 E21) (PQ14.1.trans (.of0 E21))
  obtain ⟨les37, hR37, back37⟩ := P38.open
  have N39 := N20.keeps (.ofX X14 (by decide) (by omega))
  have N40 := N39.keeps (.of0 E21)
  refine S.call (dst := some 22) (f := 59) (args := #[pT rb, .agg #[iV x34.d.1, iV x34.d.2, .slice x34.a x34.len x34.cap], .agg #[iV hand, .pointer (hp hl), .pointer (rp rl)]]) (by kernel_rfl) (by kernel_rfl) ((IH n₀ rb md _ σ14 les37 x34 hand hl rl hR37 K34 W34 ((N40.next (E' := 5000) hrg (by omega) (by omega)).mono (by omega) (Nat.le_refl _)) (by omega)).mono ?_)
  rintro e37 w37 ⟨ho37, hP37⟩
  have PP37 : RunP n₀ rb md p w w37 les (evalS p.xs k x34 (scOf hand hl rl) σ14).2 := back37 _ _ hP37; have X37 := hP37.1; have hfin37 : Fin 0 1 σ14 (evalS p.xs k x34 (scOf hand hl rl) σ14) := fin_eval p.xs k _ _ _; have ho37 : OutE rl (evalS p.xs k x34 (scOf hand hl rl) σ14).1 e37 := ho37; have hP37 : RunP n₀ rb md p w21 w37 les37 (evalS p.xs k x34 (scOf hand hl rl) σ14).2 := hP37
  rcases hr37 : evalS p.xs k x34 (scOf hand hl rl) σ14 with ⟨o37, σ37⟩
  rw [hr37] at ho37 PP37 hfin37 hP37
  have PQ37 : RunP n₀ rb md p w w37 les σ37 := PP37; have hq37 : OutE rl o37 e37 := ho37; have PR37 : RunP n₀ rb md p w21 w37 les37 σ37 := hP37
  clear PP37 ho37 hP37
  rcases outE_cases hq37 with ⟨v37, rfl, rfl, hv37⟩ | ⟨ch, rfl, hb37, hn37⟩
  ·skip
   have hf37 := hfin37.val
   refine After.ret (by kernel_rfl) ?_
   have sX37 := X37.size
   refine S.dreads2 bodyPost_panicOk [8, 9] 0 [] [7] (rs := []) (κ' := [(7, iV (IntKind.i64.wrap (v14 + v37)))]) (l' := #[true, true, true, true, true, true, true, true, true, true]) (by kernel_rfl) (by kernel_rfl) (by kernel_rfl) (by kernel_rfl) (fun w' hw => rfl) ?_
   refine S.dend (by kernel_rfl) (sw2 (by kernel_rfl) X37) ?_
   refine S.seq (S.region (S.run 4 [] [6] (rs := []) (κ' := [(6, iV (if 1000000000 < if -1000000000 > IntKind.i64.wrap (v14 + v37) then -1000000000 else IntKind.i64.wrap (v14 + v37) then 1000000000 else if -1000000000 > IntKind.i64.wrap (v14 + v37) then -1000000000 else IntKind.i64.wrap (v14 + v37)))]) (by kernel_rfl) (by kernel_rfl) rfl ?_))
   refine S.regEnd (by kernel_rfl) ?_
   have hs : (bnd ((evalS p.xs k) (kid x 0) (scOf hand hl rl) σ) fun v σ => bnd ((evalS p.xs k) (kid x 1) (scOf hand hl rl) σ) fun u σ => (.val (clamp (IntKind.i64.wrap (v + u))), σ) : Res Int) = (.val (if 1000000000 < if -1000000000 > IntKind.i64.wrap (v14 + v37) then -1000000000 else IntKind.i64.wrap (v14 + v37) then 1000000000 else if -1000000000 > IntKind.i64.wrap (v14 + v37) then -1000000000 else IntKind.i64.wrap (v14 + v37)), σ37) := by simp only [hkid10, hr14, hkid34, hr37, bnd_val, bnd_bnd, clamp]
   rw [hs]
   exact S.ret1 (v := iV (if 1000000000 < if -1000000000 > IntKind.i64.wrap (v14 + v37) then -1000000000 else IntKind.i64.wrap (v14 + v37) then 1000000000 else if -1000000000 > IntKind.i64.wrap (v14 + v37) then -1000000000 else IntKind.i64.wrap (v14 + v37))) rfl (by kernel_rfl) (⟨⟨rfl, Rg.clamp _⟩, PQ37⟩)
  ·skip
   exact fun _ _ _ hd => ⟨hd, (by have hs : (bnd ((evalS p.xs k) (kid x 0) (scOf hand hl rl) σ) fun v σ => bnd ((evalS p.xs k) (kid x 1) (scOf hand hl rl) σ) fun u σ => (.val (clamp (IntKind.i64.wrap (v + u))), σ) : Res Int) = (o37, σ37) := (by simp only [hkid10, hr14, hkid34, hr37, hb37, bnd_val, bnd_bnd, clamp]); rw [hs]; exact ⟨hq37, PQ37⟩)⟩
 ·skip
  exact fun _ _ _ hd => ⟨hd, (by have hs : (bnd ((evalS p.xs k) (kid x 0) (scOf hand hl rl) σ) fun v σ => bnd ((evalS p.xs k) (kid x 1) (scOf hand hl rl) σ) fun u σ => (.val (clamp (IntKind.i64.wrap (v + u))), σ) : Res Int) = (o14, σ14) := (by simp only [hkid10, hr14, hb14, bnd_val, bnd_bnd, clamp]); rw [hs]; exact ⟨hq14, PQ14⟩)⟩

theorem op_say (p : LP) (k : Nat) (IH : EvalC p k) (hpw : ∀ y, y ∈ p.xs → WfX p.xs.length y) (n₀ rb md : Nat) (w : World) (σ : RSt) (les : List LE) (x : X) (hand : Int) (hl : List H) (rl : List RR) (hR : RunE n₀ rb md p w σ les) (hx : XOk n₀ w x) (hwf : WfX p.xs.length x) (hS : ScOk p.xs.length n₀ 899 4992 w hand hl rl σ) (hk : σ.fuel ≤ k) (hlen : x.len = 1) :
    Calls Try.prog 46 #[pT rb, .agg #[iV x.d.1, iV x.d.2, .slice x.a x.len x.cap], .agg #[iV hand, .pointer (hp hl), .pointer (rp rl)]] w (Post n₀ rb md p w les rl (bnd ((evalS p.xs k) (kid x 0) (scOf hand hl rl) σ) fun v σ => (.val v, tellS (scOf hand hl rl) 1 0 v σ))) := by
 refine calls_of_S (n := 20) Try.func46 rfl rfl (by kernel_rfl) ?_
 have hev0 := hS.ev; have hh0 := hS.h1; have hr0 := hS.r1; have hrg := hS.rg; have P0 := RunP.refl hR; have hn0 := P0.n0
 have hkl := hx.len
 refine S.seq (S.region (S.one (by kernel_rfl) (S.new 4 [iV x.d.1, iV x.d.2, .slice x.a x.len x.cap] 60 (fun b => pT b) (by kernel_rfl) (by kernel_rfl) (fun b => by kernel_rfl) (fun b1 w1 E1 B1 e1 z1 => ?_))))
 have sE1 := E1.size
 refine S.one (by kernel_rfl) (S.new 5 [iV hand, .pointer (hp hl), .pointer (rp rl)] 94 (fun b => pT b) (by kernel_rfl) (by kernel_rfl) (fun b => by kernel_rfl) (fun b2 w2 E2 B2 e2 z2 => ?_))
 have sE2 := E2.size
 refine S.run 1 [] [0, 4, 5] (rs := []) (κ' := [(0, pT rb), (4, pT b1), (5, pT b2)]) (by kernel_rfl) (by kernel_rfl) rfl ?_
 refine S.regEnd (by kernel_rfl) (S.seq (S.drawN 8 #[false, false, false, false, false, false, false, false] 6 (fun u u' => Ext E0 u u') (fun u u' => Xt n₀ [56, 43] u u') (by kernel_rfl) (by kernel_rfl) (by kernel_rfl) (fun w3 E3 z3 => ?_)))
 have sE3 := E3.size
 refine S.dreads bodyPost_panicOk [0, 1] 6 [] [0, 5, 8, 9] (rs := []) (κ' := [(0, pT rb), (5, pT b2), (8, pT rb), (9, .pointer (some ⟨b1, 2, none⟩))]) (l' := #[true, true, false, false, false, false, false, false]) (by kernel_rfl) (by kernel_rfl) (by kernel_rfl) (fun _ _ => rfl) ?_
 have B4 := B1.ext0 E2
 have B5 := B4.ext0 E3
 refine S.dreads bodyPost_panicOk [2] 5 [.v (.slice x.a x.len x.cap)] [0, 5, 8, 10] (rs := [.load ⟨b1, 2, none⟩ (.slice x.a x.len x.cap)]) (κ' := [(0, pT rb), (5, pT b2), (8, pT rb), (10, .slice x.a x.len x.cap)]) (l' := #[true, true, true, false, false, false, false, false]) (by kernel_rfl) (by kernel_rfl) (by kernel_rfl) (fun w' hw => hw.elim (fun hw => (.load ((B5.ext0 hw).cell 2 rfl) .nil)) (fun hw => (.load ((B5.xt hw (by decide)).cell 2 rfl) .nil))) ?_
 have B6 := B2.ext0 E3
 refine S.dreads bodyPost_panicOk [5] 4 [.v (iV hand), .v (.pointer (hp hl)), .v (.pointer (rp rl))] [0, 5, 8, 10, 13] (rs := [.load ⟨b2, 0, none⟩ (iV hand), .load ⟨b2, 1, none⟩ (.pointer (hp hl)), .load ⟨b2, 2, none⟩ (.pointer (rp rl))]) (κ' := [(0, pT rb), (5, pT b2), (8, pT rb), (10, .slice x.a x.len x.cap), (13, .agg #[iV hand, .pointer (hp hl), .pointer (rp rl)])]) (l' := #[true, true, true, false, false, true, false, false]) (by kernel_rfl) (by kernel_rfl) (by kernel_rfl) (fun w' hw => hw.elim (fun hw => (.load ((B6.ext0 hw).cell 0 rfl) (.load ((B6.ext0 hw).cell 1 rfl) (.load ((B6.ext0 hw).cell 2 rfl) .nil)))) (fun hw => (.load ((B6.xt hw (by decide)).cell 0 rfl) (.load ((B6.xt hw (by decide)).cell 1 rfl) (.load ((B6.xt hw (by decide)).cell 2 rfl) .nil))))) ?_
 have R7 := hx.row.pres (.of0 E1)
 have R8 := R7.pres (.of0 E2)
 have R9 := R8.pres (.of0 E3)
 obtain ⟨x10, b10, o10, hx10, h10, H10⟩ := R9.get 0 (by omega)
 have T11 := hx.pres (.of0 E1)
 have T12 := T11.pres (.of0 E2)
 have T13 := T12.pres (.of0 E3)
 have K10 := T13.kid (List.mem_of_getElem? hx10)
 have W10 := hwf.kid (List.mem_of_getElem? hx10)
 have hkid10 := kid_eq hx10
 refine S.dlaw bodyPost_panicOk 3 11 3 (v := .pointer (some ⟨b10, o10 + 0 * 3, none⟩)) (l' := #[true, true, true, true, false, true, false, false]) (by kernel_rfl) (by kernel_rfl) (by kernel_rfl) (by kernel_rfl) (fun w' hw => lawRun (s := Instr.indexAt 22 (.slice x.a x.len x.cap) (.int .i64 ((0 : Nat) : Int))) (by kernel_rfl) (run_idx (e := 60) 0 h10 (by kernel_rfl) (by kernel_rfl) (by omega))) ?_
 refine S.dreads bodyPost_panicOk [4] 2 [.v (iV x10.d.1), .v (iV x10.d.2), .v (.slice x10.a x10.len x10.cap)] [0, 5, 8, 12, 13] (rs := [.load ⟨b10, o10 + 0 * 3, none⟩ (iV x10.d.1), .load ⟨b10, o10 + 0 * 3 + 1, none⟩ (iV x10.d.2), .load ⟨b10, o10 + 0 * 3 + 2, none⟩ (.slice x10.a x10.len x10.cap)]) (κ' := [(0, pT rb), (5, pT b2), (8, pT rb), (12, .agg #[iV x10.d.1, iV x10.d.2, .slice x10.a x10.len x10.cap]), (13, .agg #[iV hand, .pointer (hp hl), .pointer (rp rl)])]) (l' := #[true, true, true, true, true, true, false, false]) (by kernel_rfl) (by kernel_rfl) (by kernel_rfl) (fun w' hw => hw.elim (fun hw => (.load ((H10.pres (.of0 hw)).cell0 rfl) (.load ((H10.pres (.of0 hw)).cell 1 rfl) (.load ((H10.pres (.of0 hw)).cell 2 rfl) .nil)))) (fun hw => (.load ((H10.pres (.ofXn hw (by omega))).cell0 rfl) (.load ((H10.pres (.ofXn hw (by omega))).cell 1 rfl) (.load ((H10.pres (.ofXn hw (by omega))).cell 2 rfl) .nil))))) ?_
 refine S.dnext (j := 6) (l' := #[true, true, true, true, true, true, true, false]) (by kernel_rfl) (by kernel_rfl) (sw1 (by kernel_rfl) (Ext.refl _)) ?_
 have P15 := P0.std (.of0 E1) (P0.1.trans (.of0 E1))
 have P16 := P15.std (.of0 E2) (P15.1.trans (.of0 E2))
 have P17 := P16.std (.of0 E3) (P16.1.trans (.of0 E3))
 obtain ⟨les14, hR14, back14⟩ := P17.open
 have N18 := hS.keeps (.of0 E1)
 have N19 := N18.keeps (.of0 E2)
 have N20 := N19.keeps (.of0 E3)
 refine S.call (dst := some 14) (f := 59) (args := #[pT rb, .agg #[iV x10.d.1, iV x10.d.2, .slice x10.a x10.len x10.cap], .agg #[iV hand, .pointer (hp hl), .pointer (rp rl)]]) (by kernel_rfl) (by kernel_rfl) ((IH n₀ rb md _ σ les14 x10 hand hl rl hR14 K10 W10 ((N20.next (E' := 5000) hrg (by omega) (by omega)).mono (by omega) (Nat.le_refl _)) (by omega)).mono ?_)
 rintro e14 w14 ⟨ho14, hP14⟩
 have PP14 : RunP n₀ rb md p w w14 les (evalS p.xs k x10 (scOf hand hl rl) σ).2 := back14 _ _ hP14; have X14 := hP14.1; have hfin14 : Fin 0 1 σ (evalS p.xs k x10 (scOf hand hl rl) σ) := fin_eval p.xs k _ _ _; have ho14 : OutE rl (evalS p.xs k x10 (scOf hand hl rl) σ).1 e14 := ho14; have hP14 : RunP n₀ rb md p w3 w14 les14 (evalS p.xs k x10 (scOf hand hl rl) σ).2 := hP14
 rcases hr14 : evalS p.xs k x10 (scOf hand hl rl) σ with ⟨o14, σ14⟩
 rw [hr14] at ho14 PP14 hfin14 hP14
 have PQ14 : RunP n₀ rb md p w w14 les σ14 := PP14; have hq14 : OutE rl o14 e14 := ho14; have PR14 : RunP n₀ rb md p w3 w14 les14 σ14 := hP14
 clear PP14 ho14 hP14
 rcases outE_cases hq14 with ⟨v14, rfl, rfl, hv14⟩ | ⟨ch, rfl, hb14, hn14⟩
 ·skip
  have hf14 := hfin14.val
  refine After.ret (by kernel_rfl) ?_
  have sX14 := X14.size
  refine S.dreads2 bodyPost_panicOk [7] 0 [] [0, 5, 7] (rs := []) (κ' := [(0, pT rb), (5, pT b2), (7, iV v14)]) (l' := #[true, true, true, true, true, true, true, true]) (by kernel_rfl) (by kernel_rfl) (by kernel_rfl) (by kernel_rfl) (fun w' hw => rfl) ?_
  refine S.dend (by kernel_rfl) (sw2 (by kernel_rfl) X14) ?_
  refine S.seq (S.region ?_)
  have B21 := B2.ext0 E3
  have B22 := B21.xt X14 (by decide)
  refine S.run 3 [.v (iV hand), .v (.pointer (hp hl)), .v (.pointer (rp rl))] [7, 15, 16, 17] (rs := [.load ⟨b2, 0, none⟩ (iV hand), .load ⟨b2, 1, none⟩ (.pointer (hp hl)), .load ⟨b2, 2, none⟩ (.pointer (rp rl))]) (κ' := [(7, iV v14), (15, pT rb), (16, .agg #[iV hand, .pointer (hp hl), .pointer (rp rl)]), (17, iV v14)]) (by kernel_rfl) (by kernel_rfl) (.load (B22.cell 0 rfl) (.load (B22.cell 1 rfl) (.load (B22.cell 2 rfl) .nil))) ?_
  obtain ⟨les23, ⟨ea23, ec23, ka23, kc23, hR23⟩, back23⟩ := PQ14.open
  have N24 := N20.keeps (.ofX X14 (by decide) (by omega))
  have hS23 : ScOk p.xs.length n₀ 900 5000 _ hand hl rl σ14 := ((N24.next (E' := 5000) hrg (by omega) (by omega)).mono (by omega) (Nat.le_refl _))
  have hS23a := hS23.h1; have hS23b := hS23.r1; have hS23c := hS23.ev; have hS23d := congrArg List.length hR23.eq; rw [List.length_map] at hS23d
  refine S.one (by kernel_rfl) (S.call (dst := some 18) (f := 69) (args := #[pT rb, .agg #[iV hand, .pointer (hp hl), .pointer (rp rl)], iV 1, iV 0, iV v14]) (by kernel_rfl) (by kernel_rfl) ((tell_spec n₀ rb md p _ σ14 ea23 ec23 les23 ka23 kc23 hR23 hand 1 0 v14 hl rl hS23.hc hS23.rc (by omega) (by omega) (by omega)).mono ?_))
  rintro _ w23 ⟨rfl, X23, ea', ec', xx, hR', hge⟩
  refine After.ret (by kernel_rfl) ?_
  have PP23 : RunP n₀ rb md p w w23 les (tellS (scOf hand hl rl) 1 0 v14 σ14) := back23 _ _ ⟨X23, [xx], ⟨_, _, _, _, by rw [tellS_ev]; exact hR'⟩, fun e he => by rw [List.mem_singleton.1 he]; exact hge⟩
  have tl23 := tell_len (scOf hand hl rl) 1 0 v14 σ14
  have sX23 := X23.size
  refine S.regEnd (by kernel_rfl) (S.seq (S.region (S.run 2 [] [6] (rs := []) (κ' := [(6, iV v14)]) (by kernel_rfl) (by kernel_rfl) rfl ?_)))
  refine S.regEnd (by kernel_rfl) ?_
  have hs : (bnd ((evalS p.xs k) (kid x 0) (scOf hand hl rl) σ) fun v σ => (.val v, tellS (scOf hand hl rl) 1 0 v σ) : Res Int) = (.val v14, (tellS (scOf hand hl rl) 1 0 v14 σ14)) := by simp only [hkid10, hr14, bnd_val, bnd_bnd]
  rw [hs]
  exact S.ret1 (v := iV v14) rfl (by kernel_rfl) (⟨⟨rfl, hv14⟩, PP23⟩)
 ·skip
  exact fun _ _ _ hd => ⟨hd, (by have hs : (bnd ((evalS p.xs k) (kid x 0) (scOf hand hl rl) σ) fun v σ => (.val v, tellS (scOf hand hl rl) 1 0 v σ) : Res Int) = (o14, σ14) := (by simp only [hkid10, hr14, hb14, bnd_val, bnd_bnd]); rw [hs]; exact ⟨hq14, PQ14⟩)⟩

theorem op_seq (p : LP) (k : Nat) (IH : EvalC p k) (hpw : ∀ y, y ∈ p.xs → WfX p.xs.length y) (n₀ rb md : Nat) (w : World) (σ : RSt) (les : List LE) (x : X) (hand : Int) (hl : List H) (rl : List RR) (hR : RunE n₀ rb md p w σ les) (hx : XOk n₀ w x) (hwf : WfX p.xs.length x) (hS : ScOk p.xs.length n₀ 899 4992 w hand hl rl σ) (hk : σ.fuel ≤ k) (hlen : x.len = 2) :
    Calls Try.prog 47 #[pT rb, .agg #[iV x.d.1, iV x.d.2, .slice x.a x.len x.cap], .agg #[iV hand, .pointer (hp hl), .pointer (rp rl)]] w (Post n₀ rb md p w les rl (bnd ((evalS p.xs k) (kid x 0) (scOf hand hl rl) σ) fun _ σ => (evalS p.xs k) (kid x 1) (scOf hand hl rl) σ)) := by
 refine calls_of_S (n := 21) Try.func47 rfl rfl (by kernel_rfl) ?_
 have hev0 := hS.ev; have hh0 := hS.h1; have hr0 := hS.r1; have hrg := hS.rg; have P0 := RunP.refl hR; have hn0 := P0.n0
 have hkl := hx.len
 refine S.seq (S.region (S.one (by kernel_rfl) (S.new 4 [iV x.d.1, iV x.d.2, .slice x.a x.len x.cap] 60 (fun b => pT b) (by kernel_rfl) (by kernel_rfl) (fun b => by kernel_rfl) (fun b1 w1 E1 B1 e1 z1 => ?_))))
 have sE1 := E1.size
 refine S.one (by kernel_rfl) (S.new 5 [iV hand, .pointer (hp hl), .pointer (rp rl)] 94 (fun b => pT b) (by kernel_rfl) (by kernel_rfl) (fun b => by kernel_rfl) (fun b2 w2 E2 B2 e2 z2 => ?_))
 have sE2 := E2.size
 refine S.run 1 [] [0, 4, 5] (rs := []) (κ' := [(0, pT rb), (4, pT b1), (5, pT b2)]) (by kernel_rfl) (by kernel_rfl) rfl ?_
 refine S.regEnd (by kernel_rfl) (S.seq (S.drawN 7 #[false, false, false, false, false, false, false] 6 (fun u u' => Ext E0 u u') (fun u u' => Xt n₀ [56, 43] u u') (by kernel_rfl) (by kernel_rfl) (by kernel_rfl) (fun w3 E3 z3 => ?_)))
 have sE3 := E3.size
 refine S.dreads bodyPost_panicOk [0, 1] 5 [] [0, 4, 5, 7, 8] (rs := []) (κ' := [(0, pT rb), (4, pT b1), (5, pT b2), (7, pT rb), (8, .pointer (some ⟨b1, 2, none⟩))]) (l' := #[true, true, false, false, false, false, false]) (by kernel_rfl) (by kernel_rfl) (by kernel_rfl) (fun _ _ => rfl) ?_
 have B4 := B1.ext0 E2
 have B5 := B4.ext0 E3
 refine S.dreads bodyPost_panicOk [2] 4 [.v (.slice x.a x.len x.cap)] [0, 4, 5, 7, 9] (rs := [.load ⟨b1, 2, none⟩ (.slice x.a x.len x.cap)]) (κ' := [(0, pT rb), (4, pT b1), (5, pT b2), (7, pT rb), (9, .slice x.a x.len x.cap)]) (l' := #[true, true, true, false, false, false, false]) (by kernel_rfl) (by kernel_rfl) (by kernel_rfl) (fun w' hw => hw.elim (fun hw => (.load ((B5.ext0 hw).cell 2 rfl) .nil)) (fun hw => (.load ((B5.xt hw (by decide)).cell 2 rfl) .nil))) ?_
 have B6 := B2.ext0 E3
 refine S.dreads bodyPost_panicOk [5] 3 [.v (iV hand), .v (.pointer (hp hl)), .v (.pointer (rp rl))] [0, 4, 5, 7, 9, 12] (rs := [.load ⟨b2, 0, none⟩ (iV hand), .load ⟨b2, 1, none⟩ (.pointer (hp hl)), .load ⟨b2, 2, none⟩ (.pointer (rp rl))]) (κ' := [(0, pT rb), (4, pT b1), (5, pT b2), (7, pT rb), (9, .slice x.a x.len x.cap), (12, .agg #[iV hand, .pointer (hp hl), .pointer (rp rl)])]) (l' := #[true, true, true, false, false, true, false]) (by kernel_rfl) (by kernel_rfl) (by kernel_rfl) (fun w' hw => hw.elim (fun hw => (.load ((B6.ext0 hw).cell 0 rfl) (.load ((B6.ext0 hw).cell 1 rfl) (.load ((B6.ext0 hw).cell 2 rfl) .nil)))) (fun hw => (.load ((B6.xt hw (by decide)).cell 0 rfl) (.load ((B6.xt hw (by decide)).cell 1 rfl) (.load ((B6.xt hw (by decide)).cell 2 rfl) .nil))))) ?_
 have R7 := hx.row.pres (.of0 E1)
 have R8 := R7.pres (.of0 E2)
 have R9 := R8.pres (.of0 E3)
 obtain ⟨x10, b10, o10, hx10, h10, H10⟩ := R9.get 0 (by omega)
 have T11 := hx.pres (.of0 E1)
 have T12 := T11.pres (.of0 E2)
 have T13 := T12.pres (.of0 E3)
 have K10 := T13.kid (List.mem_of_getElem? hx10)
 have W10 := hwf.kid (List.mem_of_getElem? hx10)
 have hkid10 := kid_eq hx10
 refine S.dlaw bodyPost_panicOk 3 10 2 (v := .pointer (some ⟨b10, o10 + 0 * 3, none⟩)) (l' := #[true, true, true, true, false, true, false]) (by kernel_rfl) (by kernel_rfl) (by kernel_rfl) (by kernel_rfl) (fun w' hw => lawRun (s := Instr.indexAt 22 (.slice x.a x.len x.cap) (.int .i64 ((0 : Nat) : Int))) (by kernel_rfl) (run_idx (e := 60) 0 h10 (by kernel_rfl) (by kernel_rfl) (by omega))) ?_
 refine S.dreads bodyPost_panicOk [4] 1 [.v (iV x10.d.1), .v (iV x10.d.2), .v (.slice x10.a x10.len x10.cap)] [0, 4, 5, 7, 11, 12] (rs := [.load ⟨b10, o10 + 0 * 3, none⟩ (iV x10.d.1), .load ⟨b10, o10 + 0 * 3 + 1, none⟩ (iV x10.d.2), .load ⟨b10, o10 + 0 * 3 + 2, none⟩ (.slice x10.a x10.len x10.cap)]) (κ' := [(0, pT rb), (4, pT b1), (5, pT b2), (7, pT rb), (11, .agg #[iV x10.d.1, iV x10.d.2, .slice x10.a x10.len x10.cap]), (12, .agg #[iV hand, .pointer (hp hl), .pointer (rp rl)])]) (l' := #[true, true, true, true, true, true, false]) (by kernel_rfl) (by kernel_rfl) (by kernel_rfl) (fun w' hw => hw.elim (fun hw => (.load ((H10.pres (.of0 hw)).cell0 rfl) (.load ((H10.pres (.of0 hw)).cell 1 rfl) (.load ((H10.pres (.of0 hw)).cell 2 rfl) .nil)))) (fun hw => (.load ((H10.pres (.ofXn hw (by omega))).cell0 rfl) (.load ((H10.pres (.ofXn hw (by omega))).cell 1 rfl) (.load ((H10.pres (.ofXn hw (by omega))).cell 2 rfl) .nil))))) ?_
 refine S.dnext (j := 6) (l' := #[true, true, true, true, true, true, true]) (by kernel_rfl) (by kernel_rfl) (sw1 (by kernel_rfl) (Ext.refl _)) ?_
 have P15 := P0.std (.of0 E1) (P0.1.trans (.of0 E1))
 have P16 := P15.std (.of0 E2) (P15.1.trans (.of0 E2))
 have P17 := P16.std (.of0 E3) (P16.1.trans (.of0 E3))
 obtain ⟨les14, hR14, back14⟩ := P17.open
 have N18 := hS.keeps (.of0 E1)
 have N19 := N18.keeps (.of0 E2)
 have N20 := N19.keeps (.of0 E3)
 refine S.call (dst := some 13) (f := 59) (args := #[pT rb, .agg #[iV x10.d.1, iV x10.d.2, .slice x10.a x10.len x10.cap], .agg #[iV hand, .pointer (hp hl), .pointer (rp rl)]]) (by kernel_rfl) (by kernel_rfl) ((IH n₀ rb md _ σ les14 x10 hand hl rl hR14 K10 W10 ((N20.next (E' := 5000) hrg (by omega) (by omega)).mono (by omega) (Nat.le_refl _)) (by omega)).mono ?_)
 rintro e14 w14 ⟨ho14, hP14⟩
 have PP14 : RunP n₀ rb md p w w14 les (evalS p.xs k x10 (scOf hand hl rl) σ).2 := back14 _ _ hP14; have X14 := hP14.1; have hfin14 : Fin 0 1 σ (evalS p.xs k x10 (scOf hand hl rl) σ) := fin_eval p.xs k _ _ _; have ho14 : OutE rl (evalS p.xs k x10 (scOf hand hl rl) σ).1 e14 := ho14; have hP14 : RunP n₀ rb md p w3 w14 les14 (evalS p.xs k x10 (scOf hand hl rl) σ).2 := hP14
 rcases hr14 : evalS p.xs k x10 (scOf hand hl rl) σ with ⟨o14, σ14⟩
 rw [hr14] at ho14 PP14 hfin14 hP14
 have PQ14 : RunP n₀ rb md p w w14 les σ14 := PP14; have hq14 : OutE rl o14 e14 := ho14; have PR14 : RunP n₀ rb md p w3 w14 les14 σ14 := hP14
 clear PP14 ho14 hP14
 rcases outE_cases hq14 with ⟨v14, rfl, rfl, hv14⟩ | ⟨ch, rfl, hb14, hn14⟩
 ·skip
  have hf14 := hfin14.val
  refine After.ret (by kernel_rfl) ?_
  have sX14 := X14.size
  refine S.dend (by kernel_rfl) (sw2 (by kernel_rfl) X14) ?_
  refine S.seq (S.drawN 8 #[false, false, false, false, false, false, false, false] 6 (fun u u' => Ext E0 u u') (fun u u' => Xt n₀ [56, 43] u u') (by kernel_rfl) (by kernel_rfl) (by kernel_rfl) (fun w21 E21 z21 => ?_))
  have sE21 := E21.size
  refine S.dreads bodyPost_panicOk [0, 1] 6 [] [5, 14, 15] (rs := []) (κ' := [(5, pT b2), (14, pT rb), (15, .pointer (some ⟨b1, 2, none⟩))]) (l' := #[true, true, false, false, false, false, false, false]) (by kernel_rfl) (by kernel_rfl) (by kernel_rfl) (fun _ _ => rfl) ?_
  have B22 := B1.ext0 E2
  have B23 := B22.ext0 E3
  have B24 := B23.xt X14 (by decide)
  have B25 := B24.ext0 E21
  refine S.dreads bodyPost_panicOk [2] 5 [.v (.slice x.a x.len x.cap)] [5, 14, 16] (rs := [.load ⟨b1, 2, none⟩ (.slice x.a x.len x.cap)]) (κ' := [(5, pT b2), (14, pT rb), (16, .slice x.a x.len x.cap)]) (l' := #[true, true, true, false, false, false, false, false]) (by kernel_rfl) (by kernel_rfl) (by kernel_rfl) (fun w' hw => hw.elim (fun hw => (.load ((B25.ext0 hw).cell 2 rfl) .nil)) (fun hw => (.load ((B25.xt hw (by decide)).cell 2 rfl) .nil))) ?_
  have B26 := B2.ext0 E3
  have B27 := B26.xt X14 (by decide)
  have B28 := B27.ext0 E21
  refine S.dreads bodyPost_panicOk [5] 4 [.v (iV hand), .v (.pointer (hp hl)), .v (.pointer (rp rl))] [14, 16, 19] (rs := [.load ⟨b2, 0, none⟩ (iV hand), .load ⟨b2, 1, none⟩ (.pointer (hp hl)), .load ⟨b2, 2, none⟩ (.pointer (rp rl))]) (κ' := [(14, pT rb), (16, .slice x.a x.len x.cap), (19, .agg #[iV hand, .pointer (hp hl), .pointer (rp rl)])]) (l' := #[true, true, true, false, false, true, false, false]) (by kernel_rfl) (by kernel_rfl) (by kernel_rfl) (fun w' hw => hw.elim (fun hw => (.load ((B28.ext0 hw).cell 0 rfl) (.load ((B28.ext0 hw).cell 1 rfl) (.load ((B28.ext0 hw).cell 2 rfl) .nil)))) (fun hw => (.load ((B28.xt hw (by decide)).cell 0 rfl) (.load ((B28.xt hw (by decide)).cell 1 rfl) (.load ((B28.xt hw (by decide)).cell 2 rfl) .nil))))) ?_
  have R29 := hx.row.pres (.of0 E1)
  have R30 := R29.pres (.of0 E2)
  have R31 := R30.pres (.of0 E3)
  have R32 := R31.pres (.ofXn X14 (by omega))
  have R33 := R32.pres (.of0 E21)
  obtain ⟨x34, b34, o34, hx34, h34, H34⟩ := R33.get 1 (by omega)
  have T35 := T13.pres (.ofXn X14 (by omega))
  have T36 := T35.pres (.of0 E21)
  have K34 := T36.kid (List.mem_of_getElem? hx34)
  have W34 := hwf.kid (List.mem_of_getElem? hx34)
  have hkid34 := kid_eq hx34
  refine S.dlaw bodyPost_panicOk 3 17 3 (v := .pointer (some ⟨b34, o34 + 1 * 3, none⟩)) (l' := #[true, true, true, true, false, true, false, false]) (by kernel_rfl) (by kernel_rfl) (by kernel_rfl) (by kernel_rfl) (fun w' hw => lawRun (s := Instr.indexAt 22 (.slice x.a x.len x.cap) (.int .i64 ((1 : Nat) : Int))) (by kernel_rfl) (run_idx (e := 60) 1 h34 (by kernel_rfl) (by kernel_rfl) (by omega))) ?_
  refine S.dreads bodyPost_panicOk [4] 2 [.v (iV x34.d.1), .v (iV x34.d.2), .v (.slice x34.a x34.len x34.cap)] [14, 18, 19] (rs := [.load ⟨b34, o34 + 1 * 3, none⟩ (iV x34.d.1), .load ⟨b34, o34 + 1 * 3 + 1, none⟩ (iV x34.d.2), .load ⟨b34, o34 + 1 * 3 + 2, none⟩ (.slice x34.a x34.len x34.cap)]) (κ' := [(14, pT rb), (18, .agg #[iV x34.d.1, iV x34.d.2, .slice x34.a x34.len x34.cap]), (19, .agg #[iV hand, .pointer (hp hl), .pointer (rp rl)])]) (l' := #[true, true, true, true, true, true, false, false]) (by kernel_rfl) (by kernel_rfl) (by kernel_rfl) (fun w' hw => hw.elim (fun hw => (.load ((H34.pres (.of0 hw)).cell0 rfl) (.load ((H34.pres (.of0 hw)).cell 1 rfl) (.load ((H34.pres (.of0 hw)).cell 2 rfl) .nil)))) (fun hw => (.load ((H34.pres (.ofXn hw (by omega))).cell0 rfl) (.load ((H34.pres (.ofXn hw (by omega))).cell 1 rfl) (.load ((H34.pres (.ofXn hw (by omega))).cell 2 rfl) .nil))))) ?_
  refine S.dnext (j := 6) (l' := #[true, true, true, true, true, true, true, false]) (by kernel_rfl) (by kernel_rfl) (sw1 (by kernel_rfl) (Ext.refl _)) ?_
  have P38 := PQ14.std (.of0 E21) (PQ14.1.trans (.of0 E21))
  obtain ⟨les37, hR37, back37⟩ := P38.open
  have N39 := N20.keeps (.ofX X14 (by decide) (by omega))
  have N40 := N39.keeps (.of0 E21)
  refine S.call (dst := some 20) (f := 59) (args := #[pT rb, .agg #[iV x34.d.1, iV x34.d.2, .slice x34.a x34.len x34.cap], .agg #[iV hand, .pointer (hp hl), .pointer (rp rl)]]) (by kernel_rfl) (by kernel_rfl) ((IH n₀ rb md _ σ14 les37 x34 hand hl rl hR37 K34 W34 ((N40.next (E' := 5000) hrg (by omega) (by omega)).mono (by omega) (Nat.le_refl _)) (by omega)).mono ?_)
  rintro e37 w37 ⟨ho37, hP37⟩
  have PP37 : RunP n₀ rb md p w w37 les (evalS p.xs k x34 (scOf hand hl rl) σ14).2 := back37 _ _ hP37; have X37 := hP37.1; have hfin37 : Fin 0 1 σ14 (evalS p.xs k x34 (scOf hand hl rl) σ14) := fin_eval p.xs k _ _ _; have ho37 : OutE rl (evalS p.xs k x34 (scOf hand hl rl) σ14).1 e37 := ho37; have hP37 : RunP n₀ rb md p w21 w37 les37 (evalS p.xs k x34 (scOf hand hl rl) σ14).2 := hP37
  rcases hr37 : evalS p.xs k x34 (scOf hand hl rl) σ14 with ⟨o37, σ37⟩
  rw [hr37] at ho37 PP37 hfin37 hP37
  have PQ37 : RunP n₀ rb md p w w37 les σ37 := PP37; have hq37 : OutE rl o37 e37 := ho37; have PR37 : RunP n₀ rb md p w21 w37 les37 σ37 := hP37
  clear PP37 ho37 hP37
  rcases outE_cases hq37 with ⟨v37, rfl, rfl, hv37⟩ | ⟨ch, rfl, hb37, hn37⟩
  ·skip
   have hf37 := hfin37.val
   refine After.ret (by kernel_rfl) ?_
   have sX37 := X37.size
   refine S.dreads2 bodyPost_panicOk [7] 0 [] [6] (rs := []) (κ' := [(6, iV v37)]) (l' := #[true, true, true, true, true, true, true, true]) (by kernel_rfl) (by kernel_rfl) (by kernel_rfl) (by kernel_rfl) (fun w' hw => rfl) ?_
   refine S.dend (by kernel_rfl) (sw2 (by kernel_rfl) X37) ?_
   have hs : (bnd ((evalS p.xs k) (kid x 0) (scOf hand hl rl) σ) fun _ σ => (evalS p.xs k) (kid x 1) (scOf hand hl rl) σ : Res Int) = (.val v37, σ37) := by simp only [hkid10, hr14, hkid34, hr37, bnd_val, bnd_bnd]
   rw [hs]
   exact S.ret1 (v := iV v37) rfl (by kernel_rfl) (⟨⟨rfl, hv37⟩, PQ37⟩)
  ·skip
   exact fun _ _ _ hd => ⟨hd, (by have hs : (bnd ((evalS p.xs k) (kid x 0) (scOf hand hl rl) σ) fun _ σ => (evalS p.xs k) (kid x 1) (scOf hand hl rl) σ : Res Int) = (o37, σ37) := (by simp only [hkid10, hr14, hkid34, hr37, hb37, bnd_val, bnd_bnd]); rw [hs]; exact ⟨hq37, PQ37⟩)⟩
 ·skip
  exact fun _ _ _ hd => ⟨hd, (by have hs : (bnd ((evalS p.xs k) (kid x 0) (scOf hand hl rl) σ) fun _ σ => (evalS p.xs k) (kid x 1) (scOf hand hl rl) σ : Res Int) = (o14, σ14) := (by simp only [hkid10, hr14, hb14, bnd_val, bnd_bnd]); rw [hs]; exact ⟨hq14, PQ14⟩)⟩

theorem op_if (p : LP) (k : Nat) (IH : EvalC p k) (hpw : ∀ y, y ∈ p.xs → WfX p.xs.length y) (n₀ rb md : Nat) (w : World) (σ : RSt) (les : List LE) (x : X) (hand : Int) (hl : List H) (rl : List RR) (hR : RunE n₀ rb md p w σ les) (hx : XOk n₀ w x) (hwf : WfX p.xs.length x) (hS : ScOk p.xs.length n₀ 899 4992 w hand hl rl σ) (hk : σ.fuel ≤ k) (hlen : x.len = 3) :
    Calls Try.prog 48 #[pT rb, .agg #[iV x.d.1, iV x.d.2, .slice x.a x.len x.cap], .agg #[iV hand, .pointer (hp hl), .pointer (rp rl)]] w (Post n₀ rb md p w les rl (bnd ((evalS p.xs k) (kid x 0) (scOf hand hl rl) σ) fun v σ => if v = 0 then (evalS p.xs k) (kid x 2) (scOf hand hl rl) σ else (evalS p.xs k) (kid x 1) (scOf hand hl rl) σ)) := by
 refine calls_of_S (n := 29) Try.func48 rfl rfl (by kernel_rfl) ?_
 have hev0 := hS.ev; have hh0 := hS.h1; have hr0 := hS.r1; have hrg := hS.rg; have P0 := RunP.refl hR; have hn0 := P0.n0
 have hkl := hx.len
 refine S.seq (S.region (S.one (by kernel_rfl) (S.new 4 [iV x.d.1, iV x.d.2, .slice x.a x.len x.cap] 60 (fun b => pT b) (by kernel_rfl) (by kernel_rfl) (fun b => by kernel_rfl) (fun b1 w1 E1 B1 e1 z1 => ?_))))
 have sE1 := E1.size
 refine S.one (by kernel_rfl) (S.new 5 [iV hand, .pointer (hp hl), .pointer (rp rl)] 94 (fun b => pT b) (by kernel_rfl) (by kernel_rfl) (fun b => by kernel_rfl) (fun b2 w2 E2 B2 e2 z2 => ?_))
 have sE2 := E2.size
 refine S.run 1 [] [0, 4, 5] (rs := []) (κ' := [(0, pT rb), (4, pT b1), (5, pT b2)]) (by kernel_rfl) (by kernel_rfl) rfl ?_
 refine S.regEnd (by kernel_rfl) (S.seq (S.seq (S.drawN 8 #[false, false, false, false, false, false, false, false] 6 (fun u u' => Ext E0 u u') (fun u u' => Xt n₀ [56, 43] u u') (by kernel_rfl) (by kernel_rfl) (by kernel_rfl) (fun w3 E3 z3 => ?_))))
 have sE3 := E3.size
 refine S.dreads bodyPost_panicOk [0, 1] 6 [] [0, 4, 5, 7, 8] (rs := []) (κ' := [(0, pT rb), (4, pT b1), (5, pT b2), (7, pT rb), (8, .pointer (some ⟨b1, 2, none⟩))]) (l' := #[true, true, false, false, false, false, false, false]) (by kernel_rfl) (by kernel_rfl) (by kernel_rfl) (fun _ _ => rfl) ?_
 have B4 := B1.ext0 E2
 have B5 := B4.ext0 E3
 refine S.dreads bodyPost_panicOk [2] 5 [.v (.slice x.a x.len x.cap)] [0, 4, 5, 7, 9] (rs := [.load ⟨b1, 2, none⟩ (.slice x.a x.len x.cap)]) (κ' := [(0, pT rb), (4, pT b1), (5, pT b2), (7, pT rb), (9, .slice x.a x.len x.cap)]) (l' := #[true, true, true, false, false, false, false, false]) (by kernel_rfl) (by kernel_rfl) (by kernel_rfl) (fun w' hw => hw.elim (fun hw => (.load ((B5.ext0 hw).cell 2 rfl) .nil)) (fun hw => (.load ((B5.xt hw (by decide)).cell 2 rfl) .nil))) ?_
 have B6 := B2.ext0 E3
 refine S.dreads bodyPost_panicOk [5] 4 [.v (iV hand), .v (.pointer (hp hl)), .v (.pointer (rp rl))] [0, 4, 5, 7, 9, 12] (rs := [.load ⟨b2, 0, none⟩ (iV hand), .load ⟨b2, 1, none⟩ (.pointer (hp hl)), .load ⟨b2, 2, none⟩ (.pointer (rp rl))]) (κ' := [(0, pT rb), (4, pT b1), (5, pT b2), (7, pT rb), (9, .slice x.a x.len x.cap), (12, .agg #[iV hand, .pointer (hp hl), .pointer (rp rl)])]) (l' := #[true, true, true, false, false, true, false, false]) (by kernel_rfl) (by kernel_rfl) (by kernel_rfl) (fun w' hw => hw.elim (fun hw => (.load ((B6.ext0 hw).cell 0 rfl) (.load ((B6.ext0 hw).cell 1 rfl) (.load ((B6.ext0 hw).cell 2 rfl) .nil)))) (fun hw => (.load ((B6.xt hw (by decide)).cell 0 rfl) (.load ((B6.xt hw (by decide)).cell 1 rfl) (.load ((B6.xt hw (by decide)).cell 2 rfl) .nil))))) ?_
 have R7 := hx.row.pres (.of0 E1)
 have R8 := R7.pres (.of0 E2)
 have R9 := R8.pres (.of0 E3)
 obtain ⟨x10, b10, o10, hx10, h10, H10⟩ := R9.get 0 (by omega)
 have T11 := hx.pres (.of0 E1)
 have T12 := T11.pres (.of0 E2)
 have T13 := T12.pres (.of0 E3)
 have K10 := T13.kid (List.mem_of_getElem? hx10)
 have W10 := hwf.kid (List.mem_of_getElem? hx10)
 have hkid10 := kid_eq hx10
 refine S.dlaw bodyPost_panicOk 3 10 3 (v := .pointer (some ⟨b10, o10 + 0 * 3, none⟩)) (l' := #[true, true, true, true, false, true, false, false]) (by kernel_rfl) (by kernel_rfl) (by kernel_rfl) (by kernel_rfl) (fun w' hw => lawRun (s := Instr.indexAt 22 (.slice x.a x.len x.cap) (.int .i64 ((0 : Nat) : Int))) (by kernel_rfl) (run_idx (e := 60) 0 h10 (by kernel_rfl) (by kernel_rfl) (by omega))) ?_
 refine S.dreads bodyPost_panicOk [4] 2 [.v (iV x10.d.1), .v (iV x10.d.2), .v (.slice x10.a x10.len x10.cap)] [0, 4, 5, 7, 11, 12] (rs := [.load ⟨b10, o10 + 0 * 3, none⟩ (iV x10.d.1), .load ⟨b10, o10 + 0 * 3 + 1, none⟩ (iV x10.d.2), .load ⟨b10, o10 + 0 * 3 + 2, none⟩ (.slice x10.a x10.len x10.cap)]) (κ' := [(0, pT rb), (4, pT b1), (5, pT b2), (7, pT rb), (11, .agg #[iV x10.d.1, iV x10.d.2, .slice x10.a x10.len x10.cap]), (12, .agg #[iV hand, .pointer (hp hl), .pointer (rp rl)])]) (l' := #[true, true, true, true, true, true, false, false]) (by kernel_rfl) (by kernel_rfl) (by kernel_rfl) (fun w' hw => hw.elim (fun hw => (.load ((H10.pres (.of0 hw)).cell0 rfl) (.load ((H10.pres (.of0 hw)).cell 1 rfl) (.load ((H10.pres (.of0 hw)).cell 2 rfl) .nil)))) (fun hw => (.load ((H10.pres (.ofXn hw (by omega))).cell0 rfl) (.load ((H10.pres (.ofXn hw (by omega))).cell 1 rfl) (.load ((H10.pres (.ofXn hw (by omega))).cell 2 rfl) .nil))))) ?_
 refine S.dnext (j := 6) (l' := #[true, true, true, true, true, true, true, false]) (by kernel_rfl) (by kernel_rfl) (sw1 (by kernel_rfl) (Ext.refl _)) ?_
 have P15 := P0.std (.of0 E1) (P0.1.trans (.of0 E1))
 have P16 := P15.std (.of0 E2) (P15.1.trans (.of0 E2))
 have P17 := P16.std (.of0 E3) (P16.1.trans (.of0 E3))
 obtain ⟨les14, hR14, back14⟩ := P17.open
 have N18 := hS.keeps (.of0 E1)
 have N19 := N18.keeps (.of0 E2)
 have N20 := N19.keeps (.of0 E3)
 refine S.call (dst := some 13) (f := 59) (args := #[pT rb, .agg #[iV x10.d.1, iV x10.d.2, .slice x10.a x10.len x10.cap], .agg #[iV hand, .pointer (hp hl), .pointer (rp rl)]]) (by kernel_rfl) (by kernel_rfl) ((IH n₀ rb md _ σ les14 x10 hand hl rl hR14 K10 W10 ((N20.next (E' := 5000) hrg (by omega) (by omega)).mono (by omega) (Nat.le_refl _)) (by omega)).mono ?_)
 rintro e14 w14 ⟨ho14, hP14⟩
 have PP14 : RunP n₀ rb md p w w14 les (evalS p.xs k x10 (scOf hand hl rl) σ).2 := back14 _ _ hP14; have X14 := hP14.1; have hfin14 : Fin 0 1 σ (evalS p.xs k x10 (scOf hand hl rl) σ) := fin_eval p.xs k _ _ _; have ho14 : OutE rl (evalS p.xs k x10 (scOf hand hl rl) σ).1 e14 := ho14; have hP14 : RunP n₀ rb md p w3 w14 les14 (evalS p.xs k x10 (scOf hand hl rl) σ).2 := hP14
 rcases hr14 : evalS p.xs k x10 (scOf hand hl rl) σ with ⟨o14, σ14⟩
 rw [hr14] at ho14 PP14 hfin14 hP14
 have PQ14 : RunP n₀ rb md p w w14 les σ14 := PP14; have hq14 : OutE rl o14 e14 := ho14; have PR14 : RunP n₀ rb md p w3 w14 les14 σ14 := hP14
 clear PP14 ho14 hP14
 rcases outE_cases hq14 with ⟨v14, rfl, rfl, hv14⟩ | ⟨ch, rfl, hb14, hn14⟩
 ·skip
  have hf14 := hfin14.val
  refine After.ret (by kernel_rfl) ?_
  have sX14 := X14.size
  refine S.dreads2 bodyPost_panicOk [7] 0 [] [0, 4, 5, 14] (rs := []) (κ' := [(0, pT rb), (4, pT b1), (5, pT b2), (14, .bool (v14 != 0))]) (l' := #[true, true, true, true, true, true, true, true]) (by kernel_rfl) (by kernel_rfl) (by kernel_rfl) (by kernel_rfl) (fun w' hw => rfl) ?_
  refine S.dend (by kernel_rfl) (sw2 (by kernel_rfl) X14) ?_
  refine S.both 14 (v14 != 0) (by kernel_rfl) (fun c21 => ?_) (fun c21 => ?_)
  ·skip
   have p22 : v14 ≠ 0 := by simpa using c21
   refine S.yes (by kernel_rfl) (S.seq (S.drawN 8 #[false, false, false, false, false, false, false, false] 6 (fun u u' => Ext E0 u u') (fun u u' => Xt n₀ [56, 43] u u') (by kernel_rfl) (by kernel_rfl) (by kernel_rfl) (fun w23 E23 z23 => ?_)))
   have sE23 := E23.size
   refine S.dreads bodyPost_panicOk [0, 1] 6 [] [5, 15, 16] (rs := []) (κ' := [(5, pT b2), (15, pT rb), (16, .pointer (some ⟨b1, 2, none⟩))]) (l' := #[true, true, false, false, false, false, false, false]) (by kernel_rfl) (by kernel_rfl) (by kernel_rfl) (fun _ _ => rfl) ?_
   have B24 := B1.ext0 E2
   have B25 := B24.ext0 E3
   have B26 := B25.xt X14 (by decide)
   have B27 := B26.ext0 E23
   refine S.dreads bodyPost_panicOk [2] 5 [.v (.slice x.a x.len x.cap)] [5, 15, 17] (rs := [.load ⟨b1, 2, none⟩ (.slice x.a x.len x.cap)]) (κ' := [(5, pT b2), (15, pT rb), (17, .slice x.a x.len x.cap)]) (l' := #[true, true, true, false, false, false, false, false]) (by kernel_rfl) (by kernel_rfl) (by kernel_rfl) (fun w' hw => hw.elim (fun hw => (.load ((B27.ext0 hw).cell 2 rfl) .nil)) (fun hw => (.load ((B27.xt hw (by decide)).cell 2 rfl) .nil))) ?_
   have B28 := B2.ext0 E3
   have B29 := B28.xt X14 (by decide)
   have B30 := B29.ext0 E23
   refine S.dreads bodyPost_panicOk [5] 4 [.v (iV hand), .v (.pointer (hp hl)), .v (.pointer (rp rl))] [15, 17, 20] (rs := [.load ⟨b2, 0, none⟩ (iV hand), .load ⟨b2, 1, none⟩ (.pointer (hp hl)), .load ⟨b2, 2, none⟩ (.pointer (rp rl))]) (κ' := [(15, pT rb), (17, .slice x.a x.len x.cap), (20, .agg #[iV hand, .pointer (hp hl), .pointer (rp rl)])]) (l' := #[true, true, true, false, false, true, false, false]) (by kernel_rfl) (by kernel_rfl) (by kernel_rfl) (fun w' hw => hw.elim (fun hw => (.load ((B30.ext0 hw).cell 0 rfl) (.load ((B30.ext0 hw).cell 1 rfl) (.load ((B30.ext0 hw).cell 2 rfl) .nil)))) (fun hw => (.load ((B30.xt hw (by decide)).cell 0 rfl) (.load ((B30.xt hw (by decide)).cell 1 rfl) (.load ((B30.xt hw (by decide)).cell 2 rfl) .nil))))) ?_
   have R31 := hx.row.pres (.of0 E1)
   have R32 := R31.pres (.of0 E2)
   have R33 := R32.pres (.of0 E3)
   have R34 := R33.pres (.ofXn X14 (by omega))
   have R35 := R34.pres (.of0 E23)
   obtain ⟨x36, b36, o36, hx36, h36, H36⟩ := R35.get 1 (by omega)
   have T37 := T13.pres (.ofXn X14 (by omega))
   have T38 := T37.pres (.of0 E23)
   have K36 := T38.kid (List.mem_of_getElem? hx36)
   have W36 := hwf.kid (List.mem_of_getElem? hx36)
   have hkid36 := kid_eq hx36
   refine S.dlaw bodyPost_panicOk 3 18 3 (v := .pointer (some ⟨b36, o36 + 1 * 3, none⟩)) (l' := #[true, true, true, true, false, true, false, false]) (by kernel_rfl) (by kernel_rfl) (by kernel_rfl) (by kernel_rfl) (fun w' hw => lawRun (s := Instr.indexAt 22 (.slice x.a x.len x.cap) (.int .i64 ((1 : Nat) : Int))) (by kernel_rfl) (run_idx (e := 60) 1 h36 (by kernel_rfl) (by kernel_rfl) (by omega))) ?_
   refine S.dreads bodyPost_panicOk [4] 2 [.v (iV x36.d.1), .v (iV x36.d.2), .v (.slice x36.a x36.len x36.cap)] [15, 19, 20] (rs := [.load ⟨b36, o36 + 1 * 3, none⟩ (iV x36.d.1), .load ⟨b36, o36 + 1 * 3 + 1, none⟩ (iV x36.d.2), .load ⟨b36, o36 + 1 * 3 + 2, none⟩ (.slice x36.a x36.len x36.cap)]) (κ' := [(15, pT rb), (19, .agg #[iV x36.d.1, iV x36.d.2, .slice x36.a x36.len x36.cap]), (20, .agg #[iV hand, .pointer (hp hl), .pointer (rp rl)])]) (l' := #[true, true, true, true, true, true, false, false]) (by kernel_rfl) (by kernel_rfl) (by kernel_rfl) (fun w' hw => hw.elim (fun hw => (.load ((H36.pres (.of0 hw)).cell0 rfl) (.load ((H36.pres (.of0 hw)).cell 1 rfl) (.load ((H36.pres (.of0 hw)).cell 2 rfl) .nil)))) (fun hw => (.load ((H36.pres (.ofXn hw (by omega))).cell0 rfl) (.load ((H36.pres (.ofXn hw (by omega))).cell 1 rfl) (.load ((H36.pres (.ofXn hw (by omega))).cell 2 rfl) .nil))))) ?_
   refine S.dnext (j := 6) (l' := #[true, true, true, true, true, true, true, false]) (by kernel_rfl) (by kernel_rfl) (sw1 (by kernel_rfl) (Ext.refl _)) ?_
   have P40 := PQ14.std (.of0 E23) (PQ14.1.trans (.of0 E23))
   obtain ⟨les39, hR39, back39⟩ := P40.open
   have N41 := N20.keeps (.ofX X14 (by decide) (by omega))
   have N42 := N41.keeps (.of0 E23)
   refine S.call (dst := some 21) (f := 59) (args := #[pT rb, .agg #[iV x36.d.1, iV x36.d.2, .slice x36.a x36.len x36.cap], .agg #[iV hand, .pointer (hp hl), .pointer (rp rl)]]) (by kernel_rfl) (by kernel_rfl) ((IH n₀ rb md _ σ14 les39 x36 hand hl rl hR39 K36 W36 ((N42.next (E' := 5000) hrg (by omega) (by omega)).mono (by omega) (Nat.le_refl _)) (by omega)).mono ?_)
   rintro e39 w39 ⟨ho39, hP39⟩
   have PP39 : RunP n₀ rb md p w w39 les (evalS p.xs k x36 (scOf hand hl rl) σ14).2 := back39 _ _ hP39; have X39 := hP39.1; have hfin39 : Fin 0 1 σ14 (evalS p.xs k x36 (scOf hand hl rl) σ14) := fin_eval p.xs k _ _ _; have ho39 : OutE rl (evalS p.xs k x36 (scOf hand hl rl) σ14).1 e39 := ho39; have hP39 : RunP n₀ rb md p w23 w39 les39 (evalS p.xs k x36 (scOf hand hl rl) σ14).2 := hP39
   rcases hr39 : evalS p.xs k x36 (scOf hand hl rl) σ14 with ⟨o39, σ39⟩
   rw [hr39] at ho39 PP39 hfin39 hP39
   have PQ39 : RunP n₀ rb md p w w39 les σ39 := PP39; have hq39 : OutE rl o39 e39 := ho39; have PR39 : RunP n₀ rb md p w23 w39 les39 σ39 := hP39
   clear PP39 ho39 hP39
   rcases outE_cases hq39 with ⟨v39, rfl, rfl, hv39⟩ | ⟨ch, rfl, hb39, hn39⟩
   ·skip
    have hf39 := hfin39.val
    refine After.ret (by kernel_rfl) ?_
    have sX39 := X39.size
    refine S.dreads2 bodyPost_panicOk [7] 0 [] [6] (rs := []) (κ' := [(6, iV v39)]) (l' := #[true, true, true, true, true, true, true, true]) (by kernel_rfl) (by kernel_rfl) (by kernel_rfl) (by kernel_rfl) (fun w' hw => rfl) ?_
    refine S.dend (by kernel_rfl) (sw2 (by kernel_rfl) X39) ?_
    have hs : (bnd ((evalS p.xs k) (kid x 0) (scOf hand hl rl) σ) fun v σ => if v = 0 then (evalS p.xs k) (kid x 2) (scOf hand hl rl) σ else (evalS p.xs k) (kid x 1) (scOf hand hl rl) σ : Res Int) = (.val v39, σ39) := by simp only [hkid10, hr14, if_neg p22, hkid36, hr39, bnd_val, bnd_bnd]
    rw [hs]
    exact S.ret1 (v := iV v39) rfl (by kernel_rfl) (⟨⟨rfl, hv39⟩, PQ39⟩)
   ·skip
    exact fun _ _ _ hd => ⟨hd, (by have hs : (bnd ((evalS p.xs k) (kid x 0) (scOf hand hl rl) σ) fun v σ => if v = 0 then (evalS p.xs k) (kid x 2) (scOf hand hl rl) σ else (evalS p.xs k) (kid x 1) (scOf hand hl rl) σ : Res Int) = (o39, σ39) := (by simp only [hkid10, hr14, if_neg p22, hkid36, hr39, hb39, bnd_val, bnd_bnd]); rw [hs]; exact ⟨hq39, PQ39⟩)⟩
  ·skip
   have p43 : v14 = 0 := by simpa using c21
   refine S.no (by kernel_rfl) (S.skip (S.seq (S.drawN 8 #[false, false, false, false, false, false, false, false] 6 (fun u u' => Ext E0 u u') (fun u u' => Xt n₀ [56, 43] u u') (by kernel_rfl) (by kernel_rfl) (by kernel_rfl) (fun w44 E44 z44 => ?_))))
   have sE44 := E44.size
   refine S.dreads bodyPost_panicOk [0, 1] 6 [] [5, 22, 23] (rs := []) (κ' := [(5, pT b2), (22, pT rb), (23, .pointer (some ⟨b1, 2, none⟩))]) (l' := #[true, true, false, false, false, false, false, false]) (by kernel_rfl) (by kernel_rfl) (by kernel_rfl) (fun _ _ => rfl) ?_
   have B45 := B1.ext0 E2
   have B46 := B45.ext0 E3
   have B47 := B46.xt X14 (by decide)
   have B48 := B47.ext0 E44
   refine S.dreads bodyPost_panicOk [2] 5 [.v (.slice x.a x.len x.cap)] [5, 22, 24] (rs := [.load ⟨b1, 2, none⟩ (.slice x.a x.len x.cap)]) (κ' := [(5, pT b2), (22, pT rb), (24, .slice x.a x.len x.cap)]) (l' := #[true, true, true, false, false, false, false, false]) (by kernel_rfl) (by kernel_rfl) (by kernel_rfl) (fun w' hw => hw.elim (fun hw => (.load ((B48.ext0 hw).cell 2 rfl) .nil)) (fun hw => (.load ((B48.xt hw (by decide)).cell 2 rfl) .nil))) ?_
   have B49 := B2.ext0 E3
   have B50 := B49.xt X14 (by decide)
   have B51 := B50.ext0 E44
   refine S.dreads bodyPost_panicOk [5] 4 [.v (iV hand), .v (.pointer (hp hl)), .v (.pointer (rp rl))] [22, 24, 27] (rs := [.load ⟨b2, 0, none⟩ (iV hand), .load ⟨b2, 1, none⟩ (.pointer (hp hl)), .load ⟨b2, 2, none⟩ (.pointer (rp rl))]) (κ' := [(22, pT rb), (24, .slice x.a x.len x.cap), (27, .agg #[iV hand, .pointer (hp hl), .pointer (rp rl)])]) (l' := #[true, true, true, false, false, true, false, false]) (by kernel_rfl) (by kernel_rfl) (by kernel_rfl) (fun w' hw => hw.elim (fun hw => (.load ((B51.ext0 hw).cell 0 rfl) (.load ((B51.ext0 hw).cell 1 rfl) (.load ((B51.ext0 hw).cell 2 rfl) .nil)))) (fun hw => (.load ((B51.xt hw (by decide)).cell 0 rfl) (.load ((B51.xt hw (by decide)).cell 1 rfl) (.load ((B51.xt hw (by decide)).cell 2 rfl) .nil))))) ?_
   have R52 := hx.row.pres (.of0 E1)
   have R53 := R52.pres (.of0 E2)
   have R54 := R53.pres (.of0 E3)
   have R55 := R54.pres (.ofXn X14 (by omega))
   have R56 := R55.pres (.of0 E44)
   obtain ⟨x57, b57, o57, hx57, h57, H57⟩ := R56.get 2 (by omega)
   have T58 := T13.pres (.ofXn X14 (by omega))
   have T59 := T58.pres (.of0 E44)
   have K57 := T59.kid (List.mem_of_getElem? hx57)
   have W57 := hwf.kid (List.mem_of_getElem? hx57)
   have hkid57 := kid_eq hx57
   refine S.dlaw bodyPost_panicOk 3 25 3 (v := .pointer (some ⟨b57, o57 + 2 * 3, none⟩)) (l' := #[true, true, true, true, false, true, false, false]) (by kernel_rfl) (by kernel_rfl) (by kernel_rfl) (by kernel_rfl) (fun w' hw => lawRun (s := Instr.indexAt 22 (.slice x.a x.len x.cap) (.int .i64 ((2 : Nat) : Int))) (by kernel_rfl) (run_idx (e := 60) 2 h57 (by kernel_rfl) (by kernel_rfl) (by omega))) ?_
   refine S.dreads bodyPost_panicOk [4] 2 [.v (iV x57.d.1), .v (iV x57.d.2), .v (.slice x57.a x57.len x57.cap)] [22, 26, 27] (rs := [.load ⟨b57, o57 + 2 * 3, none⟩ (iV x57.d.1), .load ⟨b57, o57 + 2 * 3 + 1, none⟩ (iV x57.d.2), .load ⟨b57, o57 + 2 * 3 + 2, none⟩ (.slice x57.a x57.len x57.cap)]) (κ' := [(22, pT rb), (26, .agg #[iV x57.d.1, iV x57.d.2, .slice x57.a x57.len x57.cap]), (27, .agg #[iV hand, .pointer (hp hl), .pointer (rp rl)])]) (l' := #[true, true, true, true, true, true, false, false]) (by kernel_rfl) (by kernel_rfl) (by kernel_rfl) (fun w' hw => hw.elim (fun hw => (.load ((H57.pres (.of0 hw)).cell0 rfl) (.load ((H57.pres (.of0 hw)).cell 1 rfl) (.load ((H57.pres (.of0 hw)).cell 2 rfl) .nil)))) (fun hw => (.load ((H57.pres (.ofXn hw (by omega))).cell0 rfl) (.load ((H57.pres (.ofXn hw (by omega))).cell 1 rfl) (.load ((H57.pres (.ofXn hw (by omega))).cell 2 rfl) .nil))))) ?_
   refine S.dnext (j := 6) (l' := #[true, true, true, true, true, true, true, false]) (by kernel_rfl) (by kernel_rfl) (sw1 (by kernel_rfl) (Ext.refl _)) ?_
   have P61 := PQ14.std (.of0 E44) (PQ14.1.trans (.of0 E44))
   obtain ⟨les60, hR60, back60⟩ := P61.open
   have N62 := N20.keeps (.ofX X14 (by decide) (by omega))
   have N63 := N62.keeps (.of0 E44)
   refine S.call (dst := some 28) (f := 59) (args := #[pT rb, .agg #[iV x57.d.1, iV x57.d.2, .slice x57.a x57.len x57.cap], .agg #[iV hand, .pointer (hp hl), .pointer (rp rl)]]) (by kernel_rfl) (by kernel_rfl) ((IH n₀ rb md _ σ14 les60 x57 hand hl rl hR60 K57 W57 ((N63.next (E' := 5000) hrg (by omega) (by omega)).mono (by omega) (Nat.le_refl _)) (by omega)).mono ?_)
   rintro e60 w60 ⟨ho60, hP60⟩
   have PP60 : RunP n₀ rb md p w w60 les (evalS p.xs k x57 (scOf hand hl rl) σ14).2 := back60 _ _ hP60; have X60 := hP60.1; have hfin60 : Fin 0 1 σ14 (evalS p.xs k x57 (scOf hand hl rl) σ14) := fin_eval p.xs k _ _ _; have ho60 : OutE rl (evalS p.xs k x57 (scOf hand hl rl) σ14).1 e60 := ho60; have hP60 : RunP n₀ rb md p w44 w60 les60 (evalS p.xs k x57 (scOf hand hl rl) σ14).2 := hP60
   rcases hr60 : evalS p.xs k x57 (scOf hand hl rl) σ14 with ⟨o60, σ60⟩
   rw [hr60] at ho60 PP60 hfin60 hP60
   have PQ60 : RunP n₀ rb md p w w60 les σ60 := PP60; have hq60 : OutE rl o60 e60 := ho60; have PR60 : RunP n₀ rb md p w44 w60 les60 σ60 := hP60
   clear PP60 ho60 hP60
   rcases outE_cases hq60 with ⟨v60, rfl, rfl, hv60⟩ | ⟨ch, rfl, hb60, hn60⟩
   ·skip
    have hf60 := hfin60.val
    refine After.ret (by kernel_rfl) ?_
    have sX60 := X60.size
    refine S.dreads2 bodyPost_panicOk [7] 0 [] [6] (rs := []) (κ' := [(6, iV v60)]) (l' := #[true, true, true, true, true, true, true, true]) (by kernel_rfl) (by kernel_rfl) (by kernel_rfl) (by kernel_rfl) (fun w' hw => rfl) ?_
    refine S.dend (by kernel_rfl) (sw2 (by kernel_rfl) X60) ?_
    have hs : (bnd ((evalS p.xs k) (kid x 0) (scOf hand hl rl) σ) fun v σ => if v = 0 then (evalS p.xs k) (kid x 2) (scOf hand hl rl) σ else (evalS p.xs k) (kid x 1) (scOf hand hl rl) σ : Res Int) = (.val v60, σ60) := by simp only [hkid10, hr14, if_pos p43, hkid57, hr60, bnd_val, bnd_bnd]
    rw [hs]
    exact S.ret1 (v := iV v60) rfl (by kernel_rfl) (⟨⟨rfl, hv60⟩, PQ60⟩)
   ·skip
    exact fun _ _ _ hd => ⟨hd, (by have hs : (bnd ((evalS p.xs k) (kid x 0) (scOf hand hl rl) σ) fun v σ => if v = 0 then (evalS p.xs k) (kid x 2) (scOf hand hl rl) σ else (evalS p.xs k) (kid x 1) (scOf hand hl rl) σ : Res Int) = (o60, σ60) := (by simp only [hkid10, hr14, if_pos p43, hkid57, hr60, hb60, bnd_val, bnd_bnd]); rw [hs]; exact ⟨hq60, PQ60⟩)⟩
 ·skip
  exact fun _ _ _ hd => ⟨hd, (by have hs : (bnd ((evalS p.xs k) (kid x 0) (scOf hand hl rl) σ) fun v σ => if v = 0 then (evalS p.xs k) (kid x 2) (scOf hand hl rl) σ else (evalS p.xs k) (kid x 1) (scOf hand hl rl) σ : Res Int) = (o14, σ14) := (by simp only [hkid10, hr14, hb14, bnd_val, bnd_bnd]); rw [hs]; exact ⟨hq14, PQ14⟩)⟩

end Go.Proofs.Ytmgakpnejbembaa
