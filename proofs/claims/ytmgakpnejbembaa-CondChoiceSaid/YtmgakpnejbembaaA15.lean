/-
  CondChoice, a part of the proof (printed by a program of the prover): what functions of the given program compute, each under the conditions that its theorem names.
-/
import Derived.Test.YtmgakpnejbembaaA13
namespace Go.Proofs.Ytmgakpnejbembaa
open Go Go.Proofs.Ytmgakpnejbembaa.L

theorem outO_cases {rl : List RR} {o : Out (Int × Int × Bool)} {e : Ending} (h : OutO rl o e) : (∃ v u t, o = .val (v, u, t) ∧ e = .returned (.tuple #[.int .i64 v, .int .i64 u, .bool t]) ∧ Rg v ∧ Rg u) ∨
    (∃ ch, e = .panicked ch ∧ ∃ o' : Out Int, OutE rl o' e ∧ ∀ (σ : RSt) (f : Int × Int × Bool → RSt → Res Int), bnd (o, σ) f = (o', σ)) := by
  cases o with
  | val t => obtain ⟨v, u, b⟩ := t; exact .inl ⟨v, u, b, rfl, h.1, h.2.1, h.2.2⟩
  | leave d v =>
    have h' := h
    obtain ⟨_, _, _, _, _, _, h⟩ := h; exact .inr ⟨_, h, .leave d v, h', fun _ _ => rfl⟩
  | stop c =>
    have h' := h
    obtain ⟨_, _, h⟩ := h; exact .inr ⟨_, h, .stop c, h', fun _ _ => rfl⟩

theorem op_restart (p : LP) (k : Nat) (IH : EvalC p k) (hpw : ∀ y, y ∈ p.xs → WfX p.xs.length y) (n₀ rb md : Nat) (w : World) (σ : RSt) (les : List LE) (x : X) (hand : Int) (hl : List H) (rl : List RR) (hR : RunE n₀ rb md p w σ les) (hx : XOk n₀ w x) (hwf : WfX p.xs.length x) (hS : ScOk p.xs.length n₀ 899 4992 w hand hl rl σ) (hk : σ.fuel ≤ k) (hlen : x.len = 2) :
    Calls Try.prog 53 #[pT rb, .agg #[iV x.d.1, iV x.d.2, .slice x.a x.len x.cap], .agg #[iV hand, .pointer (hp hl), .pointer (rp rl)]] w (Post n₀ rb md p w les rl (bnd (offeredS (evalS p.xs k) x (scOf hand hl rl) σ) fun t σ => if t.2.2 = true then evalS p.xs k (kid x 1) ⟨t.2.1, (scOf hand hl rl).hs, (scOf hand hl rl).rs⟩ σ else (.val t.1, σ))) := by
 refine calls_of_S (n := 29) Try.func53 rfl rfl (by kernel_rfl) ?_
 have hev0 := hS.ev; have hh0 := hS.h1; have hr0 := hS.r1; have hrg := hS.rg; have P0 := RunP.refl hR; have hn0 := P0.n0
 have hkl := hx.len
 refine S.seq (S.region (S.one (by kernel_rfl) (S.new 4 [iV x.d.1, iV x.d.2, .slice x.a x.len x.cap] 60 (fun b => pT b) (by kernel_rfl) (by kernel_rfl) (fun b => by kernel_rfl) (fun b1 w1 E1 B1 e1 z1 => ?_))))
 have sE1 := E1.size
 refine S.one (by kernel_rfl) (S.new 5 [iV hand, .pointer (hp hl), .pointer (rp rl)] 94 (fun b => pT b) (by kernel_rfl) (by kernel_rfl) (fun b => by kernel_rfl) (fun b2 w2 E2 B2 e2 z2 => ?_))
 have sE2 := E2.size
 refine S.run 1 [] [0, 4, 5] (rs := []) (κ' := [(0, pT rb), (4, pT b1), (5, pT b2)]) (by kernel_rfl) (by kernel_rfl) rfl ?_
 refine S.regEnd (by kernel_rfl) (S.seq (S.region ?_))
 have B3 := B1.ext0 E2
 refine S.run 3 [.v (iV x.d.1), .v (iV x.d.2), .v (.slice x.a x.len x.cap), .v (iV hand), .v (.pointer (hp hl)), .v (.pointer (rp rl))] [0, 4, 5, 11, 12, 13] (rs := [.load ⟨b1, 0, none⟩ (iV x.d.1), .load ⟨b1, 1, none⟩ (iV x.d.2), .load ⟨b1, 2, none⟩ (.slice x.a x.len x.cap), .load ⟨b2, 0, none⟩ (iV hand), .load ⟨b2, 1, none⟩ (.pointer (hp hl)), .load ⟨b2, 2, none⟩ (.pointer (rp rl))]) (κ' := [(0, pT rb), (4, pT b1), (5, pT b2), (11, pT rb), (12, .agg #[iV x.d.1, iV x.d.2, .slice x.a x.len x.cap]), (13, .agg #[iV hand, .pointer (hp hl), .pointer (rp rl)])]) (by kernel_rfl) (by kernel_rfl) (.load (B3.cell 0 rfl) (.load (B3.cell 1 rfl) (.load (B3.cell 2 rfl) (.load (B2.cell 0 rfl) (.load (B2.cell 1 rfl) (.load (B2.cell 2 rfl) .nil)))))) ?_
 have P5 := P0.std (.of0 E1) (P0.1.trans (.of0 E1))
 have P6 := P5.std (.of0 E2) (P5.1.trans (.of0 E2))
 obtain ⟨les4, hR4, back4⟩ := P6.open
 have N7 := hS.keeps (.of0 E1)
 have N8 := N7.keeps (.of0 E2)
 have T9 := hx.pres (.of0 E1)
 have T10 := T9.pres (.of0 E2)
 refine S.one (by kernel_rfl) (S.call (dst := some 14) (f := 75) (args := #[pT rb, .agg #[iV x.d.1, iV x.d.2, .slice x.a x.len x.cap], .agg #[iV hand, .pointer (hp hl), .pointer (rp rl)]]) (by kernel_rfl) (by kernel_rfl) ((offered_spec p k IH hpw n₀ rb md _ σ les4 x hand hl rl hR4 T10 hwf (N8.next (E' := 4992) hrg (by omega) (by omega)) (by omega) (by omega)).mono ?_))
 rintro e4 w4 ⟨ho4, hP4⟩
 have PP4 : RunP n₀ rb md p w w4 les (offeredS (evalS p.xs k) x (scOf hand hl rl) σ).2 := back4 _ _ hP4; have X4 := hP4.1; have hfin4 : Fin 1 1 σ (offeredS (evalS p.xs k) x (scOf hand hl rl) σ) := fin_offered (fin_eval p.xs k) _ _ _; clear hP4
 obtain ⟨rr4, hr4⟩ : ∃ r, offeredS (evalS p.xs k) x (scOf hand hl rl) σ = r := ⟨_, rfl⟩
 rcases rr4 with ⟨o4, σ4⟩
 rw [hr4] at ho4 PP4 hfin4
 have PQ4 : RunP n₀ rb md p w w4 les σ4 := PP4; have hq4 : OutO rl o4 e4 := ho4
 clear PP4 ho4
 rcases outO_cases hq4 with ⟨v4, u4, t4, rfl, rfl, hv4, hu4⟩ | ⟨ch, rfl, o', hq', hb4⟩
 ·skip
  have hf4 := hfin4.val
  cases t4 with
  | false =>
   refine After.ret (by kernel_rfl) ?_
   have sX4 := X4.size
   refine S.run 7 [] [0, 4, 5, 7, 8, 9] (rs := []) (κ' := [(0, pT rb), (4, pT b1), (5, pT b2), (7, iV v4), (8, iV u4), (9, .bool false)]) (by kernel_rfl) (by kernel_rfl) rfl ?_
   refine S.regEnd (by kernel_rfl) (S.seq (S.seq (S.region (S.run 1 [] [0, 4, 5, 7, 8, 18] (rs := []) (κ' := [(0, pT rb), (4, pT b1), (5, pT b2), (7, iV v4), (8, iV u4), (18, .bool false)]) (by kernel_rfl) (by kernel_rfl) rfl ?_))))
   refine S.regEnd (by kernel_rfl) (S.no (by kernel_rfl) (S.skip (S.seq (S.region (S.run 2 [] [6] (rs := []) (κ' := [(6, iV v4)]) (by kernel_rfl) (by kernel_rfl) rfl ?_)))))
   refine S.regEnd (by kernel_rfl) ?_
   have hs : (bnd (offeredS (evalS p.xs k) x (scOf hand hl rl) σ) fun t σ => if t.2.2 = true then evalS p.xs k (kid x 1) ⟨t.2.1, (scOf hand hl rl).hs, (scOf hand hl rl).rs⟩ σ else (.val t.1, σ) : Res Int) = (.val v4, σ4) := by simp only [hr4, bnd_val, bnd_bnd, reduceIte, Bool.false_eq_true, scOf_with]
   rw [hs]
   exact S.ret1 (v := iV v4) rfl (by kernel_rfl) (⟨⟨rfl, hv4⟩, PQ4⟩)
  | true =>
   refine After.ret (by kernel_rfl) ?_
   have sX4 := X4.size
   refine S.run 7 [] [0, 4, 5, 7, 8, 9] (rs := []) (κ' := [(0, pT rb), (4, pT b1), (5, pT b2), (7, iV v4), (8, iV u4), (9, .bool true)]) (by kernel_rfl) (by kernel_rfl) rfl ?_
   refine S.regEnd (by kernel_rfl) (S.seq (S.seq (S.region (S.run 1 [] [0, 4, 5, 7, 8, 18] (rs := []) (κ' := [(0, pT rb), (4, pT b1), (5, pT b2), (7, iV v4), (8, iV u4), (18, .bool true)]) (by kernel_rfl) (by kernel_rfl) rfl ?_))))
   refine S.regEnd (by kernel_rfl) (S.yes (by kernel_rfl) (S.seq (S.drawN 10 #[false, false, false, false, false, false, false, false, false, false] 8 (fun u u' => Ext E0 u u') (fun u u' => Xt n₀ [56, 43] u u') (by kernel_rfl) (by kernel_rfl) (by kernel_rfl) (fun w11 E11 z11 => ?_))))
   have sE11 := E11.size
   refine S.dreads bodyPost_panicOk [0, 1, 6] 7 [] [5, 19, 20, 25] (rs := []) (κ' := [(5, pT b2), (19, pT rb), (20, .pointer (some ⟨b1, 2, none⟩)), (25, iV u4)]) (l' := #[true, true, false, false, false, false, true, false, false, false]) (by kernel_rfl) (by kernel_rfl) (by kernel_rfl) (fun _ _ => rfl) ?_
   have B12 := B3.xt X4 (by decide)
   have B13 := B12.ext0 E11
   refine S.dreads bodyPost_panicOk [2] 6 [.v (.slice x.a x.len x.cap)] [5, 19, 21, 25] (rs := [.load ⟨b1, 2, none⟩ (.slice x.a x.len x.cap)]) (κ' := [(5, pT b2), (19, pT rb), (21, .slice x.a x.len x.cap), (25, iV u4)]) (l' := #[true, true, true, false, false, false, true, false, false, false]) (by kernel_rfl) (by kernel_rfl) (by kernel_rfl) (fun w' hw => hw.elim (fun hw => (.load ((B13.ext0 hw).cell 2 rfl) .nil)) (fun hw => (.load ((B13.xt hw (by decide)).cell 2 rfl) .nil))) ?_
   have B14 := B2.xt X4 (by decide)
   have B15 := B14.ext0 E11
   refine S.dreads bodyPost_panicOk [5] 5 [.v (iV hand), .v (.pointer (hp hl)), .v (.pointer (rp rl))] [19, 21, 24, 25] (rs := [.load ⟨b2, 0, none⟩ (iV hand), .load ⟨b2, 1, none⟩ (.pointer (hp hl)), .load ⟨b2, 2, none⟩ (.pointer (rp rl))]) (κ' := [(19, pT rb), (21, .slice x.a x.len x.cap), (24, .agg #[iV hand, .pointer (hp hl), .pointer (rp rl)]), (25, iV u4)]) (l' := #[true, true, true, false, false, true, true, false, false, false]) (by kernel_rfl) (by kernel_rfl) (by kernel_rfl) (fun w' hw => hw.elim (fun hw => (.load ((B15.ext0 hw).cell 0 rfl) (.load ((B15.ext0 hw).cell 1 rfl) (.load ((B15.ext0 hw).cell 2 rfl) .nil)))) (fun hw => (.load ((B15.xt hw (by decide)).cell 0 rfl) (.load ((B15.xt hw (by decide)).cell 1 rfl) (.load ((B15.xt hw (by decide)).cell 2 rfl) .nil))))) ?_
   have R16 := hx.row.pres (.of0 E1)
   have R17 := R16.pres (.of0 E2)
   have R18 := R17.pres (.ofXn X4 (by omega))
   have R19 := R18.pres (.of0 E11)
   obtain ⟨x20, b20, o20, hx20, h20, H20⟩ := R19.get 1 (by omega)
   have T21 := T10.pres (.ofXn X4 (by omega))
   have T22 := T21.pres (.of0 E11)
   have K20 := T22.kid (List.mem_of_getElem? hx20)
   have W20 := hwf.kid (List.mem_of_getElem? hx20)
   have hkid20 := kid_eq hx20
   refine S.dlaw bodyPost_panicOk 3 22 4 (v := .pointer (some ⟨b20, o20 + 1 * 3, none⟩)) (l' := #[true, true, true, true, false, true, true, false, false, false]) (by kernel_rfl) (by kernel_rfl) (by kernel_rfl) (by kernel_rfl) (fun w' hw => lawRun (s := Instr.indexAt 22 (.slice x.a x.len x.cap) (.int .i64 ((1 : Nat) : Int))) (by kernel_rfl) (run_idx (e := 60) 1 h20 (by kernel_rfl) (by kernel_rfl) (by omega))) ?_
   refine S.dreads bodyPost_panicOk [4] 3 [.v (iV x20.d.1), .v (iV x20.d.2), .v (.slice x20.a x20.len x20.cap)] [19, 23, 24, 25] (rs := [.load ⟨b20, o20 + 1 * 3, none⟩ (iV x20.d.1), .load ⟨b20, o20 + 1 * 3 + 1, none⟩ (iV x20.d.2), .load ⟨b20, o20 + 1 * 3 + 2, none⟩ (.slice x20.a x20.len x20.cap)]) (κ' := [(19, pT rb), (23, .agg #[iV x20.d.1, iV x20.d.2, .slice x20.a x20.len x20.cap]), (24, .agg #[iV hand, .pointer (hp hl), .pointer (rp rl)]), (25, iV u4)]) (l' := #[true, true, true, true, true, true, true, false, false, false]) (by kernel_rfl) (by kernel_rfl) (by kernel_rfl) (fun w' hw => hw.elim (fun hw => (.load ((H20.pres (.of0 hw)).cell0 rfl) (.load ((H20.pres (.of0 hw)).cell 1 rfl) (.load ((H20.pres (.of0 hw)).cell 2 rfl) .nil)))) (fun hw => (.load ((H20.pres (.ofXn hw (by omega))).cell0 rfl) (.load ((H20.pres (.ofXn hw (by omega))).cell 1 rfl) (.load ((H20.pres (.ofXn hw (by omega))).cell 2 rfl) .nil))))) ?_
   refine S.dnext (j := 7) (l' := #[true, true, true, true, true, true, true, true, false, false]) (by kernel_rfl) (by kernel_rfl) (sw1 (by kernel_rfl) (Ext.refl _)) ?_
   refine S.call (dst := some 26) (f := 70) (args := #[.agg #[iV hand, .pointer (hp hl), .pointer (rp rl)], iV u4]) (by kernel_rfl) (by kernel_rfl) ((with_spec hand u4 hl rl _).mono ?_)
   rintro _ w23 ⟨E23, rfl⟩
   refine After.ret (by kernel_rfl) ?_
   have sE23 := E23.size
   refine S.dnext (j := 8) (l' := #[true, true, true, true, true, true, true, true, true, false]) (by kernel_rfl) (by kernel_rfl) (sw1 (by kernel_rfl) E23) ?_
   have P25 := PQ4.std (.of0 E11) (PQ4.1.trans (.of0 E11))
   have P26 := P25.std (.of0 E23) (P25.1.trans (.of0 E23))
   obtain ⟨les24, hR24, back24⟩ := P26.open
   have T27 := K20.pres (.of0 E23)
   have N28 := N8.keeps (.ofX X4 (by decide) (by omega))
   have N29 := N28.keeps (.of0 E11)
   have N30 := N29.keeps (.of0 E23)
   refine S.call (dst := some 27) (f := 59) (args := #[pT rb, .agg #[iV x20.d.1, iV x20.d.2, .slice x20.a x20.len x20.cap], .agg #[iV u4, .pointer (hp hl), .pointer (rp rl)]]) (by kernel_rfl) (by kernel_rfl) ((IH n₀ rb md _ σ4 les24 x20 u4 hl rl hR24 T27 W20 ((N30.next (E' := 5000) hu4 (by omega) (by omega)).mono (by omega) (Nat.le_refl _)) (by omega)).mono ?_)
   rintro e24 w24 ⟨ho24, hP24⟩
   have PP24 : RunP n₀ rb md p w w24 les (evalS p.xs k x20 (scOf u4 hl rl) σ4).2 := back24 _ _ hP24; have X24 := hP24.1; have hfin24 : Fin 0 1 σ4 (evalS p.xs k x20 (scOf u4 hl rl) σ4) := fin_eval p.xs k _ _ _; have ho24 : OutE rl (evalS p.xs k x20 (scOf u4 hl rl) σ4).1 e24 := ho24; have hP24 : RunP n₀ rb md p w23 w24 les24 (evalS p.xs k x20 (scOf u4 hl rl) σ4).2 := hP24
   rcases hr24 : evalS p.xs k x20 (scOf u4 hl rl) σ4 with ⟨o24, σ24⟩
   rw [hr24] at ho24 PP24 hfin24 hP24
   have PQ24 : RunP n₀ rb md p w w24 les σ24 := PP24; have hq24 : OutE rl o24 e24 := ho24; have PR24 : RunP n₀ rb md p w23 w24 les24 σ24 := hP24
   clear PP24 ho24 hP24
   rcases outE_cases hq24 with ⟨v24, rfl, rfl, hv24⟩ | ⟨ch, rfl, hb24, hn24⟩
   ·skip
    have hf24 := hfin24.val
    refine After.ret (by kernel_rfl) ?_
    have sX24 := X24.size
    refine S.dreads2 bodyPost_panicOk [9] 0 [] [6] (rs := []) (κ' := [(6, iV v24)]) (l' := #[true, true, true, true, true, true, true, true, true, true]) (by kernel_rfl) (by kernel_rfl) (by kernel_rfl) (by kernel_rfl) (fun w' hw => rfl) ?_
    refine S.dend (by kernel_rfl) (sw2 (by kernel_rfl) ((Xt.of0 E23).trans X24)) ?_
    have hs : (bnd (offeredS (evalS p.xs k) x (scOf hand hl rl) σ) fun t σ => if t.2.2 = true then evalS p.xs k (kid x 1) ⟨t.2.1, (scOf hand hl rl).hs, (scOf hand hl rl).rs⟩ σ else (.val t.1, σ) : Res Int) = (.val v24, σ24) := by simp only [hr4, hkid20, hr24, bnd_val, bnd_bnd, reduceIte, Bool.false_eq_true, scOf_with]
    rw [hs]
    exact S.ret1 (v := iV v24) rfl (by kernel_rfl) (⟨⟨rfl, hv24⟩, PQ24⟩)
   ·skip
    exact fun _ _ _ hd => ⟨hd, (by have hs : (bnd (offeredS (evalS p.xs k) x (scOf hand hl rl) σ) fun t σ => if t.2.2 = true then evalS p.xs k (kid x 1) ⟨t.2.1, (scOf hand hl rl).hs, (scOf hand hl rl).rs⟩ σ else (.val t.1, σ) : Res Int) = (o24, σ24) := (by simp only [hr4, hkid20, hr24, hb24, bnd_val, bnd_bnd, reduceIte, Bool.false_eq_true, scOf_with]); rw [hs]; exact ⟨hq24, PQ24⟩)⟩
 ·skip
  exact fun _ _ _ hd => ⟨hd, (by have hs : (bnd (offeredS (evalS p.xs k) x (scOf hand hl rl) σ) fun t σ => if t.2.2 = true then evalS p.xs k (kid x 1) ⟨t.2.1, (scOf hand hl rl).hs, (scOf hand hl rl).rs⟩ σ else (.val t.1, σ) : Res Int) = (o', σ4) := (by simp only [hr4, hb4, bnd_val, bnd_bnd, reduceIte, Bool.false_eq_true, scOf_with]); rw [hs]; exact ⟨hq', PQ4⟩)⟩

theorem op_again (p : LP) (k : Nat) (IH : EvalC p k) (hpw : ∀ y, y ∈ p.xs → WfX p.xs.length y) (n₀ rb md : Nat) (w : World) (σ : RSt) (les : List LE) (x : X) (hand : Int) (hl : List H) (rl : List RR) (hR : RunE n₀ rb md p w σ les) (hx : XOk n₀ w x) (hwf : WfX p.xs.length x) (hS : ScOk p.xs.length n₀ 899 4992 w hand hl rl σ) (hk : σ.fuel ≤ k) (hlen : x.len = 1) :
    Calls Try.prog 54 #[pT rb, .agg #[iV x.d.1, iV x.d.2, .slice x.a x.len x.cap], .agg #[iV hand, .pointer (hp hl), .pointer (rp rl)]] w (Post n₀ rb md p w les rl (bnd (offeredS (evalS p.xs k) x (scOf hand hl rl) σ) fun t σ' => againL (evalS p.xs k) x (scOf hand hl rl) (σ.fuel + 1) t σ')) := by
 refine calls_of_S (n := 30) Try.func54 rfl rfl (by kernel_rfl) ?_
 have hev0 := hS.ev; have hh0 := hS.h1; have hr0 := hS.r1; have hrg := hS.rg; have P0 := RunP.refl hR; have hn0 := P0.n0
 have hkl := hx.len
 refine S.seq (S.region (S.one (by kernel_rfl) (S.new 4 [iV x.d.1, iV x.d.2, .slice x.a x.len x.cap] 60 (fun b => pT b) (by kernel_rfl) (by kernel_rfl) (fun b => by kernel_rfl) (fun b1 w1 E1 B1 e1 z1 => ?_))))
 have sE1 := E1.size
 refine S.one (by kernel_rfl) (S.new 5 [iV hand, .pointer (hp hl), .pointer (rp rl)] 94 (fun b => pT b) (by kernel_rfl) (by kernel_rfl) (fun b => by kernel_rfl) (fun b2 w2 E2 B2 e2 z2 => ?_))
 have sE2 := E2.size
 refine S.run 1 [] [0, 4, 5] (rs := []) (κ' := [(0, pT rb), (4, pT b1), (5, pT b2)]) (by kernel_rfl) (by kernel_rfl) rfl ?_
 refine S.regEnd (by kernel_rfl) (S.seq (S.region ?_))
 have B3 := B1.ext0 E2
 refine S.run 3 [.v (iV x.d.1), .v (iV x.d.2), .v (.slice x.a x.len x.cap), .v (iV hand), .v (.pointer (hp hl)), .v (.pointer (rp rl))] [0, 4, 5, 11, 12, 13] (rs := [.load ⟨b1, 0, none⟩ (iV x.d.1), .load ⟨b1, 1, none⟩ (iV x.d.2), .load ⟨b1, 2, none⟩ (.slice x.a x.len x.cap), .load ⟨b2, 0, none⟩ (iV hand), .load ⟨b2, 1, none⟩ (.pointer (hp hl)), .load ⟨b2, 2, none⟩ (.pointer (rp rl))]) (κ' := [(0, pT rb), (4, pT b1), (5, pT b2), (11, pT rb), (12, .agg #[iV x.d.1, iV x.d.2, .slice x.a x.len x.cap]), (13, .agg #[iV hand, .pointer (hp hl), .pointer (rp rl)])]) (by kernel_rfl) (by kernel_rfl) (.load (B3.cell 0 rfl) (.load (B3.cell 1 rfl) (.load (B3.cell 2 rfl) (.load (B2.cell 0 rfl) (.load (B2.cell 1 rfl) (.load (B2.cell 2 rfl) .nil)))))) ?_
 have P5 := P0.std (.of0 E1) (P0.1.trans (.of0 E1))
 have P6 := P5.std (.of0 E2) (P5.1.trans (.of0 E2))
 obtain ⟨les4, hR4, back4⟩ := P6.open
 have N7 := hS.keeps (.of0 E1)
 have N8 := N7.keeps (.of0 E2)
 have T9 := hx.pres (.of0 E1)
 have T10 := T9.pres (.of0 E2)
 refine S.one (by kernel_rfl) (S.call (dst := some 14) (f := 75) (args := #[pT rb, .agg #[iV x.d.1, iV x.d.2, .slice x.a x.len x.cap], .agg #[iV hand, .pointer (hp hl), .pointer (rp rl)]]) (by kernel_rfl) (by kernel_rfl) ((offered_spec p k IH hpw n₀ rb md _ σ les4 x hand hl rl hR4 T10 hwf (N8.next (E' := 4992) hrg (by omega) (by omega)) (by omega) (by omega)).mono ?_))
 rintro e4 w4 ⟨ho4, hP4⟩
 have PP4 : RunP n₀ rb md p w w4 les (offeredS (evalS p.xs k) x (scOf hand hl rl) σ).2 := back4 _ _ hP4; have X4 := hP4.1; have hfin4 : Fin 1 1 σ (offeredS (evalS p.xs k) x (scOf hand hl rl) σ) := fin_offered (fin_eval p.xs k) _ _ _; clear hP4
 obtain ⟨rr4, hr4⟩ : ∃ r, offeredS (evalS p.xs k) x (scOf hand hl rl) σ = r := ⟨_, rfl⟩
 rcases rr4 with ⟨o4, σ4⟩
 rw [hr4] at ho4 PP4 hfin4
 have PQ4 : RunP n₀ rb md p w w4 les σ4 := PP4; have hq4 : OutO rl o4 e4 := ho4
 clear PP4 ho4
 rcases outO_cases hq4 with ⟨v4, u4, t4, rfl, rfl, hv4, hu4⟩ | ⟨ch, rfl, o', hq', hb4⟩
 ·skip
  have hf4 := hfin4.val
  refine After.ret (by kernel_rfl) ?_
  have sX4 := X4.size
  refine S.run 7 [] [0, 4, 5, 7, 8, 9] (rs := []) (κ' := [(0, pT rb), (4, pT b1), (5, pT b2), (7, iV v4), (8, iV u4), (9, .bool t4)]) (by kernel_rfl) (by kernel_rfl) rfl ?_
  refine S.regEnd (by kernel_rfl) (S.seq (S.block ?_))
  have hEq0 : (bnd (offeredS (evalS p.xs k) x (scOf hand hl rl) σ) fun t σ' => againL (evalS p.xs k) x (scOf hand hl rl) (σ.fuel + 1) t σ' : Res Int) = againL (evalS p.xs k) x (scOf hand hl rl) (σ.fuel + 1) (v4, u4, t4) σ4 := by simp only [hr4, bnd_val]
  refine S.weaken (ks := [0, 4, 5, 7, 8, 9]) (S.loop (fun m κ wj => ∃ (tv ta : Int) (tb : Bool) (σj : RSt), κ = [(0, pT rb), (4, pT b1), (5, pT b2), (7, iV tv), (8, iV ta), (9, .bool tb)] ∧ Xt n₀ [56, 43] w4 wj ∧ RunP n₀ rb md p w wj les σj ∧ (bnd (offeredS (evalS p.xs k) x (scOf hand hl rl) σ) fun t σ' => againL (evalS p.xs k) x (scOf hand hl rl) (σ.fuel + 1) t σ') = againL (evalS p.xs k) x (scOf hand hl rl) m (tv, ta, tb) σj ∧ σj.fuel + 1 ≤ m ∧ σj.fuel ≤ σ.fuel ∧ σj.evs.length + 8 * σj.fuel ≤ σ.evs.length + 8 * σ.fuel ∧ Rg tv ∧ Rg ta) (m₀ := σ.fuel + 1) ⟨v4, u4, t4, σ4, by kernel_rfl, Xt.refl _, PQ4, hEq0, by omega, by omega, by omega, hv4, hu4⟩ ?_)
  rintro m _ w11 ⟨tv, ta, tb, σj, rfl, E11, PJ, hEq, hm1, hm2, hm3, hrv, hru⟩
  obtain ⟨m, rfl⟩ : ∃ z, m = z + 1 := ⟨m - 1, by omega⟩
  have sE11 := E11.size
  cases tb with
  | false =>
   have hEq := hEq.trans (show againL (evalS p.xs k) x (scOf hand hl rl) (m + 1) (tv, ta, false) σj = (.val tv, σj) from rfl)
   refine S.seq (S.seq (S.region (S.run 1 [] [0, 4, 5, 7, 8, 18] (rs := []) (κ' := [(0, pT rb), (4, pT b1), (5, pT b2), (7, iV tv), (8, iV ta), (18, .bool false)]) (by kernel_rfl) (by kernel_rfl) rfl ?_)))
   refine S.regEnd (by kernel_rfl) (S.no (by kernel_rfl) (S.exit rfl (S.seq (S.region (S.run 2 [] [6] (rs := []) (κ' := [(6, iV tv)]) (by kernel_rfl) (by kernel_rfl) rfl ?_)))))
   refine S.regEnd (by kernel_rfl) ?_
   rw [hEq]
   exact S.ret1 (v := iV tv) rfl (by kernel_rfl) (⟨⟨rfl, hrv⟩, PJ⟩)
  | true =>
   have hEq := hEq.trans (show againL (evalS p.xs k) x (scOf hand hl rl) (m + 1) (tv, ta, true) σj = bnd (offeredS (evalS p.xs k) x (scOf ta hl rl) σj) fun t σ => againL (evalS p.xs k) x (scOf hand hl rl) m t σ from rfl)
   refine S.seq (S.seq (S.region (S.run 1 [] [0, 4, 5, 7, 8, 18] (rs := []) (κ' := [(0, pT rb), (4, pT b1), (5, pT b2), (7, iV tv), (8, iV ta), (18, .bool true)]) (by kernel_rfl) (by kernel_rfl) rfl ?_)))
   refine S.regEnd (by kernel_rfl) (S.yes (by kernel_rfl) (S.skip (S.block (S.drawN 13 #[false, false, false, false, false, false, false, false, false, false, false, false, false] 5 (fun u u' => Ext E0 u u') (fun u u' => Xt n₀ [56, 43] u u') (by kernel_rfl) (by kernel_rfl) (by kernel_rfl) (fun w12 E12 z12 => ?_)))))
   have sE12 := E12.size
   refine S.dreads bodyPost_panicOk [0, 3] 11 [] [0, 4, 5, 7, 8, 20, 23] (rs := []) (κ' := [(0, pT rb), (4, pT b1), (5, pT b2), (7, iV tv), (8, iV ta), (20, pT rb), (23, iV ta)]) (l' := #[true, false, false, true, false, false, false, false, false, false, false, false, false]) (by kernel_rfl) (by kernel_rfl) (by kernel_rfl) (fun _ _ => rfl) ?_
   have B13 := B3.xt X4 (by decide)
   have B14 := B13.xt E11 (by decide)
   have B15 := B14.ext0 E12
   refine S.dreads bodyPost_panicOk [1] 10 [.v (iV x.d.1), .v (iV x.d.2), .v (.slice x.a x.len x.cap)] [0, 4, 5, 7, 8, 20, 21, 23] (rs := [.load ⟨b1, 0, none⟩ (iV x.d.1), .load ⟨b1, 1, none⟩ (iV x.d.2), .load ⟨b1, 2, none⟩ (.slice x.a x.len x.cap)]) (κ' := [(0, pT rb), (4, pT b1), (5, pT b2), (7, iV tv), (8, iV ta), (20, pT rb), (21, .agg #[iV x.d.1, iV x.d.2, .slice x.a x.len x.cap]), (23, iV ta)]) (l' := #[true, true, false, true, false, false, false, false, false, false, false, false, false]) (by kernel_rfl) (by kernel_rfl) (by kernel_rfl) (fun w' hw => hw.elim (fun hw => (.load ((B15.ext0 hw).cell 0 rfl) (.load ((B15.ext0 hw).cell 1 rfl) (.load ((B15.ext0 hw).cell 2 rfl) .nil)))) (fun hw => (.load ((B15.xt hw (by decide)).cell 0 rfl) (.load ((B15.xt hw (by decide)).cell 1 rfl) (.load ((B15.xt hw (by decide)).cell 2 rfl) .nil))))) ?_
   have B16 := B2.xt X4 (by decide)
   have B17 := B16.xt E11 (by decide)
   have B18 := B17.ext0 E12
   refine S.dreads bodyPost_panicOk [2] 9 [.v (iV hand), .v (.pointer (hp hl)), .v (.pointer (rp rl))] [0, 4, 5, 7, 8, 20, 21, 22, 23] (rs := [.load ⟨b2, 0, none⟩ (iV hand), .load ⟨b2, 1, none⟩ (.pointer (hp hl)), .load ⟨b2, 2, none⟩ (.pointer (rp rl))]) (κ' := [(0, pT rb), (4, pT b1), (5, pT b2), (7, iV tv), (8, iV ta), (20, pT rb), (21, .agg #[iV x.d.1, iV x.d.2, .slice x.a x.len x.cap]), (22, .agg #[iV hand, .pointer (hp hl), .pointer (rp rl)]), (23, iV ta)]) (l' := #[true, true, true, true, false, false, false, false, false, false, false, false, false]) (by kernel_rfl) (by kernel_rfl) (by kernel_rfl) (fun w' hw => hw.elim (fun hw => (.load ((B18.ext0 hw).cell 0 rfl) (.load ((B18.ext0 hw).cell 1 rfl) (.load ((B18.ext0 hw).cell 2 rfl) .nil)))) (fun hw => (.load ((B18.xt hw (by decide)).cell 0 rfl) (.load ((B18.xt hw (by decide)).cell 1 rfl) (.load ((B18.xt hw (by decide)).cell 2 rfl) .nil))))) ?_
   refine S.dnext (j := 4) (l' := #[true, true, true, true, true, false, false, false, false, false, false, false, false]) (by kernel_rfl) (by kernel_rfl) (sw1 (by kernel_rfl) (Ext.refl _)) ?_
   refine S.call (dst := some 24) (f := 70) (args := #[.agg #[iV hand, .pointer (hp hl), .pointer (rp rl)], iV ta]) (by kernel_rfl) (by kernel_rfl) ((with_spec hand ta hl rl _).mono ?_)
   rintro _ w19 ⟨E19, rfl⟩
   refine After.ret (by kernel_rfl) ?_
   have sE19 := E19.size
   refine S.dnext (j := 5) (l' := #[true, true, true, true, true, true, false, false, false, false, false, false, false]) (by kernel_rfl) (by kernel_rfl) (sw1 (by kernel_rfl) E19) ?_
   have P21 := PJ.std (.of0 E12) (PJ.1.trans (.of0 E12))
   have P22 := P21.std (.of0 E19) (P21.1.trans (.of0 E19))
   obtain ⟨les20, hR20, back20⟩ := P22.open
   have N23 := N8.keeps (.ofX X4 (by decide) (by omega))
   have N24 := N23.keeps (.ofX E11 (by decide) (by omega))
   have N25 := N24.keeps (.of0 E12)
   have N26 := N25.keeps (.of0 E19)
   have T27 := T10.pres (.ofXn X4 (by omega))
   have T28 := T27.pres (.ofXn E11 (by omega))
   have T29 := T28.pres (.of0 E12)
   have T30 := T29.pres (.of0 E19)
   refine S.call (dst := some 25) (f := 75) (args := #[pT rb, .agg #[iV x.d.1, iV x.d.2, .slice x.a x.len x.cap], .agg #[iV ta, .pointer (hp hl), .pointer (rp rl)]]) (by kernel_rfl) (by kernel_rfl) ((offered_spec p k IH hpw n₀ rb md _ σj les20 x ta hl rl hR20 T30 hwf (N26.next (E' := 4992) hru (by omega) (by omega)) (by omega) (by omega)).mono ?_)
   rintro e20 w20 ⟨ho20, hP20⟩
   have PP20 : RunP n₀ rb md p w w20 les (offeredS (evalS p.xs k) x (scOf ta hl rl) σj).2 := back20 _ _ hP20; have X20 := hP20.1; have hfin20 : Fin 1 1 σj (offeredS (evalS p.xs k) x (scOf ta hl rl) σj) := fin_offered (fin_eval p.xs k) _ _ _; clear hP20
   obtain ⟨rr20, hr20⟩ : ∃ r, offeredS (evalS p.xs k) x (scOf ta hl rl) σj = r := ⟨_, rfl⟩
   rcases rr20 with ⟨o20, σ20⟩
   rw [hr20] at ho20 PP20 hfin20
   have PQ20 : RunP n₀ rb md p w w20 les σ20 := PP20; have hq20 : OutO rl o20 e20 := ho20
   clear PP20 ho20
   rcases outO_cases hq20 with ⟨v20, u20, t20, rfl, rfl, hv20, hu20⟩ | ⟨ch, rfl, o', hq', hb20⟩
   ·skip
    have hf20 := hfin20.val
    refine After.ret (by kernel_rfl) ?_
    have sX20 := X20.size
    refine S.dreads2 bodyPost_panicOk [6, 7, 8, 9, 10, 11, 12] 0 [] [0, 4, 5, 7, 8, 9] (rs := []) (κ' := [(0, pT rb), (4, pT b1), (5, pT b2), (7, iV v20), (8, iV u20), (9, .bool t20)]) (l' := #[true, true, true, true, true, true, true, true, true, true, true, true, true]) (by kernel_rfl) (by kernel_rfl) (by kernel_rfl) (by kernel_rfl) (fun w' hw => rfl) ?_
    refine S.dend (by kernel_rfl) (sw2 (by kernel_rfl) ((Xt.of0 E19).trans X20)) ?_
    refine S.out ?_
    have hEq2 : (bnd (offeredS (evalS p.xs k) x (scOf hand hl rl) σ) fun t σ' => againL (evalS p.xs k) x (scOf hand hl rl) (σ.fuel + 1) t σ' : Res Int) = againL (evalS p.xs k) x (scOf hand hl rl) m (v20, u20, t20) σ20 := by rw [hEq]; simp only [hr20, bnd_val]
    exact S.stop (fun _ hs hh hd => ⟨hs, hd, m, [(0, pT rb), (4, pT b1), (5, pT b2), (7, iV v20), (8, iV u20), (9, .bool t20)], by omega, hh, v20, u20, t20, σ20, by kernel_rfl, ((E11.trans (Xt.of0 E12)).trans (Xt.of0 E19)).trans X20, PQ20, hEq2, by omega, by omega, by omega, hv20, hu20⟩)
   ·skip
    have hs : (bnd (offeredS (evalS p.xs k) x (scOf hand hl rl) σ) fun t σ' => againL (evalS p.xs k) x (scOf hand hl rl) (σ.fuel + 1) t σ' : Res Int) = (o', σ20) := by rw [hEq]; simp only [hr20, hb20]
    exact fun _ _ _ hd => ⟨hd, by rw [hs]; exact ⟨hq', PQ20⟩⟩
 ·skip
  exact fun _ _ _ hd => ⟨hd, (by have hs : (bnd (offeredS (evalS p.xs k) x (scOf hand hl rl) σ) fun t σ' => againL (evalS p.xs k) x (scOf hand hl rl) (σ.fuel + 1) t σ' : Res Int) = (o', σ4) := (by simp only [hr4, hb4, bnd_val, bnd_bnd]); rw [hs]; exact ⟨hq', PQ4⟩)⟩

theorem op_guard (p : LP) (k : Nat) (IH : EvalC p k) (hpw : ∀ y, y ∈ p.xs → WfX p.xs.length y) (n₀ rb md : Nat) (w : World) (σ : RSt) (les : List LE) (x : X) (hand : Int) (hl : List H) (rl : List RR) (hR : RunE n₀ rb md p w σ les) (hx : XOk n₀ w x) (hwf : WfX p.xs.length x) (hS : ScOk p.xs.length n₀ 899 4992 w hand hl rl σ) (hk : σ.fuel ≤ k) (hlen : x.len = 2) :
    Calls Try.prog 57 #[pT rb, .agg #[iV x.d.1, iV x.d.2, .slice x.a x.len x.cap], .agg #[iV hand, .pointer (hp hl), .pointer (rp rl)]] w (Post n₀ rb md p w les rl (guardS (evalS p.xs k) x (scOf hand hl rl) σ)) := by
 refine calls_of_S (n := 33) Try.func57 rfl rfl (by kernel_rfl) ?_
 have hev0 := hS.ev; have hh0 := hS.h1; have hr0 := hS.r1; have hrg := hS.rg; have P0 := RunP.refl hR; have hn0 := P0.n0
 have hkl := hx.len
 refine S.seq (S.region (S.one (by kernel_rfl) (S.new 3 [pT rb] 52 (fun b => pT b) (by kernel_rfl) (by kernel_rfl) (fun b => by kernel_rfl) (fun b1 w1 E1 B1 e1 z1 => ?_))))
 have sE1 := E1.size
 refine S.one (by kernel_rfl) (S.new 4 [iV x.d.1, iV x.d.2, .slice x.a x.len x.cap] 60 (fun b => pT b) (by kernel_rfl) (by kernel_rfl) (fun b => by kernel_rfl) (fun b2 w2 E2 B2 e2 z2 => ?_))
 have sE2 := E2.size
 refine S.one (by kernel_rfl) (S.new 5 [iV hand, .pointer (hp hl), .pointer (rp rl)] 94 (fun b => pT b) (by kernel_rfl) (by kernel_rfl) (fun b => by kernel_rfl) (fun b3 w3 E3 B3 e3 z3 => ?_))
 have sE3 := E3.size
 refine S.run 1 [] [3, 4, 5] (rs := []) (κ' := [(3, pT b1), (4, pT b2), (5, pT b3)]) (by kernel_rfl) (by kernel_rfl) rfl ?_
 refine S.regEnd (by kernel_rfl) (S.seq (S.region (S.run 1 [] [3, 4, 5, 10] (rs := []) (κ' := [(3, pT b1), (4, pT b2), (5, pT b3), (10, .func (.func 77) #[] #[pT b1, pT b2, pT b3])]) (by kernel_rfl) (by kernel_rfl) rfl ?_)))
 have N4 := hS.keeps (.of0 E1)
 have N5 := N4.keeps (.of0 E2)
 have N6 := N5.keeps (.of0 E3)
 have P8 := P0.std (.of0 E1) (P0.1.trans (.of0 E1))
 have P9 := P8.std (.of0 E2) (P8.1.trans (.of0 E2))
 have P10 := P9.std (.of0 E3) (P9.1.trans (.of0 E3))
 obtain ⟨les7, hR7, back7⟩ := P10.open
 have B11 := B1.ext0 E2
 have B12 := B11.ext0 E3
 have B13 := B2.ext0 E3
 have T14 := hx.pres (.of0 E1)
 have T15 := T14.pres (.of0 E2)
 have T16 := T15.pres (.of0 E3)
 have hS7 : ScOk p.xs.length n₀ 900 5000 w3 hand hl rl σ := ((N6.next (E' := 5000) hrg (by omega) (by omega)).mono (by omega) (Nat.le_refl _))
 have hdo7 : ∀ w1, Ext E0 w3 w1 → CallsV Try.prog (callSem (.func (.func 77) #[] #[pT b1, pT b2, pT b3]) #[]) w1 (Post n₀ rb md p w1 les7 rl (evalS p.xs k (kid x 0) (scOf hand hl rl) σ)) := fun w1 E => callSem_func (fn := Try.f77) (by kernel_rfl) (guard1_spec p k IH hpw n₀ rb md w1 σ les7 x hand hl rl (hR7.ext0 E) (T16.pres (.of0 E)) hwf (hS7.keeps (.of0 E)) (by omega) b1 b2 b3 (B12.ext0 E) (B13.ext0 E) (B3.ext0 E) (by omega))
 refine S.one (by kernel_rfl) (S.call (dst := some 11) (f := 76) (args := #[.func (.func 77) #[] #[pT b1, pT b2, pT b3]]) (by kernel_rfl) (by kernel_rfl) ((held_spec n₀ rb md p _ les7 rl _ _ (by omega) hdo7).mono ?_))
 rintro e7 w7 ⟨hP, hm⟩
 have PP := back7 _ _ hP; have X7 := hP.1
 have hfin : Fin 0 1 σ (evalS p.xs k (kid x 0) (scOf hand hl rl) σ) := fin_eval p.xs k _ _ _
 obtain ⟨rr, hr⟩ : ∃ r, evalS p.xs k (kid x 0) (scOf hand hl rl) σ = r := ⟨_, rfl⟩
 rcases rr with ⟨o, σ2⟩
 rw [hr] at PP hm hfin
 have PQ : RunP n₀ rb md p w w7 les σ2 := PP
 clear PP
 cases o with
 | val v =>
  obtain ⟨rfl, hv⟩ := hm; have hf := hfin.val
  refine After.ret (by kernel_rfl) ?_
  have sX7 := X7.size
  refine S.run 5 [] [3, 4, 5, 7, 8] (rs := []) (κ' := [(3, pT b1), (4, pT b2), (5, pT b3), (7, iV v), (8, .pointer none)]) (by kernel_rfl) (by kernel_rfl) rfl ?_
  refine S.regEnd (by kernel_rfl) (S.seq (S.seq (S.region (S.run 2 [] [3, 4, 5, 7, 8, 15] (rs := []) (κ' := [(3, pT b1), (4, pT b2), (5, pT b3), (7, iV v), (8, .pointer none), (15, .bool false)]) (by kernel_rfl) (by kernel_rfl) rfl ?_))))
  refine S.regEnd (by kernel_rfl) (S.no (by kernel_rfl) (S.skip (S.seq (S.drawN 7 #[false, false, false, false, false, false, false] 6 (fun u u' => Ext E0 u u') (fun u u' => Xt n₀ [56, 43] u u') (by kernel_rfl) (by kernel_rfl) (by kernel_rfl) (fun w17 E17 z17 => ?_)))))
  have sE17 := E17.size
  have B18 := B12.xt X7 (by decide)
  have B19 := B18.ext0 E17
  refine S.dreads bodyPost_panicOk [0] 6 [.v (pT rb)] [4, 5, 7, 8, 19] (rs := [.load ⟨b1, 0, none⟩ (pT rb)]) (κ' := [(4, pT b2), (5, pT b3), (7, iV v), (8, .pointer none), (19, pT rb)]) (l' := #[true, false, false, false, false, false, false]) (by kernel_rfl) (by kernel_rfl) (by kernel_rfl) (fun w' hw => hw.elim (fun hw => (.load ((B19.ext0 hw).cell 0 rfl) .nil)) (fun hw => (.load ((B19.xt hw (by decide)).cell 0 rfl) .nil))) ?_
  refine S.dreads bodyPost_panicOk [1] 5 [] [5, 7, 8, 19, 20] (rs := []) (κ' := [(5, pT b3), (7, iV v), (8, .pointer none), (19, pT rb), (20, .pointer (some ⟨b2, 2, none⟩))]) (l' := #[true, true, false, false, false, false, false]) (by kernel_rfl) (by kernel_rfl) (by kernel_rfl) (fun _ _ => rfl) ?_
  have B20 := B13.xt X7 (by decide)
  have B21 := B20.ext0 E17
  refine S.dreads bodyPost_panicOk [2] 4 [.v (.slice x.a x.len x.cap)] [5, 7, 8, 19, 21] (rs := [.load ⟨b2, 2, none⟩ (.slice x.a x.len x.cap)]) (κ' := [(5, pT b3), (7, iV v), (8, .pointer none), (19, pT rb), (21, .slice x.a x.len x.cap)]) (l' := #[true, true, true, false, false, false, false]) (by kernel_rfl) (by kernel_rfl) (by kernel_rfl) (fun w' hw => hw.elim (fun hw => (.load ((B21.ext0 hw).cell 2 rfl) .nil)) (fun hw => (.load ((B21.xt hw (by decide)).cell 2 rfl) .nil))) ?_
  have B22 := B3.xt X7 (by decide)
  have B23 := B22.ext0 E17
  refine S.dreads bodyPost_panicOk [5] 3 [.v (iV hand), .v (.pointer (hp hl)), .v (.pointer (rp rl))] [7, 8, 19, 21, 24] (rs := [.load ⟨b3, 0, none⟩ (iV hand), .load ⟨b3, 1, none⟩ (.pointer (hp hl)), .load ⟨b3, 2, none⟩ (.pointer (rp rl))]) (κ' := [(7, iV v), (8, .pointer none), (19, pT rb), (21, .slice x.a x.len x.cap), (24, .agg #[iV hand, .pointer (hp hl), .pointer (rp rl)])]) (l' := #[true, true, true, false, false, true, false]) (by kernel_rfl) (by kernel_rfl) (by kernel_rfl) (fun w' hw => hw.elim (fun hw => (.load ((B23.ext0 hw).cell 0 rfl) (.load ((B23.ext0 hw).cell 1 rfl) (.load ((B23.ext0 hw).cell 2 rfl) .nil)))) (fun hw => (.load ((B23.xt hw (by decide)).cell 0 rfl) (.load ((B23.xt hw (by decide)).cell 1 rfl) (.load ((B23.xt hw (by decide)).cell 2 rfl) .nil))))) ?_
  have R24 := hx.row.pres (.of0 E1)
  have R25 := R24.pres (.of0 E2)
  have R26 := R25.pres (.of0 E3)
  have R27 := R26.pres (.ofXn X7 (by omega))
  have R28 := R27.pres (.of0 E17)
  obtain ⟨x29, b29, o29, hx29, h29, H29⟩ := R28.get 1 (by omega)
  have T30 := T16.pres (.ofXn X7 (by omega))
  have T31 := T30.pres (.of0 E17)
  have K29 := T31.kid (List.mem_of_getElem? hx29)
  have W29 := hwf.kid (List.mem_of_getElem? hx29)
  have hkid29 := kid_eq hx29
  refine S.dlaw bodyPost_panicOk 3 22 2 (v := .pointer (some ⟨b29, o29 + 1 * 3, none⟩)) (l' := #[true, true, true, true, false, true, false]) (by kernel_rfl) (by kernel_rfl) (by kernel_rfl) (by kernel_rfl) (fun w' hw => lawRun (s := Instr.indexAt 22 (.slice x.a x.len x.cap) (.int .i64 ((1 : Nat) : Int))) (by kernel_rfl) (run_idx (e := 60) 1 h29 (by kernel_rfl) (by kernel_rfl) (by omega))) ?_
  refine S.dreads bodyPost_panicOk [4] 1 [.v (iV x29.d.1), .v (iV x29.d.2), .v (.slice x29.a x29.len x29.cap)] [7, 8, 19, 23, 24] (rs := [.load ⟨b29, o29 + 1 * 3, none⟩ (iV x29.d.1), .load ⟨b29, o29 + 1 * 3 + 1, none⟩ (iV x29.d.2), .load ⟨b29, o29 + 1 * 3 + 2, none⟩ (.slice x29.a x29.len x29.cap)]) (κ' := [(7, iV v), (8, .pointer none), (19, pT rb), (23, .agg #[iV x29.d.1, iV x29.d.2, .slice x29.a x29.len x29.cap]), (24, .agg #[iV hand, .pointer (hp hl), .pointer (rp rl)])]) (l' := #[true, true, true, true, true, true, false]) (by kernel_rfl) (by kernel_rfl) (by kernel_rfl) (fun w' hw => hw.elim (fun hw => (.load ((H29.pres (.of0 hw)).cell0 rfl) (.load ((H29.pres (.of0 hw)).cell 1 rfl) (.load ((H29.pres (.of0 hw)).cell 2 rfl) .nil)))) (fun hw => (.load ((H29.pres (.ofXn hw (by omega))).cell0 rfl) (.load ((H29.pres (.ofXn hw (by omega))).cell 1 rfl) (.load ((H29.pres (.ofXn hw (by omega))).cell 2 rfl) .nil))))) ?_
  refine S.dnext (j := 6) (l' := #[true, true, true, true, true, true, true]) (by kernel_rfl) (by kernel_rfl) (sw1 (by kernel_rfl) (Ext.refl _)) ?_
  have P33 := PQ.std (.of0 E17) (PQ.1.trans (.of0 E17))
  obtain ⟨les32, hR32, back32⟩ := P33.open
  have N34 := N6.keeps (.ofX X7 (by decide) (by omega))
  have N35 := N34.keeps (.of0 E17)
  refine S.call (dst := some 25) (f := 59) (args := #[pT rb, .agg #[iV x29.d.1, iV x29.d.2, .slice x29.a x29.len x29.cap], .agg #[iV hand, .pointer (hp hl), .pointer (rp rl)]]) (by kernel_rfl) (by kernel_rfl) ((IH n₀ rb md _ σ2 les32 x29 hand hl rl hR32 K29 W29 ((N35.next (E' := 5000) hrg (by omega) (by omega)).mono (by omega) (Nat.le_refl _)) (by omega)).mono ?_)
  rintro e32 w32 ⟨ho32, hP32⟩
  have PP32 : RunP n₀ rb md p w w32 les (evalS p.xs k x29 (scOf hand hl rl) σ2).2 := back32 _ _ hP32; have X32 := hP32.1; have hfin32 : Fin 0 1 σ2 (evalS p.xs k x29 (scOf hand hl rl) σ2) := fin_eval p.xs k _ _ _; have ho32 : OutE rl (evalS p.xs k x29 (scOf hand hl rl) σ2).1 e32 := ho32; have hP32 : RunP n₀ rb md p w17 w32 les32 (evalS p.xs k x29 (scOf hand hl rl) σ2).2 := hP32
  rcases hr32 : evalS p.xs k x29 (scOf hand hl rl) σ2 with ⟨o32, σ32⟩
  rw [hr32] at ho32 PP32 hfin32 hP32
  have PQ32 : RunP n₀ rb md p w w32 les σ32 := PP32; have hq32 : OutE rl o32 e32 := ho32; have PR32 : RunP n₀ rb md p w17 w32 les32 σ32 := hP32
  clear PP32 ho32 hP32
  rcases outE_cases hq32 with ⟨v32, rfl, rfl, hv32⟩ | ⟨ch, rfl, hb32, hn32⟩
  ·skip
   have hf32 := hfin32.val
   refine After.ret (by kernel_rfl) ?_
   have sX32 := X32.size
   refine S.dend (by kernel_rfl) (sw2 (by kernel_rfl) X32) ?_
   refine S.seq (S.seq (S.region (S.run 2 [] [7, 8, 27] (rs := []) (κ' := [(7, iV v), (8, .pointer none), (27, .bool false)]) (by kernel_rfl) (by kernel_rfl) rfl ?_)))
   refine S.regEnd (by kernel_rfl) (S.no (by kernel_rfl) (S.skip (S.seq (S.region (S.run 2 [] [6] (rs := []) (κ' := [(6, iV v)]) (by kernel_rfl) (by kernel_rfl) rfl ?_)))))
   refine S.regEnd (by kernel_rfl) ?_
   have hs : (guardS (evalS p.xs k) x (scOf hand hl rl) σ : Res Int) = (.val v, σ32) := by simp only [hr, hkid29, hr32, bnd_val, bnd_bnd, guardS]
   rw [hs]
   exact S.ret1 (v := iV v) rfl (by kernel_rfl) (⟨⟨rfl, hv⟩, PQ32⟩)
  ·skip
   exact fun _ _ _ hd => ⟨hd, (by have hs : (guardS (evalS p.xs k) x (scOf hand hl rl) σ : Res Int) = (o32, σ32) := (by simp only [hr, hkid29, hr32, hb32, bnd_val, bnd_bnd, guardS]); rw [hs]; exact ⟨hq32, PQ32⟩)⟩
 | leave d v =>
  obtain ⟨hv, bq, m, b', h1, rfl, hB', hb'⟩ := hm; have hf : σ2.evs.length + 8 * σ2.fuel ≤ σ.evs.length + 8 * σ.fuel + 0 ∧ σ2.fuel + 1 ≤ σ.fuel := hfin
  refine After.ret (by kernel_rfl) ?_
  have sX7 := X7.size
  refine S.run 5 [] [3, 4, 5, 7, 8] (rs := []) (κ' := [(3, pT b1), (4, pT b2), (5, pT b3), (7, iV 0), (8, pT b')]) (by kernel_rfl) (by kernel_rfl) rfl ?_
  refine S.regEnd (by kernel_rfl) (S.seq (S.seq (S.region (S.run 2 [] [3, 4, 5, 7, 8, 15] (rs := []) (κ' := [(3, pT b1), (4, pT b2), (5, pT b3), (7, iV 0), (8, pT b'), (15, .bool true)]) (by kernel_rfl) (by kernel_rfl) rfl ?_))))
  refine S.regEnd (by kernel_rfl) (S.yes (by kernel_rfl) (S.region ?_))
  have B36 := B12.xt X7 (by decide)
  have B37 := B3.xt X7 (by decide)
  refine S.run 2 [.v (pT rb), .v (iV hand), .v (.pointer (hp hl)), .v (.pointer (rp rl))] [3, 4, 5, 7, 8, 16, 17] (rs := [.load ⟨b1, 0, none⟩ (pT rb), .load ⟨b3, 0, none⟩ (iV hand), .load ⟨b3, 1, none⟩ (.pointer (hp hl)), .load ⟨b3, 2, none⟩ (.pointer (rp rl))]) (κ' := [(3, pT b1), (4, pT b2), (5, pT b3), (7, iV 0), (8, pT b'), (16, pT rb), (17, .agg #[iV hand, .pointer (hp hl), .pointer (rp rl)])]) (by kernel_rfl) (by kernel_rfl) (.load (B36.cell 0 rfl) (.load (B37.cell 0 rfl) (.load (B37.cell 1 rfl) (.load (B37.cell 2 rfl) .nil)))) ?_
  obtain ⟨les38, ⟨ea38, ec38, ka38, kc38, hR38⟩, back38⟩ := PQ.open
  have N39 := N6.keeps (.ofX X7 (by decide) (by omega))
  have hS38 : ScOk p.xs.length n₀ 900 5000 _ hand hl rl σ2 := ((N39.next (E' := 5000) hrg (by omega) (by omega)).mono (by omega) (Nat.le_refl _))
  have hS38a := hS38.h1; have hS38b := hS38.r1; have hS38c := hS38.ev; have hS38d := congrArg List.length hR38.eq; rw [List.length_map] at hS38d
  refine S.one (by kernel_rfl) (S.call (dst := some 18) (f := 69) (args := #[pT rb, .agg #[iV hand, .pointer (hp hl), .pointer (rp rl)], iV 5, iV 0, iV 0]) (by kernel_rfl) (by kernel_rfl) ((tell_spec n₀ rb md p _ σ2 ea38 ec38 les38 ka38 kc38 hR38 hand 5 0 0 hl rl hS38.hc hS38.rc (by omega) (by omega) (by omega)).mono ?_))
  rintro _ w38 ⟨rfl, X38, ea', ec', xx, hR', hge⟩
  refine After.ret (by kernel_rfl) ?_
  have PP38 : RunP n₀ rb md p w w38 les (tellS (scOf hand hl rl) 5 0 0 σ2) := back38 _ _ ⟨X38, [xx], ⟨_, _, _, _, by rw [tellS_ev]; exact hR'⟩, fun e he => by rw [List.mem_singleton.1 he]; exact hge⟩
  have tl38 := tell_len (scOf hand hl rl) 5 0 0 σ2
  have sX38 := X38.size
  refine S.regEnd (by kernel_rfl) (S.seq (S.drawN 7 #[false, false, false, false, false, false, false] 6 (fun u u' => Ext E0 u u') (fun u u' => Xt n₀ [56, 43] u u') (by kernel_rfl) (by kernel_rfl) (by kernel_rfl) (fun w40 E40 z40 => ?_)))
  have sE40 := E40.size
  have B41 := B36.xt X38 (by decide)
  have B42 := B41.ext0 E40
  refine S.dreads bodyPost_panicOk [0] 6 [.v (pT rb)] [4, 5, 7, 8, 19] (rs := [.load ⟨b1, 0, none⟩ (pT rb)]) (κ' := [(4, pT b2), (5, pT b3), (7, iV 0), (8, pT b'), (19, pT rb)]) (l' := #[true, false, false, false, false, false, false]) (by kernel_rfl) (by kernel_rfl) (by kernel_rfl) (fun w' hw => hw.elim (fun hw => (.load ((B42.ext0 hw).cell 0 rfl) .nil)) (fun hw => (.load ((B42.xt hw (by decide)).cell 0 rfl) .nil))) ?_
  refine S.dreads bodyPost_panicOk [1] 5 [] [5, 7, 8, 19, 20] (rs := []) (κ' := [(5, pT b3), (7, iV 0), (8, pT b'), (19, pT rb), (20, .pointer (some ⟨b2, 2, none⟩))]) (l' := #[true, true, false, false, false, false, false]) (by kernel_rfl) (by kernel_rfl) (by kernel_rfl) (fun _ _ => rfl) ?_
  have B43 := B13.xt X7 (by decide)
  have B44 := B43.xt X38 (by decide)
  have B45 := B44.ext0 E40
  refine S.dreads bodyPost_panicOk [2] 4 [.v (.slice x.a x.len x.cap)] [5, 7, 8, 19, 21] (rs := [.load ⟨b2, 2, none⟩ (.slice x.a x.len x.cap)]) (κ' := [(5, pT b3), (7, iV 0), (8, pT b'), (19, pT rb), (21, .slice x.a x.len x.cap)]) (l' := #[true, true, true, false, false, false, false]) (by kernel_rfl) (by kernel_rfl) (by kernel_rfl) (fun w' hw => hw.elim (fun hw => (.load ((B45.ext0 hw).cell 2 rfl) .nil)) (fun hw => (.load ((B45.xt hw (by decide)).cell 2 rfl) .nil))) ?_
  have B46 := B37.xt X38 (by decide)
  have B47 := B46.ext0 E40
  refine S.dreads bodyPost_panicOk [5] 3 [.v (iV hand), .v (.pointer (hp hl)), .v (.pointer (rp rl))] [7, 8, 19, 21, 24] (rs := [.load ⟨b3, 0, none⟩ (iV hand), .load ⟨b3, 1, none⟩ (.pointer (hp hl)), .load ⟨b3, 2, none⟩ (.pointer (rp rl))]) (κ' := [(7, iV 0), (8, pT b'), (19, pT rb), (21, .slice x.a x.len x.cap), (24, .agg #[iV hand, .pointer (hp hl), .pointer (rp rl)])]) (l' := #[true, true, true, false, false, true, false]) (by kernel_rfl) (by kernel_rfl) (by kernel_rfl) (fun w' hw => hw.elim (fun hw => (.load ((B47.ext0 hw).cell 0 rfl) (.load ((B47.ext0 hw).cell 1 rfl) (.load ((B47.ext0 hw).cell 2 rfl) .nil)))) (fun hw => (.load ((B47.xt hw (by decide)).cell 0 rfl) (.load ((B47.xt hw (by decide)).cell 1 rfl) (.load ((B47.xt hw (by decide)).cell 2 rfl) .nil))))) ?_
  have R48 := hx.row.pres (.of0 E1)
  have R49 := R48.pres (.of0 E2)
  have R50 := R49.pres (.of0 E3)
  have R51 := R50.pres (.ofXn X7 (by omega))
  have R52 := R51.pres (.ofXn X38 (by omega))
  have R53 := R52.pres (.of0 E40)
  obtain ⟨x54, b54, o54, hx54, h54, H54⟩ := R53.get 1 (by omega)
  have T55 := T16.pres (.ofXn X7 (by omega))
  have T56 := T55.pres (.ofXn X38 (by omega))
  have T57 := T56.pres (.of0 E40)
  have K54 := T57.kid (List.mem_of_getElem? hx54)
  have W54 := hwf.kid (List.mem_of_getElem? hx54)
  have hkid54 := kid_eq hx54
  refine S.dlaw bodyPost_panicOk 3 22 2 (v := .pointer (some ⟨b54, o54 + 1 * 3, none⟩)) (l' := #[true, true, true, true, false, true, false]) (by kernel_rfl) (by kernel_rfl) (by kernel_rfl) (by kernel_rfl) (fun w' hw => lawRun (s := Instr.indexAt 22 (.slice x.a x.len x.cap) (.int .i64 ((1 : Nat) : Int))) (by kernel_rfl) (run_idx (e := 60) 1 h54 (by kernel_rfl) (by kernel_rfl) (by omega))) ?_
  refine S.dreads bodyPost_panicOk [4] 1 [.v (iV x54.d.1), .v (iV x54.d.2), .v (.slice x54.a x54.len x54.cap)] [7, 8, 19, 23, 24] (rs := [.load ⟨b54, o54 + 1 * 3, none⟩ (iV x54.d.1), .load ⟨b54, o54 + 1 * 3 + 1, none⟩ (iV x54.d.2), .load ⟨b54, o54 + 1 * 3 + 2, none⟩ (.slice x54.a x54.len x54.cap)]) (κ' := [(7, iV 0), (8, pT b'), (19, pT rb), (23, .agg #[iV x54.d.1, iV x54.d.2, .slice x54.a x54.len x54.cap]), (24, .agg #[iV hand, .pointer (hp hl), .pointer (rp rl)])]) (l' := #[true, true, true, true, true, true, false]) (by kernel_rfl) (by kernel_rfl) (by kernel_rfl) (fun w' hw => hw.elim (fun hw => (.load ((H54.pres (.of0 hw)).cell0 rfl) (.load ((H54.pres (.of0 hw)).cell 1 rfl) (.load ((H54.pres (.of0 hw)).cell 2 rfl) .nil)))) (fun hw => (.load ((H54.pres (.ofXn hw (by omega))).cell0 rfl) (.load ((H54.pres (.ofXn hw (by omega))).cell 1 rfl) (.load ((H54.pres (.ofXn hw (by omega))).cell 2 rfl) .nil))))) ?_
  refine S.dnext (j := 6) (l' := #[true, true, true, true, true, true, true]) (by kernel_rfl) (by kernel_rfl) (sw1 (by kernel_rfl) (Ext.refl _)) ?_
  have P59 := PP38.std (.of0 E40) (PP38.1.trans (.of0 E40))
  obtain ⟨les58, hR58, back58⟩ := P59.open
  have N60 := N39.keeps (.ofX X38 (by decide) (by omega))
  have N61 := N60.keeps (.of0 E40)
  refine S.call (dst := some 25) (f := 59) (args := #[pT rb, .agg #[iV x54.d.1, iV x54.d.2, .slice x54.a x54.len x54.cap], .agg #[iV hand, .pointer (hp hl), .pointer (rp rl)]]) (by kernel_rfl) (by kernel_rfl) ((IH n₀ rb md _ (tellS (scOf hand hl rl) 5 0 0 σ2) les58 x54 hand hl rl hR58 K54 W54 ((N61.next (E' := 5000) hrg (by omega) (by omega)).mono (by omega) (Nat.le_refl _)) (by omega)).mono ?_)
  rintro e58 w58 ⟨ho58, hP58⟩
  have PP58 : RunP n₀ rb md p w w58 les (evalS p.xs k x54 (scOf hand hl rl) (tellS (scOf hand hl rl) 5 0 0 σ2)).2 := back58 _ _ hP58; have X58 := hP58.1; have hfin58 : Fin 0 1 (tellS (scOf hand hl rl) 5 0 0 σ2) (evalS p.xs k x54 (scOf hand hl rl) (tellS (scOf hand hl rl) 5 0 0 σ2)) := fin_eval p.xs k _ _ _; have ho58 : OutE rl (evalS p.xs k x54 (scOf hand hl rl) (tellS (scOf hand hl rl) 5 0 0 σ2)).1 e58 := ho58; have hP58 : RunP n₀ rb md p w40 w58 les58 (evalS p.xs k x54 (scOf hand hl rl) (tellS (scOf hand hl rl) 5 0 0 σ2)).2 := hP58
  rcases hr58 : evalS p.xs k x54 (scOf hand hl rl) (tellS (scOf hand hl rl) 5 0 0 σ2) with ⟨o58, σ58⟩
  rw [hr58] at ho58 PP58 hfin58 hP58
  have PQ58 : RunP n₀ rb md p w w58 les σ58 := PP58; have hq58 : OutE rl o58 e58 := ho58; have PR58 : RunP n₀ rb md p w40 w58 les58 σ58 := hP58
  clear PP58 ho58 hP58
  rcases outE_cases hq58 with ⟨v58, rfl, rfl, hv58⟩ | ⟨ch, rfl, hb58, hn58⟩
  ·skip
   have hf58 := hfin58.val
   refine After.ret (by kernel_rfl) ?_
   have sX58 := X58.size
   refine S.dend (by kernel_rfl) (sw2 (by kernel_rfl) X58) ?_
   refine S.seq (S.seq (S.region (S.run 2 [] [7, 8, 27] (rs := []) (κ' := [(7, iV 0), (8, pT b'), (27, .bool true)]) (by kernel_rfl) (by kernel_rfl) rfl ?_)))
   refine S.regEnd (by kernel_rfl) (S.yes (by kernel_rfl) (S.region ?_))
   have B62 := hB'.xt X38 (by decide)
   have B63 := B62.ext0 E40
   have B64 := B63.xt X58 (by decide)
   refine S.run 4 [.v (pT bq), .v (iV v)] [7, 31] (rs := [.load ⟨b', 0, none⟩ (pT bq), .load ⟨b', 1, none⟩ (iV v)]) (κ' := [(7, iV 0), (31, .iface 123 (.agg #[pT bq, iV v]))]) (by kernel_rfl) (by kernel_rfl) (.load (B64.cell 0 rfl) (.load (B64.cell 1 rfl) .nil)) ?_
   refine S.one (by kernel_rfl) (S.panics (dst := none) (v := .iface 123 (.agg #[pT bq, iV v])) (by kernel_rfl) (by kernel_rfl) ?_)
   have hs : (guardS (evalS p.xs k) x (scOf hand hl rl) σ : Res Int) = (.leave d v, σ58) := by simp only [hr, hkid54, hr58, bnd_val, guardS]
   exact fun _ _ _ hd => ⟨hd, by rw [hs]; exact ⟨⟨hv, bq, m, [], h1, fun e he => by simp at he, rfl⟩, PQ58⟩⟩
  ·skip
   exact fun _ _ _ hd => ⟨hd, (by have hs : (guardS (evalS p.xs k) x (scOf hand hl rl) σ : Res Int) = (o58, σ58) := (by simp only [hr, hkid54, hr58, hb58, bnd_val, bnd_bnd, guardS]); rw [hs]; exact ⟨hq58, PQ58⟩)⟩
 | stop c =>
  obtain ⟨rest, h2, rfl⟩ := hm
  have hs : (guardS (evalS p.xs k) x (scOf hand hl rl) σ : Res Int) = (.stop c, σ2) := by simp only [guardS, hr]
  exact fun _ _ _ hd => ⟨hd, by rw [hs]; exact ⟨⟨rest, h2, rfl⟩, PQ⟩⟩

end Go.Proofs.Ytmgakpnejbembaa
