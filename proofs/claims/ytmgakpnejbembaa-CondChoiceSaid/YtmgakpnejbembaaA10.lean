/-
  CondChoice, a part of the proof (printed by a program of the prover): what functions of the given program compute, each under the conditions that its theorem names.
-/
import Derived.Test.YtmgakpnejbembaaA9
namespace Go.Proofs.Ytmgakpnejbembaa
open Go Go.Proofs.Ytmgakpnejbembaa.L

def OutU (rl : List RR) : Out Unit → Ending → Prop
  | .val _, e => e = .returned (.tuple #[])
  | .leave d v, e => OutE rl (.leave d v) e
  | .stop c, e => OutE rl (.stop c) e
def PostU (n₀ rb md : Nat) (p : LP) (w : World) (les : List LE) (rl : List RR) (r : Res Unit) : Ending → World → Prop := fun e w' => OutU rl r.1 e ∧ RunP n₀ rb md p w w' les r.2
theorem outU_of {rl : List RR} {o : Out Int} {e : Ending} (h : OutE rl o e) (hv : ∀ v, o ≠ .val v) : ∀ (σ : RSt) (f : Int → RSt → Res Unit), OutU rl (bnd (o, σ) f).1 e ∧ (bnd (o, σ) f).2 = σ := by
  intro σ f
  cases o with
  | val v => exact (hv v rfl).elim
  | leave d v => exact ⟨h, rfl⟩
  | stop c => exact ⟨h, rfl⟩
theorem outU_cases {rl : List RR} {o : Out Unit} {e : Ending} (h : OutU rl o e) : (∃ v, o = .val v ∧ e = .returned (.tuple #[])) ∨ (∃ ch, e = .panicked ch ∧ ∃ o' : Out Int, OutE rl o' e ∧ (∀ v, o' ≠ .val v) ∧ ∀ (σ : RSt) (f : Unit → RSt → Res Int), bnd (o, σ) f = (o', σ)) := by
  cases o with
  | val v => exact .inl ⟨v, rfl, h⟩
  | leave d v =>
    have h' := h
    obtain ⟨_, _, _, _, _, _, h⟩ := h; exact .inr ⟨_, h, .leave d v, h', fun _ h => (by cases h), fun _ _ => rfl⟩
  | stop c =>
    have h' := h
    obtain ⟨_, _, h⟩ := h; exact .inr ⟨_, h, .stop c, h', fun _ h => (by cases h), fun _ _ => rfl⟩
theorem raise_nil {ev : EvF} {rs : List Int} {n val : Int} {σ : RSt} : raiseL ev rs n val (List.map (·.2) ([] : List H)) σ = (.val (), σ) := rfl
theorem raise_hit {ev : EvF} {rs : List Int} {n val : Int} {σ : RSt} {h : H} {r : List H} (c : h.2.1 = n ∨ h.2.1 = -1) : raiseL ev rs n val (List.map (·.2) (h :: r)) σ = bnd (ev h.2.2 ⟨val, List.map (·.2) r, rs⟩ (tellS ⟨val, List.map (·.2) r, rs⟩ 3 h.2.1 val σ)) fun _ σ => raiseL ev rs n val (List.map (·.2) r) σ := by
  simp only [List.map_cons, raiseL, if_pos c]
theorem raise_miss {ev : EvF} {rs : List Int} {n val : Int} {σ : RSt} {h : H} {r : List H} (c : ¬ (h.2.1 = n ∨ h.2.1 = -1)) : raiseL ev rs n val (List.map (·.2) (h :: r)) σ = raiseL ev rs n val (List.map (·.2) r) σ := by
  simp only [List.map_cons, raiseL, if_neg c]

theorem choice_spec (p : LP) (n₀ rb md : Nat) (w : World) (σ : RSt) (les : List LE) (hand : Int) (hl : List H) (rl : List RR) (hR : RunE n₀ rb md p w σ les) (hS : ScOk p.xs.length n₀ 900 5000 w hand hl rl σ) (val m : Int) (bt d : Nat) (q : Option Addr) (hvr : Rg val) (hto : Blk w bt [.pointer q, .int .i64 m] 117) (hdep : rl.reverse[d]? = some (bt, m)) :
    Calls Try.prog 74 #[pT rb, .agg #[iV hand, .pointer (hp hl), .pointer (rp rl)], pT bt, iV val] w (Post n₀ rb md p w les rl (choiceS (scOf hand hl rl) d m val σ)) := by
 refine calls_of_S (n := 21) Try.func74 rfl rfl (by kernel_rfl) ?_
 have hev0 := hS.ev; have hh0 := hS.h1; have hr0 := hS.r1; have hrg := hS.rg; have P0 := RunP.refl hR; have hn0 := P0.n0
 refine S.seq (S.region (S.one (by kernel_rfl) (S.new 5 [iV hand, .pointer (hp hl), .pointer (rp rl)] 94 (fun b => pT b) (by kernel_rfl) (by kernel_rfl) (fun b => by kernel_rfl) (fun b1 w1 E1 B1 e1 z1 => ?_))))
 have sE1 := E1.size
 refine S.run 1 [] [0, 2, 3, 5, 8] (rs := []) (κ' := [(0, pT rb), (2, pT bt), (3, iV val), (5, pT b1), (8, iV 0)]) (by kernel_rfl) (by kernel_rfl) rfl ?_
 refine S.regEnd (by kernel_rfl) (S.seq (S.drawN 8 #[false, false, false, false, false, false, false, false] 7 (fun u u' => Ext E0 u u') (fun u u' => Xt n₀ [56, 43] u u') (by kernel_rfl) (by kernel_rfl) (by kernel_rfl) (fun w2 E2 z2 => ?_)))
 have sE2 := E2.size
 refine S.dreads bodyPost_panicOk [0, 2, 3, 4, 6] 3 [] [2, 3, 5, 8, 9, 13, 15] (rs := []) (κ' := [(2, pT bt), (3, iV val), (5, pT b1), (8, iV 0), (9, pT rb), (13, .pointer (some ⟨bt, 1, none⟩)), (15, iV val)]) (l' := #[true, false, true, true, true, false, true, false]) (by kernel_rfl) (by kernel_rfl) (by kernel_rfl) (fun _ _ => rfl) ?_
 have B3 := B1.ext0 E2
 refine S.dreads bodyPost_panicOk [1] 2 [.v (iV hand), .v (.pointer (hp hl)), .v (.pointer (rp rl))] [2, 3, 8, 9, 10, 13, 15] (rs := [.load ⟨b1, 0, none⟩ (iV hand), .load ⟨b1, 1, none⟩ (.pointer (hp hl)), .load ⟨b1, 2, none⟩ (.pointer (rp rl))]) (κ' := [(2, pT bt), (3, iV val), (8, iV 0), (9, pT rb), (10, .agg #[iV hand, .pointer (hp hl), .pointer (rp rl)]), (13, .pointer (some ⟨bt, 1, none⟩)), (15, iV val)]) (l' := #[true, true, true, true, true, false, true, false]) (by kernel_rfl) (by kernel_rfl) (by kernel_rfl) (fun w' hw => hw.elim (fun hw => (.load ((B3.ext0 hw).cell 0 rfl) (.load ((B3.ext0 hw).cell 1 rfl) (.load ((B3.ext0 hw).cell 2 rfl) .nil)))) (fun hw => (.load ((B3.xt hw (by decide)).cell 0 rfl) (.load ((B3.xt hw (by decide)).cell 1 rfl) (.load ((B3.xt hw (by decide)).cell 2 rfl) .nil))))) ?_
 have B4 := hto.ext0 E1
 have B5 := B4.ext0 E2
 refine S.dreads bodyPost_panicOk [5] 1 [.v (iV m)] [2, 3, 8, 9, 10, 14, 15] (rs := [.load ⟨bt, 1, none⟩ (iV m)]) (κ' := [(2, pT bt), (3, iV val), (8, iV 0), (9, pT rb), (10, .agg #[iV hand, .pointer (hp hl), .pointer (rp rl)]), (14, iV m), (15, iV val)]) (l' := #[true, true, true, true, true, true, true, false]) (by kernel_rfl) (by kernel_rfl) (by kernel_rfl) (fun w' hw => hw.elim (fun hw => (.load ((B5.ext0 hw).cell 1 rfl) .nil)) (fun hw => (.load ((B5.xt hw (by decide)).cell 1 rfl) .nil))) ?_
 refine S.dnext (j := 7) (l' := #[true, true, true, true, true, true, true, true]) (by kernel_rfl) (by kernel_rfl) (sw1 (by kernel_rfl) (Ext.refl _)) ?_
 have P7 := P0.std (.of0 E1) (P0.1.trans (.of0 E1))
 have P8 := P7.std (.of0 E2) (P7.1.trans (.of0 E2))
 obtain ⟨les6, ⟨ea6, ec6, ka6, kc6, hR6⟩, back6⟩ := P8.open
 have N9 := hS.keeps (.of0 E1)
 have N10 := N9.keeps (.of0 E2)
 have hS6 : ScOk p.xs.length n₀ 900 5000 _ hand hl rl σ := ((N10.next (E' := 5000) hrg (by omega) (by omega)).mono (by omega) (Nat.le_refl _))
 have hS6a := hS6.h1; have hS6b := hS6.r1; have hS6c := hS6.ev; have hS6d := congrArg List.length hR6.eq; rw [List.length_map] at hS6d
 refine S.call (dst := some 16) (f := 69) (args := #[pT rb, .agg #[iV hand, .pointer (hp hl), .pointer (rp rl)], iV 4, iV m, iV val]) (by kernel_rfl) (by kernel_rfl) ((tell_spec n₀ rb md p _ σ ea6 ec6 les6 ka6 kc6 hR6 hand 4 m val hl rl hS6.hc hS6.rc (by omega) (by omega) (by omega)).mono ?_)
 rintro _ w6 ⟨rfl, X6, ea', ec', xx, hR', hge⟩
 refine After.ret (by kernel_rfl) ?_
 have PP6 : RunP n₀ rb md p w w6 les (tellS (scOf hand hl rl) 4 m val σ) := back6 _ _ ⟨X6, [xx], ⟨_, _, _, _, by rw [tellS_ev]; exact hR'⟩, fun e he => by rw [List.mem_singleton.1 he]; exact hge⟩
 have tl6 := tell_len (scOf hand hl rl) 4 m val σ
 have sX6 := X6.size
 refine S.dend (by kernel_rfl) (sw2 (by kernel_rfl) X6) ?_
 refine S.region (S.run 4 [] [8, 20] (rs := []) (κ' := [(8, iV 0), (20, .iface 123 (.agg #[pT bt, iV val]))]) (by kernel_rfl) (by kernel_rfl) rfl ?_)
 refine S.one (by kernel_rfl) (S.panics (dst := none) (v := .iface 123 (.agg #[pT bt, iV val])) (by kernel_rfl) (by kernel_rfl) ?_)
 exact fun _ _ _ hd => ⟨hd, ⟨hvr, bt, m, [], hdep, fun e he => by simp at he, rfl⟩, PP6⟩

theorem raise_spec (p : LP) (k : Nat) (IH : EvalC p k) (n₀ rb md : Nat) (w : World) (σ : RSt) (les : List LE) (hand : Int) (hl : List H) (rl : List RR) (hR : RunE n₀ rb md p w σ les) (hS : ScOk p.xs.length n₀ 900 4996 w hand hl rl σ) (hk : σ.fuel ≤ k) (n val : Int) (hvr : Rg val) :
    Calls Try.prog 71 #[pT rb, .agg #[iV hand, .pointer (hp hl), .pointer (rp rl)], iV n, iV val] w (PostU n₀ rb md p w les rl (raiseS (evalS p.xs k) (scOf hand hl rl) n val σ)) := by
 refine calls_of_SMF (n := 55) Try.func71 rfl rfl (by kernel_rfl) ?_
 have hev0 := hS.ev; have hh0 := hS.h1; have hr0 := hS.r1; have hrg := hS.rg; have P0 := RunP.refl hR; have hn0 := P0.n0
 refine S.seqF (S.region (S.one (by kernel_rfl) (S.new 4 [pT rb] 52 (fun b => pT b) (by kernel_rfl) (by kernel_rfl) (fun b => by kernel_rfl) (fun b1 w1 E1 B1 e1 z1 => ?_))))
 have sE1 := E1.size
 refine S.one (by kernel_rfl) (S.new 5 [iV hand, .pointer (hp hl), .pointer (rp rl)] 94 (fun b => pT b) (by kernel_rfl) (by kernel_rfl) (fun b => by kernel_rfl) (fun b2 w2 E2 B2 e2 z2 => ?_))
 have sE2 := E2.size
 refine S.one (by kernel_rfl) (S.new 6 [iV n] 3 (fun b => pT b) (by kernel_rfl) (by kernel_rfl) (fun b => by kernel_rfl) (fun b3 w3 E3 B3 e3 z3 => ?_))
 have sE3 := E3.size
 refine S.one (by kernel_rfl) (S.new 7 [iV val] 3 (fun b => pT b) (by kernel_rfl) (by kernel_rfl) (fun b => by kernel_rfl) (fun b4 w4 E4 B4 e4 z4 => ?_))
 have sE4 := E4.size
 refine S.regEnd (by kernel_rfl) (S.seqF (S.region ?_))
 have B5 := B1.ext0 E2
 have B6 := B5.ext0 E3
 have B7 := B6.ext0 E4
 have B8 := B2.ext0 E3
 have B9 := B8.ext0 E4
 have B10 := B3.ext0 E4
 refine S.run 4 [.v (pT rb), .v (iV hand), .v (.pointer (hp hl)), .v (.pointer (rp rl)), .v (iV n), .v (iV val)] [4, 5, 6, 7, 10, 11, 12, 13] (rs := [.load ⟨b1, 0, none⟩ (pT rb), .load ⟨b2, 0, none⟩ (iV hand), .load ⟨b2, 1, none⟩ (.pointer (hp hl)), .load ⟨b2, 2, none⟩ (.pointer (rp rl)), .load ⟨b3, 0, none⟩ (iV n), .load ⟨b4, 0, none⟩ (iV val)]) (κ' := [(4, pT b1), (5, pT b2), (6, pT b3), (7, pT b4), (10, pT rb), (11, .agg #[iV hand, .pointer (hp hl), .pointer (rp rl)]), (12, iV n), (13, iV val)]) (by kernel_rfl) (by kernel_rfl) (.load (B7.cell 0 rfl) (.load (B9.cell 0 rfl) (.load (B9.cell 1 rfl) (.load (B9.cell 2 rfl) (.load (B10.cell 0 rfl) (.load (B4.cell 0 rfl) .nil)))))) ?_
 have P12 := P0.std (.of0 E1) (P0.1.trans (.of0 E1))
 have P13 := P12.std (.of0 E2) (P12.1.trans (.of0 E2))
 have P14 := P13.std (.of0 E3) (P13.1.trans (.of0 E3))
 have P15 := P14.std (.of0 E4) (P14.1.trans (.of0 E4))
 obtain ⟨les11, ⟨ea11, ec11, ka11, kc11, hR11⟩, back11⟩ := P15.open
 have N16 := hS.keeps (.of0 E1)
 have N17 := N16.keeps (.of0 E2)
 have N18 := N17.keeps (.of0 E3)
 have N19 := N18.keeps (.of0 E4)
 have hS11 : ScOk p.xs.length n₀ 900 5000 _ hand hl rl σ := ((N19.next (E' := 5000) hrg (by omega) (by omega)).mono (by omega) (Nat.le_refl _))
 have hS11a := hS11.h1; have hS11b := hS11.r1; have hS11c := hS11.ev; have hS11d := congrArg List.length hR11.eq; rw [List.length_map] at hS11d
 refine S.one (by kernel_rfl) (S.call (dst := some 14) (f := 69) (args := #[pT rb, .agg #[iV hand, .pointer (hp hl), .pointer (rp rl)], iV 2, iV n, iV val]) (by kernel_rfl) (by kernel_rfl) ((tell_spec n₀ rb md p _ σ ea11 ec11 les11 ka11 kc11 hR11 hand 2 n val hl rl hS11.hc hS11.rc (by omega) (by omega) (by omega)).mono ?_))
 rintro _ w11 ⟨rfl, X11, ea', ec', xx, hR', hge⟩
 refine After.ret (by kernel_rfl) ?_
 have PP11 : RunP n₀ rb md p w w11 les (tellS (scOf hand hl rl) 2 n val σ) := back11 _ _ ⟨X11, [xx], ⟨_, _, _, _, by rw [tellS_ev]; exact hR'⟩, fun e he => by rw [List.mem_singleton.1 he]; exact hge⟩
 have tl11 := tell_len (scOf hand hl rl) 2 n val σ
 have sX11 := X11.size
 refine S.regEnd (by kernel_rfl) (S.seqF (S.region ?_))
 have B20 := B9.xt X11 (by decide)
 refine S.run 2 [.v (.pointer (hp hl))] [4, 5, 6, 7, 16] (rs := [.load ⟨b2, 1, none⟩ (.pointer (hp hl))]) (κ' := [(4, pT b1), (5, pT b2), (6, pT b3), (7, pT b4), (16, .pointer (hp hl))]) (by kernel_rfl) (by kernel_rfl) (.load (B20.cell 1 rfl) .nil) ?_
 refine S.one (by kernel_rfl) (S.call (dst := some 17) (f := 89) (args := #[.pointer (hp hl)]) (by kernel_rfl) (by kernel_rfl) ((handlers_spec hl _).mono ?_))
 rintro _ w21 ⟨E21, b21, e21, z21, B21, rfl⟩
 refine After.ret (by kernel_rfl) ?_
 have sE21 := E21.size
 refine S.regEnd (by kernel_rfl) (S.blockF (S.rangeF (gf := 100) (lb := #[.pointer (some ⟨b21, 0, none⟩)]) rfl (by kernel_rfl) (fun l => by kernel_rfl) (fun d22 l22 w22 r22 E22 ed22 el22 z22 hD22 hL22 hst22 hpe22 hn22 hk22 hpar22 hass22 hbod22 hfn22 => ?_)))
 rw [show (#[.func (.yield l22) #[] #[]] ++ #[.pointer (some ⟨b21, 0, none⟩)] : Array Value) = #[.func (.yield l22) #[] #[], .pointer (some ⟨b21, 0, none⟩)] from by kernel_rfl]
 have sE22 := E22.size
 have B23 := B21.ext0 E22
 have N24 := hS.hc.keeps (.of0 E1)
 have N25 := N24.keeps (.of0 E2)
 have N26 := N25.keeps (.of0 E3)
 have N27 := N26.keeps (.of0 E4)
 have N28 := N27.keeps (.ofX X11 (by decide) (by omega))
 have N29 := N28.keeps (.of0 E21)
 have N30 := N29.keeps (.of0 E22)
 have P31 := PP11.std (.of0 E21) (PP11.1.trans (.of0 E21))
 have P32 := P31.std (.of0 E22) (P31.1.trans (.of0 E22))
 refine handlers_iter _ b21 (.func (.yield l22) #[] #[]) (fun (r' : List H) wj => ∃ pr, ∃ s, Xt n₀ [56, 43, 91] w21 wj ∧ LoopAt wj l22 r22 ∧ ObjAt wj d22 (.deferred (some [])) ∧ hl = pr ++ r' ∧ raiseL (evalS p.xs k) (scOf hand hl rl).rs n val (List.map (·.2) hl) (tellS (scOf hand hl rl) 2 n val σ) = raiseL (evalS p.xs k) (scOf hand hl rl).rs n val (List.map (·.2) r') s ∧ (s.evs.length + 8 * s.fuel ≤ 4996 + 1 ∧ s.fuel ≤ σ.fuel) ∧ RunP n₀ rb md p w wj les s) _ hl _ B23 N30 (by omega) ⟨[], (tellS (scOf hand hl rl) 2 n val σ), (Xt.of0 E22), hL22.obj, hD22, rfl, rfl, ⟨by omega, by omega⟩, P32⟩ ?_ ?_ ?_
 ·skip
  rintro r' wa22 wb cs ⟨pr, s, Ej22, hLj22, hDj22, i22_0, i22_1, i22_2, i22_3⟩ hBx hEx
  have sEj22 := Ej22.size
  have shEx := hEx.size
  have O33 := hLj22.obj.extB hEx hBx rfl
  have O34 := hDj22.extB hEx hBx rfl
  have P35 := i22_3.std (.ofS hEx hBx (by decide) (by omega)) (i22_3.1.ofNew hEx (by rintro _ rfl; omega))
  exact ⟨pr, s, Ej22.trans (Xt.ofS hEx hBx (by decide) (by omega)), O33, O34, i22_0, i22_1, ⟨by omega, by omega⟩, P35⟩
 ·skip
  rintro h r' wa22 ⟨pr, s, Ej22, hLj22, hDj22, i22_0, i22_1, i22_2, i22_3⟩ hCa hBa
  have sEj22 := Ej22.size
  refine (S.round (κ₁ := [(4, pT b1), (5, pT b2), (6, pT b3), (7, pT b4), (8, pT h.1)]) hLj22 hst22 (.inl ⟨Try.f71, by rw [hfn22]; kernel_rfl⟩) hn22 hk22 hpar22 hass22 hbod22 rfl (by kernel_rfl) ?_ ?_)
  · refine S.region (S.run (κ' := [(4, pT b1), (5, pT b2), (6, pT b3), (7, pT b4), (8, pT h.1)]) 1 [] [4, 5, 6, 7, 8] (rs := []) (by kernel_rfl) (by kernel_rfl) rfl (S.regEnd (by kernel_rfl) (S.stop (fun _ hs hh hd => ⟨rfl, hs, hh, hd⟩))))
  intro w36 E36 z36 hL36
  have sE36 := E36.size
  have hb1 := i22_2.1; have hb2 := i22_2.2
  refine S.block (S.seq (S.drawN 13 #[false, false, false, false, false, false, false, false, false, false, false, false, false] 13 (fun u u' => Ext E0 u u') (fun u u' => Ext E0 u u') (by kernel_rfl) (by kernel_rfl) (by kernel_rfl) (fun w37 E37 z37 => ?_)))
  have sE37 := E37.size
  have B38 := hCa.1.extO E36 hLj22.obj rfl
  have B39 := B38.ext0 E37
  have B40 := B10.xt X11 (by decide)
  have B41 := B40.ext0 E21
  have B42 := B41.xt Ej22 (by decide)
  have B43 := B42.extO E36 hLj22.obj rfl
  have B44 := B43.ext0 E37
  refine S.dreads roundQ_panicOk [0, 1, 2, 3, 4, 5, 6] 6 [.v (iV h.2.1), .v (iV n)] [4, 5, 7, 8, 25] (rs := [.load ⟨h.1, 1, none⟩ (iV h.2.1), .load ⟨b3, 0, none⟩ (iV n)]) (κ' := [(4, pT b1), (5, pT b2), (7, pT b4), (8, pT h.1), (25, .bool (h.2.1 == n))]) (l' := #[true, true, true, true, true, true, true, false, false, false, false, false, false]) (by kernel_rfl) (by kernel_rfl) (by kernel_rfl) (fun w' hw => have hw := hw.elim id id; (.load ((B39.ext0 hw).cell 1 rfl) (.load ((B44.ext0 hw).cell 0 rfl) .nil))) ?_
  refine S.both 25 (h.2.1 == n) (by kernel_rfl) (fun c45 => ?_) (fun c45 => ?_)
  ·skip
   have p46 : h.2.1 = n := by simpa using c45
   refine S.dreads roundQ_panicOk [7, 8, 9, 10, 11, 12] 0 [] [4, 5, 7, 8, 31] (rs := []) (κ' := [(4, pT b1), (5, pT b2), (7, pT b4), (8, pT h.1), (31, .bool true)]) (l' := #[true, true, true, true, true, true, true, true, true, true, true, true, true]) (by kernel_rfl) (by kernel_rfl) (by kernel_rfl) (fun _ _ => rfl) ?_
   refine S.dend (by kernel_rfl) (sw1 (by kernel_rfl) (Ext.refl _)) ?_
   refine S.yes (by kernel_rfl) (S.seq (S.drawN 10 #[false, false, false, false, false, false, false, false, false, false] 9 (fun u u' => Ext E0 u u') (fun u u' => Xt w.heap.size [94, 3] u u') (by kernel_rfl) (by kernel_rfl) (by kernel_rfl) (fun w47 E47 z47 => ?_)))
   have sE47 := E47.size
   have B48 := B4.xt X11 (by decide)
   have B49 := B48.ext0 E21
   have B50 := B49.xt Ej22 (by decide)
   have B51 := B50.extO E36 hLj22.obj rfl
   have B52 := B51.ext0 E37
   have B53 := B52.ext0 E47
   refine S.dreads1 roundQ_panicOk [0] 9 [7, 9] [.v (iV val)] [4, 5, 7, 8, 32] (rs := [.load ⟨b4, 0, none⟩ (iV val)]) (κ' := [(4, pT b1), (5, pT b2), (7, pT b4), (8, pT h.1), (32, iV val)]) (l' := #[true, false, false, false, false, false, false, false, false, false]) (by kernel_rfl) (by kernel_rfl) (by kernel_rfl) (by kernel_rfl) (fun w' hw => (.load ((B53.ext0 hw).cell 0 rfl) .nil)) ?_
   refine S.dreads roundQ_panicOk [1, 2, 3, 5] 5 [] [4, 7, 8, 32, 35, 37] (rs := []) (κ' := [(4, pT b1), (7, pT b4), (8, pT h.1), (32, iV val), (35, pT h.1), (37, .pointer (some ⟨b2, 2, none⟩))]) (l' := #[true, true, true, true, false, true, false, false, false, false]) (by kernel_rfl) (by kernel_rfl) (by kernel_rfl) (fun _ _ => rfl) ?_
   have B54 := hCa.1.extO E36 hLj22.obj rfl
   have B55 := B54.ext0 E37
   have B56 := B55.ext0 E47
   refine S.dreads roundQ_panicOk [4] 4 [.v (.pointer (hp r'))] [4, 7, 8, 32, 36, 37] (rs := [.load ⟨h.1, 0, none⟩ (.pointer (hp r'))]) (κ' := [(4, pT b1), (7, pT b4), (8, pT h.1), (32, iV val), (36, .pointer (hp r')), (37, .pointer (some ⟨b2, 2, none⟩))]) (l' := #[true, true, true, true, true, true, false, false, false, false]) (by kernel_rfl) (by kernel_rfl) (by kernel_rfl) (fun w' hw => hw.elim (fun hw => (.load ((B56.ext0 hw).cell 0 rfl) .nil)) (fun hw => (.load ((B56.xt hw (by decide)).cell 0 rfl) .nil))) ?_
   have B57 := B20.ext0 E21
   have B58 := B57.xt Ej22 (by decide)
   have B59 := B58.extO E36 hLj22.obj rfl
   have B60 := B59.ext0 E37
   have B61 := B60.ext0 E47
   refine S.dreads1 roundQ_panicOk [6] 3 [7, 9] [.v (.pointer (rp rl))] [4, 7, 8, 32, 36, 38] (rs := [.load ⟨b2, 2, none⟩ (.pointer (rp rl))]) (κ' := [(4, pT b1), (7, pT b4), (8, pT h.1), (32, iV val), (36, .pointer (hp r')), (38, .pointer (rp rl))]) (l' := #[true, true, true, true, true, true, true, false, false, false]) (by kernel_rfl) (by kernel_rfl) (by kernel_rfl) (by kernel_rfl) (fun w' hw => (.load ((B61.ext0 hw).cell 2 rfl) .nil)) ?_
   refine S.dreads roundQ_panicOk [7] 2 [] [4, 7, 8, 39] (rs := []) (κ' := [(4, pT b1), (7, pT b4), (8, pT h.1), (39, .agg #[iV val, .pointer (hp r'), .pointer (rp rl)])]) (l' := #[true, true, true, true, true, true, true, true, false, false]) (by kernel_rfl) (by kernel_rfl) (by kernel_rfl) (fun _ _ => rfl) ?_
   refine S.dnext (j := 8) (l' := #[true, true, true, true, true, true, true, true, true, false]) (by kernel_rfl) (by kernel_rfl) (sw1 (by kernel_rfl) (Ext.refl _)) ?_
   refine S.new 9 [iV 0, .pointer none, .pointer none] 94 (fun b => pT b) (by kernel_rfl) (by kernel_rfl) (fun b => by kernel_rfl) (fun b62 w62 E62 B62 e62 z62 => ?_)
   have sE62 := E62.size
   refine S.dnext (j := 9) (l' := #[true, true, true, true, true, true, true, true, true, true]) (by kernel_rfl) (by kernel_rfl) (sw1 (by kernel_rfl) E62) ?_
   refine S.store 0 [iV val, .pointer (hp r'), .pointer (rp rl)] [iV val, .pointer (hp r'), .pointer (rp rl)] B62 (by kernel_rfl) (by kernel_rfl) (by kernel_rfl) (by kernel_rfl) (by kernel_rfl) (fun w63 E63 B63 z63 => ?_)
   have sE63 := E63.size
   refine S.dend (by kernel_rfl) (sw2 (by kernel_rfl) ((Xt.of0 E62).trans (Xt.ofS E63 B62 (by decide) (by omega)))) ?_
   refine S.seq (S.drawN 8 #[false, false, false, false, false, false, false, false] 7 (fun u u' => Ext E0 u u') (fun u u' => Xt n₀ [56, 43] u u') (by kernel_rfl) (by kernel_rfl) (by kernel_rfl) (fun w64 E64 z64 => ?_))
   have sE64 := E64.size
   have B65 := B7.xt X11 (by decide)
   have B66 := B65.ext0 E21
   have B67 := B66.xt Ej22 (by decide)
   have B68 := B67.extO E36 hLj22.obj rfl
   have B69 := B68.ext0 E37
   have B70 := B69.ext0 E47
   have B71 := B70.ext0 E62
   have B72 := B71.extT E63 B62 (by decide)
   have B73 := B72.ext0 E64
   refine S.dreads roundQ_panicOk [0] 7 [.v (pT rb)] [4, 7, 8, 9, 40] (rs := [.load ⟨b1, 0, none⟩ (pT rb)]) (κ' := [(4, pT b1), (7, pT b4), (8, pT h.1), (9, pT b62), (40, pT rb)]) (l' := #[true, false, false, false, false, false, false, false]) (by kernel_rfl) (by kernel_rfl) (by kernel_rfl) (fun w' hw => hw.elim (fun hw => (.load ((B73.ext0 hw).cell 0 rfl) .nil)) (fun hw => (.load ((B73.xt hw (by decide)).cell 0 rfl) .nil))) ?_
   have B74 := B63.ext0 E64
   refine S.dreads roundQ_panicOk [1] 6 [.v (iV val), .v (.pointer (hp r')), .v (.pointer (rp rl))] [4, 7, 8, 9, 40, 41] (rs := [.load ⟨b62, 0, none⟩ (iV val), .load ⟨b62, 1, none⟩ (.pointer (hp r')), .load ⟨b62, 2, none⟩ (.pointer (rp rl))]) (κ' := [(4, pT b1), (7, pT b4), (8, pT h.1), (9, pT b62), (40, pT rb), (41, .agg #[iV val, .pointer (hp r'), .pointer (rp rl)])]) (l' := #[true, true, false, false, false, false, false, false]) (by kernel_rfl) (by kernel_rfl) (by kernel_rfl) (fun w' hw => hw.elim (fun hw => (.load ((B74.ext0 hw).cell 0 rfl) (.load ((B74.ext0 hw).cell 1 rfl) (.load ((B74.ext0 hw).cell 2 rfl) .nil)))) (fun hw => (.load ((B74.xt hw (by decide)).cell 0 rfl) (.load ((B74.xt hw (by decide)).cell 1 rfl) (.load ((B74.xt hw (by decide)).cell 2 rfl) .nil))))) ?_
   refine S.dreads roundQ_panicOk [2, 3, 4] 3 [] [4, 7, 8, 9, 40, 41, 44] (rs := []) (κ' := [(4, pT b1), (7, pT b4), (8, pT h.1), (9, pT b62), (40, pT rb), (41, .agg #[iV val, .pointer (hp r'), .pointer (rp rl)]), (44, .pointer (some ⟨h.1, 1, none⟩))]) (l' := #[true, true, true, true, true, false, false, false]) (by kernel_rfl) (by kernel_rfl) (by kernel_rfl) (fun _ _ => rfl) ?_
   have B75 := hCa.1.extO E36 hLj22.obj rfl
   have B76 := B75.ext0 E37
   have B77 := B76.ext0 E47
   have B78 := B77.ext0 E62
   have B79 := B78.extT E63 B62 (by decide)
   have B80 := B79.ext0 E64
   refine S.dreads roundQ_panicOk [5] 2 [.v (iV h.2.1)] [4, 7, 8, 9, 40, 41, 45] (rs := [.load ⟨h.1, 1, none⟩ (iV h.2.1)]) (κ' := [(4, pT b1), (7, pT b4), (8, pT h.1), (9, pT b62), (40, pT rb), (41, .agg #[iV val, .pointer (hp r'), .pointer (rp rl)]), (45, iV h.2.1)]) (l' := #[true, true, true, true, true, true, false, false]) (by kernel_rfl) (by kernel_rfl) (by kernel_rfl) (fun w' hw => hw.elim (fun hw => (.load ((B80.ext0 hw).cell 1 rfl) .nil)) (fun hw => (.load ((B80.xt hw (by decide)).cell 1 rfl) .nil))) ?_
   have B81 := B4.xt X11 (by decide)
   have B82 := B81.ext0 E21
   have B83 := B82.xt Ej22 (by decide)
   have B84 := B83.extO E36 hLj22.obj rfl
   have B85 := B84.ext0 E37
   have B86 := B85.ext0 E47
   have B87 := B86.ext0 E62
   have B88 := B87.extT E63 B62 (by decide)
   have B89 := B88.ext0 E64
   refine S.dreads roundQ_panicOk [6] 1 [.v (iV val)] [4, 8, 9, 40, 41, 45, 46] (rs := [.load ⟨b4, 0, none⟩ (iV val)]) (κ' := [(4, pT b1), (8, pT h.1), (9, pT b62), (40, pT rb), (41, .agg #[iV val, .pointer (hp r'), .pointer (rp rl)]), (45, iV h.2.1), (46, iV val)]) (l' := #[true, true, true, true, true, true, true, false]) (by kernel_rfl) (by kernel_rfl) (by kernel_rfl) (fun w' hw => hw.elim (fun hw => (.load ((B89.ext0 hw).cell 0 rfl) .nil)) (fun hw => (.load ((B89.xt hw (by decide)).cell 0 rfl) .nil))) ?_
   refine S.dnext (j := 7) (l' := #[true, true, true, true, true, true, true, true]) (by kernel_rfl) (by kernel_rfl) (sw1 (by kernel_rfl) (Ext.refl _)) ?_
   have P91 := i22_3.std (.ofO E36 hLj22.obj rfl (by omega)) (i22_3.1.ofO E36 (by omega))
   have P92 := P91.std (.of0 E37) (P91.1.trans (.of0 E37))
   have P93 := P92.std (.of0 E47) (P92.1.trans (.of0 E47))
   have P94 := P93.std (.of0 E62) (P93.1.trans (.of0 E62))
   have P95 := P94.std (.ofS E63 B62 (by decide) (by omega)) (P94.1.ofNew E63 (by rintro _ rfl; omega))
   have P96 := P95.std (.of0 E64) (P95.1.trans (.of0 E64))
   obtain ⟨les90, ⟨ea90, ec90, ka90, kc90, hR90⟩, back90⟩ := P96.open
   have N97 := N19.keeps (.ofX X11 (by decide) (by omega))
   have N98 := N97.keeps (.of0 E21)
   have N99 := N98.keeps (.ofX Ej22 (by decide) (by omega))
   have N100 := N99.keeps (.ofO E36 hLj22.obj rfl (by omega))
   have N101 := N100.keeps (.of0 E37)
   have N102 := N101.keeps (.of0 E47)
   have N103 := N102.keeps (.of0 E62)
   have N104 := N103.keeps (.ofS E63 B62 (by decide) (by omega))
   have N105 := N104.keeps (.of0 E64)
   have hS90 : ScOk p.xs.length n₀ 900 5000 _ val r' rl s := (ScOk.next (E' := 5000) (ScOk.tail N105 (pr := pr ++ [h]) (by rw [i22_0]; simp)) hvr (by omega) (by omega))
   have hS90a := hS90.h1; have hS90b := hS90.r1; have hS90c := hS90.ev; have hS90d := congrArg List.length hR90.eq; rw [List.length_map] at hS90d
   refine S.call (dst := some 47) (f := 69) (args := #[pT rb, .agg #[iV val, .pointer (hp r'), .pointer (rp rl)], iV 3, iV h.2.1, iV val]) (by kernel_rfl) (by kernel_rfl) ((tell_spec n₀ rb md p _ s ea90 ec90 les90 ka90 kc90 hR90 val 3 h.2.1 val r' rl hS90.hc hS90.rc (by omega) (by omega) (by omega)).mono ?_)
   rintro _ w90 ⟨rfl, X90, ea', ec', xx, hR', hge⟩
   refine After.ret (by kernel_rfl) ?_
   have PP90 : RunP n₀ rb md p w w90 les (tellS (scOf val r' rl) 3 h.2.1 val s) := back90 _ _ ⟨X90, [xx], ⟨_, _, _, _, by rw [tellS_ev]; exact hR'⟩, fun e he => by rw [List.mem_singleton.1 he]; exact hge⟩
   have tl90 := tell_len (scOf val r' rl) 3 h.2.1 val s
   have sX90 := X90.size
   refine S.dend (by kernel_rfl) (sw2 (by kernel_rfl) X90) ?_
   refine S.drawN 7 #[false, false, false, false, false, false, false] 6 (fun u u' => Ext E0 u u') (fun u u' => Xt n₀ [56, 43] u u') (by kernel_rfl) (by kernel_rfl) (by kernel_rfl) (fun w106 E106 z106 => ?_)
   have sE106 := E106.size
   have B107 := B7.xt X11 (by decide)
   have B108 := B107.ext0 E21
   have B109 := B108.xt Ej22 (by decide)
   have B110 := B109.extO E36 hLj22.obj rfl
   have B111 := B110.ext0 E37
   have B112 := B111.ext0 E47
   have B113 := B112.ext0 E62
   have B114 := B113.extT E63 B62 (by decide)
   have B115 := B114.ext0 E64
   have B116 := B115.xt X90 (by decide)
   have B117 := B116.ext0 E106
   refine S.dreads roundQ_panicOk [0] 6 [.v (pT rb)] [8, 9, 48] (rs := [.load ⟨b1, 0, none⟩ (pT rb)]) (κ' := [(8, pT h.1), (9, pT b62), (48, pT rb)]) (l' := #[true, false, false, false, false, false, false]) (by kernel_rfl) (by kernel_rfl) (by kernel_rfl) (fun w' hw => hw.elim (fun hw => (.load ((B117.ext0 hw).cell 0 rfl) .nil)) (fun hw => (.load ((B117.xt hw (by decide)).cell 0 rfl) .nil))) ?_
   refine S.dreads roundQ_panicOk [1, 2, 3] 3 [] [9, 48, 51] (rs := []) (κ' := [(9, pT b62), (48, pT rb), (51, .pointer (some ⟨h.1, 2, none⟩))]) (l' := #[true, true, true, true, false, false, false]) (by kernel_rfl) (by kernel_rfl) (by kernel_rfl) (fun _ _ => rfl) ?_
   have B118 := hCa.1.extO E36 hLj22.obj rfl
   have B119 := B118.ext0 E37
   have B120 := B119.ext0 E47
   have B121 := B120.ext0 E62
   have B122 := B121.extT E63 B62 (by decide)
   have B123 := B122.ext0 E64
   have B124 := B123.xt X90 (by decide)
   have B125 := B124.ext0 E106
   refine S.dreads roundQ_panicOk [4] 2 [.v (iV h.2.2.d.1), .v (iV h.2.2.d.2), .v (.slice h.2.2.a h.2.2.len h.2.2.cap)] [9, 48, 52] (rs := [.load ⟨h.1, 2, none⟩ (iV h.2.2.d.1), .load ⟨h.1, 3, none⟩ (iV h.2.2.d.2), .load ⟨h.1, 4, none⟩ (.slice h.2.2.a h.2.2.len h.2.2.cap)]) (κ' := [(9, pT b62), (48, pT rb), (52, .agg #[iV h.2.2.d.1, iV h.2.2.d.2, .slice h.2.2.a h.2.2.len h.2.2.cap])]) (l' := #[true, true, true, true, true, false, false]) (by kernel_rfl) (by kernel_rfl) (by kernel_rfl) (fun w' hw => hw.elim (fun hw => (.load ((B125.ext0 hw).cell 2 rfl) (.load ((B125.ext0 hw).cell 3 rfl) (.load ((B125.ext0 hw).cell 4 rfl) .nil)))) (fun hw => (.load ((B125.xt hw (by decide)).cell 2 rfl) (.load ((B125.xt hw (by decide)).cell 3 rfl) (.load ((B125.xt hw (by decide)).cell 4 rfl) .nil))))) ?_
   have B126 := B63.ext0 E64
   have B127 := B126.xt X90 (by decide)
   have B128 := B127.ext0 E106
   refine S.dreads roundQ_panicOk [5] 1 [.v (iV val), .v (.pointer (hp r')), .v (.pointer (rp rl))] [48, 52, 53] (rs := [.load ⟨b62, 0, none⟩ (iV val), .load ⟨b62, 1, none⟩ (.pointer (hp r')), .load ⟨b62, 2, none⟩ (.pointer (rp rl))]) (κ' := [(48, pT rb), (52, .agg #[iV h.2.2.d.1, iV h.2.2.d.2, .slice h.2.2.a h.2.2.len h.2.2.cap]), (53, .agg #[iV val, .pointer (hp r'), .pointer (rp rl)])]) (l' := #[true, true, true, true, true, true, false]) (by kernel_rfl) (by kernel_rfl) (by kernel_rfl) (fun w' hw => hw.elim (fun hw => (.load ((B128.ext0 hw).cell 0 rfl) (.load ((B128.ext0 hw).cell 1 rfl) (.load ((B128.ext0 hw).cell 2 rfl) .nil)))) (fun hw => (.load ((B128.xt hw (by decide)).cell 0 rfl) (.load ((B128.xt hw (by decide)).cell 1 rfl) (.load ((B128.xt hw (by decide)).cell 2 rfl) .nil))))) ?_
   refine S.dnext (j := 6) (l' := #[true, true, true, true, true, true, true]) (by kernel_rfl) (by kernel_rfl) (sw1 (by kernel_rfl) (Ext.refl _)) ?_
   have P130 := PP90.std (.of0 E106) (PP90.1.trans (.of0 E106))
   obtain ⟨les129, hR129, back129⟩ := P130.open
   have T131 := (hCa.2.1).pres (.ofO E36 hLj22.obj rfl)
   have T132 := T131.pres (.of0 E37)
   have T133 := T132.pres (.of0 E47)
   have T134 := T133.pres (.of0 E62)
   have T135 := T134.pres (.ofS E63 (by omega))
   have T136 := T135.pres (.of0 E64)
   have T137 := T136.pres (.ofXn X90 (by omega))
   have T138 := T137.pres (.of0 E106)
   have N139 := N105.keeps (.ofX X90 (by decide) (by omega))
   have N140 := N139.keeps (.of0 E106)
   refine S.call (dst := some 54) (f := 59) (args := #[pT rb, .agg #[iV h.2.2.d.1, iV h.2.2.d.2, .slice h.2.2.a h.2.2.len h.2.2.cap], .agg #[iV val, .pointer (hp r'), .pointer (rp rl)]]) (by kernel_rfl) (by kernel_rfl) ((IH n₀ rb md _ (tellS (scOf val r' rl) 3 h.2.1 val s) les129 h.2.2 val r' rl hR129 T138 (hS.wf h (by rw [i22_0]; simp)) (ScOk.next (E' := 5000) (ScOk.tail N140 (pr := pr ++ [h]) (by rw [i22_0]; simp)) hvr (by omega) (by omega)) (by omega)).mono ?_)
   rintro e129 w129 ⟨ho129, hP129⟩
   have PP129 : RunP n₀ rb md p w w129 les (evalS p.xs k h.2.2 (scOf val r' rl) (tellS (scOf val r' rl) 3 h.2.1 val s)).2 := back129 _ _ hP129; have X129 := hP129.1; have hfin129 : Fin 0 1 (tellS (scOf val r' rl) 3 h.2.1 val s) (evalS p.xs k h.2.2 (scOf val r' rl) (tellS (scOf val r' rl) 3 h.2.1 val s)) := fin_eval p.xs k _ _ _; have ho129 : OutE rl (evalS p.xs k h.2.2 (scOf val r' rl) (tellS (scOf val r' rl) 3 h.2.1 val s)).1 e129 := ho129; have hP129 : RunP n₀ rb md p w106 w129 les129 (evalS p.xs k h.2.2 (scOf val r' rl) (tellS (scOf val r' rl) 3 h.2.1 val s)).2 := hP129
   rcases hr129 : evalS p.xs k h.2.2 (scOf val r' rl) (tellS (scOf val r' rl) 3 h.2.1 val s) with ⟨o129, σ129⟩
   rw [hr129] at ho129 PP129 hfin129 hP129
   have PQ129 : RunP n₀ rb md p w w129 les σ129 := PP129; have hq129 : OutE rl o129 e129 := ho129; have PR129 : RunP n₀ rb md p w106 w129 les129 σ129 := hP129
   clear PP129 ho129 hP129
   rcases outE_cases hq129 with ⟨v129, rfl, rfl, hv129⟩ | ⟨ch, rfl, hb129, hn129⟩
   ·skip
    have hf129 := hfin129.val
    refine After.ret (by kernel_rfl) ?_
    have sX129 := X129.size
    refine S.dend (by kernel_rfl) (sw2 (by kernel_rfl) X129) ?_
    refine S.out ?_
    have O141 := hL36.obj.ext0 E37
    have O142 := O141.ext0 E47
    have O143 := O142.ext0 E62
    have O144 := O143.extB E63 B62 rfl
    have O145 := O144.ext0 E64
    have O146 := O145.xt X90 rfl
    have O147 := O146.ext0 E106
    have O148 := O147.xt X129 rfl
    refine S.fin (fun _ _ _ _ => round_go hst22 hpe22 O148 (fun w149 E149 z149 hL149 => ?_))
    have sE149 := E149.size
    have N150 := hCa.keeps (.ofO E36 hLj22.obj rfl (by omega))
    have N151 := N150.keeps (.of0 E37)
    have N152 := N151.keeps (.of0 E47)
    have N153 := N152.keeps (.of0 E62)
    have N154 := N153.keeps (.ofS E63 B62 (by decide) (by omega))
    have N155 := N154.keeps (.of0 E64)
    have N156 := N155.keeps (.ofX X90 (by decide) (by omega))
    have N157 := N156.keeps (.of0 E106)
    have N158 := N157.keeps (.ofX X129 (by decide) (by omega))
    have N159 := N158.keeps (.ofO E149 O148 rfl (by omega))
    have B160 := hBa.extO E36 hLj22.obj rfl
    have B161 := B160.ext0 E37
    have B162 := B161.ext0 E47
    have B163 := B162.ext0 E62
    have B164 := B163.extT E63 B62 (by decide)
    have B165 := B164.ext0 E64
    have B166 := B165.xt X90 (by decide)
    have B167 := B166.ext0 E106
    have B168 := B167.xt X129 (by decide)
    have B169 := B168.extO E149 O148 rfl
    have O170 := hDj22.extS E36 (by omega)
    have O171 := O170.ext0 E37
    have O172 := O171.ext0 E47
    have O173 := O172.ext0 E62
    have O174 := O173.extB E63 B62 rfl
    have O175 := O174.ext0 E64
    have O176 := O175.xt X90 rfl
    have O177 := O176.ext0 E106
    have O178 := O177.xt X129 rfl
    have O179 := O178.extS E149 (by omega)
    have P180 := PQ129.std (.ofO E149 O148 rfl (by omega)) (PQ129.1.ofO E149 (by omega))
    exact .inl ⟨rfl, ⟨(pr ++ [h]), σ129, (((((((((Ej22.ofO E36 (by omega)).trans (Xt.of0 E37)).trans (Xt.of0 E47)).trans (Xt.of0 E62)).ofNew E63 (by rintro _ rfl; omega)).trans (Xt.of0 E64)).trans (X90.mono (by omega) (by decide))).trans (Xt.of0 E106)).trans (X129.mono (by omega) (by decide))).ofO E149 (by omega), hL149.obj, O179, (by rw [i22_0]; simp), (i22_1.trans ((raise_hit (.inl p46)).trans (by show bnd (evalS p.xs k h.2.2 (scOf val r' rl) (tellS (scOf val r' rl) 3 h.2.1 val s)) _ = _; rw [hr129]; rfl))), ⟨by omega, by omega⟩, P180⟩, N159, B169⟩
   ·skip
    have sX129 := X129.size
    have O181 := hDj22.extS E36 (by omega)
    have O182 := O181.ext0 E37
    have O183 := O182.ext0 E47
    have O184 := O183.ext0 E62
    have O185 := O184.extB E63 B62 rfl
    have O186 := O185.ext0 E64
    have O187 := O186.xt X90 rfl
    have O188 := O187.ext0 E106
    have O189 := O188.xt X129 rfl
    exact fun _ _ _ hd => ⟨hd, fun _ _ _ hd2 => panicM1 hd2 O189 (fun w9 E9 z9 => (by have hs : (raiseS (evalS p.xs k) (scOf hand hl rl) n val σ : Res Unit) = bnd (o129, σ129) (fun _ σ => raiseL (evalS p.xs k) (scOf hand hl rl).rs n val (List.map (·.2) r') σ) := (i22_1.trans ((raise_hit (.inl p46)).trans (by show bnd (evalS p.xs k h.2.2 (scOf val r' rl) (tellS (scOf val r' rl) 3 h.2.1 val s)) _ = _; rw [hr129]))); unfold PostU; rw [hs]; have hq9 := outU_of hq129 hn129 σ129 (fun _ σ => raiseL (evalS p.xs k) (scOf hand hl rl).rs n val (List.map (·.2) r') σ); exact ⟨hq9.1, by rw [hq9.2]; exact PQ129.std (.ofO E9 O189 rfl (by omega)) (PQ129.1.ofO E9 (by omega))⟩))⟩
  ·skip
   have p190 : h.2.1 ≠ n := by simpa using c45
   refine S.dreads roundQ_panicOk [7, 8, 9, 10, 11, 12] 0 [.v (iV h.2.1)] [4, 5, 7, 8, 31] (rs := [.load ⟨h.1, 1, none⟩ (iV h.2.1)]) (κ' := [(4, pT b1), (5, pT b2), (7, pT b4), (8, pT h.1), (31, .bool (h.2.1 == (-1)))]) (l' := #[true, true, true, true, true, true, true, true, true, true, true, true, true]) (by kernel_rfl) (by kernel_rfl) (by kernel_rfl) (fun w' hw => have hw := hw.elim id id; (.load ((B39.ext0 hw).cell 1 rfl) .nil)) ?_
   refine S.dend (by kernel_rfl) (sw1 (by kernel_rfl) (Ext.refl _)) ?_
   refine S.both 31 (h.2.1 == (-1)) (by kernel_rfl) (fun c191 => ?_) (fun c191 => ?_)
   ·skip
    have p192 : h.2.1 = (-1) := by simpa using c191
    refine S.yes (by kernel_rfl) (S.seq (S.drawN 10 #[false, false, false, false, false, false, false, false, false, false] 9 (fun u u' => Ext E0 u u') (fun u u' => Xt w.heap.size [94, 3] u u') (by kernel_rfl) (by kernel_rfl) (by kernel_rfl) (fun w193 E193 z193 => ?_)))
    have sE193 := E193.size
    have B194 := B4.xt X11 (by decide)
    have B195 := B194.ext0 E21
    have B196 := B195.xt Ej22 (by decide)
    have B197 := B196.extO E36 hLj22.obj rfl
    have B198 := B197.ext0 E37
    have B199 := B198.ext0 E193
    refine S.dreads1 roundQ_panicOk [0] 9 [7, 9] [.v (iV val)] [4, 5, 7, 8, 32] (rs := [.load ⟨b4, 0, none⟩ (iV val)]) (κ' := [(4, pT b1), (5, pT b2), (7, pT b4), (8, pT h.1), (32, iV val)]) (l' := #[true, false, false, false, false, false, false, false, false, false]) (by kernel_rfl) (by kernel_rfl) (by kernel_rfl) (by kernel_rfl) (fun w' hw => (.load ((B199.ext0 hw).cell 0 rfl) .nil)) ?_
    refine S.dreads roundQ_panicOk [1, 2, 3, 5] 5 [] [4, 7, 8, 32, 35, 37] (rs := []) (κ' := [(4, pT b1), (7, pT b4), (8, pT h.1), (32, iV val), (35, pT h.1), (37, .pointer (some ⟨b2, 2, none⟩))]) (l' := #[true, true, true, true, false, true, false, false, false, false]) (by kernel_rfl) (by kernel_rfl) (by kernel_rfl) (fun _ _ => rfl) ?_
    have B200 := hCa.1.extO E36 hLj22.obj rfl
    have B201 := B200.ext0 E37
    have B202 := B201.ext0 E193
    refine S.dreads roundQ_panicOk [4] 4 [.v (.pointer (hp r'))] [4, 7, 8, 32, 36, 37] (rs := [.load ⟨h.1, 0, none⟩ (.pointer (hp r'))]) (κ' := [(4, pT b1), (7, pT b4), (8, pT h.1), (32, iV val), (36, .pointer (hp r')), (37, .pointer (some ⟨b2, 2, none⟩))]) (l' := #[true, true, true, true, true, true, false, false, false, false]) (by kernel_rfl) (by kernel_rfl) (by kernel_rfl) (fun w' hw => hw.elim (fun hw => (.load ((B202.ext0 hw).cell 0 rfl) .nil)) (fun hw => (.load ((B202.xt hw (by decide)).cell 0 rfl) .nil))) ?_
    have B203 := B20.ext0 E21
    have B204 := B203.xt Ej22 (by decide)
    have B205 := B204.extO E36 hLj22.obj rfl
    have B206 := B205.ext0 E37
    have B207 := B206.ext0 E193
    refine S.dreads1 roundQ_panicOk [6] 3 [7, 9] [.v (.pointer (rp rl))] [4, 7, 8, 32, 36, 38] (rs := [.load ⟨b2, 2, none⟩ (.pointer (rp rl))]) (κ' := [(4, pT b1), (7, pT b4), (8, pT h.1), (32, iV val), (36, .pointer (hp r')), (38, .pointer (rp rl))]) (l' := #[true, true, true, true, true, true, true, false, false, false]) (by kernel_rfl) (by kernel_rfl) (by kernel_rfl) (by kernel_rfl) (fun w' hw => (.load ((B207.ext0 hw).cell 2 rfl) .nil)) ?_
    refine S.dreads roundQ_panicOk [7] 2 [] [4, 7, 8, 39] (rs := []) (κ' := [(4, pT b1), (7, pT b4), (8, pT h.1), (39, .agg #[iV val, .pointer (hp r'), .pointer (rp rl)])]) (l' := #[true, true, true, true, true, true, true, true, false, false]) (by kernel_rfl) (by kernel_rfl) (by kernel_rfl) (fun _ _ => rfl) ?_
    refine S.dnext (j := 8) (l' := #[true, true, true, true, true, true, true, true, true, false]) (by kernel_rfl) (by kernel_rfl) (sw1 (by kernel_rfl) (Ext.refl _)) ?_
    refine S.new 9 [iV 0, .pointer none, .pointer none] 94 (fun b => pT b) (by kernel_rfl) (by kernel_rfl) (fun b => by kernel_rfl) (fun b208 w208 E208 B208 e208 z208 => ?_)
    have sE208 := E208.size
    refine S.dnext (j := 9) (l' := #[true, true, true, true, true, true, true, true, true, true]) (by kernel_rfl) (by kernel_rfl) (sw1 (by kernel_rfl) E208) ?_
    refine S.store 0 [iV val, .pointer (hp r'), .pointer (rp rl)] [iV val, .pointer (hp r'), .pointer (rp rl)] B208 (by kernel_rfl) (by kernel_rfl) (by kernel_rfl) (by kernel_rfl) (by kernel_rfl) (fun w209 E209 B209 z209 => ?_)
    have sE209 := E209.size
    refine S.dend (by kernel_rfl) (sw2 (by kernel_rfl) ((Xt.of0 E208).trans (Xt.ofS E209 B208 (by decide) (by omega)))) ?_
    refine S.seq (S.drawN 8 #[false, false, false, false, false, false, false, false] 7 (fun u u' => Ext E0 u u') (fun u u' => Xt n₀ [56, 43] u u') (by kernel_rfl) (by kernel_rfl) (by kernel_rfl) (fun w210 E210 z210 => ?_))
    have sE210 := E210.size
    have B211 := B7.xt X11 (by decide)
    have B212 := B211.ext0 E21
    have B213 := B212.xt Ej22 (by decide)
    have B214 := B213.extO E36 hLj22.obj rfl
    have B215 := B214.ext0 E37
    have B216 := B215.ext0 E193
    have B217 := B216.ext0 E208
    have B218 := B217.extT E209 B208 (by decide)
    have B219 := B218.ext0 E210
    refine S.dreads roundQ_panicOk [0] 7 [.v (pT rb)] [4, 7, 8, 9, 40] (rs := [.load ⟨b1, 0, none⟩ (pT rb)]) (κ' := [(4, pT b1), (7, pT b4), (8, pT h.1), (9, pT b208), (40, pT rb)]) (l' := #[true, false, false, false, false, false, false, false]) (by kernel_rfl) (by kernel_rfl) (by kernel_rfl) (fun w' hw => hw.elim (fun hw => (.load ((B219.ext0 hw).cell 0 rfl) .nil)) (fun hw => (.load ((B219.xt hw (by decide)).cell 0 rfl) .nil))) ?_
    have B220 := B209.ext0 E210
    refine S.dreads roundQ_panicOk [1] 6 [.v (iV val), .v (.pointer (hp r')), .v (.pointer (rp rl))] [4, 7, 8, 9, 40, 41] (rs := [.load ⟨b208, 0, none⟩ (iV val), .load ⟨b208, 1, none⟩ (.pointer (hp r')), .load ⟨b208, 2, none⟩ (.pointer (rp rl))]) (κ' := [(4, pT b1), (7, pT b4), (8, pT h.1), (9, pT b208), (40, pT rb), (41, .agg #[iV val, .pointer (hp r'), .pointer (rp rl)])]) (l' := #[true, true, false, false, false, false, false, false]) (by kernel_rfl) (by kernel_rfl) (by kernel_rfl) (fun w' hw => hw.elim (fun hw => (.load ((B220.ext0 hw).cell 0 rfl) (.load ((B220.ext0 hw).cell 1 rfl) (.load ((B220.ext0 hw).cell 2 rfl) .nil)))) (fun hw => (.load ((B220.xt hw (by decide)).cell 0 rfl) (.load ((B220.xt hw (by decide)).cell 1 rfl) (.load ((B220.xt hw (by decide)).cell 2 rfl) .nil))))) ?_
    refine S.dreads roundQ_panicOk [2, 3, 4] 3 [] [4, 7, 8, 9, 40, 41, 44] (rs := []) (κ' := [(4, pT b1), (7, pT b4), (8, pT h.1), (9, pT b208), (40, pT rb), (41, .agg #[iV val, .pointer (hp r'), .pointer (rp rl)]), (44, .pointer (some ⟨h.1, 1, none⟩))]) (l' := #[true, true, true, true, true, false, false, false]) (by kernel_rfl) (by kernel_rfl) (by kernel_rfl) (fun _ _ => rfl) ?_
    have B221 := hCa.1.extO E36 hLj22.obj rfl
    have B222 := B221.ext0 E37
    have B223 := B222.ext0 E193
    have B224 := B223.ext0 E208
    have B225 := B224.extT E209 B208 (by decide)
    have B226 := B225.ext0 E210
    refine S.dreads roundQ_panicOk [5] 2 [.v (iV h.2.1)] [4, 7, 8, 9, 40, 41, 45] (rs := [.load ⟨h.1, 1, none⟩ (iV h.2.1)]) (κ' := [(4, pT b1), (7, pT b4), (8, pT h.1), (9, pT b208), (40, pT rb), (41, .agg #[iV val, .pointer (hp r'), .pointer (rp rl)]), (45, iV h.2.1)]) (l' := #[true, true, true, true, true, true, false, false]) (by kernel_rfl) (by kernel_rfl) (by kernel_rfl) (fun w' hw => hw.elim (fun hw => (.load ((B226.ext0 hw).cell 1 rfl) .nil)) (fun hw => (.load ((B226.xt hw (by decide)).cell 1 rfl) .nil))) ?_
    have B227 := B4.xt X11 (by decide)
    have B228 := B227.ext0 E21
    have B229 := B228.xt Ej22 (by decide)
    have B230 := B229.extO E36 hLj22.obj rfl
    have B231 := B230.ext0 E37
    have B232 := B231.ext0 E193
    have B233 := B232.ext0 E208
    have B234 := B233.extT E209 B208 (by decide)
    have B235 := B234.ext0 E210
    refine S.dreads roundQ_panicOk [6] 1 [.v (iV val)] [4, 8, 9, 40, 41, 45, 46] (rs := [.load ⟨b4, 0, none⟩ (iV val)]) (κ' := [(4, pT b1), (8, pT h.1), (9, pT b208), (40, pT rb), (41, .agg #[iV val, .pointer (hp r'), .pointer (rp rl)]), (45, iV h.2.1), (46, iV val)]) (l' := #[true, true, true, true, true, true, true, false]) (by kernel_rfl) (by kernel_rfl) (by kernel_rfl) (fun w' hw => hw.elim (fun hw => (.load ((B235.ext0 hw).cell 0 rfl) .nil)) (fun hw => (.load ((B235.xt hw (by decide)).cell 0 rfl) .nil))) ?_
    refine S.dnext (j := 7) (l' := #[true, true, true, true, true, true, true, true]) (by kernel_rfl) (by kernel_rfl) (sw1 (by kernel_rfl) (Ext.refl _)) ?_
    have P237 := i22_3.std (.ofO E36 hLj22.obj rfl (by omega)) (i22_3.1.ofO E36 (by omega))
    have P238 := P237.std (.of0 E37) (P237.1.trans (.of0 E37))
    have P239 := P238.std (.of0 E193) (P238.1.trans (.of0 E193))
    have P240 := P239.std (.of0 E208) (P239.1.trans (.of0 E208))
    have P241 := P240.std (.ofS E209 B208 (by decide) (by omega)) (P240.1.ofNew E209 (by rintro _ rfl; omega))
    have P242 := P241.std (.of0 E210) (P241.1.trans (.of0 E210))
    obtain ⟨les236, ⟨ea236, ec236, ka236, kc236, hR236⟩, back236⟩ := P242.open
    have N243 := N19.keeps (.ofX X11 (by decide) (by omega))
    have N244 := N243.keeps (.of0 E21)
    have N245 := N244.keeps (.ofX Ej22 (by decide) (by omega))
    have N246 := N245.keeps (.ofO E36 hLj22.obj rfl (by omega))
    have N247 := N246.keeps (.of0 E37)
    have N248 := N247.keeps (.of0 E193)
    have N249 := N248.keeps (.of0 E208)
    have N250 := N249.keeps (.ofS E209 B208 (by decide) (by omega))
    have N251 := N250.keeps (.of0 E210)
    have hS236 : ScOk p.xs.length n₀ 900 5000 _ val r' rl s := (ScOk.next (E' := 5000) (ScOk.tail N251 (pr := pr ++ [h]) (by rw [i22_0]; simp)) hvr (by omega) (by omega))
    have hS236a := hS236.h1; have hS236b := hS236.r1; have hS236c := hS236.ev; have hS236d := congrArg List.length hR236.eq; rw [List.length_map] at hS236d
    refine S.call (dst := some 47) (f := 69) (args := #[pT rb, .agg #[iV val, .pointer (hp r'), .pointer (rp rl)], iV 3, iV h.2.1, iV val]) (by kernel_rfl) (by kernel_rfl) ((tell_spec n₀ rb md p _ s ea236 ec236 les236 ka236 kc236 hR236 val 3 h.2.1 val r' rl hS236.hc hS236.rc (by omega) (by omega) (by omega)).mono ?_)
    rintro _ w236 ⟨rfl, X236, ea', ec', xx, hR', hge⟩
    refine After.ret (by kernel_rfl) ?_
    have PP236 : RunP n₀ rb md p w w236 les (tellS (scOf val r' rl) 3 h.2.1 val s) := back236 _ _ ⟨X236, [xx], ⟨_, _, _, _, by rw [tellS_ev]; exact hR'⟩, fun e he => by rw [List.mem_singleton.1 he]; exact hge⟩
    have tl236 := tell_len (scOf val r' rl) 3 h.2.1 val s
    have sX236 := X236.size
    refine S.dend (by kernel_rfl) (sw2 (by kernel_rfl) X236) ?_
    refine S.drawN 7 #[false, false, false, false, false, false, false] 6 (fun u u' => Ext E0 u u') (fun u u' => Xt n₀ [56, 43] u u') (by kernel_rfl) (by kernel_rfl) (by kernel_rfl) (fun w252 E252 z252 => ?_)
    have sE252 := E252.size
    have B253 := B7.xt X11 (by decide)
    have B254 := B253.ext0 E21
    have B255 := B254.xt Ej22 (by decide)
    have B256 := B255.extO E36 hLj22.obj rfl
    have B257 := B256.ext0 E37
    have B258 := B257.ext0 E193
    have B259 := B258.ext0 E208
    have B260 := B259.extT E209 B208 (by decide)
    have B261 := B260.ext0 E210
    have B262 := B261.xt X236 (by decide)
    have B263 := B262.ext0 E252
    refine S.dreads roundQ_panicOk [0] 6 [.v (pT rb)] [8, 9, 48] (rs := [.load ⟨b1, 0, none⟩ (pT rb)]) (κ' := [(8, pT h.1), (9, pT b208), (48, pT rb)]) (l' := #[true, false, false, false, false, false, false]) (by kernel_rfl) (by kernel_rfl) (by kernel_rfl) (fun w' hw => hw.elim (fun hw => (.load ((B263.ext0 hw).cell 0 rfl) .nil)) (fun hw => (.load ((B263.xt hw (by decide)).cell 0 rfl) .nil))) ?_
    refine S.dreads roundQ_panicOk [1, 2, 3] 3 [] [9, 48, 51] (rs := []) (κ' := [(9, pT b208), (48, pT rb), (51, .pointer (some ⟨h.1, 2, none⟩))]) (l' := #[true, true, true, true, false, false, false]) (by kernel_rfl) (by kernel_rfl) (by kernel_rfl) (fun _ _ => rfl) ?_
    have B264 := hCa.1.extO E36 hLj22.obj rfl
    have B265 := B264.ext0 E37
    have B266 := B265.ext0 E193
    have B267 := B266.ext0 E208
    have B268 := B267.extT E209 B208 (by decide)
    have B269 := B268.ext0 E210
    have B270 := B269.xt X236 (by decide)
    have B271 := B270.ext0 E252
    refine S.dreads roundQ_panicOk [4] 2 [.v (iV h.2.2.d.1), .v (iV h.2.2.d.2), .v (.slice h.2.2.a h.2.2.len h.2.2.cap)] [9, 48, 52] (rs := [.load ⟨h.1, 2, none⟩ (iV h.2.2.d.1), .load ⟨h.1, 3, none⟩ (iV h.2.2.d.2), .load ⟨h.1, 4, none⟩ (.slice h.2.2.a h.2.2.len h.2.2.cap)]) (κ' := [(9, pT b208), (48, pT rb), (52, .agg #[iV h.2.2.d.1, iV h.2.2.d.2, .slice h.2.2.a h.2.2.len h.2.2.cap])]) (l' := #[true, true, true, true, true, false, false]) (by kernel_rfl) (by kernel_rfl) (by kernel_rfl) (fun w' hw => hw.elim (fun hw => (.load ((B271.ext0 hw).cell 2 rfl) (.load ((B271.ext0 hw).cell 3 rfl) (.load ((B271.ext0 hw).cell 4 rfl) .nil)))) (fun hw => (.load ((B271.xt hw (by decide)).cell 2 rfl) (.load ((B271.xt hw (by decide)).cell 3 rfl) (.load ((B271.xt hw (by decide)).cell 4 rfl) .nil))))) ?_
    have B272 := B209.ext0 E210
    have B273 := B272.xt X236 (by decide)
    have B274 := B273.ext0 E252
    refine S.dreads roundQ_panicOk [5] 1 [.v (iV val), .v (.pointer (hp r')), .v (.pointer (rp rl))] [48, 52, 53] (rs := [.load ⟨b208, 0, none⟩ (iV val), .load ⟨b208, 1, none⟩ (.pointer (hp r')), .load ⟨b208, 2, none⟩ (.pointer (rp rl))]) (κ' := [(48, pT rb), (52, .agg #[iV h.2.2.d.1, iV h.2.2.d.2, .slice h.2.2.a h.2.2.len h.2.2.cap]), (53, .agg #[iV val, .pointer (hp r'), .pointer (rp rl)])]) (l' := #[true, true, true, true, true, true, false]) (by kernel_rfl) (by kernel_rfl) (by kernel_rfl) (fun w' hw => hw.elim (fun hw => (.load ((B274.ext0 hw).cell 0 rfl) (.load ((B274.ext0 hw).cell 1 rfl) (.load ((B274.ext0 hw).cell 2 rfl) .nil)))) (fun hw => (.load ((B274.xt hw (by decide)).cell 0 rfl) (.load ((B274.xt hw (by decide)).cell 1 rfl) (.load ((B274.xt hw (by decide)).cell 2 rfl) .nil))))) ?_
    refine S.dnext (j := 6) (l' := #[true, true, true, true, true, true, true]) (by kernel_rfl) (by kernel_rfl) (sw1 (by kernel_rfl) (Ext.refl _)) ?_
    have P276 := PP236.std (.of0 E252) (PP236.1.trans (.of0 E252))
    obtain ⟨les275, hR275, back275⟩ := P276.open
    have T277 := (hCa.2.1).pres (.ofO E36 hLj22.obj rfl)
    have T278 := T277.pres (.of0 E37)
    have T279 := T278.pres (.of0 E193)
    have T280 := T279.pres (.of0 E208)
    have T281 := T280.pres (.ofS E209 (by omega))
    have T282 := T281.pres (.of0 E210)
    have T283 := T282.pres (.ofXn X236 (by omega))
    have T284 := T283.pres (.of0 E252)
    have N285 := N251.keeps (.ofX X236 (by decide) (by omega))
    have N286 := N285.keeps (.of0 E252)
    refine S.call (dst := some 54) (f := 59) (args := #[pT rb, .agg #[iV h.2.2.d.1, iV h.2.2.d.2, .slice h.2.2.a h.2.2.len h.2.2.cap], .agg #[iV val, .pointer (hp r'), .pointer (rp rl)]]) (by kernel_rfl) (by kernel_rfl) ((IH n₀ rb md _ (tellS (scOf val r' rl) 3 h.2.1 val s) les275 h.2.2 val r' rl hR275 T284 (hS.wf h (by rw [i22_0]; simp)) (ScOk.next (E' := 5000) (ScOk.tail N286 (pr := pr ++ [h]) (by rw [i22_0]; simp)) hvr (by omega) (by omega)) (by omega)).mono ?_)
    rintro e275 w275 ⟨ho275, hP275⟩
    have PP275 : RunP n₀ rb md p w w275 les (evalS p.xs k h.2.2 (scOf val r' rl) (tellS (scOf val r' rl) 3 h.2.1 val s)).2 := back275 _ _ hP275; have X275 := hP275.1; have hfin275 : Fin 0 1 (tellS (scOf val r' rl) 3 h.2.1 val s) (evalS p.xs k h.2.2 (scOf val r' rl) (tellS (scOf val r' rl) 3 h.2.1 val s)) := fin_eval p.xs k _ _ _; have ho275 : OutE rl (evalS p.xs k h.2.2 (scOf val r' rl) (tellS (scOf val r' rl) 3 h.2.1 val s)).1 e275 := ho275; have hP275 : RunP n₀ rb md p w252 w275 les275 (evalS p.xs k h.2.2 (scOf val r' rl) (tellS (scOf val r' rl) 3 h.2.1 val s)).2 := hP275
    rcases hr275 : evalS p.xs k h.2.2 (scOf val r' rl) (tellS (scOf val r' rl) 3 h.2.1 val s) with ⟨o275, σ275⟩
    rw [hr275] at ho275 PP275 hfin275 hP275
    have PQ275 : RunP n₀ rb md p w w275 les σ275 := PP275; have hq275 : OutE rl o275 e275 := ho275; have PR275 : RunP n₀ rb md p w252 w275 les275 σ275 := hP275
    clear PP275 ho275 hP275
    rcases outE_cases hq275 with ⟨v275, rfl, rfl, hv275⟩ | ⟨ch, rfl, hb275, hn275⟩
    ·skip
     have hf275 := hfin275.val
     refine After.ret (by kernel_rfl) ?_
     have sX275 := X275.size
     refine S.dend (by kernel_rfl) (sw2 (by kernel_rfl) X275) ?_
     refine S.out ?_
     have O287 := hL36.obj.ext0 E37
     have O288 := O287.ext0 E193
     have O289 := O288.ext0 E208
     have O290 := O289.extB E209 B208 rfl
     have O291 := O290.ext0 E210
     have O292 := O291.xt X236 rfl
     have O293 := O292.ext0 E252
     have O294 := O293.xt X275 rfl
     refine S.fin (fun _ _ _ _ => round_go hst22 hpe22 O294 (fun w295 E295 z295 hL295 => ?_))
     have sE295 := E295.size
     have N296 := hCa.keeps (.ofO E36 hLj22.obj rfl (by omega))
     have N297 := N296.keeps (.of0 E37)
     have N298 := N297.keeps (.of0 E193)
     have N299 := N298.keeps (.of0 E208)
     have N300 := N299.keeps (.ofS E209 B208 (by decide) (by omega))
     have N301 := N300.keeps (.of0 E210)
     have N302 := N301.keeps (.ofX X236 (by decide) (by omega))
     have N303 := N302.keeps (.of0 E252)
     have N304 := N303.keeps (.ofX X275 (by decide) (by omega))
     have N305 := N304.keeps (.ofO E295 O294 rfl (by omega))
     have B306 := hBa.extO E36 hLj22.obj rfl
     have B307 := B306.ext0 E37
     have B308 := B307.ext0 E193
     have B309 := B308.ext0 E208
     have B310 := B309.extT E209 B208 (by decide)
     have B311 := B310.ext0 E210
     have B312 := B311.xt X236 (by decide)
     have B313 := B312.ext0 E252
     have B314 := B313.xt X275 (by decide)
     have B315 := B314.extO E295 O294 rfl
     have O316 := hDj22.extS E36 (by omega)
     have O317 := O316.ext0 E37
     have O318 := O317.ext0 E193
     have O319 := O318.ext0 E208
     have O320 := O319.extB E209 B208 rfl
     have O321 := O320.ext0 E210
     have O322 := O321.xt X236 rfl
     have O323 := O322.ext0 E252
     have O324 := O323.xt X275 rfl
     have O325 := O324.extS E295 (by omega)
     have P326 := PQ275.std (.ofO E295 O294 rfl (by omega)) (PQ275.1.ofO E295 (by omega))
     exact .inl ⟨rfl, ⟨(pr ++ [h]), σ275, (((((((((Ej22.ofO E36 (by omega)).trans (Xt.of0 E37)).trans (Xt.of0 E193)).trans (Xt.of0 E208)).ofNew E209 (by rintro _ rfl; omega)).trans (Xt.of0 E210)).trans (X236.mono (by omega) (by decide))).trans (Xt.of0 E252)).trans (X275.mono (by omega) (by decide))).ofO E295 (by omega), hL295.obj, O325, (by rw [i22_0]; simp), (i22_1.trans ((raise_hit (.inr p192)).trans (by show bnd (evalS p.xs k h.2.2 (scOf val r' rl) (tellS (scOf val r' rl) 3 h.2.1 val s)) _ = _; rw [hr275]; rfl))), ⟨by omega, by omega⟩, P326⟩, N305, B315⟩
    ·skip
     have sX275 := X275.size
     have O327 := hDj22.extS E36 (by omega)
     have O328 := O327.ext0 E37
     have O329 := O328.ext0 E193
     have O330 := O329.ext0 E208
     have O331 := O330.extB E209 B208 rfl
     have O332 := O331.ext0 E210
     have O333 := O332.xt X236 rfl
     have O334 := O333.ext0 E252
     have O335 := O334.xt X275 rfl
     exact fun _ _ _ hd => ⟨hd, fun _ _ _ hd2 => panicM1 hd2 O335 (fun w9 E9 z9 => (by have hs : (raiseS (evalS p.xs k) (scOf hand hl rl) n val σ : Res Unit) = bnd (o275, σ275) (fun _ σ => raiseL (evalS p.xs k) (scOf hand hl rl).rs n val (List.map (·.2) r') σ) := (i22_1.trans ((raise_hit (.inr p192)).trans (by show bnd (evalS p.xs k h.2.2 (scOf val r' rl) (tellS (scOf val r' rl) 3 h.2.1 val s)) _ = _; rw [hr275]))); unfold PostU; rw [hs]; have hq9 := outU_of hq275 hn275 σ275 (fun _ σ => raiseL (evalS p.xs k) (scOf hand hl rl).rs n val (List.map (·.2) r') σ); exact ⟨hq9.1, by rw [hq9.2]; exact PQ275.std (.ofO E9 O335 rfl (by omega)) (PQ275.1.ofO E9 (by omega))⟩))⟩
   ·skip
    have p336 : h.2.1 ≠ (-1) := by simpa using c191
    refine S.no (by kernel_rfl) (S.skip (S.out ?_))
    have O337 := hL36.obj.ext0 E37
    refine S.fin (fun _ _ _ _ => round_go hst22 hpe22 O337 (fun w338 E338 z338 hL338 => ?_))
    have sE338 := E338.size
    have N339 := hCa.keeps (.ofO E36 hLj22.obj rfl (by omega))
    have N340 := N339.keeps (.of0 E37)
    have N341 := N340.keeps (.ofO E338 O337 rfl (by omega))
    have B342 := hBa.extO E36 hLj22.obj rfl
    have B343 := B342.ext0 E37
    have B344 := B343.extO E338 O337 rfl
    have O345 := hDj22.extS E36 (by omega)
    have O346 := O345.ext0 E37
    have O347 := O346.extS E338 (by omega)
    have P348 := i22_3.std (.ofO E36 hLj22.obj rfl (by omega)) (i22_3.1.ofO E36 (by omega))
    have P349 := P348.std (.of0 E37) (P348.1.trans (.of0 E37))
    have P350 := P349.std (.ofO E338 O337 rfl (by omega)) (P349.1.ofO E338 (by omega))
    exact .inl ⟨rfl, ⟨(pr ++ [h]), s, ((Ej22.ofO E36 (by omega)).trans (Xt.of0 E37)).ofO E338 (by omega), hL338.obj, O347, (by rw [i22_0]; simp), (i22_1.trans (raise_miss (fun hh => hh.elim p190 p336))), ⟨by omega, by omega⟩, P350⟩, N341, B344⟩
 ·skip
  rintro wa22 ⟨pr, s, Ej22, hLj22, hDj22, i22_0, i22_1, i22_2, i22_3⟩ -
  have sEj22 := Ej22.size
  refine after_go hLj22 hst22 hpe22 (fun w351 E351 z351 => ?_)
  have sE351 := E351.size
  refine S.out ?_
  have O352 := hDj22.extS E351 (by omega)
  refine S.finM1 O352 (A := []) (rs := []) (v := .tuple #[]) (fun _ => by kernel_rfl) (fun w9 E9 z9 => ⟨rfl, ?_⟩)
  have sE9 := E9.size
  have hs : (raiseS (evalS p.xs k) (scOf hand hl rl) n val σ : Res Unit) = (.val (), s) := i22_1.trans raise_nil
  have P353 := i22_3.std (.ofO E351 hLj22.obj rfl (by omega)) (i22_3.1.ofO E351 (by omega))
  have P354 := P353.std (.ofO E9 O352 rfl (by omega)) (P353.1.ofO E9 (by omega))
  unfold PostU; rw [hs]; exact ⟨rfl, P354⟩

theorem op_signal (p : LP) (k : Nat) (IH : EvalC p k) (hpw : ∀ y, y ∈ p.xs → WfX p.xs.length y) (n₀ rb md : Nat) (w : World) (σ : RSt) (les : List LE) (x : X) (hand : Int) (hl : List H) (rl : List RR) (hR : RunE n₀ rb md p w σ les) (hx : XOk n₀ w x) (hwf : WfX p.xs.length x) (hS : ScOk p.xs.length n₀ 899 4992 w hand hl rl σ) (hk : σ.fuel ≤ k) (hlen : x.len = 1) :
    Calls Try.prog 51 #[pT rb, .agg #[iV x.d.1, iV x.d.2, .slice x.a x.len x.cap], .agg #[iV hand, .pointer (hp hl), .pointer (rp rl)]] w (Post n₀ rb md p w les rl (bnd ((evalS p.xs k) (kid x 0) (scOf hand hl rl) σ) fun v σ => bnd (raiseS (evalS p.xs k) (scOf hand hl rl) x.d.2 v σ) fun _ σ => (.val 0, σ))) := by
 refine calls_of_S (n := 19) Try.func51 rfl rfl (by kernel_rfl) ?_
 have hev0 := hS.ev; have hh0 := hS.h1; have hr0 := hS.r1; have hrg := hS.rg; have P0 := RunP.refl hR; have hn0 := P0.n0
 have hkl := hx.len
 refine S.seq (S.region (S.one (by kernel_rfl) (S.new 4 [iV x.d.1, iV x.d.2, .slice x.a x.len x.cap] 60 (fun b => pT b) (by kernel_rfl) (by kernel_rfl) (fun b => by kernel_rfl) (fun b1 w1 E1 B1 e1 z1 => ?_))))
 have sE1 := E1.size
 refine S.one (by kernel_rfl) (S.new 5 [iV hand, .pointer (hp hl), .pointer (rp rl)] 94 (fun b => pT b) (by kernel_rfl) (by kernel_rfl) (fun b => by kernel_rfl) (fun b2 w2 E2 B2 e2 z2 => ?_))
 have sE2 := E2.size
 refine S.run 1 [] [0, 4, 5] (rs := []) (κ' := [(0, pT rb), (4, pT b1), (5, pT b2)]) (by kernel_rfl) (by kernel_rfl) rfl ?_
 refine S.regEnd (by kernel_rfl) (S.seq (S.drawN 12 #[false, false, false, false, false, false, false, false, false, false, false, false] 10 (fun u u' => Ext E0 u u') (fun u u' => Xt n₀ [56, 43] u u') (by kernel_rfl) (by kernel_rfl) (by kernel_rfl) (fun w3 E3 z3 => ?_)))
 have sE3 := E3.size
 refine S.dreads bodyPost_panicOk [0, 2, 4, 5] 8 [] [5, 7, 9, 11, 12] (rs := []) (κ' := [(5, pT b2), (7, pT rb), (9, .pointer (some ⟨b1, 1, none⟩)), (11, pT rb), (12, .pointer (some ⟨b1, 2, none⟩))]) (l' := #[true, false, true, false, true, true, false, false, false, false, false, false]) (by kernel_rfl) (by kernel_rfl) (by kernel_rfl) (fun _ _ => rfl) ?_
 have B4 := B2.ext0 E3
 refine S.dreads bodyPost_panicOk [1] 7 [.v (iV hand), .v (.pointer (hp hl)), .v (.pointer (rp rl))] [5, 7, 8, 9, 11, 12] (rs := [.load ⟨b2, 0, none⟩ (iV hand), .load ⟨b2, 1, none⟩ (.pointer (hp hl)), .load ⟨b2, 2, none⟩ (.pointer (rp rl))]) (κ' := [(5, pT b2), (7, pT rb), (8, .agg #[iV hand, .pointer (hp hl), .pointer (rp rl)]), (9, .pointer (some ⟨b1, 1, none⟩)), (11, pT rb), (12, .pointer (some ⟨b1, 2, none⟩))]) (l' := #[true, true, true, false, true, true, false, false, false, false, false, false]) (by kernel_rfl) (by kernel_rfl) (by kernel_rfl) (fun w' hw => hw.elim (fun hw => (.load ((B4.ext0 hw).cell 0 rfl) (.load ((B4.ext0 hw).cell 1 rfl) (.load ((B4.ext0 hw).cell 2 rfl) .nil)))) (fun hw => (.load ((B4.xt hw (by decide)).cell 0 rfl) (.load ((B4.xt hw (by decide)).cell 1 rfl) (.load ((B4.xt hw (by decide)).cell 2 rfl) .nil))))) ?_
 have B5 := B1.ext0 E2
 have B6 := B5.ext0 E3
 refine S.dreads bodyPost_panicOk [3] 6 [.v (iV x.d.2)] [5, 7, 8, 10, 11, 12] (rs := [.load ⟨b1, 1, none⟩ (iV x.d.2)]) (κ' := [(5, pT b2), (7, pT rb), (8, .agg #[iV hand, .pointer (hp hl), .pointer (rp rl)]), (10, iV x.d.2), (11, pT rb), (12, .pointer (some ⟨b1, 2, none⟩))]) (l' := #[true, true, true, true, true, true, false, false, false, false, false, false]) (by kernel_rfl) (by kernel_rfl) (by kernel_rfl) (fun w' hw => hw.elim (fun hw => (.load ((B6.ext0 hw).cell 1 rfl) .nil)) (fun hw => (.load ((B6.xt hw (by decide)).cell 1 rfl) .nil))) ?_
 refine S.dreads bodyPost_panicOk [6] 5 [.v (.slice x.a x.len x.cap)] [5, 7, 8, 10, 11, 13] (rs := [.load ⟨b1, 2, none⟩ (.slice x.a x.len x.cap)]) (κ' := [(5, pT b2), (7, pT rb), (8, .agg #[iV hand, .pointer (hp hl), .pointer (rp rl)]), (10, iV x.d.2), (11, pT rb), (13, .slice x.a x.len x.cap)]) (l' := #[true, true, true, true, true, true, true, false, false, false, false, false]) (by kernel_rfl) (by kernel_rfl) (by kernel_rfl) (fun w' hw => hw.elim (fun hw => (.load ((B6.ext0 hw).cell 2 rfl) .nil)) (fun hw => (.load ((B6.xt hw (by decide)).cell 2 rfl) .nil))) ?_
 refine S.dreads bodyPost_panicOk [9] 4 [.v (iV hand), .v (.pointer (hp hl)), .v (.pointer (rp rl))] [7, 8, 10, 11, 13, 16] (rs := [.load ⟨b2, 0, none⟩ (iV hand), .load ⟨b2, 1, none⟩ (.pointer (hp hl)), .load ⟨b2, 2, none⟩ (.pointer (rp rl))]) (κ' := [(7, pT rb), (8, .agg #[iV hand, .pointer (hp hl), .pointer (rp rl)]), (10, iV x.d.2), (11, pT rb), (13, .slice x.a x.len x.cap), (16, .agg #[iV hand, .pointer (hp hl), .pointer (rp rl)])]) (l' := #[true, true, true, true, true, true, true, false, false, true, false, false]) (by kernel_rfl) (by kernel_rfl) (by kernel_rfl) (fun w' hw => hw.elim (fun hw => (.load ((B4.ext0 hw).cell 0 rfl) (.load ((B4.ext0 hw).cell 1 rfl) (.load ((B4.ext0 hw).cell 2 rfl) .nil)))) (fun hw => (.load ((B4.xt hw (by decide)).cell 0 rfl) (.load ((B4.xt hw (by decide)).cell 1 rfl) (.load ((B4.xt hw (by decide)).cell 2 rfl) .nil))))) ?_
 have R7 := hx.row.pres (.of0 E1)
 have R8 := R7.pres (.of0 E2)
 have R9 := R8.pres (.of0 E3)
 obtain ⟨x10, b10, o10, hx10, h10, H10⟩ := R9.get 0 (by omega)
 have T11 := hx.pres (.of0 E1)
 have T12 := T11.pres (.of0 E2)
 have T13 := T12.pres (.of0 E3)
 have K10 := T13.kid (List.mem_of_getElem? hx10)
 have W10 := hwf.kid (List.mem_of_getElem? hx10)
 have hkid10 := kid_eq hx10
 refine S.dlaw bodyPost_panicOk 7 14 3 (v := .pointer (some ⟨b10, o10 + 0 * 3, none⟩)) (l' := #[true, true, true, true, true, true, true, true, false, true, false, false]) (by kernel_rfl) (by kernel_rfl) (by kernel_rfl) (by kernel_rfl) (fun w' hw => lawRun (s := Instr.indexAt 22 (.slice x.a x.len x.cap) (.int .i64 ((0 : Nat) : Int))) (by kernel_rfl) (run_idx (e := 60) 0 h10 (by kernel_rfl) (by kernel_rfl) (by omega))) ?_
 refine S.dreads bodyPost_panicOk [8] 2 [.v (iV x10.d.1), .v (iV x10.d.2), .v (.slice x10.a x10.len x10.cap)] [7, 8, 10, 11, 15, 16] (rs := [.load ⟨b10, o10 + 0 * 3, none⟩ (iV x10.d.1), .load ⟨b10, o10 + 0 * 3 + 1, none⟩ (iV x10.d.2), .load ⟨b10, o10 + 0 * 3 + 2, none⟩ (.slice x10.a x10.len x10.cap)]) (κ' := [(7, pT rb), (8, .agg #[iV hand, .pointer (hp hl), .pointer (rp rl)]), (10, iV x.d.2), (11, pT rb), (15, .agg #[iV x10.d.1, iV x10.d.2, .slice x10.a x10.len x10.cap]), (16, .agg #[iV hand, .pointer (hp hl), .pointer (rp rl)])]) (l' := #[true, true, true, true, true, true, true, true, true, true, false, false]) (by kernel_rfl) (by kernel_rfl) (by kernel_rfl) (fun w' hw => hw.elim (fun hw => (.load ((H10.pres (.of0 hw)).cell0 rfl) (.load ((H10.pres (.of0 hw)).cell 1 rfl) (.load ((H10.pres (.of0 hw)).cell 2 rfl) .nil)))) (fun hw => (.load ((H10.pres (.ofXn hw (by omega))).cell0 rfl) (.load ((H10.pres (.ofXn hw (by omega))).cell 1 rfl) (.load ((H10.pres (.ofXn hw (by omega))).cell 2 rfl) .nil))))) ?_
 refine S.dnext (j := 10) (l' := #[true, true, true, true, true, true, true, true, true, true, true, false]) (by kernel_rfl) (by kernel_rfl) (sw1 (by kernel_rfl) (Ext.refl _)) ?_
 have P15 := P0.std (.of0 E1) (P0.1.trans (.of0 E1))
 have P16 := P15.std (.of0 E2) (P15.1.trans (.of0 E2))
 have P17 := P16.std (.of0 E3) (P16.1.trans (.of0 E3))
 obtain ⟨les14, hR14, back14⟩ := P17.open
 have N18 := hS.keeps (.of0 E1)
 have N19 := N18.keeps (.of0 E2)
 have N20 := N19.keeps (.of0 E3)
 refine S.call (dst := some 17) (f := 59) (args := #[pT rb, .agg #[iV x10.d.1, iV x10.d.2, .slice x10.a x10.len x10.cap], .agg #[iV hand, .pointer (hp hl), .pointer (rp rl)]]) (by kernel_rfl) (by kernel_rfl) ((IH n₀ rb md _ σ les14 x10 hand hl rl hR14 K10 W10 ((N20.next (E' := 5000) hrg (by omega) (by omega)).mono (by omega) (Nat.le_refl _)) (by omega)).mono ?_)
 rintro e14 w14 ⟨ho14, hP14⟩
 have PP14 : RunP n₀ rb md p w w14 les (evalS p.xs k x10 (scOf hand hl rl) σ).2 := back14 _ _ hP14; have X14 := hP14.1; have hfin14 : Fin 0 1 σ (evalS p.xs k x10 (scOf hand hl rl) σ) := fin_eval p.xs k _ _ _; have ho14 : OutE rl (evalS p.xs k x10 (scOf hand hl rl) σ).1 e14 := ho14; have hP14 : RunP n₀ rb md p w3 w14 les14 (evalS p.xs k x10 (scOf hand hl rl) σ).2 := hP14
 rcases hr14 : evalS p.xs k x10 (scOf hand hl rl) σ with ⟨o14, σ14⟩
 rw [hr14] at ho14 PP14 hfin14 hP14
 have PQ14 : RunP n₀ rb md p w w14 les σ14 := PP14; have hq14 : OutE rl o14 e14 := ho14; have PR14 : RunP n₀ rb md p w3 w14 les14 σ14 := hP14
 clear PP14 ho14 hP14
 rcases outE_cases hq14 with ⟨v14, rfl, rfl, hv14⟩ | ⟨ch, rfl, hb14, hn14⟩
 ·skip
  have hf14 := hfin14.val
  refine After.ret (by kernel_rfl) ?_
  have sX14 := X14.size
  refine S.dnext (j := 11) (l' := #[true, true, true, true, true, true, true, true, true, true, true, true]) (by kernel_rfl) (by kernel_rfl) (sw2 (by kernel_rfl) X14) ?_
  obtain ⟨les21, hR21, back21⟩ := PQ14.open
  have N22 := N20.keeps (.ofX X14 (by decide) (by omega))
  refine S.call (dst := some 18) (f := 71) (args := #[pT rb, .agg #[iV hand, .pointer (hp hl), .pointer (rp rl)], iV x.d.2, iV v14]) (by kernel_rfl) (by kernel_rfl) ((raise_spec p k IH n₀ rb md _ σ14 les21 hand hl rl hR21 ((N22.next (E' := 4996) hrg (by omega) (by omega)).mono (by omega) (Nat.le_refl _)) (by omega) x.d.2 v14 hv14).mono ?_)
  rintro e21 w21 ⟨ho21, hP21⟩
  have PP21 : RunP n₀ rb md p w w21 les (raiseS (evalS p.xs k) (scOf hand hl rl) x.d.2 v14 σ14).2 := back21 _ _ hP21; have X21 := hP21.1; have hfin21 : Fin 2 0 σ14 (raiseS (evalS p.xs k) (scOf hand hl rl) x.d.2 v14 σ14) := fin_raise (fin_eval p.xs k) _ _ _ _; clear hP21
  rcases hr21 : raiseS (evalS p.xs k) (scOf hand hl rl) x.d.2 v14 σ14 with ⟨o21, σ21⟩
  rw [hr21] at ho21 PP21 hfin21
  have PQ21 : RunP n₀ rb md p w w21 les σ21 := PP21; have hq21 : OutU rl o21 e21 := ho21
  clear PP21 ho21
  rcases outU_cases hq21 with ⟨v21, rfl, rfl⟩ | ⟨ch, rfl, o', hq', hn21, hb21⟩
  ·skip
   have hf21 := hfin21.val
   refine After.ret (by kernel_rfl) ?_
   have sX21 := X21.size
   refine S.dend (by kernel_rfl) (sw2 (by kernel_rfl) (X14.trans X21)) ?_
   refine S.seq (S.region (S.run 1 [] [6] (rs := []) (κ' := [(6, iV 0)]) (by kernel_rfl) (by kernel_rfl) rfl ?_))
   refine S.regEnd (by kernel_rfl) ?_
   have hs : (bnd ((evalS p.xs k) (kid x 0) (scOf hand hl rl) σ) fun v σ => bnd (raiseS (evalS p.xs k) (scOf hand hl rl) x.d.2 v σ) fun _ σ => (.val 0, σ) : Res Int) = (.val 0, σ21) := by simp only [hkid10, hr14, hr21, bnd_val, bnd_bnd]
   rw [hs]
   exact S.ret1 (v := iV 0) rfl (by kernel_rfl) (⟨⟨rfl, (by unfold Rg; omega)⟩, PQ21⟩)
  ·skip
   exact fun _ _ _ hd => ⟨hd, (by have hs : (bnd ((evalS p.xs k) (kid x 0) (scOf hand hl rl) σ) fun v σ => bnd (raiseS (evalS p.xs k) (scOf hand hl rl) x.d.2 v σ) fun _ σ => (.val 0, σ) : Res Int) = (o', σ21) := (by simp only [hkid10, hr14, hr21, hb21, bnd_val, bnd_bnd]); rw [hs]; exact ⟨hq', PQ21⟩)⟩
 ·skip
  exact fun _ _ _ hd => ⟨hd, (by have hs : (bnd ((evalS p.xs k) (kid x 0) (scOf hand hl rl) σ) fun v σ => bnd (raiseS (evalS p.xs k) (scOf hand hl rl) x.d.2 v σ) fun _ σ => (.val 0, σ) : Res Int) = (o14, σ14) := (by simp only [hkid10, hr14, hb14, bnd_val, bnd_bnd]); rw [hs]; exact ⟨hq14, PQ14⟩)⟩

theorem find_miss {n : Int} {h : RR} {r : List RR} (c : h.2 ≠ n) : findR n (List.map (·.2) (h :: r)) = findR n (List.map (·.2) r) := by simp only [List.map_cons, findR, if_neg c]
theorem find_hit {n : Int} {h : RR} {r : List RR} (c : h.2 = n) : findR n (List.map (·.2) (h :: r)) = some r.length := by simp only [List.map_cons, findR, if_pos c, List.length_map]

theorem op_find (p : LP) (n₀ rb md : Nat) (w : World) (σ : RSt) (les : List LE) (x : X) (hand : Int) (hl : List H) (rl : List RR) (hR : RunE n₀ rb md p w σ les) (hS : ScOk p.xs.length n₀ 900 5000 w hand hl rl σ) :
    Calls Try.prog 56 #[pT rb, .agg #[iV x.d.1, iV x.d.2, .slice x.a x.len x.cap], .agg #[iV hand, .pointer (hp hl), .pointer (rp rl)]] w (Post n₀ rb md p w les rl ((.val (if (findR x.d.2 (scOf hand hl rl).rs).isSome then 1 else 0), σ))) := by
 refine calls_of_SM (n := 19) Try.func56 rfl rfl (by kernel_rfl) ?_
 have hn0 := (RunP.refl hR).n0
 refine S.seq (S.region (S.one (by kernel_rfl) (S.new 4 [iV x.d.1, iV x.d.2, .slice x.a x.len x.cap] 60 (fun b => pT b) (by kernel_rfl) (by kernel_rfl) (fun b => by kernel_rfl) (fun b1 w1 E1 B1 e1 z1 => ?_))))
 have sE1 := E1.size
 refine S.one (by kernel_rfl) (S.new 5 [iV hand, .pointer (hp hl), .pointer (rp rl)] 94 (fun b => pT b) (by kernel_rfl) (by kernel_rfl) (fun b => by kernel_rfl) (fun b2 w2 E2 B2 e2 z2 => ?_))
 have sE2 := E2.size
 refine S.one (by kernel_rfl) (S.new 6 [iV 0] 3 (fun b => pT b) (by kernel_rfl) (by kernel_rfl) (fun b => by kernel_rfl) (fun b3 w3 E3 B3 e3 z3 => ?_))
 have sE3 := E3.size
 refine S.regEnd (by kernel_rfl) (S.seq (S.seq (S.region ?_)))
 have B4 := B2.ext0 E3
 refine S.run 2 [.v (.pointer (rp rl))] [4, 6, 9] (rs := [.load ⟨b2, 2, none⟩ (.pointer (rp rl))]) (κ' := [(4, pT b1), (6, pT b3), (9, .pointer (rp rl))]) (by kernel_rfl) (by kernel_rfl) (.load (B4.cell 2 rfl) .nil) ?_
 refine S.one (by kernel_rfl) (S.call (dst := some 10) (f := 73) (args := #[.pointer (rp rl)]) (by kernel_rfl) (by kernel_rfl) ((restarts_spec rl _).mono ?_))
 rintro _ w5 ⟨E5, b5, e5, z5, B5, rfl⟩
 refine After.ret (by kernel_rfl) ?_
 have sE5 := E5.size
 refine S.regEnd (by kernel_rfl) (S.block (S.range (gf := 91) (lb := #[.pointer (some ⟨b5, 0, none⟩)]) rfl (by kernel_rfl) (fun l => by kernel_rfl) (fun d6 l6 w6 r6 E6 ed6 el6 z6 hD6 hL6 hst6 hpe6 hn6 hk6 hpar6 hass6 hbod6 => ?_)))
 rw [show (#[.func (.yield l6) #[] #[]] ++ #[.pointer (some ⟨b5, 0, none⟩)] : Array Value) = #[.func (.yield l6) #[] #[], .pointer (some ⟨b5, 0, none⟩)] from by kernel_rfl]
 have sE6 := E6.size
 have B7 := B5.ext0 E6
 have N8 := hS.rc.keeps (.of0 E1)
 have N9 := N8.keeps (.of0 E2)
 have N10 := N9.keeps (.of0 E3)
 have N11 := N10.keeps (.of0 E5)
 have N12 := N11.keeps (.of0 E6)
 have B13 := B3.ext0 E5
 have B14 := B13.ext0 E6
 refine restarts_iter _ b5 (.func (.yield l6) #[] #[]) (fun (r' : List RR) wj => Xt w.heap.size [92, 3] w5 wj ∧ LoopAt wj l6 r6 ∧ ObjAt wj d6 (.deferred (some [])) ∧ findR x.d.2 (List.map (·.2) rl) = findR x.d.2 (List.map (·.2) r') ∧ Blk wj b3 [iV 0] 3) _ rl _ B7 N12 (by omega) ⟨(Xt.of0 E6), hL6.obj, hD6, rfl, B14⟩ ?_ ?_ ?_
 ·skip
  rintro r' wa6 wb cs ⟨Ej6, hLj6, hDj6, i6_0, i6_1⟩ hBx hEx
  have sEj6 := Ej6.size
  have shEx := hEx.size
  have O15 := hLj6.obj.extB hEx hBx rfl
  have O16 := hDj6.extB hEx hBx rfl
  have B17 := i6_1.extT hEx hBx (by decide)
  exact ⟨Ej6.trans (Xt.ofS hEx hBx (by decide) (by omega)), O15, O16, i6_0, B17⟩
 ·skip
  rintro h r' wa6 ⟨Ej6, hLj6, hDj6, i6_0, i6_1⟩ hCa hBa
  have sEj6 := Ej6.size
  refine rStep0_le (S.round (κ₁ := [(4, pT b1), (6, pT b3), (7, pT h.1)]) hLj6 hst6 (.inr (fun _ _ h => h)) hn6 hk6 hpar6 hass6 hbod6 rfl (by kernel_rfl) ?_ ?_)
  · refine S.region (S.run (κ' := [(4, pT b1), (6, pT b3), (7, pT h.1)]) 1 [] [4, 6, 7] (rs := []) (by kernel_rfl) (by kernel_rfl) rfl (S.regEnd (by kernel_rfl) (S.stop (fun _ hs hh hd => ⟨rfl, hs, hh, hd⟩))))
  intro w18 E18 z18 hL18
  have sE18 := E18.size
  refine S.block (S.seq (S.drawN 7 #[false, false, false, false, false, false, false] 7 (fun u u' => Ext E0 u u') (fun u u' => Ext E0 u u') (by kernel_rfl) (by kernel_rfl) (by kernel_rfl) (fun w19 E19 z19 => ?_)))
  have sE19 := E19.size
  have B20 := hCa.1.extO E18 hLj6.obj rfl
  have B21 := B20.ext0 E19
  have B22 := B1.ext0 E2
  have B23 := B22.ext0 E3
  have B24 := B23.ext0 E5
  have B25 := B24.xt Ej6 (by decide)
  have B26 := B25.extO E18 hLj6.obj rfl
  have B27 := B26.ext0 E19
  refine S.dreads roundQ_panicOk [0, 1, 2, 3, 4, 5, 6] 0 [.v (iV h.2), .v (iV x.d.2)] [6, 18] (rs := [.load ⟨h.1, 1, none⟩ (iV h.2), .load ⟨b1, 1, none⟩ (iV x.d.2)]) (κ' := [(6, pT b3), (18, .bool (h.2 == x.d.2))]) (l' := #[true, true, true, true, true, true, true]) (by kernel_rfl) (by kernel_rfl) (by kernel_rfl) (fun w' hw => have hw := hw.elim id id; (.load ((B21.ext0 hw).cell 1 rfl) (.load ((B27.ext0 hw).cell 1 rfl) .nil))) ?_
  refine S.dend (by kernel_rfl) (sw1 (by kernel_rfl) (Ext.refl _)) ?_
  refine S.both 18 (h.2 == x.d.2) (by kernel_rfl) (fun c28 => ?_) (fun c28 => ?_)
  ·skip
   have p29 : h.2 = x.d.2 := by simpa using c28
   refine S.yes (by kernel_rfl) (S.seq (S.region ?_))
   have B30 := i6_1.extO E18 hLj6.obj rfl
   have B31 := B30.ext0 E19
   refine S.one (by kernel_rfl) (S.store 0 [iV 1] [iV 1] B31 (by kernel_rfl) (by kernel_rfl) (by kernel_rfl) (by kernel_rfl) (by kernel_rfl) (fun w32 E32 B32 z32 => ?_))
   have sE32 := E32.size
   refine S.regEnd (by kernel_rfl) ?_
   have O33 := hL18.obj.ext0 E19
   have O34 := O33.extB E32 B31 rfl
   refine S.ret (fun _ _ _ _ => round_ret O34 (fun w35 E35 z35 hL35 => .inr ⟨rfl, ?_⟩))
   have sE35 := E35.size
   refine after_out hL35.obj rfl rfl (fun w36 E36 z36 => ?_)
   have sE36 := E36.size
   have O37 := hDj6.extS E18 (by omega)
   have O38 := O37.ext0 E19
   have O39 := O38.extB E32 B31 rfl
   have O40 := O39.extS E35 (by omega)
   have O41 := O40.extS E36 (by omega)
   have B43 := B32.extO E35 O34 rfl
   have B44 := B43.extO E36 hL35.obj rfl
   have hfd : findR x.d.2 (List.map (·.2) rl) = some _ := (i6_0.trans (find_hit p29))
   refine S.retM1 O41 (A := [.v (.int .i64 1)]) (rs := [.load ⟨b3, 0, none⟩ (.int .i64 1)]) (v := .int .i64 1) (fun _ => by kernel_rfl) (fun w9 E9 z9 => ⟨(.load ((B44.extO E9 O41 rfl).cell 0 rfl) .nil), ?_⟩)
   have hs : (((.val (if (findR x.d.2 (scOf hand hl rl).rs).isSome then 1 else 0), σ)) : Res Int) = (.val 1, σ) := by show ((.val (if (findR x.d.2 (List.map (·.2) rl)).isSome then 1 else 0), σ) : Res Int) = _; rw [hfd]; rfl
   rw [hs]; exact ⟨⟨rfl, by unfold Rg; omega⟩, RunP.of0 hR ((((((((((E1.trans E2).trans E3).trans E5).thenX Ej6 (by omega)).thenS E18 (by omega)).trans E19).thenS E32 (by omega)).thenS E35 (by omega)).thenS E36 (by omega)).thenS E9 (by omega))⟩
  ·skip
   have p45 : h.2 ≠ x.d.2 := by simpa using c28
   refine S.no (by kernel_rfl) (S.skip (S.out ?_))
   have O46 := hL18.obj.ext0 E19
   refine S.fin (fun _ _ _ _ => round_go hst6 hpe6 O46 (fun w47 E47 z47 hL47 => ?_))
   have sE47 := E47.size
   have N48 := hCa.keeps (.ofO E18 hLj6.obj rfl (by omega))
   have N49 := N48.keeps (.of0 E19)
   have N50 := N49.keeps (.ofO E47 O46 rfl (by omega))
   have B51 := hBa.extO E18 hLj6.obj rfl
   have B52 := B51.ext0 E19
   have B53 := B52.extO E47 O46 rfl
   have O54 := hDj6.extS E18 (by omega)
   have O55 := O54.ext0 E19
   have O56 := O55.extS E47 (by omega)
   have B57 := i6_1.extO E18 hLj6.obj rfl
   have B58 := B57.ext0 E19
   have B59 := B58.extO E47 O46 rfl
   exact .inl ⟨rfl, ⟨((Ej6.ofO E18 (by omega)).trans (Xt.of0 E19)).ofO E47 (by omega), hL47.obj, O56, (i6_0.trans (find_miss p45)), B59⟩, N50, B53⟩
 ·skip
  rintro wa6 ⟨Ej6, hLj6, hDj6, i6_0, i6_1⟩ -
  have sEj6 := Ej6.size
  refine after_go hLj6 hst6 hpe6 (fun w60 E60 z60 => ?_)
  have sE60 := E60.size
  refine S.out (S.seq (S.region ?_))
  have B61 := i6_1.extO E60 hLj6.obj rfl
  refine S.one (by kernel_rfl) (S.store 0 [iV 0] [iV 0] B61 (by kernel_rfl) (by kernel_rfl) (by kernel_rfl) (by kernel_rfl) (by kernel_rfl) (fun w62 E62 B62 z62 => ?_))
  have sE62 := E62.size
  refine S.regEnd (by kernel_rfl) ?_
  have O63 := hDj6.extS E60 (by omega)
  have O64 := O63.extB E62 B61 rfl
  have hfd : findR x.d.2 (List.map (·.2) rl) = none := i6_0
  refine S.retM1 O64 (A := [.v (.int .i64 0)]) (rs := [.load ⟨b3, 0, none⟩ (.int .i64 0)]) (v := .int .i64 0) (fun _ => by kernel_rfl) (fun w9 E9 z9 => ⟨(.load ((B62.extO E9 O64 rfl).cell 0 rfl) .nil), ?_⟩)
  have hs : (((.val (if (findR x.d.2 (scOf hand hl rl).rs).isSome then 1 else 0), σ)) : Res Int) = (.val 0, σ) := by show ((.val (if (findR x.d.2 (List.map (·.2) rl)).isSome then 1 else 0), σ) : Res Int) = _; rw [hfd]; rfl
  rw [hs]; exact ⟨⟨rfl, by unfold Rg; omega⟩, RunP.of0 hR (((((((E1.trans E2).trans E3).trans E5).thenX Ej6 (by omega)).thenS E60 (by omega)).thenS E62 (by omega)).thenS E9 (by omega))⟩

theorem rev_at {pr r : List RR} {h : RR} : (pr ++ h :: r).reverse[r.length]? = some h := by
  rw [List.reverse_append, List.reverse_cons, List.append_assoc, List.getElem?_append_right (by simp)]
  simp

theorem op_choose (p : LP) (k : Nat) (IH : EvalC p k) (hpw : ∀ y, y ∈ p.xs → WfX p.xs.length y) (n₀ rb md : Nat) (w : World) (σ : RSt) (les : List LE) (x : X) (hand : Int) (hl : List H) (rl : List RR) (hR : RunE n₀ rb md p w σ les) (hx : XOk n₀ w x) (hwf : WfX p.xs.length x) (hS : ScOk p.xs.length n₀ 899 4992 w hand hl rl σ) (hk : σ.fuel ≤ k) (hlen : x.len = 1) :
    Calls Try.prog 55 #[pT rb, .agg #[iV x.d.1, iV x.d.2, .slice x.a x.len x.cap], .agg #[iV hand, .pointer (hp hl), .pointer (rp rl)]] w (Post n₀ rb md p w les rl (bnd ((evalS p.xs k) (kid x 0) (scOf hand hl rl) σ) fun v σ => match findR x.d.2 (List.map (·.2) rl) with | some d => choiceS (scOf hand hl rl) d x.d.2 v σ | none => (.stop 3, σ))) := by
 refine calls_of_SMF (n := 34) Try.func55 rfl rfl (by kernel_rfl) ?_
 have hev0 := hS.ev; have hh0 := hS.h1; have hr0 := hS.r1; have hrg := hS.rg; have P0 := RunP.refl hR; have hn0 := P0.n0; have hkl := hx.len
 refine S.seqF (S.region (S.one (by kernel_rfl) (S.new 3 [pT rb] 52 (fun b => pT b) (by kernel_rfl) (by kernel_rfl) (fun b => by kernel_rfl) (fun b1 w1 E1 B1 e1 z1 => ?_))))
 have sE1 := E1.size
 refine S.one (by kernel_rfl) (S.new 4 [iV x.d.1, iV x.d.2, .slice x.a x.len x.cap] 60 (fun b => pT b) (by kernel_rfl) (by kernel_rfl) (fun b => by kernel_rfl) (fun b2 w2 E2 B2 e2 z2 => ?_))
 have sE2 := E2.size
 refine S.one (by kernel_rfl) (S.new 5 [iV hand, .pointer (hp hl), .pointer (rp rl)] 94 (fun b => pT b) (by kernel_rfl) (by kernel_rfl) (fun b => by kernel_rfl) (fun b3 w3 E3 B3 e3 z3 => ?_))
 have sE3 := E3.size
 refine S.one (by kernel_rfl) (S.new 6 [iV 0] 3 (fun b => pT b) (by kernel_rfl) (by kernel_rfl) (fun b => by kernel_rfl) (fun b4 w4 E4 B4 e4 z4 => ?_))
 have sE4 := E4.size
 refine S.regEnd (by kernel_rfl) (S.seqF (S.drawN 9 #[false, false, false, false, false, false, false, false, false] 6 (fun u u' => Ext E0 u u') (fun u u' => Xt n₀ [56, 43] u u') (by kernel_rfl) (by kernel_rfl) (by kernel_rfl) (fun w5 E5 z5 => ?_)))
 have sE5 := E5.size
 have B6 := B1.ext0 E2
 have B7 := B6.ext0 E3
 have B8 := B7.ext0 E4
 have B9 := B8.ext0 E5
 refine S.dreads dq_panicOk [0] 8 [.v (pT rb)] [3, 4, 5, 6, 9] (rs := [.load ⟨b1, 0, none⟩ (pT rb)]) (κ' := [(3, pT b1), (4, pT b2), (5, pT b3), (6, pT b4), (9, pT rb)]) (l' := #[true, false, false, false, false, false, false, false, false]) (by kernel_rfl) (by kernel_rfl) (by kernel_rfl) (fun w' hw => hw.elim (fun hw => (.load ((B9.ext0 hw).cell 0 rfl) .nil)) (fun hw => (.load ((B9.xt hw (by decide)).cell 0 rfl) .nil))) ?_
 refine S.dreads dq_panicOk [1] 7 [] [3, 4, 5, 6, 9, 10] (rs := []) (κ' := [(3, pT b1), (4, pT b2), (5, pT b3), (6, pT b4), (9, pT rb), (10, .pointer (some ⟨b2, 2, none⟩))]) (l' := #[true, true, false, false, false, false, false, false, false]) (by kernel_rfl) (by kernel_rfl) (by kernel_rfl) (fun _ _ => rfl) ?_
 have B10 := B2.ext0 E3
 have B11 := B10.ext0 E4
 have B12 := B11.ext0 E5
 refine S.dreads dq_panicOk [2] 6 [.v (.slice x.a x.len x.cap)] [3, 4, 5, 6, 9, 11] (rs := [.load ⟨b2, 2, none⟩ (.slice x.a x.len x.cap)]) (κ' := [(3, pT b1), (4, pT b2), (5, pT b3), (6, pT b4), (9, pT rb), (11, .slice x.a x.len x.cap)]) (l' := #[true, true, true, false, false, false, false, false, false]) (by kernel_rfl) (by kernel_rfl) (by kernel_rfl) (fun w' hw => hw.elim (fun hw => (.load ((B12.ext0 hw).cell 2 rfl) .nil)) (fun hw => (.load ((B12.xt hw (by decide)).cell 2 rfl) .nil))) ?_
 have B13 := B3.ext0 E4
 have B14 := B13.ext0 E5
 refine S.dreads dq_panicOk [5] 5 [.v (iV hand), .v (.pointer (hp hl)), .v (.pointer (rp rl))] [3, 4, 5, 6, 9, 11, 14] (rs := [.load ⟨b3, 0, none⟩ (iV hand), .load ⟨b3, 1, none⟩ (.pointer (hp hl)), .load ⟨b3, 2, none⟩ (.pointer (rp rl))]) (κ' := [(3, pT b1), (4, pT b2), (5, pT b3), (6, pT b4), (9, pT rb), (11, .slice x.a x.len x.cap), (14, .agg #[iV hand, .pointer (hp hl), .pointer (rp rl)])]) (l' := #[true, true, true, false, false, true, false, false, false]) (by kernel_rfl) (by kernel_rfl) (by kernel_rfl) (fun w' hw => hw.elim (fun hw => (.load ((B14.ext0 hw).cell 0 rfl) (.load ((B14.ext0 hw).cell 1 rfl) (.load ((B14.ext0 hw).cell 2 rfl) .nil)))) (fun hw => (.load ((B14.xt hw (by decide)).cell 0 rfl) (.load ((B14.xt hw (by decide)).cell 1 rfl) (.load ((B14.xt hw (by decide)).cell 2 rfl) .nil))))) ?_
 have R15 := hx.row.pres (.of0 E1)
 have R16 := R15.pres (.of0 E2)
 have R17 := R16.pres (.of0 E3)
 have R18 := R17.pres (.of0 E4)
 have R19 := R18.pres (.of0 E5)
 obtain ⟨x20, b20, o20, hx20, h20, H20⟩ := R19.get 0 (by omega)
 have T21 := hx.pres (.of0 E1)
 have T22 := T21.pres (.of0 E2)
 have T23 := T22.pres (.of0 E3)
 have T24 := T23.pres (.of0 E4)
 have T25 := T24.pres (.of0 E5)
 have K20 := T25.kid (List.mem_of_getElem? hx20)
 have W20 := hwf.kid (List.mem_of_getElem? hx20)
 have hkid20 := kid_eq hx20
 refine S.dlaw dq_panicOk 3 12 4 (v := .pointer (some ⟨b20, o20 + 0 * 3, none⟩)) (l' := #[true, true, true, true, false, true, false, false, false]) (by kernel_rfl) (by kernel_rfl) (by kernel_rfl) (by kernel_rfl) (fun w' hw => lawRun (s := Instr.indexAt 22 (.slice x.a x.len x.cap) (.int .i64 ((0 : Nat) : Int))) (by kernel_rfl) (run_idx (e := 60) 0 h20 (by kernel_rfl) (by kernel_rfl) (by omega))) ?_
 refine S.dreads dq_panicOk [4] 3 [.v (iV x20.d.1), .v (iV x20.d.2), .v (.slice x20.a x20.len x20.cap)] [3, 4, 5, 6, 9, 13, 14] (rs := [.load ⟨b20, o20 + 0 * 3, none⟩ (iV x20.d.1), .load ⟨b20, o20 + 0 * 3 + 1, none⟩ (iV x20.d.2), .load ⟨b20, o20 + 0 * 3 + 2, none⟩ (.slice x20.a x20.len x20.cap)]) (κ' := [(3, pT b1), (4, pT b2), (5, pT b3), (6, pT b4), (9, pT rb), (13, .agg #[iV x20.d.1, iV x20.d.2, .slice x20.a x20.len x20.cap]), (14, .agg #[iV hand, .pointer (hp hl), .pointer (rp rl)])]) (l' := #[true, true, true, true, true, true, false, false, false]) (by kernel_rfl) (by kernel_rfl) (by kernel_rfl) (fun w' hw => hw.elim (fun hw => (.load ((H20.pres (.of0 hw)).cell0 rfl) (.load ((H20.pres (.of0 hw)).cell 1 rfl) (.load ((H20.pres (.of0 hw)).cell 2 rfl) .nil)))) (fun hw => (.load ((H20.pres (.ofXn hw (by omega))).cell0 rfl) (.load ((H20.pres (.ofXn hw (by omega))).cell 1 rfl) (.load ((H20.pres (.ofXn hw (by omega))).cell 2 rfl) .nil))))) ?_
 refine S.dready (js := [6, 7]) (by kernel_rfl) rfl (sw1 (by kernel_rfl) (Ext.refl _)) ?_
 intro j26 hj26
 simp only [List.mem_cons, List.not_mem_nil, or_false] at hj26
 rcases hj26 with rfl | rfl
 ·skip
  show S _ _ _ _ _ (.one _ 6 :: .dreg _ #[true, true, true, true, true, true, true, false, false] _ _ :: _) _ _
  have P28 := P0.std (.of0 E1) (P0.1.trans (.of0 E1))
  have P29 := P28.std (.of0 E2) (P28.1.trans (.of0 E2))
  have P30 := P29.std (.of0 E3) (P29.1.trans (.of0 E3))
  have P31 := P30.std (.of0 E4) (P30.1.trans (.of0 E4))
  have P32 := P31.std (.of0 E5) (P31.1.trans (.of0 E5))
  have hR27 := hR.ext0 ((((E1.trans E2).trans E3).trans E4).trans E5); have back27 := fun w2 σ2 (h : RunP n₀ rb md p w5 w2 les σ2) => RunP.pre0 ((((E1.trans E2).trans E3).trans E4).trans E5) h
  have N33 := hS.keeps (.of0 E1)
  have N34 := N33.keeps (.of0 E2)
  have N35 := N34.keeps (.of0 E3)
  have N36 := N35.keeps (.of0 E4)
  have N37 := N36.keeps (.of0 E5)
  refine S.call (dst := some 15) (f := 59) (args := #[pT rb, .agg #[iV x20.d.1, iV x20.d.2, .slice x20.a x20.len x20.cap], .agg #[iV hand, .pointer (hp hl), .pointer (rp rl)]]) (by kernel_rfl) (by kernel_rfl) ((IH n₀ rb md _ σ les x20 hand hl rl hR27 K20 W20 ((N37.next (E' := 5000) hrg (by omega) (by omega)).mono (by omega) (Nat.le_refl _)) (by omega)).mono ?_)
  rintro e27 w27 ⟨ho27, hP27⟩
  have PP27 : RunP n₀ rb md p w w27 les (evalS p.xs k x20 (scOf hand hl rl) σ).2 := back27 _ _ hP27; have X27 := hP27.1; have hfin27 : Fin 0 1 σ (evalS p.xs k x20 (scOf hand hl rl) σ) := fin_eval p.xs k _ _ _; have ho27 : OutE rl (evalS p.xs k x20 (scOf hand hl rl) σ).1 e27 := ho27; have hP27 : RunP n₀ rb md p w5 w27 les (evalS p.xs k x20 (scOf hand hl rl) σ).2 := hP27
  rcases hr27 : evalS p.xs k x20 (scOf hand hl rl) σ with ⟨o27, σ27⟩
  rw [hr27] at ho27 PP27 hfin27 hP27
  have PQ27 : RunP n₀ rb md p w w27 les σ27 := PP27; have hq27 : OutE rl o27 e27 := ho27; have PR27 : RunP n₀ rb md p w5 w27 les σ27 := hP27
  clear PP27 ho27 hP27
  rcases outE_cases hq27 with ⟨v27, rfl, rfl, hv27⟩ | ⟨ch, rfl, hb27, hn27⟩
  ·skip
   have hf27 := hfin27.val
   refine After.ret (by kernel_rfl) ?_
   have sX27 := X27.size
   refine S.dnext (j := 7) (l' := #[true, true, true, true, true, true, true, true, false]) (by kernel_rfl) (by kernel_rfl) (sw2 (by kernel_rfl) X27) ?_
   refine S.new 7 [iV 0] 3 (fun b => pT b) (by kernel_rfl) (by kernel_rfl) (fun b => by kernel_rfl) (fun b38 w38 E38 B38 e38 z38 => ?_)
   have sE38 := E38.size
   refine S.dnext (j := 8) (l' := #[true, true, true, true, true, true, true, true, true]) (by kernel_rfl) (by kernel_rfl) (sw2 (by kernel_rfl) (X27.trans (Xt.of0 E38))) ?_
   refine S.store 0 [iV v27] [iV v27] B38 (by kernel_rfl) (by kernel_rfl) (by kernel_rfl) (by kernel_rfl) (by kernel_rfl) (fun w39 E39 B39 z39 => ?_)
   have sE39 := E39.size
   have PZ40 := PQ27.ext0 (E38.thenS E39 (by omega))
   refine S.dend (by kernel_rfl) (sw2 (by kernel_rfl) ((X27.trans (Xt.of0 E38)).ofNew E39 (by rintro _ rfl; omega))) ?_
   refine S.seqF1 (S.seqF (S.region ?_))
   have B41 := B3.ext0 E4
   have B42 := B41.ext0 E5
   have B43 := B42.xt X27 (by decide)
   have B44 := B43.ext0 E38
   have B45 := B44.extT E39 B38 (by decide)
   refine S.run 2 [.v (.pointer (rp rl))] [3, 4, 5, 6, 7, 17] (rs := [.load ⟨b3, 2, none⟩ (.pointer (rp rl))]) (κ' := [(3, pT b1), (4, pT b2), (5, pT b3), (6, pT b4), (7, pT b38), (17, .pointer (rp rl))]) (by kernel_rfl) (by kernel_rfl) (.load (B45.cell 2 rfl) .nil) ?_
   refine S.one (by kernel_rfl) (S.call (dst := some 18) (f := 73) (args := #[.pointer (rp rl)]) (by kernel_rfl) (by kernel_rfl) ((restarts_spec rl _).mono ?_))
   rintro _ w46 ⟨E46, b46, e46, z46, B46, rfl⟩
   refine After.ret (by kernel_rfl) ?_
   have sE46 := E46.size
   refine S.regEnd (by kernel_rfl) (S.blockF (S.rangeF (gf := 91) (lb := #[.pointer (some ⟨b46, 0, none⟩)]) rfl (by kernel_rfl) (fun l => by kernel_rfl) (fun d47 l47 w47 r47 E47 ed47 el47 z47 hD47 hL47 hst47 hpe47 hn47 hk47 hpar47 hass47 hbod47 hfn47 => ?_)))
   rw [show (#[.func (.yield l47) #[] #[]] ++ #[.pointer (some ⟨b46, 0, none⟩)] : Array Value) = #[.func (.yield l47) #[] #[], .pointer (some ⟨b46, 0, none⟩)] from by kernel_rfl]
   have sE47 := E47.size
   have B48 := B46.ext0 E47
   have N49 := hS.rc.keeps (.of0 E1)
   have N50 := N49.keeps (.of0 E2)
   have N51 := N50.keeps (.of0 E3)
   have N52 := N51.keeps (.of0 E4)
   have N53 := N52.keeps (.of0 E5)
   have N54 := N53.keeps (.ofX X27 (by decide) (by omega))
   have N55 := N54.keeps (.of0 E38)
   have N56 := N55.keeps (.ofS E39 B38 (by decide) (by omega))
   have N57 := N56.keeps (.of0 E46)
   have N58 := N57.keeps (.of0 E47)
   refine restarts_iter _ b46 (.func (.yield l47) #[] #[]) (fun (r' : List RR) wj => ∃ pr, Xt w.heap.size [92] w46 wj ∧ LoopAt wj l47 r47 ∧ ObjAt wj d47 (.deferred (some [])) ∧ rl = pr ++ r' ∧ findR x.d.2 (List.map (·.2) rl) = findR x.d.2 (List.map (·.2) r')) _ rl _ B48 N58 (by omega) ⟨[], (Xt.of0 E47), hL47.obj, hD47, rfl, rfl⟩ ?_ ?_ ?_
   ·skip
    rintro r' wa47 wb cs ⟨pr, Ej47, hLj47, hDj47, i47_0, i47_1⟩ hBx hEx
    have sEj47 := Ej47.size
    have shEx := hEx.size
    have O59 := hLj47.obj.extB hEx hBx rfl
    have O60 := hDj47.extB hEx hBx rfl
    exact ⟨pr, Ej47.trans (Xt.ofS hEx hBx (by decide) (by omega)), O59, O60, i47_0, i47_1⟩
   ·skip
    rintro h r' wa47 ⟨pr, Ej47, hLj47, hDj47, i47_0, i47_1⟩ hCa hBa
    have sEj47 := Ej47.size
    refine (S.round (κ₁ := [(3, pT b1), (4, pT b2), (5, pT b3), (6, pT b4), (7, pT b38), (8, pT h.1)]) hLj47 hst47 (.inl ⟨Try.f55, by rw [hfn47]; kernel_rfl⟩) hn47 hk47 hpar47 hass47 hbod47 rfl (by kernel_rfl) ?_ ?_)
    · refine S.region (S.run (κ' := [(3, pT b1), (4, pT b2), (5, pT b3), (6, pT b4), (7, pT b38), (8, pT h.1)]) 1 [] [3, 4, 5, 6, 7, 8] (rs := []) (by kernel_rfl) (by kernel_rfl) rfl (S.regEnd (by kernel_rfl) (S.stop (fun _ hs hh hd => ⟨rfl, hs, hh, hd⟩))))
    intro w61 E61 z61 hL61
    have sE61 := E61.size
    refine S.block (S.seq (S.drawN 7 #[false, false, false, false, false, false, false] 7 (fun u u' => Ext E0 u u') (fun u u' => Ext E0 u u') (by kernel_rfl) (by kernel_rfl) (by kernel_rfl) (fun w62 E62 z62 => ?_)))
    have sE62 := E62.size
    have B63 := hCa.1.extO E61 hLj47.obj rfl
    have B64 := B63.ext0 E62
    have B65 := B2.ext0 E3
    have B66 := B65.ext0 E4
    have B67 := B66.ext0 E5
    have B68 := B67.xt X27 (by decide)
    have B69 := B68.ext0 E38
    have B70 := B69.extT E39 B38 (by decide)
    have B71 := B70.ext0 E46
    have B72 := B71.xt Ej47 (by decide)
    have B73 := B72.extO E61 hLj47.obj rfl
    have B74 := B73.ext0 E62
    refine S.dreads roundQ_panicOk [0, 1, 2, 3, 4, 5, 6] 0 [.v (iV h.2), .v (iV x.d.2)] [3, 5, 6, 7, 8, 26] (rs := [.load ⟨h.1, 1, none⟩ (iV h.2), .load ⟨b2, 1, none⟩ (iV x.d.2)]) (κ' := [(3, pT b1), (5, pT b3), (6, pT b4), (7, pT b38), (8, pT h.1), (26, .bool (h.2 == x.d.2))]) (l' := #[true, true, true, true, true, true, true]) (by kernel_rfl) (by kernel_rfl) (by kernel_rfl) (fun w' hw => have hw := hw.elim id id; (.load ((B64.ext0 hw).cell 1 rfl) (.load ((B74.ext0 hw).cell 1 rfl) .nil))) ?_
    refine S.dend (by kernel_rfl) (sw1 (by kernel_rfl) (Ext.refl _)) ?_
    refine S.both 26 (h.2 == x.d.2) (by kernel_rfl) (fun c75 => ?_) (fun c75 => ?_)
    ·skip
     have p76 : h.2 = x.d.2 := by simpa using c75
     refine S.yes (by kernel_rfl) (S.seq (S.region ?_))
     have B77 := B1.ext0 E2
     have B78 := B77.ext0 E3
     have B79 := B78.ext0 E4
     have B80 := B79.ext0 E5
     have B81 := B80.xt X27 (by decide)
     have B82 := B81.ext0 E38
     have B83 := B82.extT E39 B38 (by decide)
     have B84 := B83.ext0 E46
     have B85 := B84.xt Ej47 (by decide)
     have B86 := B85.extO E61 hLj47.obj rfl
     have B87 := B86.ext0 E62
     have B88 := B45.ext0 E46
     have B89 := B88.xt Ej47 (by decide)
     have B90 := B89.extO E61 hLj47.obj rfl
     have B91 := B90.ext0 E62
     have B92 := B39.ext0 E46
     have B93 := B92.xt Ej47 (by decide)
     have B94 := B93.extO E61 hLj47.obj rfl
     have B95 := B94.ext0 E62
     refine S.run 4 [.v (pT rb), .v (iV hand), .v (.pointer (hp hl)), .v (.pointer (rp rl)), .v (iV v27)] [6, 27, 28, 29, 30] (rs := [.load ⟨b1, 0, none⟩ (pT rb), .load ⟨b3, 0, none⟩ (iV hand), .load ⟨b3, 1, none⟩ (.pointer (hp hl)), .load ⟨b3, 2, none⟩ (.pointer (rp rl)), .load ⟨b38, 0, none⟩ (iV v27)]) (κ' := [(6, pT b4), (27, pT rb), (28, .agg #[iV hand, .pointer (hp hl), .pointer (rp rl)]), (29, pT h.1), (30, iV v27)]) (by kernel_rfl) (by kernel_rfl) (.load (B87.cell 0 rfl) (.load (B91.cell 0 rfl) (.load (B91.cell 1 rfl) (.load (B91.cell 2 rfl) (.load (B95.cell 0 rfl) .nil))))) ?_
     have P97 := PZ40.std (.of0 E46) (PZ40.1.trans (.of0 E46))
     have P98 := P97.std (.ofX Ej47 (by decide) (by omega)) (P97.1.thenY Ej47 (by omega))
     have P99 := P98.std (.ofO E61 hLj47.obj rfl (by omega)) (P98.1.ofO E61 (by omega))
     have P100 := P99.std (.of0 E62) (P99.1.trans (.of0 E62))
     obtain ⟨les96, hR96, back96⟩ := P100.open
     refine S.one (by kernel_rfl) ?_
     have N101 := N37.keeps (.ofX X27 (by decide) (by omega))
     have N102 := N101.keeps (.of0 E38)
     have N103 := N102.keeps (.ofS E39 B38 (by decide) (by omega))
     have N104 := N103.keeps (.of0 E46)
     have N105 := N104.keeps (.ofX Ej47 (by decide) (by omega))
     have N106 := N105.keeps (.ofO E61 hLj47.obj rfl (by omega))
     have N107 := N106.keeps (.of0 E62)
     have B108 := hCa.1.extO E61 hLj47.obj rfl
     have B109 := B108.ext0 E62
     refine S.call (dst := some 31) (f := 74) (args := #[pT rb, .agg #[iV hand, .pointer (hp hl), .pointer (rp rl)], pT h.1, iV v27]) (by kernel_rfl) (by kernel_rfl) ((choice_spec p n₀ rb md _ σ27 les96 hand hl rl hR96 ((N107.next (E' := 5000) hrg (by omega) (by omega)).mono (by omega) (Nat.le_refl _)) v27 h.2 h.1 r'.length _ hv27 B109 (by rw [i47_0]; exact rev_at)).mono ?_)
     rintro e96 w96 ⟨ho, hP⟩
     have X96 := hP.1; have PP96 := back96 _ _ hP
     have sX96 := X96.size
     have O110 := hDj47.extS E61 (by omega)
     have O111 := O110.ext0 E62
     have O112 := O111.xt X96 rfl
     have hs : (bnd ((evalS p.xs k) (kid x 0) (scOf hand hl rl) σ) fun v σ => match findR x.d.2 (List.map (·.2) rl) with | some d => choiceS (scOf hand hl rl) d x.d.2 v σ | none => (.stop 3, σ) : Res Int) = choiceS (scOf hand hl rl) r'.length h.2 v27 σ27 := by simp only [hkid20, hr27, bnd_val, i47_1.trans (find_hit p76)]; rw [p76]
     have ho2 := ho; obtain ⟨_, _, _, _, _, _, rfl⟩ := ho2
     exact fun _ _ _ hd => ⟨hd, fun _ _ _ hd2 => panicM1 hd2 O112 (fun w9 E9 z9 => by rw [hs]; exact ⟨ho, PP96.std (.ofO E9 O112 rfl (by omega)) (PP96.1.ofO E9 (by omega))⟩)⟩
    ·skip
     have p113 : h.2 ≠ x.d.2 := by simpa using c75
     refine S.no (by kernel_rfl) (S.skip (S.out ?_))
     have O114 := hL61.obj.ext0 E62
     refine S.fin (fun _ _ _ _ => round_go hst47 hpe47 O114 (fun w115 E115 z115 hL115 => ?_))
     have sE115 := E115.size
     have N116 := hCa.keeps (.ofO E61 hLj47.obj rfl (by omega))
     have N117 := N116.keeps (.of0 E62)
     have N118 := N117.keeps (.ofO E115 O114 rfl (by omega))
     have B119 := hBa.extO E61 hLj47.obj rfl
     have B120 := B119.ext0 E62
     have B121 := B120.extO E115 O114 rfl
     have O122 := hDj47.extS E61 (by omega)
     have O123 := O122.ext0 E62
     have O124 := O123.extS E115 (by omega)
     exact .inl ⟨rfl, ⟨(pr ++ [h]), ((Ej47.ofO E61 (by omega)).trans (Xt.of0 E62)).ofO E115 (by omega), hL115.obj, O124, (by rw [i47_0]; simp), (i47_1.trans (find_miss p113))⟩, N118, B121⟩
   ·skip
    rintro wa47 ⟨pr, Ej47, hLj47, hDj47, i47_0, i47_1⟩ -
    have sEj47 := Ej47.size
    refine after_go hLj47 hst47 hpe47 (fun w125 E125 z125 => ?_)
    have sE125 := E125.size
    refine S.out (S.region (S.run 2 [] [6, 33] (rs := []) (κ' := [(6, pT b4), (33, .iface 90 (.agg #[iV 3]))]) (by kernel_rfl) (by kernel_rfl) rfl ?_))
    refine S.one (by kernel_rfl) (S.panics (dst := none) (v := .iface 90 (.agg #[iV 3])) (by kernel_rfl) (by kernel_rfl) ?_)
    have O126 := hDj47.extS E125 (by omega)
    have P127 := PZ40.std (.of0 E46) (PZ40.1.trans (.of0 E46))
    have P128 := P127.std (.ofX Ej47 (by decide) (by omega)) (P127.1.thenY Ej47 (by omega))
    have P129 := P128.std (.ofO E125 hLj47.obj rfl (by omega)) (P128.1.ofO E125 (by omega))
    have hs : (bnd ((evalS p.xs k) (kid x 0) (scOf hand hl rl) σ) fun v σ => match findR x.d.2 (List.map (·.2) rl) with | some d => choiceS (scOf hand hl rl) d x.d.2 v σ | none => (.stop 3, σ) : Res Int) = (.stop 3, σ27) := by simp only [hkid20, hr27, bnd_val, i47_1.trans (show findR x.d.2 (List.map (·.2) ([] : List RR)) = none from rfl)]
    exact fun _ _ _ hd => panicM1 hd O126 (fun w9 E9 z9 => by rw [hs]; exact ⟨⟨[], fun e he => by simp at he, rfl⟩, P129.std (.ofO E9 O126 rfl (by omega)) (P129.1.ofO E9 (by omega))⟩)
  ·skip
   exact fun _ _ _ hd => panicM0 hd (by have hs : (bnd ((evalS p.xs k) (kid x 0) (scOf hand hl rl) σ) fun v σ => match findR x.d.2 (List.map (·.2) rl) with | some d => choiceS (scOf hand hl rl) d x.d.2 v σ | none => (.stop 3, σ) : Res Int) = (o27, σ27) := (by simp only [hkid20, hr27, hb27, bnd_val, bnd_bnd]); rw [hs]; exact ⟨hq27, PQ27⟩)
 ·skip
  show S _ _ _ _ _ (.one _ 7 :: .dreg _ #[true, true, true, true, true, true, false, true, false] _ _ :: _) _ _
  refine S.new 7 [iV 0] 3 (fun b => pT b) (by kernel_rfl) (by kernel_rfl) (fun b => by kernel_rfl) (fun b130 w130 E130 B130 e130 z130 => ?_)
  have sE130 := E130.size
  refine S.dnext (j := 6) (l' := #[true, true, true, true, true, true, true, true, false]) (by kernel_rfl) (by kernel_rfl) (sw1 (by kernel_rfl) E130) ?_
  have P132 := P0.std (.of0 E1) (P0.1.trans (.of0 E1))
  have P133 := P132.std (.of0 E2) (P132.1.trans (.of0 E2))
  have P134 := P133.std (.of0 E3) (P133.1.trans (.of0 E3))
  have P135 := P134.std (.of0 E4) (P134.1.trans (.of0 E4))
  have P136 := P135.std (.of0 E5) (P135.1.trans (.of0 E5))
  have P137 := P136.std (.of0 E130) (P136.1.trans (.of0 E130))
  have hR131 := hR.ext0 (((((E1.trans E2).trans E3).trans E4).trans E5).trans E130); have back131 := fun w2 σ2 (h : RunP n₀ rb md p w130 w2 les σ2) => RunP.pre0 (((((E1.trans E2).trans E3).trans E4).trans E5).trans E130) h
  have T138 := K20.pres (.of0 E130)
  have N139 := hS.keeps (.of0 E1)
  have N140 := N139.keeps (.of0 E2)
  have N141 := N140.keeps (.of0 E3)
  have N142 := N141.keeps (.of0 E4)
  have N143 := N142.keeps (.of0 E5)
  have N144 := N143.keeps (.of0 E130)
  refine S.call (dst := some 15) (f := 59) (args := #[pT rb, .agg #[iV x20.d.1, iV x20.d.2, .slice x20.a x20.len x20.cap], .agg #[iV hand, .pointer (hp hl), .pointer (rp rl)]]) (by kernel_rfl) (by kernel_rfl) ((IH n₀ rb md _ σ les x20 hand hl rl hR131 T138 W20 ((N144.next (E' := 5000) hrg (by omega) (by omega)).mono (by omega) (Nat.le_refl _)) (by omega)).mono ?_)
  rintro e131 w131 ⟨ho131, hP131⟩
  have PP131 : RunP n₀ rb md p w w131 les (evalS p.xs k x20 (scOf hand hl rl) σ).2 := back131 _ _ hP131; have X131 := hP131.1; have hfin131 : Fin 0 1 σ (evalS p.xs k x20 (scOf hand hl rl) σ) := fin_eval p.xs k _ _ _; have ho131 : OutE rl (evalS p.xs k x20 (scOf hand hl rl) σ).1 e131 := ho131; have hP131 : RunP n₀ rb md p w130 w131 les (evalS p.xs k x20 (scOf hand hl rl) σ).2 := hP131
  rcases hr131 : evalS p.xs k x20 (scOf hand hl rl) σ with ⟨o131, σ131⟩
  rw [hr131] at ho131 PP131 hfin131 hP131
  have PQ131 : RunP n₀ rb md p w w131 les σ131 := PP131; have hq131 : OutE rl o131 e131 := ho131; have PR131 : RunP n₀ rb md p w130 w131 les σ131 := hP131
  clear PP131 ho131 hP131
  rcases outE_cases hq131 with ⟨v131, rfl, rfl, hv131⟩ | ⟨ch, rfl, hb131, hn131⟩
  ·skip
   have hf131 := hfin131.val
   refine After.ret (by kernel_rfl) ?_
   have sX131 := X131.size
   refine S.dnext (j := 8) (l' := #[true, true, true, true, true, true, true, true, true]) (by kernel_rfl) (by kernel_rfl) (sw2 (by kernel_rfl) ((Xt.of0 E130).trans X131)) ?_
   have B145 := B130.xt X131 (by decide)
   refine S.store 0 [iV v131] [iV v131] B145 (by kernel_rfl) (by kernel_rfl) (by kernel_rfl) (by kernel_rfl) (by kernel_rfl) (fun w146 E146 B146 z146 => ?_)
   have sE146 := E146.size
   have PZ147 := RunP.s3 hR (((((E1.trans E2).trans E3).trans E4).trans E5).trans E130) PR131 E146 B145 (by omega) (by omega)
   refine S.dend (by kernel_rfl) (sw2 (by kernel_rfl) (((Xt.of0 E130).trans X131).ofNew E146 (by rintro _ rfl; omega))) ?_
   refine S.seqF1 (S.seqF (S.region ?_))
   have B148 := B3.ext0 E4
   have B149 := B148.ext0 E5
   have B150 := B149.ext0 E130
   have B151 := B150.xt X131 (by decide)
   have B152 := B151.extT E146 B145 (by decide)
   refine S.run 2 [.v (.pointer (rp rl))] [3, 4, 5, 6, 7, 17] (rs := [.load ⟨b3, 2, none⟩ (.pointer (rp rl))]) (κ' := [(3, pT b1), (4, pT b2), (5, pT b3), (6, pT b4), (7, pT b130), (17, .pointer (rp rl))]) (by kernel_rfl) (by kernel_rfl) (.load (B152.cell 2 rfl) .nil) ?_
   refine S.one (by kernel_rfl) (S.call (dst := some 18) (f := 73) (args := #[.pointer (rp rl)]) (by kernel_rfl) (by kernel_rfl) ((restarts_spec rl _).mono ?_))
   rintro _ w153 ⟨E153, b153, e153, z153, B153, rfl⟩
   refine After.ret (by kernel_rfl) ?_
   have sE153 := E153.size
   refine S.regEnd (by kernel_rfl) (S.blockF (S.rangeF (gf := 91) (lb := #[.pointer (some ⟨b153, 0, none⟩)]) rfl (by kernel_rfl) (fun l => by kernel_rfl) (fun d154 l154 w154 r154 E154 ed154 el154 z154 hD154 hL154 hst154 hpe154 hn154 hk154 hpar154 hass154 hbod154 hfn154 => ?_)))
   rw [show (#[.func (.yield l154) #[] #[]] ++ #[.pointer (some ⟨b153, 0, none⟩)] : Array Value) = #[.func (.yield l154) #[] #[], .pointer (some ⟨b153, 0, none⟩)] from by kernel_rfl]
   have sE154 := E154.size
   have B155 := B153.ext0 E154
   have N156 := hS.rc.keeps (.of0 E1)
   have N157 := N156.keeps (.of0 E2)
   have N158 := N157.keeps (.of0 E3)
   have N159 := N158.keeps (.of0 E4)
   have N160 := N159.keeps (.of0 E5)
   have N161 := N160.keeps (.of0 E130)
   have N162 := N161.keeps (.ofX X131 (by decide) (by omega))
   have N163 := N162.keeps (.ofS E146 B145 (by decide) (by omega))
   have N164 := N163.keeps (.of0 E153)
   have N165 := N164.keeps (.of0 E154)
   refine restarts_iter _ b153 (.func (.yield l154) #[] #[]) (fun (r' : List RR) wj => ∃ pr, Xt w.heap.size [92] w153 wj ∧ LoopAt wj l154 r154 ∧ ObjAt wj d154 (.deferred (some [])) ∧ rl = pr ++ r' ∧ findR x.d.2 (List.map (·.2) rl) = findR x.d.2 (List.map (·.2) r')) _ rl _ B155 N165 (by omega) ⟨[], (Xt.of0 E154), hL154.obj, hD154, rfl, rfl⟩ ?_ ?_ ?_
   ·skip
    rintro r' wa154 wb cs ⟨pr, Ej154, hLj154, hDj154, i154_0, i154_1⟩ hBx hEx
    have sEj154 := Ej154.size
    have shEx := hEx.size
    have O166 := hLj154.obj.extB hEx hBx rfl
    have O167 := hDj154.extB hEx hBx rfl
    exact ⟨pr, Ej154.trans (Xt.ofS hEx hBx (by decide) (by omega)), O166, O167, i154_0, i154_1⟩
   ·skip
    rintro h r' wa154 ⟨pr, Ej154, hLj154, hDj154, i154_0, i154_1⟩ hCa hBa
    have sEj154 := Ej154.size
    refine (S.round (κ₁ := [(3, pT b1), (4, pT b2), (5, pT b3), (6, pT b4), (7, pT b130), (8, pT h.1)]) hLj154 hst154 (.inl ⟨Try.f55, by rw [hfn154]; kernel_rfl⟩) hn154 hk154 hpar154 hass154 hbod154 rfl (by kernel_rfl) ?_ ?_)
    · refine S.region (S.run (κ' := [(3, pT b1), (4, pT b2), (5, pT b3), (6, pT b4), (7, pT b130), (8, pT h.1)]) 1 [] [3, 4, 5, 6, 7, 8] (rs := []) (by kernel_rfl) (by kernel_rfl) rfl (S.regEnd (by kernel_rfl) (S.stop (fun _ hs hh hd => ⟨rfl, hs, hh, hd⟩))))
    intro w168 E168 z168 hL168
    have sE168 := E168.size
    refine S.block (S.seq (S.drawN 7 #[false, false, false, false, false, false, false] 7 (fun u u' => Ext E0 u u') (fun u u' => Ext E0 u u') (by kernel_rfl) (by kernel_rfl) (by kernel_rfl) (fun w169 E169 z169 => ?_)))
    have sE169 := E169.size
    have B170 := hCa.1.extO E168 hLj154.obj rfl
    have B171 := B170.ext0 E169
    have B172 := B2.ext0 E3
    have B173 := B172.ext0 E4
    have B174 := B173.ext0 E5
    have B175 := B174.ext0 E130
    have B176 := B175.xt X131 (by decide)
    have B177 := B176.extT E146 B145 (by decide)
    have B178 := B177.ext0 E153
    have B179 := B178.xt Ej154 (by decide)
    have B180 := B179.extO E168 hLj154.obj rfl
    have B181 := B180.ext0 E169
    refine S.dreads roundQ_panicOk [0, 1, 2, 3, 4, 5, 6] 0 [.v (iV h.2), .v (iV x.d.2)] [3, 5, 6, 7, 8, 26] (rs := [.load ⟨h.1, 1, none⟩ (iV h.2), .load ⟨b2, 1, none⟩ (iV x.d.2)]) (κ' := [(3, pT b1), (5, pT b3), (6, pT b4), (7, pT b130), (8, pT h.1), (26, .bool (h.2 == x.d.2))]) (l' := #[true, true, true, true, true, true, true]) (by kernel_rfl) (by kernel_rfl) (by kernel_rfl) (fun w' hw => have hw := hw.elim id id; (.load ((B171.ext0 hw).cell 1 rfl) (.load ((B181.ext0 hw).cell 1 rfl) .nil))) ?_
    refine S.dend (by kernel_rfl) (sw1 (by kernel_rfl) (Ext.refl _)) ?_
    refine S.both 26 (h.2 == x.d.2) (by kernel_rfl) (fun c182 => ?_) (fun c182 => ?_)
    ·skip
     have p183 : h.2 = x.d.2 := by simpa using c182
     refine S.yes (by kernel_rfl) (S.seq (S.region ?_))
     have B184 := B1.ext0 E2
     have B185 := B184.ext0 E3
     have B186 := B185.ext0 E4
     have B187 := B186.ext0 E5
     have B188 := B187.ext0 E130
     have B189 := B188.xt X131 (by decide)
     have B190 := B189.extT E146 B145 (by decide)
     have B191 := B190.ext0 E153
     have B192 := B191.xt Ej154 (by decide)
     have B193 := B192.extO E168 hLj154.obj rfl
     have B194 := B193.ext0 E169
     have B195 := B152.ext0 E153
     have B196 := B195.xt Ej154 (by decide)
     have B197 := B196.extO E168 hLj154.obj rfl
     have B198 := B197.ext0 E169
     have B199 := B146.ext0 E153
     have B200 := B199.xt Ej154 (by decide)
     have B201 := B200.extO E168 hLj154.obj rfl
     have B202 := B201.ext0 E169
     refine S.run 4 [.v (pT rb), .v (iV hand), .v (.pointer (hp hl)), .v (.pointer (rp rl)), .v (iV v131)] [6, 27, 28, 29, 30] (rs := [.load ⟨b1, 0, none⟩ (pT rb), .load ⟨b3, 0, none⟩ (iV hand), .load ⟨b3, 1, none⟩ (.pointer (hp hl)), .load ⟨b3, 2, none⟩ (.pointer (rp rl)), .load ⟨b130, 0, none⟩ (iV v131)]) (κ' := [(6, pT b4), (27, pT rb), (28, .agg #[iV hand, .pointer (hp hl), .pointer (rp rl)]), (29, pT h.1), (30, iV v131)]) (by kernel_rfl) (by kernel_rfl) (.load (B194.cell 0 rfl) (.load (B198.cell 0 rfl) (.load (B198.cell 1 rfl) (.load (B198.cell 2 rfl) (.load (B202.cell 0 rfl) .nil))))) ?_
     have P204 := PZ147.std (.of0 E153) (PZ147.1.trans (.of0 E153))
     have P205 := P204.std (.ofX Ej154 (by decide) (by omega)) (P204.1.thenY Ej154 (by omega))
     have P206 := P205.std (.ofO E168 hLj154.obj rfl (by omega)) (P205.1.ofO E168 (by omega))
     have P207 := P206.std (.of0 E169) (P206.1.trans (.of0 E169))
     obtain ⟨les203, hR203, back203⟩ := P207.open
     refine S.one (by kernel_rfl) ?_
     have N208 := N144.keeps (.ofX X131 (by decide) (by omega))
     have N209 := N208.keeps (.ofS E146 B145 (by decide) (by omega))
     have N210 := N209.keeps (.of0 E153)
     have N211 := N210.keeps (.ofX Ej154 (by decide) (by omega))
     have N212 := N211.keeps (.ofO E168 hLj154.obj rfl (by omega))
     have N213 := N212.keeps (.of0 E169)
     have B214 := hCa.1.extO E168 hLj154.obj rfl
     have B215 := B214.ext0 E169
     refine S.call (dst := some 31) (f := 74) (args := #[pT rb, .agg #[iV hand, .pointer (hp hl), .pointer (rp rl)], pT h.1, iV v131]) (by kernel_rfl) (by kernel_rfl) ((choice_spec p n₀ rb md _ σ131 les203 hand hl rl hR203 ((N213.next (E' := 5000) hrg (by omega) (by omega)).mono (by omega) (Nat.le_refl _)) v131 h.2 h.1 r'.length _ hv131 B215 (by rw [i154_0]; exact rev_at)).mono ?_)
     rintro e203 w203 ⟨ho, hP⟩
     have X203 := hP.1; have PP203 := back203 _ _ hP
     have sX203 := X203.size
     have O216 := hDj154.extS E168 (by omega)
     have O217 := O216.ext0 E169
     have O218 := O217.xt X203 rfl
     have hs : (bnd ((evalS p.xs k) (kid x 0) (scOf hand hl rl) σ) fun v σ => match findR x.d.2 (List.map (·.2) rl) with | some d => choiceS (scOf hand hl rl) d x.d.2 v σ | none => (.stop 3, σ) : Res Int) = choiceS (scOf hand hl rl) r'.length h.2 v131 σ131 := by simp only [hkid20, hr131, bnd_val, i154_1.trans (find_hit p183)]; rw [p183]
     have ho2 := ho; obtain ⟨_, _, _, _, _, _, rfl⟩ := ho2
     exact fun _ _ _ hd => ⟨hd, fun _ _ _ hd2 => panicM1 hd2 O218 (fun w9 E9 z9 => by rw [hs]; exact ⟨ho, PP203.std (.ofO E9 O218 rfl (by omega)) (PP203.1.ofO E9 (by omega))⟩)⟩
    ·skip
     have p219 : h.2 ≠ x.d.2 := by simpa using c182
     refine S.no (by kernel_rfl) (S.skip (S.out ?_))
     have O220 := hL168.obj.ext0 E169
     refine S.fin (fun _ _ _ _ => round_go hst154 hpe154 O220 (fun w221 E221 z221 hL221 => ?_))
     have sE221 := E221.size
     have N222 := hCa.keeps (.ofO E168 hLj154.obj rfl (by omega))
     have N223 := N222.keeps (.of0 E169)
     have N224 := N223.keeps (.ofO E221 O220 rfl (by omega))
     have B225 := hBa.extO E168 hLj154.obj rfl
     have B226 := B225.ext0 E169
     have B227 := B226.extO E221 O220 rfl
     have O228 := hDj154.extS E168 (by omega)
     have O229 := O228.ext0 E169
     have O230 := O229.extS E221 (by omega)
     exact .inl ⟨rfl, ⟨(pr ++ [h]), ((Ej154.ofO E168 (by omega)).trans (Xt.of0 E169)).ofO E221 (by omega), hL221.obj, O230, (by rw [i154_0]; simp), (i154_1.trans (find_miss p219))⟩, N224, B227⟩
   ·skip
    rintro wa154 ⟨pr, Ej154, hLj154, hDj154, i154_0, i154_1⟩ -
    have sEj154 := Ej154.size
    refine after_go hLj154 hst154 hpe154 (fun w231 E231 z231 => ?_)
    have sE231 := E231.size
    refine S.out (S.region (S.run 2 [] [6, 33] (rs := []) (κ' := [(6, pT b4), (33, .iface 90 (.agg #[iV 3]))]) (by kernel_rfl) (by kernel_rfl) rfl ?_))
    refine S.one (by kernel_rfl) (S.panics (dst := none) (v := .iface 90 (.agg #[iV 3])) (by kernel_rfl) (by kernel_rfl) ?_)
    have O232 := hDj154.extS E231 (by omega)
    have P233 := PZ147.std (.of0 E153) (PZ147.1.trans (.of0 E153))
    have P234 := P233.std (.ofX Ej154 (by decide) (by omega)) (P233.1.thenY Ej154 (by omega))
    have P235 := P234.std (.ofO E231 hLj154.obj rfl (by omega)) (P234.1.ofO E231 (by omega))
    have hs : (bnd ((evalS p.xs k) (kid x 0) (scOf hand hl rl) σ) fun v σ => match findR x.d.2 (List.map (·.2) rl) with | some d => choiceS (scOf hand hl rl) d x.d.2 v σ | none => (.stop 3, σ) : Res Int) = (.stop 3, σ131) := by simp only [hkid20, hr131, bnd_val, i154_1.trans (show findR x.d.2 (List.map (·.2) ([] : List RR)) = none from rfl)]
    exact fun _ _ _ hd => panicM1 hd O232 (fun w9 E9 z9 => by rw [hs]; exact ⟨⟨[], fun e he => by simp at he, rfl⟩, P235.std (.ofO E9 O232 rfl (by omega)) (P235.1.ofO E9 (by omega))⟩)
  ·skip
   exact fun _ _ _ hd => panicM0 hd (by have hs : (bnd ((evalS p.xs k) (kid x 0) (scOf hand hl rl) σ) fun v σ => match findR x.d.2 (List.map (·.2) rl) with | some d => choiceS (scOf hand hl rl) d x.d.2 v σ | none => (.stop 3, σ) : Res Int) = (o131, σ131) := (by simp only [hkid20, hr131, hb131, bnd_val, bnd_bnd]); rw [hs]; exact ⟨hq131, PQ131⟩)

end Go.Proofs.Ytmgakpnejbembaa
