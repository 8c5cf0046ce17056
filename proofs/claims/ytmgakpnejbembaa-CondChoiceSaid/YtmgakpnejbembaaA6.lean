/-
  CondChoice, a part of the proof (printed by a program of the prover): what functions of the given program compute, each under the conditions that its theorem names.
-/
import Derived.Test.YtmgakpnejbembaaA5
namespace Go.Proofs.Ytmgakpnejbembaa
open Go Go.Proofs.Ytmgakpnejbembaa.L

structure RSt where
  fuel : Nat
  evs : List Ev
  picks : List Int
def doesL : List (Int × Value) := [(1, .func (.func 43) #[] #[]), (2, .func (.func 44) #[] #[]), (3, .func (.func 45) #[] #[]), (4, .func (.func 46) #[] #[]), (5, .func (.func 47) #[] #[]), (6, .func (.func 48) #[] #[]), (7, .func (.func 49) #[] #[]), (8, .func (.func 50) #[] #[]), (9, .func (.func 51) #[] #[]), (10, .func (.func 52) #[] #[]), (11, .func (.func 53) #[] #[]), (12, .func (.func 54) #[] #[]), (13, .func (.func 55) #[] #[]), (14, .func (.func 56) #[] #[]), (15, .func (.func 57) #[] #[])]
def doesO : Obj := .map (ents 0 doesL).toArray 15

/-- Its rows lie from N on. -/
def LE.ge (N : Nat) (e : LE) : Prop := (∀ g, e.h.a = some g → N ≤ g.block) ∧ ∀ g, e.r.a = some g → N ≤ g.block
/-- A runner in memory. -/
structure Run (n₀ rb md : Nat) (p : LP) (w : World) (σ : RSt) (ea : Option Addr) (ec : Nat) (les : List LE) (ka : Option Addr) (kc : Nat) : Prop where
  blk : Blk w rb [.int .i64 0, .int .i64 0, .slice ea les.length ec, .int .i64 ((σ.fuel : Nat) : Int), .slice p.a p.xs.length p.cap, .slice ka σ.picks.length kc, .map (some md)] 56
  own : OwnR n₀ 43 5 w ea les.length ec (les.flatMap evCs)
  evs : EvsOk w.heap.size w les
  eq : σ.evs = les.map LE.ev
  pk : Row n₀ 0 1 intCs w ka σ.picks
  pkb : σ.picks.length ≤ 40
  does : ObjAt w md doesO
  prog : p.ok n₀ w
  rb0 : n₀ ≤ rb
  n0 : n₀ ≤ w.heap.size
  pkn : ∀ q, q ∈ σ.picks → 0 ≤ q
  pkc : σ.picks.length ≤ kc
theorem Run.ext0 {n₀ rb md : Nat} {p : LP} {w w' : World} {σ : RSt} {ea : Option Addr} {ec : Nat} {les : List LE} {ka : Option Addr} {kc : Nat} (h : Run n₀ rb md p w σ ea ec les ka kc) (E : Ext E0 w w') : Run n₀ rb md p w' σ ea ec les ka kc :=
  ⟨h.blk.ext0 E, h.own.pres fun _ => .of0 E, (h.evs.pres (.of0 E)).mono E.size, h.eq, h.pk.pres (.of0 E), h.pkb, h.does.ext0 E, h.prog.pres (.of0 E), h.rb0, Nat.le_trans h.n0 E.size, h.pkn, h.pkc⟩
theorem Run.told {n₀ rb md : Nat} {p : LP} {w w' : World} {σ : RSt} {ea ea' : Option Addr} {ec ec' : Nat} {les : List LE} {ka : Option Addr} {kc : Nat} {x : LE} {ev : Ev} (h : Run n₀ rb md p w σ ea ec les ka kc) (X : Xt n₀ [56, 43] w w')
    (hb : Blk w' rb [.int .i64 0, .int .i64 0, .slice ea' (les.length + 1) ec', .int .i64 ((σ.fuel : Nat) : Int), .slice p.a p.xs.length p.cap, .slice ka σ.picks.length kc, .map (some md)] 56)
    (hO : OwnR n₀ 43 5 w' ea' (les.length + 1) ec' (les.flatMap evCs ++ evCs x)) (hx : x.ok w'.heap.size w') (hev : x.ev = ev) : Run n₀ rb md p w' { σ with evs := σ.evs ++ [ev] } ea' ec' (les ++ [x]) ka kc :=
  ⟨by rw [List.length_append]; exact hb, by rw [List.length_append]; exact hO.snoc, fun e he => by
      rcases List.mem_append.1 he with h1 | h1
      · exact ((h.evs.pres (.ofX X (by decide))).mono X.size) e h1
      · rw [List.mem_singleton.1 h1]; exact hx, by simp [h.eq, hev], h.pk.pres (.ofXn X (Nat.le_refl _)), h.pkb, h.does.xt X rfl, h.prog.pres (.ofXn X (Nat.le_refl _)), h.rb0, Nat.le_trans h.n0 X.size, h.pkn, h.pkc⟩

theorem tell_spec (n₀ rb md : Nat) (p : LP) (w : World) (σ : RSt) (ea : Option Addr) (ec : Nat) (les : List LE) (ka : Option Addr) (kc : Nat) (hR : Run n₀ rb md p w σ ea ec les ka kc) (hand deed n val : Int) (hl : List H) (rl : List RR) (hH : HC n₀ w hl) (hC : RC n₀ w rl) (b1 : hl.length ≤ 1000) (b2 : rl.length ≤ 1000) (b3 : les.length ≤ 1000000) :
    Calls Try.prog 69 #[pT rb, .agg #[iV hand, .pointer (hp hl), .pointer (rp rl)], iV deed, iV n, iV val] w (fun e w' => e = .returned (.tuple #[]) ∧ Xt n₀ [56, 43] w w' ∧ ∃ ea' ec' x, Run n₀ rb md p w' { σ with evs := σ.evs ++ [⟨deed, n, val, hl.map (·.2.1), rl.map (·.2)⟩] } ea' ec' (les ++ [x]) ka kc ∧ x.ge w.heap.size) := by
 refine calls_of_SM (n := 55) Try.func69 rfl rfl (by kernel_rfl) ?_
 have hn0 := hR.n0
 have hrb := hR.blk.lt
 have hrb0 := hR.rb0
 refine S.seq (S.region (S.one (by kernel_rfl) (S.new 6 [iV hand, .pointer (hp hl), .pointer (rp rl)] 94 (fun b => pT b) (by kernel_rfl) (by kernel_rfl) (fun b => by kernel_rfl) (fun b1 w1 E1 B1 e1 z1 => ?_))))
 have sE1 := E1.size
 refine S.regEnd (by kernel_rfl) (S.seq (S.region (S.run 4 [] [0, 6, 16] (rs := []) (κ' := [(0, pT rb), (6, pT b1), (16, .agg #[iV deed, iV n, iV val, .slice none 0 0, .slice none 0 0])]) (by kernel_rfl) (by kernel_rfl) rfl ?_)))
 refine S.one (by kernel_rfl) (S.new 10 [iV 0, iV 0, iV 0, .slice none 0 0, .slice none 0 0] 43 (fun b => pT b) (by kernel_rfl) (by kernel_rfl) (fun b => by kernel_rfl) (fun b2 w2 E2 B2 e2 z2 => ?_))
 have sE2 := E2.size
 refine S.one (by kernel_rfl) (S.store 0 [iV deed, iV n, iV val, .slice none 0 0, .slice none 0 0] [iV deed, iV n, iV val, .slice none 0 0, .slice none 0 0] B2 (by kernel_rfl) (by kernel_rfl) (by kernel_rfl) (by kernel_rfl) (by kernel_rfl) (fun w3 E3 B3 z3 => ?_))
 have sE3 := E3.size
 refine S.regEnd (by kernel_rfl) (S.seq (S.seq (S.region ?_)))
 have B4 := B1.ext0 E2
 have B5 := B4.extT E3 B2 (by decide)
 refine S.run 2 [.v (.pointer (hp hl))] [0, 6, 10, 18] (rs := [.load ⟨b1, 1, none⟩ (.pointer (hp hl))]) (κ' := [(0, pT rb), (6, pT b1), (10, pT b2), (18, .pointer (hp hl))]) (by kernel_rfl) (by kernel_rfl) (.load (B5.cell 1 rfl) .nil) ?_
 refine S.one (by kernel_rfl) (S.call (dst := some 19) (f := 89) (args := #[.pointer (hp hl)]) (by kernel_rfl) (by kernel_rfl) ((handlers_spec hl _).mono ?_))
 rintro _ w6 ⟨E6, b6, e6, z6, B6, rfl⟩
 refine After.ret (by kernel_rfl) ?_
 have sE6 := E6.size
 refine S.regEnd (by kernel_rfl) (S.block (S.range (gf := 100) (lb := #[.pointer (some ⟨b6, 0, none⟩)]) rfl (by kernel_rfl) (fun l => by kernel_rfl) (fun d7 l7 w7 r7 E7 ed7 el7 z7 hD7 hL7 hst7 hpe7 hn7 hk7 hpar7 hass7 hbod7 => ?_)))
 rw [show (#[.func (.yield l7) #[] #[]] ++ #[.pointer (some ⟨b6, 0, none⟩)] : Array Value) = #[.func (.yield l7) #[] #[], .pointer (some ⟨b6, 0, none⟩)] from by kernel_rfl]
 have sE7 := E7.size
 have B8 := B6.ext0 E7
 have N9 := hH.keeps (.of0 E1)
 have N10 := N9.keeps (.of0 E2)
 have N11 := N10.keeps (.ofS E3 B2 (by decide) (by omega))
 have N12 := N11.keeps (.of0 E6)
 have N13 := N12.keeps (.of0 E7)
 have B14 := B3.ext0 E6
 have B15 := B14.ext0 E7
 refine handlers_iter _ b6 (.func (.yield l7) #[] #[]) (fun (r' : List H) wj => ∃ ns, ∃ ha, ∃ hc, Xt w.heap.size [43, 3, 91] w6 wj ∧ LoopAt wj l7 r7 ∧ ObjAt wj d7 (.deferred (some [])) ∧ hl.map (·.2.1) = ns ++ r'.map (·.2.1) ∧ Blk wj b2 [iV deed, iV n, iV val, .slice ha ns.length hc, .slice none 0 0] 43 ∧ OwnR w.heap.size 3 1 wj ha ns.length hc (ns.flatMap intCs)) _ hl _ B8 N13 (by omega) ⟨[], none, 0, (Xt.of0 E7), hL7.obj, hD7, rfl, B15, OwnR.nil _ _ _ _⟩ ?_ ?_ ?_
 ·skip
  rintro r' wa7 wb cs ⟨ns, ha, hc, Ej7, hLj7, hDj7, i7_0, i7_1, i7_2⟩ hBx hEx
  have sEj7 := Ej7.size
  have shEx := hEx.size
  have O16 := hLj7.obj.extB hEx hBx rfl
  have O17 := hDj7.extB hEx hBx rfl
  have B18 := i7_1.extT hEx hBx (by decide)
  have U19 := i7_2.pres (fun _ => .ofE hEx hBx (by decide))
  exact ⟨ns, ha, hc, Ej7.trans (Xt.ofS hEx hBx (by decide) (by omega)), O16, O17, i7_0, B18, U19⟩
 ·skip
  rintro h r' wa7 ⟨ns, ha, hc, Ej7, hLj7, hDj7, i7_0, i7_1, i7_2⟩ hCa hBa
  have sEj7 := Ej7.size
  refine hStep0_le (S.round (κ₁ := [(10, pT b2), (11, pT h.1)]) hLj7 hst7 (.inr (fun _ _ h => h)) hn7 hk7 hpar7 hass7 hbod7 rfl (by kernel_rfl) ?_ ?_)
  · refine S.region (S.run (κ' := [(10, pT b2), (11, pT h.1)]) 1 [] [10, 11] (rs := []) (by kernel_rfl) (by kernel_rfl) rfl (S.regEnd (by kernel_rfl) (S.stop (fun _ hs hh hd => ⟨rfl, hs, hh, hd⟩))))
  intro w20 E20 z20 hL20
  have sE20 := E20.size
  have hlen := congrArg List.length i7_0
  simp only [List.length_map, List.length_append, List.length_cons] at hlen
  refine S.block (S.drawN 10 #[false, false, false, false, false, false, false, false, false, false] 7 (fun u u' => Ext E0 u u') (fun u u' => Xt w.heap.size [43, 3] u u') (by kernel_rfl) (by kernel_rfl) (by kernel_rfl) (fun w21 E21 z21 => ?_))
  have sE21 := E21.size
  refine S.dreads roundQ_panicOk [0, 2, 3, 4] 6 [] [10, 21, 25] (rs := []) (κ' := [(10, pT b2), (21, .pointer (some ⟨b2, 3, none⟩)), (25, .pointer (some ⟨h.1, 1, none⟩))]) (l' := #[true, false, true, true, true, false, false, false, false, false]) (by kernel_rfl) (by kernel_rfl) (by kernel_rfl) (fun _ _ => rfl) ?_
  have B22 := i7_1.extO E20 hLj7.obj rfl
  have B23 := B22.ext0 E21
  refine S.dreads1 roundQ_panicOk [1] 5 [7] [.v (.slice ha ns.length hc)] [10, 22, 25] (rs := [.load ⟨b2, 3, none⟩ (.slice ha ns.length hc)]) (κ' := [(10, pT b2), (22, .slice ha ns.length hc), (25, .pointer (some ⟨h.1, 1, none⟩))]) (l' := #[true, true, true, true, true, false, false, false, false, false]) (by kernel_rfl) (by kernel_rfl) (by kernel_rfl) (by kernel_rfl) (fun w' hw => (.load ((B23.ext0 hw).cell 3 rfl) .nil)) ?_
  have B24 := hCa.1.extO E20 hLj7.obj rfl
  have B25 := B24.ext0 E21
  refine S.dreads roundQ_panicOk [5] 4 [.v (iV h.2.1)] [10, 22, 26] (rs := [.load ⟨h.1, 1, none⟩ (iV h.2.1)]) (κ' := [(10, pT b2), (22, .slice ha ns.length hc), (26, iV h.2.1)]) (l' := #[true, true, true, true, true, true, false, false, false, false]) (by kernel_rfl) (by kernel_rfl) (by kernel_rfl) (fun w' hw => hw.elim (fun hw => (.load ((B25.ext0 hw).cell 1 rfl) .nil)) (fun hw => (.load ((B25.xt hw (by decide)).cell 1 rfl) .nil))) ?_
  refine S.dnext (j := 6) (l' := #[true, true, true, true, true, true, true, false, false, false]) (by kernel_rfl) (by kernel_rfl) (sw1 (by kernel_rfl) (Ext.refl _)) ?_
  refine S.new 27 [iV h.2.1] 3 (fun b => .slice (some ⟨b, 0, none⟩) 1 1) (by kernel_rfl) (by kernel_rfl) (fun b => by kernel_rfl) (fun b26 w26 E26 B26 e26 z26 => ?_)
  have sE26 := E26.size
  refine S.dnext (j := 7) (l' := #[true, true, true, true, true, true, true, true, false, false]) (by kernel_rfl) (by kernel_rfl) (sw1 (by kernel_rfl) E26) ?_
  have U27 := i7_2.pres (fun _ => .ofO E20 hLj7.obj rfl)
  have U28 := U27.pres (fun _ => .of0 E21)
  have U29 := U28.pres (fun _ => .of0 E26)
  refine S.append 28 (t := 23) (ty := 23) (e := 3) (base := w.heap.size) (size := 1) (bytes := 8) (m := ns.length) (m' := 1) (c := 1) U29 B26 (by kernel_rfl) (by kernel_rfl) (by kernel_rfl) (by kernel_rfl) (by kernel_rfl) (by kernel_rfl) (by omega) (by omega) (by omega) (fun a30 c30 w30 E30 U30 => ?_)
  have sE30 := E30.size
  refine S.dreads2 roundQ_panicOk [8] 1 [] [28, 29] (rs := []) (κ' := [(28, .slice a30 (ns.length + 1) c30), (29, .pointer (some ⟨b2, 3, none⟩))]) (l' := #[true, true, true, true, true, true, true, true, true, false]) (by kernel_rfl) (by kernel_rfl) (by kernel_rfl) (by kernel_rfl) (fun w' hw => rfl) ?_
  refine S.dnext (j := 9) (l' := #[true, true, true, true, true, true, true, true, true, true]) (by kernel_rfl) (by kernel_rfl) (sw2 (by kernel_rfl) ((Xt.of0 E26).trans (E30.mono (by omega) (by decide)))) ?_
  have B31 := i7_1.extO E20 hLj7.obj rfl
  have B32 := B31.ext0 E21
  have B33 := B32.ext0 E26
  have B34 := B33.xt E30 (by decide)
  refine S.store 3 [.slice a30 (ns.length + 1) c30] [iV deed, iV n, iV val, .slice a30 (ns.length + 1) c30, .slice none 0 0] B34 (by kernel_rfl) (by kernel_rfl) (by kernel_rfl) (by kernel_rfl) (by kernel_rfl) (fun w35 E35 B35 z35 => ?_)
  have sE35 := E35.size
  refine S.dend (by kernel_rfl) (sw2 (by kernel_rfl) (((Xt.of0 E26).trans (E30.mono (by omega) (by decide))).trans (Xt.ofS E35 B34 (by decide) (by omega)))) ?_
  refine S.out ?_
  have O36 := hL20.obj.ext0 E21
  have O37 := O36.ext0 E26
  have O38 := O37.xt E30 rfl
  have O39 := O38.extB E35 B34 rfl
  refine S.fin (fun _ _ _ _ => round_go hst7 hpe7 O39 (fun w40 E40 z40 hL40 => ?_))
  have sE40 := E40.size
  have N41 := hCa.keeps (.ofO E20 hLj7.obj rfl (by omega))
  have N42 := N41.keeps (.of0 E21)
  have N43 := N42.keeps (.of0 E26)
  have N44 := N43.keeps (.ofX E30 (by decide) (by omega))
  have N45 := N44.keeps (.ofS E35 B34 (by decide) (by omega))
  have N46 := N45.keeps (.ofO E40 O39 rfl (by omega))
  have B47 := hBa.extO E20 hLj7.obj rfl
  have B48 := B47.ext0 E21
  have B49 := B48.ext0 E26
  have B50 := B49.xt E30 (by decide)
  have B51 := B50.extT E35 B34 (by decide)
  have B52 := B51.extO E40 O39 rfl
  have O53 := hDj7.extS E20 (by omega)
  have O54 := O53.ext0 E21
  have O55 := O54.ext0 E26
  have O56 := O55.xt E30 rfl
  have O57 := O56.extB E35 B34 rfl
  have O58 := O57.extS E40 (by omega)
  have B59 := B35.extO E40 O39 rfl
  have U60 := U30.pres (fun _ => .ofE E35 B34 (by decide))
  have U61 := U60.pres (fun _ => .ofO E40 O39 rfl)
  exact .inl ⟨rfl, ⟨(ns ++ [h.2.1]), a30, c30, (((((Ej7.ofO E20 (by omega)).trans (Xt.of0 E21)).trans (Xt.of0 E26)).trans (E30.mono (by omega) (by decide))).trans (Xt.ofS E35 B34 (by decide) (by omega))).ofO E40 (by omega), hL40.obj, O58, by simpa using i7_0, (by rw [List.length_append]; exact B59), (by rw [List.length_append]; exact OwnR.snoc U61)⟩, N46, B52⟩
 ·skip
  rintro wa7 ⟨ns, ha, hc, Ej7, hLj7, hDj7, i7_0, i7_1, i7_2⟩ -
  have sEj7 := Ej7.size
  refine after_go hLj7 hst7 hpe7 (fun w62 E62 z62 => ?_)
  have sE62 := E62.size
  refine S.out (S.seq (S.seq (S.region ?_)))
  have B63 := B5.ext0 E6
  have B64 := B63.xt Ej7 (by decide)
  have B65 := B64.extO E62 hLj7.obj rfl
  refine S.run 2 [.v (.pointer (rp rl))] [0, 10, 31] (rs := [.load ⟨b1, 2, none⟩ (.pointer (rp rl))]) (κ' := [(0, pT rb), (10, pT b2), (31, .pointer (rp rl))]) (by kernel_rfl) (by kernel_rfl) (.load (B65.cell 2 rfl) .nil) ?_
  refine S.one (by kernel_rfl) (S.call (dst := some 32) (f := 73) (args := #[.pointer (rp rl)]) (by kernel_rfl) (by kernel_rfl) ((restarts_spec rl _).mono ?_))
  rintro _ w66 ⟨E66, b66, e66, z66, B66, rfl⟩
  refine After.ret (by kernel_rfl) ?_
  have sE66 := E66.size
  refine S.regEnd (by kernel_rfl) (S.block ?_)
  have U67 := i7_2.pres (fun _ => .ofO E62 hLj7.obj rfl)
  have U68 := U67.pres (fun _ => .of0 E66)
  have hrow1 := OwnR.row (cs := intCs) U68 (fun _ => rfl) (by omega)
  refine S.range (gf := 91) (lb := #[.pointer (some ⟨b66, 0, none⟩)]) rfl (by kernel_rfl) (fun l => by kernel_rfl) (fun d69 l69 w69 r69 E69 ed69 el69 z69 hD69 hL69 hst69 hpe69 hn69 hk69 hpar69 hass69 hbod69 => ?_)
  rw [show (#[.func (.yield l69) #[] #[]] ++ #[.pointer (some ⟨b66, 0, none⟩)] : Array Value) = #[.func (.yield l69) #[] #[], .pointer (some ⟨b66, 0, none⟩)] from by kernel_rfl]
  have sE69 := E69.size
  have B70 := B66.ext0 E69
  have N71 := hC.keeps (.of0 E1)
  have N72 := N71.keeps (.of0 E2)
  have N73 := N72.keeps (.ofS E3 B2 (by decide) (by omega))
  have N74 := N73.keeps (.of0 E6)
  have N75 := N74.keeps (.ofX Ej7 (by decide) (by omega))
  have N76 := N75.keeps (.ofO E62 hLj7.obj rfl (by omega))
  have N77 := N76.keeps (.of0 E66)
  have N78 := N77.keeps (.of0 E69)
  have B79 := i7_1.extO E62 hLj7.obj rfl
  have B80 := B79.ext0 E66
  have B81 := B80.ext0 E69
  have R82 := hrow1.pres (.of0 E69)
  refine restarts_iter _ b66 (.func (.yield l69) #[] #[]) (fun (r' : List RR) wj => ∃ ms, ∃ ra, ∃ rc, Xt w.heap.size [43, 3, 92] w66 wj ∧ LoopAt wj l69 r69 ∧ ObjAt wj d69 (.deferred (some [])) ∧ rl.map (·.2) = ms ++ r'.map (·.2) ∧ Blk wj b2 [iV deed, iV n, iV val, .slice ha ns.length hc, .slice ra ms.length rc] 43 ∧ OwnR w66.heap.size 3 1 wj ra ms.length rc (ms.flatMap intCs) ∧ Row w66.heap.size 3 1 intCs wj ha ns) _ rl _ B70 N78 (by omega) ⟨[], none, 0, (Xt.of0 E69), hL69.obj, hD69, rfl, B81, OwnR.nil _ _ _ _, R82⟩ ?_ ?_ ?_
  ·skip
   rintro r' wa69 wb cs ⟨ms, ra, rc, Ej69, hLj69, hDj69, i69_0, i69_1, i69_2, i69_3⟩ hBx hEx
   have sEj69 := Ej69.size
   have shEx := hEx.size
   have O83 := hLj69.obj.extB hEx hBx rfl
   have O84 := hDj69.extB hEx hBx rfl
   have B85 := i69_1.extT hEx hBx (by decide)
   have U86 := i69_2.pres (fun _ => .ofE hEx hBx (by decide))
   have R87 := i69_3.pres (.ofE hEx hBx (by decide))
   exact ⟨ms, ra, rc, Ej69.trans (Xt.ofS hEx hBx (by decide) (by omega)), O83, O84, i69_0, B85, U86, R87⟩
  ·skip
   rintro h r' wa69 ⟨ms, ra, rc, Ej69, hLj69, hDj69, i69_0, i69_1, i69_2, i69_3⟩ hCa hBa
   have sEj69 := Ej69.size
   refine rStep0_le (S.round (κ₁ := [(10, pT b2), (12, pT h.1)]) hLj69 hst69 (.inr (fun _ _ h => h)) hn69 hk69 hpar69 hass69 hbod69 rfl (by kernel_rfl) ?_ ?_)
   · refine S.region (S.run (κ' := [(10, pT b2), (12, pT h.1)]) 1 [] [10, 12] (rs := []) (by kernel_rfl) (by kernel_rfl) rfl (S.regEnd (by kernel_rfl) (S.stop (fun _ hs hh hd => ⟨rfl, hs, hh, hd⟩))))
   intro w88 E88 z88 hL88
   have sE88 := E88.size
   have hlen := congrArg List.length i69_0
   simp only [List.length_map, List.length_append, List.length_cons] at hlen
   refine S.block (S.drawN 10 #[false, false, false, false, false, false, false, false, false, false] 7 (fun u u' => Ext E0 u u') (fun u u' => Xt w.heap.size [43, 3] u u') (by kernel_rfl) (by kernel_rfl) (by kernel_rfl) (fun w89 E89 z89 => ?_))
   have sE89 := E89.size
   refine S.dreads roundQ_panicOk [0, 2, 3, 4] 6 [] [10, 34, 38] (rs := []) (κ' := [(10, pT b2), (34, .pointer (some ⟨b2, 4, none⟩)), (38, .pointer (some ⟨h.1, 1, none⟩))]) (l' := #[true, false, true, true, true, false, false, false, false, false]) (by kernel_rfl) (by kernel_rfl) (by kernel_rfl) (fun _ _ => rfl) ?_
   have B90 := i69_1.extO E88 hLj69.obj rfl
   have B91 := B90.ext0 E89
   refine S.dreads1 roundQ_panicOk [1] 5 [7] [.v (.slice ra ms.length rc)] [10, 35, 38] (rs := [.load ⟨b2, 4, none⟩ (.slice ra ms.length rc)]) (κ' := [(10, pT b2), (35, .slice ra ms.length rc), (38, .pointer (some ⟨h.1, 1, none⟩))]) (l' := #[true, true, true, true, true, false, false, false, false, false]) (by kernel_rfl) (by kernel_rfl) (by kernel_rfl) (by kernel_rfl) (fun w' hw => (.load ((B91.ext0 hw).cell 4 rfl) .nil)) ?_
   have B92 := hCa.1.extO E88 hLj69.obj rfl
   have B93 := B92.ext0 E89
   refine S.dreads roundQ_panicOk [5] 4 [.v (iV h.2)] [10, 35, 39] (rs := [.load ⟨h.1, 1, none⟩ (iV h.2)]) (κ' := [(10, pT b2), (35, .slice ra ms.length rc), (39, iV h.2)]) (l' := #[true, true, true, true, true, true, false, false, false, false]) (by kernel_rfl) (by kernel_rfl) (by kernel_rfl) (fun w' hw => hw.elim (fun hw => (.load ((B93.ext0 hw).cell 1 rfl) .nil)) (fun hw => (.load ((B93.xt hw (by decide)).cell 1 rfl) .nil))) ?_
   refine S.dnext (j := 6) (l' := #[true, true, true, true, true, true, true, false, false, false]) (by kernel_rfl) (by kernel_rfl) (sw1 (by kernel_rfl) (Ext.refl _)) ?_
   refine S.new 40 [iV h.2] 3 (fun b => .slice (some ⟨b, 0, none⟩) 1 1) (by kernel_rfl) (by kernel_rfl) (fun b => by kernel_rfl) (fun b94 w94 E94 B94 e94 z94 => ?_)
   have sE94 := E94.size
   refine S.dnext (j := 7) (l' := #[true, true, true, true, true, true, true, true, false, false]) (by kernel_rfl) (by kernel_rfl) (sw1 (by kernel_rfl) E94) ?_
   have U95 := i69_2.pres (fun _ => .ofO E88 hLj69.obj rfl)
   have U96 := U95.pres (fun _ => .of0 E89)
   have U97 := U96.pres (fun _ => .of0 E94)
   refine S.append 41 (t := 23) (ty := 23) (e := 3) (base := w66.heap.size) (size := 1) (bytes := 8) (m := ms.length) (m' := 1) (c := 1) U97 B94 (by kernel_rfl) (by kernel_rfl) (by kernel_rfl) (by kernel_rfl) (by kernel_rfl) (by kernel_rfl) (by omega) (by omega) (by omega) (fun a98 c98 w98 E98 U98 => ?_)
   have sE98 := E98.size
   refine S.dreads2 roundQ_panicOk [8] 1 [] [41, 42] (rs := []) (κ' := [(41, .slice a98 (ms.length + 1) c98), (42, .pointer (some ⟨b2, 4, none⟩))]) (l' := #[true, true, true, true, true, true, true, true, true, false]) (by kernel_rfl) (by kernel_rfl) (by kernel_rfl) (by kernel_rfl) (fun w' hw => rfl) ?_
   refine S.dnext (j := 9) (l' := #[true, true, true, true, true, true, true, true, true, true]) (by kernel_rfl) (by kernel_rfl) (sw2 (by kernel_rfl) ((Xt.of0 E94).trans (E98.mono (by omega) (by decide)))) ?_
   have B99 := i69_1.extO E88 hLj69.obj rfl
   have B100 := B99.ext0 E89
   have B101 := B100.ext0 E94
   have B102 := B101.xt E98 (by decide)
   refine S.store 4 [.slice a98 (ms.length + 1) c98] [iV deed, iV n, iV val, .slice ha ns.length hc, .slice a98 (ms.length + 1) c98] B102 (by kernel_rfl) (by kernel_rfl) (by kernel_rfl) (by kernel_rfl) (by kernel_rfl) (fun w103 E103 B103 z103 => ?_)
   have sE103 := E103.size
   refine S.dend (by kernel_rfl) (sw2 (by kernel_rfl) (((Xt.of0 E94).trans (E98.mono (by omega) (by decide))).trans (Xt.ofS E103 B102 (by decide) (by omega)))) ?_
   refine S.out ?_
   have O104 := hL88.obj.ext0 E89
   have O105 := O104.ext0 E94
   have O106 := O105.xt E98 rfl
   have O107 := O106.extB E103 B102 rfl
   refine S.fin (fun _ _ _ _ => round_go hst69 hpe69 O107 (fun w108 E108 z108 hL108 => ?_))
   have sE108 := E108.size
   have N109 := hCa.keeps (.ofO E88 hLj69.obj rfl (by omega))
   have N110 := N109.keeps (.of0 E89)
   have N111 := N110.keeps (.of0 E94)
   have N112 := N111.keeps (.ofX E98 (by decide) (by omega))
   have N113 := N112.keeps (.ofS E103 B102 (by decide) (by omega))
   have N114 := N113.keeps (.ofO E108 O107 rfl (by omega))
   have B115 := hBa.extO E88 hLj69.obj rfl
   have B116 := B115.ext0 E89
   have B117 := B116.ext0 E94
   have B118 := B117.xt E98 (by decide)
   have B119 := B118.extT E103 B102 (by decide)
   have B120 := B119.extO E108 O107 rfl
   have O121 := hDj69.extS E88 (by omega)
   have O122 := O121.ext0 E89
   have O123 := O122.ext0 E94
   have O124 := O123.xt E98 rfl
   have O125 := O124.extB E103 B102 rfl
   have O126 := O125.extS E108 (by omega)
   have B127 := B103.extO E108 O107 rfl
   have U128 := U98.pres (fun _ => .ofE E103 B102 (by decide))
   have U129 := U128.pres (fun _ => .ofO E108 O107 rfl)
   have R130 := i69_3.pres (.ofO E88 hLj69.obj rfl)
   have R131 := R130.pres (.of0 E89)
   have R132 := R131.pres (.of0 E94)
   have R133 := R132.pres (.ofXn E98 (by omega))
   have R134 := R133.pres (.ofE E103 B102 (by decide))
   have R135 := R134.pres (.ofO E108 O107 rfl)
   exact .inl ⟨rfl, ⟨(ms ++ [h.2]), a98, c98, (((((Ej69.ofO E88 (by omega)).trans (Xt.of0 E89)).trans (Xt.of0 E94)).trans (E98.mono (by omega) (by decide))).trans (Xt.ofS E103 B102 (by decide) (by omega))).ofO E108 (by omega), hL108.obj, O126, by simpa using i69_0, (by rw [List.length_append]; exact B127), (by rw [List.length_append]; exact OwnR.snoc U129), R135⟩, N114, B120⟩
  ·skip
   rintro wa69 ⟨ms, ra, rc, Ej69, hLj69, hDj69, i69_0, i69_1, i69_2, i69_3⟩ -
   have sEj69 := Ej69.size
   refine after_go hLj69 hst69 hpe69 (fun w136 E136 z136 => ?_)
   have sE136 := E136.size
   refine S.out (S.drawN 13 #[false, false, false, false, false, false, false, false, false, false, false, false, false] 8 (fun u u' => Ext E0 u u') (fun u u' => Xt n₀ [56, 43] u u') (by kernel_rfl) (by kernel_rfl) (by kernel_rfl) (fun w137 E137 z137 => ?_))
   have sE137 := E137.size
   refine S.dreads dq_panicOk [0, 1, 2, 3, 4] 8 [] [10, 43, 47] (rs := []) (κ' := [(10, pT b2), (43, pT rb), (47, .pointer (some ⟨rb, 2, none⟩))]) (l' := #[true, true, true, true, true, false, false, false, false, false, false, false, false]) (by kernel_rfl) (by kernel_rfl) (by kernel_rfl) (fun _ _ => rfl) ?_
   have B138 := hR.blk.ext0 E1
   have B139 := B138.ext0 E2
   have B140 := B139.extT E3 B2 (by decide)
   have B141 := B140.ext0 E6
   have B142 := B141.xt Ej7 (by decide)
   have B143 := B142.extO E62 hLj7.obj rfl
   have B144 := B143.ext0 E66
   have B145 := B144.xt Ej69 (by decide)
   have B146 := B145.extO E136 hLj69.obj rfl
   have B147 := B146.ext0 E137
   refine S.dreads1 dq_panicOk [5] 7 [8] [.v (.slice ea les.length ec)] [10, 43, 48] (rs := [.load ⟨rb, 2, none⟩ (.slice ea les.length ec)]) (κ' := [(10, pT b2), (43, pT rb), (48, .slice ea les.length ec)]) (l' := #[true, true, true, true, true, true, false, false, false, false, false, false, false]) (by kernel_rfl) (by kernel_rfl) (by kernel_rfl) (by kernel_rfl) (fun w' hw => (.load ((B147.ext0 hw).cell 2 rfl) .nil)) ?_
   have B148 := i69_1.extO E136 hLj69.obj rfl
   have B149 := B148.ext0 E137
   refine S.dreads1 dq_panicOk [6] 6 [7, 8] [.v (iV deed), .v (iV n), .v (iV val), .v (.slice ha ns.length hc), .v (.slice ra ms.length rc)] [43, 48, 49] (rs := [.load ⟨b2, 0, none⟩ (iV deed), .load ⟨b2, 1, none⟩ (iV n), .load ⟨b2, 2, none⟩ (iV val), .load ⟨b2, 3, none⟩ (.slice ha ns.length hc), .load ⟨b2, 4, none⟩ (.slice ra ms.length rc)]) (κ' := [(43, pT rb), (48, .slice ea les.length ec), (49, .agg #[iV deed, iV n, iV val, .slice ha ns.length hc, .slice ra ms.length rc])]) (l' := #[true, true, true, true, true, true, true, false, false, false, false, false, false]) (by kernel_rfl) (by kernel_rfl) (by kernel_rfl) (by kernel_rfl) (fun w' hw => (.load ((B149.ext0 hw).cell 0 rfl) (.load ((B149.ext0 hw).cell 1 rfl) (.load ((B149.ext0 hw).cell 2 rfl) (.load ((B149.ext0 hw).cell 3 rfl) (.load ((B149.ext0 hw).cell 4 rfl) .nil)))))) ?_
   refine S.dnext (j := 7) (l' := #[true, true, true, true, true, true, true, true, false, false, false, false, false]) (by kernel_rfl) (by kernel_rfl) (sw1 (by kernel_rfl) (Ext.refl _)) ?_
   refine S.new 50 [iV deed, iV n, iV val, .slice ha ns.length hc, .slice ra ms.length rc] 43 (fun b => .slice (some ⟨b, 0, none⟩) 1 1) (by kernel_rfl) (by kernel_rfl) (fun b => by kernel_rfl) (fun b150 w150 E150 B150 e150 z150 => ?_)
   have sE150 := E150.size
   refine S.dnext (j := 8) (l' := #[true, true, true, true, true, true, true, true, true, false, false, false, false]) (by kernel_rfl) (by kernel_rfl) (sw1 (by kernel_rfl) E150) ?_
   have U151 := hR.own.presN hR.own.lt (.of0 E1)
   have U152 := U151.presN hR.own.lt (.of0 E2)
   have U153 := U152.presN hR.own.lt (.ofS E3 (by omega))
   have U154 := U153.presN hR.own.lt (.of0 E6)
   have U155 := U154.presN hR.own.lt (.ofXn Ej7 (by omega))
   have U156 := U155.presN hR.own.lt (.ofO E62 hLj7.obj rfl)
   have U157 := U156.presN hR.own.lt (.of0 E66)
   have U158 := U157.presN hR.own.lt (.ofXn Ej69 (by omega))
   have U159 := U158.presN hR.own.lt (.ofO E136 hLj69.obj rfl)
   have U160 := U159.presN hR.own.lt (.of0 E137)
   have U161 := U160.presN hR.own.lt (.of0 E150)
   refine S.append 51 (t := 27) (ty := 27) (e := 43) (base := n₀) (size := 5) (bytes := 72) (m := les.length) (m' := 1) (c := 1) U161 B150 (by kernel_rfl) (by kernel_rfl) (by kernel_rfl) (by kernel_rfl) (by kernel_rfl) (by kernel_rfl) (by omega) (by omega) (by omega) (fun a162 c162 w162 E162 U162 => ?_)
   have sE162 := E162.size
   refine S.dreads2 dq_panicOk [9, 10, 11] 1 [] [51, 54] (rs := []) (κ' := [(51, .slice a162 (les.length + 1) c162), (54, .pointer (some ⟨rb, 2, none⟩))]) (l' := #[true, true, true, true, true, true, true, true, true, true, true, true, false]) (by kernel_rfl) (by kernel_rfl) (by kernel_rfl) (by kernel_rfl) (fun w' hw => rfl) ?_
   refine S.dnext (j := 12) (l' := #[true, true, true, true, true, true, true, true, true, true, true, true, true]) (by kernel_rfl) (by kernel_rfl) (sw2 (by kernel_rfl) ((Xt.of0 E150).trans (E162.mono (by omega) (by decide)))) ?_
   have B163 := hR.blk.ext0 E1
   have B164 := B163.ext0 E2
   have B165 := B164.extT E3 B2 (by decide)
   have B166 := B165.ext0 E6
   have B167 := B166.xt Ej7 (by decide)
   have B168 := B167.extO E62 hLj7.obj rfl
   have B169 := B168.ext0 E66
   have B170 := B169.xt Ej69 (by decide)
   have B171 := B170.extO E136 hLj69.obj rfl
   have B172 := B171.ext0 E137
   have B173 := B172.ext0 E150
   have B174 := B173.xt E162 (by decide)
   refine S.store 2 [.slice a162 (les.length + 1) c162] [iV 0, iV 0, .slice a162 (les.length + 1) c162, iV ((σ.fuel : Nat) : Int), .slice p.a p.xs.length p.cap, .slice ka σ.picks.length kc, .map (some md)] B174 (by kernel_rfl) (by kernel_rfl) (by kernel_rfl) (by kernel_rfl) (by kernel_rfl) (fun w175 E175 B175 z175 => ?_)
   have sE175 := E175.size
   refine S.dend (by kernel_rfl) (sw2 (by kernel_rfl) (((Xt.of0 E150).trans (E162.mono (by omega) (by decide))).trans (Xt.ofS E175 B174 (by decide) (by omega)))) ?_
   have O176 := hDj69.extS E136 (by omega)
   have O177 := O176.ext0 E137
   have O178 := O177.ext0 E150
   have O179 := O178.xt E162 rfl
   have O180 := O179.extB E175 B174 rfl
   have O181 := hDj7.extS E62 (by omega)
   have O182 := O181.ext0 E66
   have O183 := O182.xt Ej69 rfl
   have O184 := O183.extS E136 (by omega)
   have O185 := O184.ext0 E137
   have O186 := O185.ext0 E150
   have O187 := O186.xt E162 rfl
   have O188 := O187.extB E175 B174 rfl
   refine S.finM2 O180 O188 (by omega) (A := []) (rs := []) (v := .tuple #[]) (fun _ => by kernel_rfl) (fun w1' w2' Ea ho' Eb => ⟨rfl, rfl, ?_⟩)
   have sEa := Ea.size
   have sEb := Eb.size
   have B190 := B175.extO Ea O180 rfl
   have B191 := B190.extO Eb ho' rfl
   have U192 := U162.pres (fun _ => .ofE E175 B174 (by decide))
   have U193 := U192.pres (fun _ => .ofO Ea O180 rfl)
   have U194 := U193.pres (fun _ => .ofO Eb ho' rfl)
   have X : Xt n₀ [56, 43] w w2' := ((((((((((((((Xt.of0 E1).trans (Xt.of0 E2)).trans (Xt.ofS E3 B2 (by decide) (by omega))).trans (Xt.of0 E6)).thenY Ej7 (by omega)).ofO E62 (by omega)).trans (Xt.of0 E66)).thenY Ej69 (by omega)).ofO E136 (by omega)).trans (Xt.of0 E137)).trans (Xt.of0 E150)).trans (E162.mono (by omega) (by decide))).trans (Xt.ofS E175 B174 (by decide) (by omega))).ofO Ea (by omega)).ofO Eb (by omega)
   have U195 := i69_2.pres (fun _ => .ofO E136 hLj69.obj rfl)
   have U196 := U195.pres (fun _ => .of0 E137)
   have U197 := U196.pres (fun _ => .of0 E150)
   have U198 := U197.pres (fun _ => .ofX E162 (by decide))
   have U199 := U198.pres (fun _ => .ofE E175 B174 (by decide))
   have U200 := U199.pres (fun _ => .ofO Ea O180 rfl)
   have U201 := U200.pres (fun _ => .ofO Eb ho' rfl)
   have hr2 := OwnR.row (cs := intCs) U201 (fun _ => rfl) (by omega)
   have hl1 := congrArg List.length i7_0
   simp only [List.length_map, List.length_append, List.length_nil, List.map_nil, Nat.add_zero] at hl1
   have hl2 := congrArg List.length i69_0
   simp only [List.length_map, List.length_append, List.length_nil, List.map_nil, Nat.add_zero] at hl2
   have R202 := i69_3.pres (.ofO E136 hLj69.obj rfl)
   have R203 := R202.pres (.of0 E137)
   have R204 := R203.pres (.of0 E150)
   have R205 := R204.pres (.ofX E162 (by decide))
   have R206 := R205.pres (.ofE E175 B174 (by decide))
   have R207 := R206.pres (.ofO Ea O180 rfl)
   have R208 := R207.pres (.ofO Eb ho' rfl)
   refine ⟨X, a162, c162, (⟨deed, n, val, ⟨ha, hc, ns⟩, ⟨ra, rc, ms⟩⟩ : LE), hR.told X B191 U194 ⟨⟨R208.mono (by omega), by show ns.length ≤ _; omega⟩, ⟨hr2.mono (by omega), by show ms.length ≤ _; omega⟩⟩ ?_, ?_⟩
   · simp only [LE.ev]; rw [i7_0, i69_0]; simp
   · exact ⟨fun gg hg => U68.ge gg hg, fun gg hg => Nat.le_trans (by omega) (U201.ge gg hg)⟩

end Go.Proofs.Ytmgakpnejbembaa
