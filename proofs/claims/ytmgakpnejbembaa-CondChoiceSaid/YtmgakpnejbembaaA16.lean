/-
  CondChoice, a part of the proof (printed by a program of the prover): what functions of the given program compute, each under the conditions that its theorem names.
-/
import Derived.Test.YtmgakpnejbembaaA15
namespace Go.Proofs.Ytmgakpnejbembaa
open Go Go.Proofs.Ytmgakpnejbembaa.L

theorem kd_cases {b d : Int} (h : (kd b d).isSome = true) : d = 1 ∨ d = 2 ∨ d = 3 ∨ d = 4 ∨ d = 5 ∨ d = 6 ∨ d = 7 ∨ d = 8 ∨ d = 9 ∨ d = 10 ∨ d = 11 ∨ d = 12 ∨ d = 13 ∨ d = 14 ∨ d = 15 := by
  unfold kd at h
  rw [Option.isSome_map, List.find?_isSome] at h
  obtain ⟨t, ht, he⟩ := h
  have he : d = t.1 := by simpa using he
  simp only [nodesT, List.mem_cons, List.not_mem_nil, or_false] at ht
  rcases ht with rfl | rfl | rfl | rfl | rfl | rfl | rfl | rfl | rfl | rfl | rfl | rfl | rfl | rfl | rfl <;> omega
theorem lookup_does {x : Int} {m : Nat} {w : World} {v : Value} (hm : ObjAt w m doesO) (hv : ((doesL.find? fun e => x == e.1).map (·.2)).getD .nilFunc = v) :
    (Instr.lookup 53 (.map (some m)) (.int .i64 x) false).run Try.prog w = .ok v w := by
  rw [run_lookup_int (P := Try.prog) (z := .nilFunc) false (kt := 58) (et := 87) (by kernel_rfl) (by kernel_rfl) (fun w => by kernel_rfl) hm, ← hv]
  rfl
theorem Run.spent {n₀ rb md : Nat} {p : LP} {w w' : World} {σ : RSt} {ea : Option Addr} {ec : Nat} {les : List LE} {ka : Option Addr} {kc : Nat} (h : Run n₀ rb md p w σ ea ec les ka kc) (h1 : 1 ≤ σ.fuel) (E : Ext (· = rb) w w')
    (hB : Blk w' rb [.int .i64 0, .int .i64 0, .slice ea les.length ec, .int .i64 (((σ.fuel : Nat) : Int) - 1), .slice p.a p.xs.length p.cap, .slice ka σ.picks.length kc, .map (some md)] 56) :
    Run n₀ rb md p w' { σ with fuel := σ.fuel - 1 } ea ec les ka kc := by
  have k : Keeps [43, 3] w w' := .ofS E h.blk rfl
  have e : (((σ.fuel : Nat) : Int) - 1) = ((σ.fuel - 1 : Nat) : Int) := by omega
  rw [e] at hB
  exact ⟨hB, h.own.pres fun _ => k.pres rfl, (h.evs.pres (k.pres rfl)).mono E.size, h.eq, h.pk.pres (.ofS E h.rb0), h.pkb, h.does.extB E h.blk rfl, h.prog.pres (.ofS E h.rb0), h.rb0, Nat.le_trans h.n0 E.size, h.pkn, h.pkc⟩
theorem ScOk.spent {b : Int} {n₀ : Nat} {w : World} {hand : Int} {hl : List H} {rl : List RR} {σ : RSt} (h : ScOk b n₀ 900 5000 w hand hl rl σ) (hf : 1 ≤ σ.fuel) : ScOk b n₀ 899 4992 w hand hl rl { σ with fuel := σ.fuel - 1 } :=
  ⟨h.hc, h.rc, h.wf, h.rg, by have := h.h1; show hl.length + (σ.fuel - 1) ≤ 899; omega, by have := h.r1; show rl.length + (σ.fuel - 1) ≤ 899; omega, by have := h.ev; show σ.evs.length + 8 * (σ.fuel - 1) ≤ 4992; omega⟩
theorem eval_zero (p : LP) (n₀ rb md : Nat) (w : World) (σ : RSt) (les : List LE) (x : X) (hand : Int) (hl : List H) (rl : List RR) (hR : RunE n₀ rb md p w σ les) (hx : XOk n₀ w x) (hwf : WfX p.xs.length x) (hS : ScOk p.xs.length n₀ 900 5000 w hand hl rl σ) (hk : σ.fuel ≤ 0) :
    Calls Try.prog 59 #[pT rb, .agg #[iV x.d.1, iV x.d.2, .slice x.a x.len x.cap], .agg #[iV hand, .pointer (hp hl), .pointer (rp rl)]] w (Post n₀ rb md p w les rl (evalS p.xs 0 x (scOf hand hl rl) σ)) := by
 refine calls_of_S (n := 35) Try.func59 rfl rfl (by kernel_rfl) ?_
 have hev0 := hS.ev; have hh0 := hS.h1; have hr0 := hS.r1; have hrg := hS.rg; have P0 := RunP.refl hR; have hn0 := P0.n0
 refine S.seq (S.region (S.one (by kernel_rfl) (S.new 4 [iV x.d.1, iV x.d.2, .slice x.a x.len x.cap] 60 (fun b => pT b) (by kernel_rfl) (by kernel_rfl) (fun b => by kernel_rfl) (fun b1 w1 E1 B1 e1 z1 => ?_))))
 have sE1 := E1.size
 refine S.one (by kernel_rfl) (S.new 5 [iV hand, .pointer (hp hl), .pointer (rp rl)] 94 (fun b => pT b) (by kernel_rfl) (by kernel_rfl) (fun b => by kernel_rfl) (fun b2 w2 E2 B2 e2 z2 => ?_))
 have sE2 := E2.size
 refine S.run 1 [] [0, 4, 5] (rs := []) (κ' := [(0, pT rb), (4, pT b1), (5, pT b2)]) (by kernel_rfl) (by kernel_rfl) rfl ?_
 refine S.regEnd (by kernel_rfl) (S.seq (S.seq (S.region ?_)))
 have P4 := P0.std (.of0 E1) (P0.1.trans (.of0 E1))
 have P5 := P4.std (.of0 E2) (P4.1.trans (.of0 E2))
 obtain ⟨les3, ⟨ea3, ec3, ka3, kc3, hR3⟩, back3⟩ := P5.open; have hrb3 := hR3.rb0
 refine S.run 6 [.v (iV ((σ.fuel : Nat) : Int))] [0, 4, 5, 12] (rs := [.load ⟨rb, 3, none⟩ (iV ((σ.fuel : Nat) : Int))]) (κ' := [(0, pT rb), (4, pT b1), (5, pT b2), (12, .bool (((σ.fuel : Nat) : Int) == 0))]) (by kernel_rfl) (by kernel_rfl) (.load (hR3.blk.cell 3 rfl) .nil) ?_
 refine S.regEnd (by kernel_rfl) (S.subst 12 (.bool (((σ.fuel : Nat) : Int) == 0)) (.bool true) (by kernel_rfl) (congrArg Value.bool (by rw [show σ.fuel = 0 by omega]; rfl)) ?_)
 refine S.yes (by kernel_rfl) (S.region (S.run 2 [] [0, 4, 5, 14] (rs := []) (κ' := [(0, pT rb), (4, pT b1), (5, pT b2), (14, .iface 90 (.agg #[iV 4]))]) (by kernel_rfl) (by kernel_rfl) rfl ?_))
 refine S.one (by kernel_rfl) (S.panics (dst := none) (v := .iface 90 (.agg #[iV 4])) (by kernel_rfl) (by kernel_rfl) ?_)
 have hs : (evalS p.xs 0 x (scOf hand hl rl) σ : Res Int) = (.stop 4, σ) := rfl
 exact fun _ _ _ hd => ⟨hd, by rw [hs]; exact ⟨⟨[], fun e he => by simp at he, rfl⟩, P5⟩⟩

theorem eval_step (p : LP) (k : Nat) (IH : EvalC p k) (hpw : ∀ y, y ∈ p.xs → WfX p.xs.length y) (n₀ rb md : Nat) (w : World) (σ : RSt) (les : List LE) (x : X) (hand : Int) (hl : List H) (rl : List RR) (hR : RunE n₀ rb md p w σ les) (hx : XOk n₀ w x) (hwf : WfX p.xs.length x) (hS : ScOk p.xs.length n₀ 900 5000 w hand hl rl σ) (hk : σ.fuel ≤ (k + 1)) :
    Calls Try.prog 59 #[pT rb, .agg #[iV x.d.1, iV x.d.2, .slice x.a x.len x.cap], .agg #[iV hand, .pointer (hp hl), .pointer (rp rl)]] w (Post n₀ rb md p w les rl (evalS p.xs (k + 1) x (scOf hand hl rl) σ)) := by
 refine calls_of_S (n := 35) Try.func59 rfl rfl (by kernel_rfl) ?_
 have hev0 := hS.ev; have hh0 := hS.h1; have hr0 := hS.r1; have hrg := hS.rg; have P0 := RunP.refl hR; have hn0 := P0.n0
 refine S.seq (S.region (S.one (by kernel_rfl) (S.new 4 [iV x.d.1, iV x.d.2, .slice x.a x.len x.cap] 60 (fun b => pT b) (by kernel_rfl) (by kernel_rfl) (fun b => by kernel_rfl) (fun b1 w1 E1 B1 e1 z1 => ?_))))
 have sE1 := E1.size
 refine S.one (by kernel_rfl) (S.new 5 [iV hand, .pointer (hp hl), .pointer (rp rl)] 94 (fun b => pT b) (by kernel_rfl) (by kernel_rfl) (fun b => by kernel_rfl) (fun b2 w2 E2 B2 e2 z2 => ?_))
 have sE2 := E2.size
 refine S.run 1 [] [0, 4, 5] (rs := []) (κ' := [(0, pT rb), (4, pT b1), (5, pT b2)]) (by kernel_rfl) (by kernel_rfl) rfl ?_
 refine S.regEnd (by kernel_rfl) (S.seq (S.seq (S.region ?_)))
 have P4 := P0.std (.of0 E1) (P0.1.trans (.of0 E1))
 have P5 := P4.std (.of0 E2) (P4.1.trans (.of0 E2))
 obtain ⟨les3, ⟨ea3, ec3, ka3, kc3, hR3⟩, back3⟩ := P5.open; have hrb3 := hR3.rb0
 refine S.run 6 [.v (iV ((σ.fuel : Nat) : Int))] [0, 4, 5, 12] (rs := [.load ⟨rb, 3, none⟩ (iV ((σ.fuel : Nat) : Int))]) (κ' := [(0, pT rb), (4, pT b1), (5, pT b2), (12, .bool (((σ.fuel : Nat) : Int) == 0))]) (by kernel_rfl) (by kernel_rfl) (.load (hR3.blk.cell 3 rfl) .nil) ?_
 refine S.regEnd (by kernel_rfl) (S.both 12 (((σ.fuel : Nat) : Int) == 0) (by kernel_rfl) (fun c6 => ?_) (fun c6 => ?_))
 ·skip
  have p7 : ((σ.fuel : Nat) : Int) = 0 := by simpa using c6
  have hf0 : σ.fuel = 0 := by omega
  have hs : (evalS p.xs (k + 1) x (scOf hand hl rl) σ : Res Int) = (.stop 4, σ) := by rw [evalS, if_pos hf0]
  refine S.yes (by kernel_rfl) (S.region (S.run 2 [] [0, 4, 5, 14] (rs := []) (κ' := [(0, pT rb), (4, pT b1), (5, pT b2), (14, .iface 90 (.agg #[iV 4]))]) (by kernel_rfl) (by kernel_rfl) rfl ?_))
  refine S.one (by kernel_rfl) (S.panics (dst := none) (v := .iface 90 (.agg #[iV 4])) (by kernel_rfl) (by kernel_rfl) ?_)
  exact fun _ _ _ hd => ⟨hd, by rw [hs]; exact ⟨⟨[], fun e he => by simp at he, rfl⟩, P5⟩⟩
 ·skip
  have p8 : ((σ.fuel : Nat) : Int) ≠ 0 := by simpa using c6
  have hf1 : 1 ≤ σ.fuel := by omega
  have hS1 := hS.spent hf1
  refine S.no (by kernel_rfl) (S.skip (S.seq (S.region (S.run 6 [.v (iV ((σ.fuel : Nat) : Int))] [0, 4, 5, 15, 19, 20] (rs := [.load ⟨rb, 3, none⟩ (iV ((σ.fuel : Nat) : Int))]) (κ' := [(0, pT rb), (4, pT b1), (5, pT b2), (15, pT rb), (19, iV ((σ.fuel : Nat) : Int)), (20, iV (IntKind.i64.wrap (((σ.fuel : Nat) : Int) - 1)))]) (by kernel_rfl) (by kernel_rfl) (.load (hR3.blk.cell 3 rfl) .nil) ?_))))
  refine S.subst 20 (iV (IntKind.i64.wrap (((σ.fuel : Nat) : Int) - 1))) (iV (((σ.fuel : Nat) : Int) - 1)) (by kernel_rfl) (congrArg (Value.int .i64) (wrap_i64 (by omega) (by omega))) ?_
  refine S.run 3 [] [0, 4, 5, 20, 23] (rs := []) (κ' := [(0, pT rb), (4, pT b1), (5, pT b2), (20, iV (((σ.fuel : Nat) : Int) - 1)), (23, .pointer (some ⟨rb, 3, none⟩))]) (by kernel_rfl) (by kernel_rfl) rfl ?_
  refine S.one (by kernel_rfl) (S.store 3 [iV (((σ.fuel : Nat) : Int) - 1)] [iV 0, iV 0, .slice ea3 les3.length ec3, iV (((σ.fuel : Nat) : Int) - 1), .slice p.a p.xs.length p.cap, .slice ka3 σ.picks.length kc3, .map (some md)] hR3.blk (by kernel_rfl) (by kernel_rfl) (by kernel_rfl) (by kernel_rfl) (by kernel_rfl) (fun w9 E9 B9 z9 => ?_))
  have sE9 := E9.size
  have PS10 : RunP n₀ rb md p w w9 les { σ with fuel := σ.fuel - 1 } := back3 _ _ ⟨Xt.ofS E9 hR3.blk (by decide) hR3.rb0, [], by rw [List.append_nil]; exact ⟨_, _, _, _, hR3.spent hf1 E9 B9⟩, fun e he => by simp at he⟩
  rw [show (evalS p.xs (k + 1) x (scOf hand hl rl) σ : Res Int) = opS p.xs (evalS p.xs k) x (scOf hand hl rl) { σ with fuel := σ.fuel - 1 } from by rw [evalS, if_neg (by omega)]]
  rcases kd_cases hwf.some with hd1 | hd1 | hd1 | hd1 | hd1 | hd1 | hd1 | hd1 | hd1 | hd1 | hd1 | hd1 | hd1 | hd1 | hd1
  ·skip
   refine S.regEnd (by kernel_rfl) (S.seq (S.drawN 12 #[false, false, false, false, false, false, false, false, false, false, false, false] 10 (fun u u' => Ext E0 u u') (fun u u' => Xt n₀ [56, 43] u u') (by kernel_rfl) (by kernel_rfl) (by kernel_rfl) (fun w11 E11 z11 => ?_)))
   have sE11 := E11.size
   refine S.dreads bodyPost_panicOk [0, 1, 2, 4, 7] 7 [] [4, 5, 26, 28, 31] (rs := []) (κ' := [(4, pT b1), (5, pT b2), (26, .pointer (some ⟨rb, 6, none⟩)), (28, pT b1), (31, pT rb)]) (l' := #[true, true, true, false, true, false, false, true, false, false, false, false]) (by kernel_rfl) (by kernel_rfl) (by kernel_rfl) (fun _ _ => rfl) ?_
   have P13 := PS10.std (.of0 E11) (PS10.1.trans (.of0 E11))
   obtain ⟨les12, ⟨ea12, ec12, ka12, kc12, hR12⟩, back12⟩ := P13.open; have hrb12 := hR12.rb0
   refine S.dreads1 bodyPost_panicOk [3] 6 [6, 10] [.v (.map (some md))] [4, 5, 27, 28, 31] (rs := [.load ⟨rb, 6, none⟩ (.map (some md))]) (κ' := [(4, pT b1), (5, pT b2), (27, .map (some md)), (28, pT b1), (31, pT rb)]) (l' := #[true, true, true, true, true, false, false, true, false, false, false, false]) (by kernel_rfl) (by kernel_rfl) (by kernel_rfl) (by kernel_rfl) (fun w' hw => (.load ((hR12.blk.ext0 hw).cell 6 rfl) .nil)) ?_
   have B14 := B1.ext0 E2
   have B15 := B14.extT E9 hR3.blk (by decide)
   have B16 := B15.ext0 E11
   refine S.dreads bodyPost_panicOk [5] 5 [.v (iV x.d.1)] [4, 5, 27, 29, 31] (rs := [.load ⟨b1, 0, none⟩ (iV x.d.1)]) (κ' := [(4, pT b1), (5, pT b2), (27, .map (some md)), (29, iV x.d.1), (31, pT rb)]) (l' := #[true, true, true, true, true, true, false, true, false, false, false, false]) (by kernel_rfl) (by kernel_rfl) (by kernel_rfl) (fun w' hw => hw.elim (fun hw => (.load ((B16.ext0 hw).cell 0 rfl) .nil)) (fun hw => (.load ((B16.xt hw (by decide)).cell 0 rfl) .nil))) ?_
   refine S.dreads bodyPost_panicOk [8] 4 [.v (iV x.d.1), .v (iV x.d.2), .v (.slice x.a x.len x.cap)] [5, 27, 29, 31, 32] (rs := [.load ⟨b1, 0, none⟩ (iV x.d.1), .load ⟨b1, 1, none⟩ (iV x.d.2), .load ⟨b1, 2, none⟩ (.slice x.a x.len x.cap)]) (κ' := [(5, pT b2), (27, .map (some md)), (29, iV x.d.1), (31, pT rb), (32, .agg #[iV x.d.1, iV x.d.2, .slice x.a x.len x.cap])]) (l' := #[true, true, true, true, true, true, false, true, true, false, false, false]) (by kernel_rfl) (by kernel_rfl) (by kernel_rfl) (fun w' hw => hw.elim (fun hw => (.load ((B16.ext0 hw).cell 0 rfl) (.load ((B16.ext0 hw).cell 1 rfl) (.load ((B16.ext0 hw).cell 2 rfl) .nil)))) (fun hw => (.load ((B16.xt hw (by decide)).cell 0 rfl) (.load ((B16.xt hw (by decide)).cell 1 rfl) (.load ((B16.xt hw (by decide)).cell 2 rfl) .nil))))) ?_
   have B17 := B2.extT E9 hR3.blk (by decide)
   have B18 := B17.ext0 E11
   refine S.dreads bodyPost_panicOk [9] 3 [.v (iV hand), .v (.pointer (hp hl)), .v (.pointer (rp rl))] [27, 29, 31, 32, 33] (rs := [.load ⟨b2, 0, none⟩ (iV hand), .load ⟨b2, 1, none⟩ (.pointer (hp hl)), .load ⟨b2, 2, none⟩ (.pointer (rp rl))]) (κ' := [(27, .map (some md)), (29, iV x.d.1), (31, pT rb), (32, .agg #[iV x.d.1, iV x.d.2, .slice x.a x.len x.cap]), (33, .agg #[iV hand, .pointer (hp hl), .pointer (rp rl)])]) (l' := #[true, true, true, true, true, true, false, true, true, true, false, false]) (by kernel_rfl) (by kernel_rfl) (by kernel_rfl) (fun w' hw => hw.elim (fun hw => (.load ((B18.ext0 hw).cell 0 rfl) (.load ((B18.ext0 hw).cell 1 rfl) (.load ((B18.ext0 hw).cell 2 rfl) .nil)))) (fun hw => (.load ((B18.xt hw (by decide)).cell 0 rfl) (.load ((B18.xt hw (by decide)).cell 1 rfl) (.load ((B18.xt hw (by decide)).cell 2 rfl) .nil))))) ?_
   refine S.dlaw bodyPost_panicOk 6 30 2 (v := .func (.func 43) #[] #[]) (l' := #[true, true, true, true, true, true, true, true, true, true, false, false]) (by kernel_rfl) (by kernel_rfl) (by kernel_rfl) (by kernel_rfl) (fun w' hw => lawRun (s := Instr.lookup 53 (.map (some md)) (iV x.d.1) false) (by kernel_rfl) (hw.elim (fun hw => lookup_does (hR12.does.ext0 hw) (by rw [hd1]; rfl)) (fun hw => lookup_does (hR12.does.xt hw rfl) (by rw [hd1]; rfl)))) ?_
   refine S.dnext (j := 10) (l' := #[true, true, true, true, true, true, true, true, true, true, true, false]) (by kernel_rfl) (by kernel_rfl) (sw1 (by kernel_rfl) (Ext.refl _)) ?_
   obtain ⟨les19, hR19, back19⟩ := P13.open
   have hlen : x.len = 0 := by have hh := hwf.len; rw [hd1] at hh; have hh : (x.len : Int) = 0 := hh; omega
   have hlo : -1000000000 ≤ x.d.2 := by have hh := hwf.lo; rw [hd1] at hh; exact hh
   have hhi : x.d.2 ≤ 1000000000 := by have hh := hwf.hi; rw [hd1] at hh; exact hh
   have N20 := hS1.keeps (.of0 E1)
   have N21 := N20.keeps (.of0 E2)
   have N22 := N21.keeps (.ofS E9 hR3.blk (by decide) (by omega))
   have N23 := N22.keeps (.of0 E11)
   have T24 := hx.pres (.of0 E1)
   have T25 := T24.pres (.of0 E2)
   have T26 := T25.pres (.ofS E9 (by omega))
   have T27 := T26.pres (.of0 E11)
   refine S.call (dst := some 34) (f := 43) (args := #[pT rb, .agg #[iV x.d.1, iV x.d.2, .slice x.a x.len x.cap], .agg #[iV hand, .pointer (hp hl), .pointer (rp rl)]]) (by kernel_rfl) (by kernel_rfl) ((op_int p k IH hpw n₀ rb md _ { σ with fuel := σ.fuel - 1 } les19 x hand hl rl hR19 T27 hwf N23 (by show σ.fuel - 1 ≤ k; omega) (by omega) (by omega)).mono ?_)
   intro e19 w19 hq
   have hq : Post n₀ rb md p w11 les19 rl (opS p.xs (evalS p.xs k) x (scOf hand hl rl) { σ with fuel := σ.fuel - 1 }) e19 w19 := by unfold opS; rw [hd1]; exact hq
   obtain ⟨ho, hP⟩ := hq; have PP := back19 _ _ hP; have ho2 := ho
   rcases outE_cases ho2 with ⟨v, _, rfl, hv⟩ | ⟨ch, rfl, _, _⟩
   ·skip
    have XX := hP.1
    refine After.ret (by kernel_rfl) ?_
    have sXX := XX.size
    refine S.dreads2 bodyPost_panicOk [11] 0 [] [6] (rs := []) (κ' := [(6, iV v)]) (l' := #[true, true, true, true, true, true, true, true, true, true, true, true]) (by kernel_rfl) (by kernel_rfl) (by kernel_rfl) (by kernel_rfl) (fun w' hw => rfl) ?_
    refine S.dend (by kernel_rfl) (sw2 (by kernel_rfl) XX) ?_
    exact S.ret1 (v := iV v) rfl (by kernel_rfl) ⟨ho, PP⟩
   · exact fun _ _ _ hd => ⟨hd, ho, PP⟩
  ·skip
   refine S.regEnd (by kernel_rfl) (S.seq (S.drawN 12 #[false, false, false, false, false, false, false, false, false, false, false, false] 10 (fun u u' => Ext E0 u u') (fun u u' => Xt n₀ [56, 43] u u') (by kernel_rfl) (by kernel_rfl) (by kernel_rfl) (fun w28 E28 z28 => ?_)))
   have sE28 := E28.size
   refine S.dreads bodyPost_panicOk [0, 1, 2, 4, 7] 7 [] [4, 5, 26, 28, 31] (rs := []) (κ' := [(4, pT b1), (5, pT b2), (26, .pointer (some ⟨rb, 6, none⟩)), (28, pT b1), (31, pT rb)]) (l' := #[true, true, true, false, true, false, false, true, false, false, false, false]) (by kernel_rfl) (by kernel_rfl) (by kernel_rfl) (fun _ _ => rfl) ?_
   have P30 := PS10.std (.of0 E28) (PS10.1.trans (.of0 E28))
   obtain ⟨les29, ⟨ea29, ec29, ka29, kc29, hR29⟩, back29⟩ := P30.open; have hrb29 := hR29.rb0
   refine S.dreads1 bodyPost_panicOk [3] 6 [6, 10] [.v (.map (some md))] [4, 5, 27, 28, 31] (rs := [.load ⟨rb, 6, none⟩ (.map (some md))]) (κ' := [(4, pT b1), (5, pT b2), (27, .map (some md)), (28, pT b1), (31, pT rb)]) (l' := #[true, true, true, true, true, false, false, true, false, false, false, false]) (by kernel_rfl) (by kernel_rfl) (by kernel_rfl) (by kernel_rfl) (fun w' hw => (.load ((hR29.blk.ext0 hw).cell 6 rfl) .nil)) ?_
   have B31 := B1.ext0 E2
   have B32 := B31.extT E9 hR3.blk (by decide)
   have B33 := B32.ext0 E28
   refine S.dreads bodyPost_panicOk [5] 5 [.v (iV x.d.1)] [4, 5, 27, 29, 31] (rs := [.load ⟨b1, 0, none⟩ (iV x.d.1)]) (κ' := [(4, pT b1), (5, pT b2), (27, .map (some md)), (29, iV x.d.1), (31, pT rb)]) (l' := #[true, true, true, true, true, true, false, true, false, false, false, false]) (by kernel_rfl) (by kernel_rfl) (by kernel_rfl) (fun w' hw => hw.elim (fun hw => (.load ((B33.ext0 hw).cell 0 rfl) .nil)) (fun hw => (.load ((B33.xt hw (by decide)).cell 0 rfl) .nil))) ?_
   refine S.dreads bodyPost_panicOk [8] 4 [.v (iV x.d.1), .v (iV x.d.2), .v (.slice x.a x.len x.cap)] [5, 27, 29, 31, 32] (rs := [.load ⟨b1, 0, none⟩ (iV x.d.1), .load ⟨b1, 1, none⟩ (iV x.d.2), .load ⟨b1, 2, none⟩ (.slice x.a x.len x.cap)]) (κ' := [(5, pT b2), (27, .map (some md)), (29, iV x.d.1), (31, pT rb), (32, .agg #[iV x.d.1, iV x.d.2, .slice x.a x.len x.cap])]) (l' := #[true, true, true, true, true, true, false, true, true, false, false, false]) (by kernel_rfl) (by kernel_rfl) (by kernel_rfl) (fun w' hw => hw.elim (fun hw => (.load ((B33.ext0 hw).cell 0 rfl) (.load ((B33.ext0 hw).cell 1 rfl) (.load ((B33.ext0 hw).cell 2 rfl) .nil)))) (fun hw => (.load ((B33.xt hw (by decide)).cell 0 rfl) (.load ((B33.xt hw (by decide)).cell 1 rfl) (.load ((B33.xt hw (by decide)).cell 2 rfl) .nil))))) ?_
   have B34 := B2.extT E9 hR3.blk (by decide)
   have B35 := B34.ext0 E28
   refine S.dreads bodyPost_panicOk [9] 3 [.v (iV hand), .v (.pointer (hp hl)), .v (.pointer (rp rl))] [27, 29, 31, 32, 33] (rs := [.load ⟨b2, 0, none⟩ (iV hand), .load ⟨b2, 1, none⟩ (.pointer (hp hl)), .load ⟨b2, 2, none⟩ (.pointer (rp rl))]) (κ' := [(27, .map (some md)), (29, iV x.d.1), (31, pT rb), (32, .agg #[iV x.d.1, iV x.d.2, .slice x.a x.len x.cap]), (33, .agg #[iV hand, .pointer (hp hl), .pointer (rp rl)])]) (l' := #[true, true, true, true, true, true, false, true, true, true, false, false]) (by kernel_rfl) (by kernel_rfl) (by kernel_rfl) (fun w' hw => hw.elim (fun hw => (.load ((B35.ext0 hw).cell 0 rfl) (.load ((B35.ext0 hw).cell 1 rfl) (.load ((B35.ext0 hw).cell 2 rfl) .nil)))) (fun hw => (.load ((B35.xt hw (by decide)).cell 0 rfl) (.load ((B35.xt hw (by decide)).cell 1 rfl) (.load ((B35.xt hw (by decide)).cell 2 rfl) .nil))))) ?_
   refine S.dlaw bodyPost_panicOk 6 30 2 (v := .func (.func 44) #[] #[]) (l' := #[true, true, true, true, true, true, true, true, true, true, false, false]) (by kernel_rfl) (by kernel_rfl) (by kernel_rfl) (by kernel_rfl) (fun w' hw => lawRun (s := Instr.lookup 53 (.map (some md)) (iV x.d.1) false) (by kernel_rfl) (hw.elim (fun hw => lookup_does (hR29.does.ext0 hw) (by rw [hd1]; rfl)) (fun hw => lookup_does (hR29.does.xt hw rfl) (by rw [hd1]; rfl)))) ?_
   refine S.dnext (j := 10) (l' := #[true, true, true, true, true, true, true, true, true, true, true, false]) (by kernel_rfl) (by kernel_rfl) (sw1 (by kernel_rfl) (Ext.refl _)) ?_
   obtain ⟨les36, hR36, back36⟩ := P30.open
   have hlen : x.len = 0 := by have hh := hwf.len; rw [hd1] at hh; have hh : (x.len : Int) = 0 := hh; omega
   have N37 := hS1.keeps (.of0 E1)
   have N38 := N37.keeps (.of0 E2)
   have N39 := N38.keeps (.ofS E9 hR3.blk (by decide) (by omega))
   have N40 := N39.keeps (.of0 E28)
   have T41 := hx.pres (.of0 E1)
   have T42 := T41.pres (.of0 E2)
   have T43 := T42.pres (.ofS E9 (by omega))
   have T44 := T43.pres (.of0 E28)
   refine S.call (dst := some 34) (f := 44) (args := #[pT rb, .agg #[iV x.d.1, iV x.d.2, .slice x.a x.len x.cap], .agg #[iV hand, .pointer (hp hl), .pointer (rp rl)]]) (by kernel_rfl) (by kernel_rfl) ((op_hand p k IH hpw n₀ rb md _ { σ with fuel := σ.fuel - 1 } les36 x hand hl rl hR36 T44 hwf N40 (by show σ.fuel - 1 ≤ k; omega)).mono ?_)
   intro e36 w36 hq
   have hq : Post n₀ rb md p w28 les36 rl (opS p.xs (evalS p.xs k) x (scOf hand hl rl) { σ with fuel := σ.fuel - 1 }) e36 w36 := by unfold opS; rw [hd1]; exact hq
   obtain ⟨ho, hP⟩ := hq; have PP := back36 _ _ hP; have ho2 := ho
   rcases outE_cases ho2 with ⟨v, _, rfl, hv⟩ | ⟨ch, rfl, _, _⟩
   ·skip
    have XX := hP.1
    refine After.ret (by kernel_rfl) ?_
    have sXX := XX.size
    refine S.dreads2 bodyPost_panicOk [11] 0 [] [6] (rs := []) (κ' := [(6, iV v)]) (l' := #[true, true, true, true, true, true, true, true, true, true, true, true]) (by kernel_rfl) (by kernel_rfl) (by kernel_rfl) (by kernel_rfl) (fun w' hw => rfl) ?_
    refine S.dend (by kernel_rfl) (sw2 (by kernel_rfl) XX) ?_
    exact S.ret1 (v := iV v) rfl (by kernel_rfl) ⟨ho, PP⟩
   · exact fun _ _ _ hd => ⟨hd, ho, PP⟩
  ·skip
   refine S.regEnd (by kernel_rfl) (S.seq (S.drawN 12 #[false, false, false, false, false, false, false, false, false, false, false, false] 10 (fun u u' => Ext E0 u u') (fun u u' => Xt n₀ [56, 43] u u') (by kernel_rfl) (by kernel_rfl) (by kernel_rfl) (fun w45 E45 z45 => ?_)))
   have sE45 := E45.size
   refine S.dreads bodyPost_panicOk [0, 1, 2, 4, 7] 7 [] [4, 5, 26, 28, 31] (rs := []) (κ' := [(4, pT b1), (5, pT b2), (26, .pointer (some ⟨rb, 6, none⟩)), (28, pT b1), (31, pT rb)]) (l' := #[true, true, true, false, true, false, false, true, false, false, false, false]) (by kernel_rfl) (by kernel_rfl) (by kernel_rfl) (fun _ _ => rfl) ?_
   have P47 := PS10.std (.of0 E45) (PS10.1.trans (.of0 E45))
   obtain ⟨les46, ⟨ea46, ec46, ka46, kc46, hR46⟩, back46⟩ := P47.open; have hrb46 := hR46.rb0
   refine S.dreads1 bodyPost_panicOk [3] 6 [6, 10] [.v (.map (some md))] [4, 5, 27, 28, 31] (rs := [.load ⟨rb, 6, none⟩ (.map (some md))]) (κ' := [(4, pT b1), (5, pT b2), (27, .map (some md)), (28, pT b1), (31, pT rb)]) (l' := #[true, true, true, true, true, false, false, true, false, false, false, false]) (by kernel_rfl) (by kernel_rfl) (by kernel_rfl) (by kernel_rfl) (fun w' hw => (.load ((hR46.blk.ext0 hw).cell 6 rfl) .nil)) ?_
   have B48 := B1.ext0 E2
   have B49 := B48.extT E9 hR3.blk (by decide)
   have B50 := B49.ext0 E45
   refine S.dreads bodyPost_panicOk [5] 5 [.v (iV x.d.1)] [4, 5, 27, 29, 31] (rs := [.load ⟨b1, 0, none⟩ (iV x.d.1)]) (κ' := [(4, pT b1), (5, pT b2), (27, .map (some md)), (29, iV x.d.1), (31, pT rb)]) (l' := #[true, true, true, true, true, true, false, true, false, false, false, false]) (by kernel_rfl) (by kernel_rfl) (by kernel_rfl) (fun w' hw => hw.elim (fun hw => (.load ((B50.ext0 hw).cell 0 rfl) .nil)) (fun hw => (.load ((B50.xt hw (by decide)).cell 0 rfl) .nil))) ?_
   refine S.dreads bodyPost_panicOk [8] 4 [.v (iV x.d.1), .v (iV x.d.2), .v (.slice x.a x.len x.cap)] [5, 27, 29, 31, 32] (rs := [.load ⟨b1, 0, none⟩ (iV x.d.1), .load ⟨b1, 1, none⟩ (iV x.d.2), .load ⟨b1, 2, none⟩ (.slice x.a x.len x.cap)]) (κ' := [(5, pT b2), (27, .map (some md)), (29, iV x.d.1), (31, pT rb), (32, .agg #[iV x.d.1, iV x.d.2, .slice x.a x.len x.cap])]) (l' := #[true, true, true, true, true, true, false, true, true, false, false, false]) (by kernel_rfl) (by kernel_rfl) (by kernel_rfl) (fun w' hw => hw.elim (fun hw => (.load ((B50.ext0 hw).cell 0 rfl) (.load ((B50.ext0 hw).cell 1 rfl) (.load ((B50.ext0 hw).cell 2 rfl) .nil)))) (fun hw => (.load ((B50.xt hw (by decide)).cell 0 rfl) (.load ((B50.xt hw (by decide)).cell 1 rfl) (.load ((B50.xt hw (by decide)).cell 2 rfl) .nil))))) ?_
   have B51 := B2.extT E9 hR3.blk (by decide)
   have B52 := B51.ext0 E45
   refine S.dreads bodyPost_panicOk [9] 3 [.v (iV hand), .v (.pointer (hp hl)), .v (.pointer (rp rl))] [27, 29, 31, 32, 33] (rs := [.load ⟨b2, 0, none⟩ (iV hand), .load ⟨b2, 1, none⟩ (.pointer (hp hl)), .load ⟨b2, 2, none⟩ (.pointer (rp rl))]) (κ' := [(27, .map (some md)), (29, iV x.d.1), (31, pT rb), (32, .agg #[iV x.d.1, iV x.d.2, .slice x.a x.len x.cap]), (33, .agg #[iV hand, .pointer (hp hl), .pointer (rp rl)])]) (l' := #[true, true, true, true, true, true, false, true, true, true, false, false]) (by kernel_rfl) (by kernel_rfl) (by kernel_rfl) (fun w' hw => hw.elim (fun hw => (.load ((B52.ext0 hw).cell 0 rfl) (.load ((B52.ext0 hw).cell 1 rfl) (.load ((B52.ext0 hw).cell 2 rfl) .nil)))) (fun hw => (.load ((B52.xt hw (by decide)).cell 0 rfl) (.load ((B52.xt hw (by decide)).cell 1 rfl) (.load ((B52.xt hw (by decide)).cell 2 rfl) .nil))))) ?_
   refine S.dlaw bodyPost_panicOk 6 30 2 (v := .func (.func 45) #[] #[]) (l' := #[true, true, true, true, true, true, true, true, true, true, false, false]) (by kernel_rfl) (by kernel_rfl) (by kernel_rfl) (by kernel_rfl) (fun w' hw => lawRun (s := Instr.lookup 53 (.map (some md)) (iV x.d.1) false) (by kernel_rfl) (hw.elim (fun hw => lookup_does (hR46.does.ext0 hw) (by rw [hd1]; rfl)) (fun hw => lookup_does (hR46.does.xt hw rfl) (by rw [hd1]; rfl)))) ?_
   refine S.dnext (j := 10) (l' := #[true, true, true, true, true, true, true, true, true, true, true, false]) (by kernel_rfl) (by kernel_rfl) (sw1 (by kernel_rfl) (Ext.refl _)) ?_
   obtain ⟨les53, hR53, back53⟩ := P47.open
   have hlen : x.len = 2 := by have hh := hwf.len; rw [hd1] at hh; have hh : (x.len : Int) = 2 := hh; omega
   have N54 := hS1.keeps (.of0 E1)
   have N55 := N54.keeps (.of0 E2)
   have N56 := N55.keeps (.ofS E9 hR3.blk (by decide) (by omega))
   have N57 := N56.keeps (.of0 E45)
   have T58 := hx.pres (.of0 E1)
   have T59 := T58.pres (.of0 E2)
   have T60 := T59.pres (.ofS E9 (by omega))
   have T61 := T60.pres (.of0 E45)
   refine S.call (dst := some 34) (f := 45) (args := #[pT rb, .agg #[iV x.d.1, iV x.d.2, .slice x.a x.len x.cap], .agg #[iV hand, .pointer (hp hl), .pointer (rp rl)]]) (by kernel_rfl) (by kernel_rfl) ((op_add p k IH hpw n₀ rb md _ { σ with fuel := σ.fuel - 1 } les53 x hand hl rl hR53 T61 hwf N57 (by show σ.fuel - 1 ≤ k; omega) hlen).mono ?_)
   intro e53 w53 hq
   have hq : Post n₀ rb md p w45 les53 rl (opS p.xs (evalS p.xs k) x (scOf hand hl rl) { σ with fuel := σ.fuel - 1 }) e53 w53 := by unfold opS; rw [hd1]; exact hq
   obtain ⟨ho, hP⟩ := hq; have PP := back53 _ _ hP; have ho2 := ho
   rcases outE_cases ho2 with ⟨v, _, rfl, hv⟩ | ⟨ch, rfl, _, _⟩
   ·skip
    have XX := hP.1
    refine After.ret (by kernel_rfl) ?_
    have sXX := XX.size
    refine S.dreads2 bodyPost_panicOk [11] 0 [] [6] (rs := []) (κ' := [(6, iV v)]) (l' := #[true, true, true, true, true, true, true, true, true, true, true, true]) (by kernel_rfl) (by kernel_rfl) (by kernel_rfl) (by kernel_rfl) (fun w' hw => rfl) ?_
    refine S.dend (by kernel_rfl) (sw2 (by kernel_rfl) XX) ?_
    exact S.ret1 (v := iV v) rfl (by kernel_rfl) ⟨ho, PP⟩
   · exact fun _ _ _ hd => ⟨hd, ho, PP⟩
  ·skip
   refine S.regEnd (by kernel_rfl) (S.seq (S.drawN 12 #[false, false, false, false, false, false, false, false, false, false, false, false] 10 (fun u u' => Ext E0 u u') (fun u u' => Xt n₀ [56, 43] u u') (by kernel_rfl) (by kernel_rfl) (by kernel_rfl) (fun w62 E62 z62 => ?_)))
   have sE62 := E62.size
   refine S.dreads bodyPost_panicOk [0, 1, 2, 4, 7] 7 [] [4, 5, 26, 28, 31] (rs := []) (κ' := [(4, pT b1), (5, pT b2), (26, .pointer (some ⟨rb, 6, none⟩)), (28, pT b1), (31, pT rb)]) (l' := #[true, true, true, false, true, false, false, true, false, false, false, false]) (by kernel_rfl) (by kernel_rfl) (by kernel_rfl) (fun _ _ => rfl) ?_
   have P64 := PS10.std (.of0 E62) (PS10.1.trans (.of0 E62))
   obtain ⟨les63, ⟨ea63, ec63, ka63, kc63, hR63⟩, back63⟩ := P64.open; have hrb63 := hR63.rb0
   refine S.dreads1 bodyPost_panicOk [3] 6 [6, 10] [.v (.map (some md))] [4, 5, 27, 28, 31] (rs := [.load ⟨rb, 6, none⟩ (.map (some md))]) (κ' := [(4, pT b1), (5, pT b2), (27, .map (some md)), (28, pT b1), (31, pT rb)]) (l' := #[true, true, true, true, true, false, false, true, false, false, false, false]) (by kernel_rfl) (by kernel_rfl) (by kernel_rfl) (by kernel_rfl) (fun w' hw => (.load ((hR63.blk.ext0 hw).cell 6 rfl) .nil)) ?_
   have B65 := B1.ext0 E2
   have B66 := B65.extT E9 hR3.blk (by decide)
   have B67 := B66.ext0 E62
   refine S.dreads bodyPost_panicOk [5] 5 [.v (iV x.d.1)] [4, 5, 27, 29, 31] (rs := [.load ⟨b1, 0, none⟩ (iV x.d.1)]) (κ' := [(4, pT b1), (5, pT b2), (27, .map (some md)), (29, iV x.d.1), (31, pT rb)]) (l' := #[true, true, true, true, true, true, false, true, false, false, false, false]) (by kernel_rfl) (by kernel_rfl) (by kernel_rfl) (fun w' hw => hw.elim (fun hw => (.load ((B67.ext0 hw).cell 0 rfl) .nil)) (fun hw => (.load ((B67.xt hw (by decide)).cell 0 rfl) .nil))) ?_
   refine S.dreads bodyPost_panicOk [8] 4 [.v (iV x.d.1), .v (iV x.d.2), .v (.slice x.a x.len x.cap)] [5, 27, 29, 31, 32] (rs := [.load ⟨b1, 0, none⟩ (iV x.d.1), .load ⟨b1, 1, none⟩ (iV x.d.2), .load ⟨b1, 2, none⟩ (.slice x.a x.len x.cap)]) (κ' := [(5, pT b2), (27, .map (some md)), (29, iV x.d.1), (31, pT rb), (32, .agg #[iV x.d.1, iV x.d.2, .slice x.a x.len x.cap])]) (l' := #[true, true, true, true, true, true, false, true, true, false, false, false]) (by kernel_rfl) (by kernel_rfl) (by kernel_rfl) (fun w' hw => hw.elim (fun hw => (.load ((B67.ext0 hw).cell 0 rfl) (.load ((B67.ext0 hw).cell 1 rfl) (.load ((B67.ext0 hw).cell 2 rfl) .nil)))) (fun hw => (.load ((B67.xt hw (by decide)).cell 0 rfl) (.load ((B67.xt hw (by decide)).cell 1 rfl) (.load ((B67.xt hw (by decide)).cell 2 rfl) .nil))))) ?_
   have B68 := B2.extT E9 hR3.blk (by decide)
   have B69 := B68.ext0 E62
   refine S.dreads bodyPost_panicOk [9] 3 [.v (iV hand), .v (.pointer (hp hl)), .v (.pointer (rp rl))] [27, 29, 31, 32, 33] (rs := [.load ⟨b2, 0, none⟩ (iV hand), .load ⟨b2, 1, none⟩ (.pointer (hp hl)), .load ⟨b2, 2, none⟩ (.pointer (rp rl))]) (κ' := [(27, .map (some md)), (29, iV x.d.1), (31, pT rb), (32, .agg #[iV x.d.1, iV x.d.2, .slice x.a x.len x.cap]), (33, .agg #[iV hand, .pointer (hp hl), .pointer (rp rl)])]) (l' := #[true, true, true, true, true, true, false, true, true, true, false, false]) (by kernel_rfl) (by kernel_rfl) (by kernel_rfl) (fun w' hw => hw.elim (fun hw => (.load ((B69.ext0 hw).cell 0 rfl) (.load ((B69.ext0 hw).cell 1 rfl) (.load ((B69.ext0 hw).cell 2 rfl) .nil)))) (fun hw => (.load ((B69.xt hw (by decide)).cell 0 rfl) (.load ((B69.xt hw (by decide)).cell 1 rfl) (.load ((B69.xt hw (by decide)).cell 2 rfl) .nil))))) ?_
   refine S.dlaw bodyPost_panicOk 6 30 2 (v := .func (.func 46) #[] #[]) (l' := #[true, true, true, true, true, true, true, true, true, true, false, false]) (by kernel_rfl) (by kernel_rfl) (by kernel_rfl) (by kernel_rfl) (fun w' hw => lawRun (s := Instr.lookup 53 (.map (some md)) (iV x.d.1) false) (by kernel_rfl) (hw.elim (fun hw => lookup_does (hR63.does.ext0 hw) (by rw [hd1]; rfl)) (fun hw => lookup_does (hR63.does.xt hw rfl) (by rw [hd1]; rfl)))) ?_
   refine S.dnext (j := 10) (l' := #[true, true, true, true, true, true, true, true, true, true, true, false]) (by kernel_rfl) (by kernel_rfl) (sw1 (by kernel_rfl) (Ext.refl _)) ?_
   obtain ⟨les70, hR70, back70⟩ := P64.open
   have hlen : x.len = 1 := by have hh := hwf.len; rw [hd1] at hh; have hh : (x.len : Int) = 1 := hh; omega
   have N71 := hS1.keeps (.of0 E1)
   have N72 := N71.keeps (.of0 E2)
   have N73 := N72.keeps (.ofS E9 hR3.blk (by decide) (by omega))
   have N74 := N73.keeps (.of0 E62)
   have T75 := hx.pres (.of0 E1)
   have T76 := T75.pres (.of0 E2)
   have T77 := T76.pres (.ofS E9 (by omega))
   have T78 := T77.pres (.of0 E62)
   refine S.call (dst := some 34) (f := 46) (args := #[pT rb, .agg #[iV x.d.1, iV x.d.2, .slice x.a x.len x.cap], .agg #[iV hand, .pointer (hp hl), .pointer (rp rl)]]) (by kernel_rfl) (by kernel_rfl) ((op_say p k IH hpw n₀ rb md _ { σ with fuel := σ.fuel - 1 } les70 x hand hl rl hR70 T78 hwf N74 (by show σ.fuel - 1 ≤ k; omega) hlen).mono ?_)
   intro e70 w70 hq
   have hq : Post n₀ rb md p w62 les70 rl (opS p.xs (evalS p.xs k) x (scOf hand hl rl) { σ with fuel := σ.fuel - 1 }) e70 w70 := by unfold opS; rw [hd1]; exact hq
   obtain ⟨ho, hP⟩ := hq; have PP := back70 _ _ hP; have ho2 := ho
   rcases outE_cases ho2 with ⟨v, _, rfl, hv⟩ | ⟨ch, rfl, _, _⟩
   ·skip
    have XX := hP.1
    refine After.ret (by kernel_rfl) ?_
    have sXX := XX.size
    refine S.dreads2 bodyPost_panicOk [11] 0 [] [6] (rs := []) (κ' := [(6, iV v)]) (l' := #[true, true, true, true, true, true, true, true, true, true, true, true]) (by kernel_rfl) (by kernel_rfl) (by kernel_rfl) (by kernel_rfl) (fun w' hw => rfl) ?_
    refine S.dend (by kernel_rfl) (sw2 (by kernel_rfl) XX) ?_
    exact S.ret1 (v := iV v) rfl (by kernel_rfl) ⟨ho, PP⟩
   · exact fun _ _ _ hd => ⟨hd, ho, PP⟩
  ·skip
   refine S.regEnd (by kernel_rfl) (S.seq (S.drawN 12 #[false, false, false, false, false, false, false, false, false, false, false, false] 10 (fun u u' => Ext E0 u u') (fun u u' => Xt n₀ [56, 43] u u') (by kernel_rfl) (by kernel_rfl) (by kernel_rfl) (fun w79 E79 z79 => ?_)))
   have sE79 := E79.size
   refine S.dreads bodyPost_panicOk [0, 1, 2, 4, 7] 7 [] [4, 5, 26, 28, 31] (rs := []) (κ' := [(4, pT b1), (5, pT b2), (26, .pointer (some ⟨rb, 6, none⟩)), (28, pT b1), (31, pT rb)]) (l' := #[true, true, true, false, true, false, false, true, false, false, false, false]) (by kernel_rfl) (by kernel_rfl) (by kernel_rfl) (fun _ _ => rfl) ?_
   have P81 := PS10.std (.of0 E79) (PS10.1.trans (.of0 E79))
   obtain ⟨les80, ⟨ea80, ec80, ka80, kc80, hR80⟩, back80⟩ := P81.open; have hrb80 := hR80.rb0
   refine S.dreads1 bodyPost_panicOk [3] 6 [6, 10] [.v (.map (some md))] [4, 5, 27, 28, 31] (rs := [.load ⟨rb, 6, none⟩ (.map (some md))]) (κ' := [(4, pT b1), (5, pT b2), (27, .map (some md)), (28, pT b1), (31, pT rb)]) (l' := #[true, true, true, true, true, false, false, true, false, false, false, false]) (by kernel_rfl) (by kernel_rfl) (by kernel_rfl) (by kernel_rfl) (fun w' hw => (.load ((hR80.blk.ext0 hw).cell 6 rfl) .nil)) ?_
   have B82 := B1.ext0 E2
   have B83 := B82.extT E9 hR3.blk (by decide)
   have B84 := B83.ext0 E79
   refine S.dreads bodyPost_panicOk [5] 5 [.v (iV x.d.1)] [4, 5, 27, 29, 31] (rs := [.load ⟨b1, 0, none⟩ (iV x.d.1)]) (κ' := [(4, pT b1), (5, pT b2), (27, .map (some md)), (29, iV x.d.1), (31, pT rb)]) (l' := #[true, true, true, true, true, true, false, true, false, false, false, false]) (by kernel_rfl) (by kernel_rfl) (by kernel_rfl) (fun w' hw => hw.elim (fun hw => (.load ((B84.ext0 hw).cell 0 rfl) .nil)) (fun hw => (.load ((B84.xt hw (by decide)).cell 0 rfl) .nil))) ?_
   refine S.dreads bodyPost_panicOk [8] 4 [.v (iV x.d.1), .v (iV x.d.2), .v (.slice x.a x.len x.cap)] [5, 27, 29, 31, 32] (rs := [.load ⟨b1, 0, none⟩ (iV x.d.1), .load ⟨b1, 1, none⟩ (iV x.d.2), .load ⟨b1, 2, none⟩ (.slice x.a x.len x.cap)]) (κ' := [(5, pT b2), (27, .map (some md)), (29, iV x.d.1), (31, pT rb), (32, .agg #[iV x.d.1, iV x.d.2, .slice x.a x.len x.cap])]) (l' := #[true, true, true, true, true, true, false, true, true, false, false, false]) (by kernel_rfl) (by kernel_rfl) (by kernel_rfl) (fun w' hw => hw.elim (fun hw => (.load ((B84.ext0 hw).cell 0 rfl) (.load ((B84.ext0 hw).cell 1 rfl) (.load ((B84.ext0 hw).cell 2 rfl) .nil)))) (fun hw => (.load ((B84.xt hw (by decide)).cell 0 rfl) (.load ((B84.xt hw (by decide)).cell 1 rfl) (.load ((B84.xt hw (by decide)).cell 2 rfl) .nil))))) ?_
   have B85 := B2.extT E9 hR3.blk (by decide)
   have B86 := B85.ext0 E79
   refine S.dreads bodyPost_panicOk [9] 3 [.v (iV hand), .v (.pointer (hp hl)), .v (.pointer (rp rl))] [27, 29, 31, 32, 33] (rs := [.load ⟨b2, 0, none⟩ (iV hand), .load ⟨b2, 1, none⟩ (.pointer (hp hl)), .load ⟨b2, 2, none⟩ (.pointer (rp rl))]) (κ' := [(27, .map (some md)), (29, iV x.d.1), (31, pT rb), (32, .agg #[iV x.d.1, iV x.d.2, .slice x.a x.len x.cap]), (33, .agg #[iV hand, .pointer (hp hl), .pointer (rp rl)])]) (l' := #[true, true, true, true, true, true, false, true, true, true, false, false]) (by kernel_rfl) (by kernel_rfl) (by kernel_rfl) (fun w' hw => hw.elim (fun hw => (.load ((B86.ext0 hw).cell 0 rfl) (.load ((B86.ext0 hw).cell 1 rfl) (.load ((B86.ext0 hw).cell 2 rfl) .nil)))) (fun hw => (.load ((B86.xt hw (by decide)).cell 0 rfl) (.load ((B86.xt hw (by decide)).cell 1 rfl) (.load ((B86.xt hw (by decide)).cell 2 rfl) .nil))))) ?_
   refine S.dlaw bodyPost_panicOk 6 30 2 (v := .func (.func 47) #[] #[]) (l' := #[true, true, true, true, true, true, true, true, true, true, false, false]) (by kernel_rfl) (by kernel_rfl) (by kernel_rfl) (by kernel_rfl) (fun w' hw => lawRun (s := Instr.lookup 53 (.map (some md)) (iV x.d.1) false) (by kernel_rfl) (hw.elim (fun hw => lookup_does (hR80.does.ext0 hw) (by rw [hd1]; rfl)) (fun hw => lookup_does (hR80.does.xt hw rfl) (by rw [hd1]; rfl)))) ?_
   refine S.dnext (j := 10) (l' := #[true, true, true, true, true, true, true, true, true, true, true, false]) (by kernel_rfl) (by kernel_rfl) (sw1 (by kernel_rfl) (Ext.refl _)) ?_
   obtain ⟨les87, hR87, back87⟩ := P81.open
   have hlen : x.len = 2 := by have hh := hwf.len; rw [hd1] at hh; have hh : (x.len : Int) = 2 := hh; omega
   have N88 := hS1.keeps (.of0 E1)
   have N89 := N88.keeps (.of0 E2)
   have N90 := N89.keeps (.ofS E9 hR3.blk (by decide) (by omega))
   have N91 := N90.keeps (.of0 E79)
   have T92 := hx.pres (.of0 E1)
   have T93 := T92.pres (.of0 E2)
   have T94 := T93.pres (.ofS E9 (by omega))
   have T95 := T94.pres (.of0 E79)
   refine S.call (dst := some 34) (f := 47) (args := #[pT rb, .agg #[iV x.d.1, iV x.d.2, .slice x.a x.len x.cap], .agg #[iV hand, .pointer (hp hl), .pointer (rp rl)]]) (by kernel_rfl) (by kernel_rfl) ((op_seq p k IH hpw n₀ rb md _ { σ with fuel := σ.fuel - 1 } les87 x hand hl rl hR87 T95 hwf N91 (by show σ.fuel - 1 ≤ k; omega) hlen).mono ?_)
   intro e87 w87 hq
   have hq : Post n₀ rb md p w79 les87 rl (opS p.xs (evalS p.xs k) x (scOf hand hl rl) { σ with fuel := σ.fuel - 1 }) e87 w87 := by unfold opS; rw [hd1]; exact hq
   obtain ⟨ho, hP⟩ := hq; have PP := back87 _ _ hP; have ho2 := ho
   rcases outE_cases ho2 with ⟨v, _, rfl, hv⟩ | ⟨ch, rfl, _, _⟩
   ·skip
    have XX := hP.1
    refine After.ret (by kernel_rfl) ?_
    have sXX := XX.size
    refine S.dreads2 bodyPost_panicOk [11] 0 [] [6] (rs := []) (κ' := [(6, iV v)]) (l' := #[true, true, true, true, true, true, true, true, true, true, true, true]) (by kernel_rfl) (by kernel_rfl) (by kernel_rfl) (by kernel_rfl) (fun w' hw => rfl) ?_
    refine S.dend (by kernel_rfl) (sw2 (by kernel_rfl) XX) ?_
    exact S.ret1 (v := iV v) rfl (by kernel_rfl) ⟨ho, PP⟩
   · exact fun _ _ _ hd => ⟨hd, ho, PP⟩
  ·skip
   refine S.regEnd (by kernel_rfl) (S.seq (S.drawN 12 #[false, false, false, false, false, false, false, false, false, false, false, false] 10 (fun u u' => Ext E0 u u') (fun u u' => Xt n₀ [56, 43] u u') (by kernel_rfl) (by kernel_rfl) (by kernel_rfl) (fun w96 E96 z96 => ?_)))
   have sE96 := E96.size
   refine S.dreads bodyPost_panicOk [0, 1, 2, 4, 7] 7 [] [4, 5, 26, 28, 31] (rs := []) (κ' := [(4, pT b1), (5, pT b2), (26, .pointer (some ⟨rb, 6, none⟩)), (28, pT b1), (31, pT rb)]) (l' := #[true, true, true, false, true, false, false, true, false, false, false, false]) (by kernel_rfl) (by kernel_rfl) (by kernel_rfl) (fun _ _ => rfl) ?_
   have P98 := PS10.std (.of0 E96) (PS10.1.trans (.of0 E96))
   obtain ⟨les97, ⟨ea97, ec97, ka97, kc97, hR97⟩, back97⟩ := P98.open; have hrb97 := hR97.rb0
   refine S.dreads1 bodyPost_panicOk [3] 6 [6, 10] [.v (.map (some md))] [4, 5, 27, 28, 31] (rs := [.load ⟨rb, 6, none⟩ (.map (some md))]) (κ' := [(4, pT b1), (5, pT b2), (27, .map (some md)), (28, pT b1), (31, pT rb)]) (l' := #[true, true, true, true, true, false, false, true, false, false, false, false]) (by kernel_rfl) (by kernel_rfl) (by kernel_rfl) (by kernel_rfl) (fun w' hw => (.load ((hR97.blk.ext0 hw).cell 6 rfl) .nil)) ?_
   have B99 := B1.ext0 E2
   have B100 := B99.extT E9 hR3.blk (by decide)
   have B101 := B100.ext0 E96
   refine S.dreads bodyPost_panicOk [5] 5 [.v (iV x.d.1)] [4, 5, 27, 29, 31] (rs := [.load ⟨b1, 0, none⟩ (iV x.d.1)]) (κ' := [(4, pT b1), (5, pT b2), (27, .map (some md)), (29, iV x.d.1), (31, pT rb)]) (l' := #[true, true, true, true, true, true, false, true, false, false, false, false]) (by kernel_rfl) (by kernel_rfl) (by kernel_rfl) (fun w' hw => hw.elim (fun hw => (.load ((B101.ext0 hw).cell 0 rfl) .nil)) (fun hw => (.load ((B101.xt hw (by decide)).cell 0 rfl) .nil))) ?_
   refine S.dreads bodyPost_panicOk [8] 4 [.v (iV x.d.1), .v (iV x.d.2), .v (.slice x.a x.len x.cap)] [5, 27, 29, 31, 32] (rs := [.load ⟨b1, 0, none⟩ (iV x.d.1), .load ⟨b1, 1, none⟩ (iV x.d.2), .load ⟨b1, 2, none⟩ (.slice x.a x.len x.cap)]) (κ' := [(5, pT b2), (27, .map (some md)), (29, iV x.d.1), (31, pT rb), (32, .agg #[iV x.d.1, iV x.d.2, .slice x.a x.len x.cap])]) (l' := #[true, true, true, true, true, true, false, true, true, false, false, false]) (by kernel_rfl) (by kernel_rfl) (by kernel_rfl) (fun w' hw => hw.elim (fun hw => (.load ((B101.ext0 hw).cell 0 rfl) (.load ((B101.ext0 hw).cell 1 rfl) (.load ((B101.ext0 hw).cell 2 rfl) .nil)))) (fun hw => (.load ((B101.xt hw (by decide)).cell 0 rfl) (.load ((B101.xt hw (by decide)).cell 1 rfl) (.load ((B101.xt hw (by decide)).cell 2 rfl) .nil))))) ?_
   have B102 := B2.extT E9 hR3.blk (by decide)
   have B103 := B102.ext0 E96
   refine S.dreads bodyPost_panicOk [9] 3 [.v (iV hand), .v (.pointer (hp hl)), .v (.pointer (rp rl))] [27, 29, 31, 32, 33] (rs := [.load ⟨b2, 0, none⟩ (iV hand), .load ⟨b2, 1, none⟩ (.pointer (hp hl)), .load ⟨b2, 2, none⟩ (.pointer (rp rl))]) (κ' := [(27, .map (some md)), (29, iV x.d.1), (31, pT rb), (32, .agg #[iV x.d.1, iV x.d.2, .slice x.a x.len x.cap]), (33, .agg #[iV hand, .pointer (hp hl), .pointer (rp rl)])]) (l' := #[true, true, true, true, true, true, false, true, true, true, false, false]) (by kernel_rfl) (by kernel_rfl) (by kernel_rfl) (fun w' hw => hw.elim (fun hw => (.load ((B103.ext0 hw).cell 0 rfl) (.load ((B103.ext0 hw).cell 1 rfl) (.load ((B103.ext0 hw).cell 2 rfl) .nil)))) (fun hw => (.load ((B103.xt hw (by decide)).cell 0 rfl) (.load ((B103.xt hw (by decide)).cell 1 rfl) (.load ((B103.xt hw (by decide)).cell 2 rfl) .nil))))) ?_
   refine S.dlaw bodyPost_panicOk 6 30 2 (v := .func (.func 48) #[] #[]) (l' := #[true, true, true, true, true, true, true, true, true, true, false, false]) (by kernel_rfl) (by kernel_rfl) (by kernel_rfl) (by kernel_rfl) (fun w' hw => lawRun (s := Instr.lookup 53 (.map (some md)) (iV x.d.1) false) (by kernel_rfl) (hw.elim (fun hw => lookup_does (hR97.does.ext0 hw) (by rw [hd1]; rfl)) (fun hw => lookup_does (hR97.does.xt hw rfl) (by rw [hd1]; rfl)))) ?_
   refine S.dnext (j := 10) (l' := #[true, true, true, true, true, true, true, true, true, true, true, false]) (by kernel_rfl) (by kernel_rfl) (sw1 (by kernel_rfl) (Ext.refl _)) ?_
   obtain ⟨les104, hR104, back104⟩ := P98.open
   have hlen : x.len = 3 := by have hh := hwf.len; rw [hd1] at hh; have hh : (x.len : Int) = 3 := hh; omega
   have N105 := hS1.keeps (.of0 E1)
   have N106 := N105.keeps (.of0 E2)
   have N107 := N106.keeps (.ofS E9 hR3.blk (by decide) (by omega))
   have N108 := N107.keeps (.of0 E96)
   have T109 := hx.pres (.of0 E1)
   have T110 := T109.pres (.of0 E2)
   have T111 := T110.pres (.ofS E9 (by omega))
   have T112 := T111.pres (.of0 E96)
   refine S.call (dst := some 34) (f := 48) (args := #[pT rb, .agg #[iV x.d.1, iV x.d.2, .slice x.a x.len x.cap], .agg #[iV hand, .pointer (hp hl), .pointer (rp rl)]]) (by kernel_rfl) (by kernel_rfl) ((op_if p k IH hpw n₀ rb md _ { σ with fuel := σ.fuel - 1 } les104 x hand hl rl hR104 T112 hwf N108 (by show σ.fuel - 1 ≤ k; omega) hlen).mono ?_)
   intro e104 w104 hq
   have hq : Post n₀ rb md p w96 les104 rl (opS p.xs (evalS p.xs k) x (scOf hand hl rl) { σ with fuel := σ.fuel - 1 }) e104 w104 := by unfold opS; rw [hd1]; exact hq
   obtain ⟨ho, hP⟩ := hq; have PP := back104 _ _ hP; have ho2 := ho
   rcases outE_cases ho2 with ⟨v, _, rfl, hv⟩ | ⟨ch, rfl, _, _⟩
   ·skip
    have XX := hP.1
    refine After.ret (by kernel_rfl) ?_
    have sXX := XX.size
    refine S.dreads2 bodyPost_panicOk [11] 0 [] [6] (rs := []) (κ' := [(6, iV v)]) (l' := #[true, true, true, true, true, true, true, true, true, true, true, true]) (by kernel_rfl) (by kernel_rfl) (by kernel_rfl) (by kernel_rfl) (fun w' hw => rfl) ?_
    refine S.dend (by kernel_rfl) (sw2 (by kernel_rfl) XX) ?_
    exact S.ret1 (v := iV v) rfl (by kernel_rfl) ⟨ho, PP⟩
   · exact fun _ _ _ hd => ⟨hd, ho, PP⟩
  ·skip
   refine S.regEnd (by kernel_rfl) (S.seq (S.drawN 12 #[false, false, false, false, false, false, false, false, false, false, false, false] 10 (fun u u' => Ext E0 u u') (fun u u' => Xt n₀ [56, 43] u u') (by kernel_rfl) (by kernel_rfl) (by kernel_rfl) (fun w113 E113 z113 => ?_)))
   have sE113 := E113.size
   refine S.dreads bodyPost_panicOk [0, 1, 2, 4, 7] 7 [] [4, 5, 26, 28, 31] (rs := []) (κ' := [(4, pT b1), (5, pT b2), (26, .pointer (some ⟨rb, 6, none⟩)), (28, pT b1), (31, pT rb)]) (l' := #[true, true, true, false, true, false, false, true, false, false, false, false]) (by kernel_rfl) (by kernel_rfl) (by kernel_rfl) (fun _ _ => rfl) ?_
   have P115 := PS10.std (.of0 E113) (PS10.1.trans (.of0 E113))
   obtain ⟨les114, ⟨ea114, ec114, ka114, kc114, hR114⟩, back114⟩ := P115.open; have hrb114 := hR114.rb0
   refine S.dreads1 bodyPost_panicOk [3] 6 [6, 10] [.v (.map (some md))] [4, 5, 27, 28, 31] (rs := [.load ⟨rb, 6, none⟩ (.map (some md))]) (κ' := [(4, pT b1), (5, pT b2), (27, .map (some md)), (28, pT b1), (31, pT rb)]) (l' := #[true, true, true, true, true, false, false, true, false, false, false, false]) (by kernel_rfl) (by kernel_rfl) (by kernel_rfl) (by kernel_rfl) (fun w' hw => (.load ((hR114.blk.ext0 hw).cell 6 rfl) .nil)) ?_
   have B116 := B1.ext0 E2
   have B117 := B116.extT E9 hR3.blk (by decide)
   have B118 := B117.ext0 E113
   refine S.dreads bodyPost_panicOk [5] 5 [.v (iV x.d.1)] [4, 5, 27, 29, 31] (rs := [.load ⟨b1, 0, none⟩ (iV x.d.1)]) (κ' := [(4, pT b1), (5, pT b2), (27, .map (some md)), (29, iV x.d.1), (31, pT rb)]) (l' := #[true, true, true, true, true, true, false, true, false, false, false, false]) (by kernel_rfl) (by kernel_rfl) (by kernel_rfl) (fun w' hw => hw.elim (fun hw => (.load ((B118.ext0 hw).cell 0 rfl) .nil)) (fun hw => (.load ((B118.xt hw (by decide)).cell 0 rfl) .nil))) ?_
   refine S.dreads bodyPost_panicOk [8] 4 [.v (iV x.d.1), .v (iV x.d.2), .v (.slice x.a x.len x.cap)] [5, 27, 29, 31, 32] (rs := [.load ⟨b1, 0, none⟩ (iV x.d.1), .load ⟨b1, 1, none⟩ (iV x.d.2), .load ⟨b1, 2, none⟩ (.slice x.a x.len x.cap)]) (κ' := [(5, pT b2), (27, .map (some md)), (29, iV x.d.1), (31, pT rb), (32, .agg #[iV x.d.1, iV x.d.2, .slice x.a x.len x.cap])]) (l' := #[true, true, true, true, true, true, false, true, true, false, false, false]) (by kernel_rfl) (by kernel_rfl) (by kernel_rfl) (fun w' hw => hw.elim (fun hw => (.load ((B118.ext0 hw).cell 0 rfl) (.load ((B118.ext0 hw).cell 1 rfl) (.load ((B118.ext0 hw).cell 2 rfl) .nil)))) (fun hw => (.load ((B118.xt hw (by decide)).cell 0 rfl) (.load ((B118.xt hw (by decide)).cell 1 rfl) (.load ((B118.xt hw (by decide)).cell 2 rfl) .nil))))) ?_
   have B119 := B2.extT E9 hR3.blk (by decide)
   have B120 := B119.ext0 E113
   refine S.dreads bodyPost_panicOk [9] 3 [.v (iV hand), .v (.pointer (hp hl)), .v (.pointer (rp rl))] [27, 29, 31, 32, 33] (rs := [.load ⟨b2, 0, none⟩ (iV hand), .load ⟨b2, 1, none⟩ (.pointer (hp hl)), .load ⟨b2, 2, none⟩ (.pointer (rp rl))]) (κ' := [(27, .map (some md)), (29, iV x.d.1), (31, pT rb), (32, .agg #[iV x.d.1, iV x.d.2, .slice x.a x.len x.cap]), (33, .agg #[iV hand, .pointer (hp hl), .pointer (rp rl)])]) (l' := #[true, true, true, true, true, true, false, true, true, true, false, false]) (by kernel_rfl) (by kernel_rfl) (by kernel_rfl) (fun w' hw => hw.elim (fun hw => (.load ((B120.ext0 hw).cell 0 rfl) (.load ((B120.ext0 hw).cell 1 rfl) (.load ((B120.ext0 hw).cell 2 rfl) .nil)))) (fun hw => (.load ((B120.xt hw (by decide)).cell 0 rfl) (.load ((B120.xt hw (by decide)).cell 1 rfl) (.load ((B120.xt hw (by decide)).cell 2 rfl) .nil))))) ?_
   refine S.dlaw bodyPost_panicOk 6 30 2 (v := .func (.func 49) #[] #[]) (l' := #[true, true, true, true, true, true, true, true, true, true, false, false]) (by kernel_rfl) (by kernel_rfl) (by kernel_rfl) (by kernel_rfl) (fun w' hw => lawRun (s := Instr.lookup 53 (.map (some md)) (iV x.d.1) false) (by kernel_rfl) (hw.elim (fun hw => lookup_does (hR114.does.ext0 hw) (by rw [hd1]; rfl)) (fun hw => lookup_does (hR114.does.xt hw rfl) (by rw [hd1]; rfl)))) ?_
   refine S.dnext (j := 10) (l' := #[true, true, true, true, true, true, true, true, true, true, true, false]) (by kernel_rfl) (by kernel_rfl) (sw1 (by kernel_rfl) (Ext.refl _)) ?_
   obtain ⟨les121, hR121, back121⟩ := P115.open
   have hlen : x.len = 1 := by have hh := hwf.len; rw [hd1] at hh; have hh : (x.len : Int) = 1 := hh; omega
   have hlo : 0 ≤ x.d.2 := by have hh := hwf.lo; rw [hd1] at hh; exact hh
   have hhi : x.d.2 ≤ ((p.xs.length : Nat) : Int) - 1 := by have hh := hwf.hi; rw [hd1] at hh; exact hh
   have N122 := hS1.keeps (.of0 E1)
   have N123 := N122.keeps (.of0 E2)
   have N124 := N123.keeps (.ofS E9 hR3.blk (by decide) (by omega))
   have N125 := N124.keeps (.of0 E113)
   have T126 := hx.pres (.of0 E1)
   have T127 := T126.pres (.of0 E2)
   have T128 := T127.pres (.ofS E9 (by omega))
   have T129 := T128.pres (.of0 E113)
   refine S.call (dst := some 34) (f := 49) (args := #[pT rb, .agg #[iV x.d.1, iV x.d.2, .slice x.a x.len x.cap], .agg #[iV hand, .pointer (hp hl), .pointer (rp rl)]]) (by kernel_rfl) (by kernel_rfl) ((op_call p k IH hpw n₀ rb md _ { σ with fuel := σ.fuel - 1 } les121 x hand hl rl hR121 T129 hwf N125 (by show σ.fuel - 1 ≤ k; omega) hlen (by omega) (by omega)).mono ?_)
   intro e121 w121 hq
   have hq : Post n₀ rb md p w113 les121 rl (opS p.xs (evalS p.xs k) x (scOf hand hl rl) { σ with fuel := σ.fuel - 1 }) e121 w121 := by unfold opS; rw [hd1]; exact hq
   obtain ⟨ho, hP⟩ := hq; have PP := back121 _ _ hP; have ho2 := ho
   rcases outE_cases ho2 with ⟨v, _, rfl, hv⟩ | ⟨ch, rfl, _, _⟩
   ·skip
    have XX := hP.1
    refine After.ret (by kernel_rfl) ?_
    have sXX := XX.size
    refine S.dreads2 bodyPost_panicOk [11] 0 [] [6] (rs := []) (κ' := [(6, iV v)]) (l' := #[true, true, true, true, true, true, true, true, true, true, true, true]) (by kernel_rfl) (by kernel_rfl) (by kernel_rfl) (by kernel_rfl) (fun w' hw => rfl) ?_
    refine S.dend (by kernel_rfl) (sw2 (by kernel_rfl) XX) ?_
    exact S.ret1 (v := iV v) rfl (by kernel_rfl) ⟨ho, PP⟩
   · exact fun _ _ _ hd => ⟨hd, ho, PP⟩
  ·skip
   refine S.regEnd (by kernel_rfl) (S.seq (S.drawN 12 #[false, false, false, false, false, false, false, false, false, false, false, false] 10 (fun u u' => Ext E0 u u') (fun u u' => Xt n₀ [56, 43] u u') (by kernel_rfl) (by kernel_rfl) (by kernel_rfl) (fun w130 E130 z130 => ?_)))
   have sE130 := E130.size
   refine S.dreads bodyPost_panicOk [0, 1, 2, 4, 7] 7 [] [4, 5, 26, 28, 31] (rs := []) (κ' := [(4, pT b1), (5, pT b2), (26, .pointer (some ⟨rb, 6, none⟩)), (28, pT b1), (31, pT rb)]) (l' := #[true, true, true, false, true, false, false, true, false, false, false, false]) (by kernel_rfl) (by kernel_rfl) (by kernel_rfl) (fun _ _ => rfl) ?_
   have P132 := PS10.std (.of0 E130) (PS10.1.trans (.of0 E130))
   obtain ⟨les131, ⟨ea131, ec131, ka131, kc131, hR131⟩, back131⟩ := P132.open; have hrb131 := hR131.rb0
   refine S.dreads1 bodyPost_panicOk [3] 6 [6, 10] [.v (.map (some md))] [4, 5, 27, 28, 31] (rs := [.load ⟨rb, 6, none⟩ (.map (some md))]) (κ' := [(4, pT b1), (5, pT b2), (27, .map (some md)), (28, pT b1), (31, pT rb)]) (l' := #[true, true, true, true, true, false, false, true, false, false, false, false]) (by kernel_rfl) (by kernel_rfl) (by kernel_rfl) (by kernel_rfl) (fun w' hw => (.load ((hR131.blk.ext0 hw).cell 6 rfl) .nil)) ?_
   have B133 := B1.ext0 E2
   have B134 := B133.extT E9 hR3.blk (by decide)
   have B135 := B134.ext0 E130
   refine S.dreads bodyPost_panicOk [5] 5 [.v (iV x.d.1)] [4, 5, 27, 29, 31] (rs := [.load ⟨b1, 0, none⟩ (iV x.d.1)]) (κ' := [(4, pT b1), (5, pT b2), (27, .map (some md)), (29, iV x.d.1), (31, pT rb)]) (l' := #[true, true, true, true, true, true, false, true, false, false, false, false]) (by kernel_rfl) (by kernel_rfl) (by kernel_rfl) (fun w' hw => hw.elim (fun hw => (.load ((B135.ext0 hw).cell 0 rfl) .nil)) (fun hw => (.load ((B135.xt hw (by decide)).cell 0 rfl) .nil))) ?_
   refine S.dreads bodyPost_panicOk [8] 4 [.v (iV x.d.1), .v (iV x.d.2), .v (.slice x.a x.len x.cap)] [5, 27, 29, 31, 32] (rs := [.load ⟨b1, 0, none⟩ (iV x.d.1), .load ⟨b1, 1, none⟩ (iV x.d.2), .load ⟨b1, 2, none⟩ (.slice x.a x.len x.cap)]) (κ' := [(5, pT b2), (27, .map (some md)), (29, iV x.d.1), (31, pT rb), (32, .agg #[iV x.d.1, iV x.d.2, .slice x.a x.len x.cap])]) (l' := #[true, true, true, true, true, true, false, true, true, false, false, false]) (by kernel_rfl) (by kernel_rfl) (by kernel_rfl) (fun w' hw => hw.elim (fun hw => (.load ((B135.ext0 hw).cell 0 rfl) (.load ((B135.ext0 hw).cell 1 rfl) (.load ((B135.ext0 hw).cell 2 rfl) .nil)))) (fun hw => (.load ((B135.xt hw (by decide)).cell 0 rfl) (.load ((B135.xt hw (by decide)).cell 1 rfl) (.load ((B135.xt hw (by decide)).cell 2 rfl) .nil))))) ?_
   have B136 := B2.extT E9 hR3.blk (by decide)
   have B137 := B136.ext0 E130
   refine S.dreads bodyPost_panicOk [9] 3 [.v (iV hand), .v (.pointer (hp hl)), .v (.pointer (rp rl))] [27, 29, 31, 32, 33] (rs := [.load ⟨b2, 0, none⟩ (iV hand), .load ⟨b2, 1, none⟩ (.pointer (hp hl)), .load ⟨b2, 2, none⟩ (.pointer (rp rl))]) (κ' := [(27, .map (some md)), (29, iV x.d.1), (31, pT rb), (32, .agg #[iV x.d.1, iV x.d.2, .slice x.a x.len x.cap]), (33, .agg #[iV hand, .pointer (hp hl), .pointer (rp rl)])]) (l' := #[true, true, true, true, true, true, false, true, true, true, false, false]) (by kernel_rfl) (by kernel_rfl) (by kernel_rfl) (fun w' hw => hw.elim (fun hw => (.load ((B137.ext0 hw).cell 0 rfl) (.load ((B137.ext0 hw).cell 1 rfl) (.load ((B137.ext0 hw).cell 2 rfl) .nil)))) (fun hw => (.load ((B137.xt hw (by decide)).cell 0 rfl) (.load ((B137.xt hw (by decide)).cell 1 rfl) (.load ((B137.xt hw (by decide)).cell 2 rfl) .nil))))) ?_
   refine S.dlaw bodyPost_panicOk 6 30 2 (v := .func (.func 50) #[] #[]) (l' := #[true, true, true, true, true, true, true, true, true, true, false, false]) (by kernel_rfl) (by kernel_rfl) (by kernel_rfl) (by kernel_rfl) (fun w' hw => lawRun (s := Instr.lookup 53 (.map (some md)) (iV x.d.1) false) (by kernel_rfl) (hw.elim (fun hw => lookup_does (hR131.does.ext0 hw) (by rw [hd1]; rfl)) (fun hw => lookup_does (hR131.does.xt hw rfl) (by rw [hd1]; rfl)))) ?_
   refine S.dnext (j := 10) (l' := #[true, true, true, true, true, true, true, true, true, true, true, false]) (by kernel_rfl) (by kernel_rfl) (sw1 (by kernel_rfl) (Ext.refl _)) ?_
   obtain ⟨les138, hR138, back138⟩ := P132.open
   have hlen : x.len = 2 := by have hh := hwf.len; rw [hd1] at hh; have hh : (x.len : Int) = 2 := hh; omega
   have N139 := hS1.keeps (.of0 E1)
   have N140 := N139.keeps (.of0 E2)
   have N141 := N140.keeps (.ofS E9 hR3.blk (by decide) (by omega))
   have N142 := N141.keeps (.of0 E130)
   have T143 := hx.pres (.of0 E1)
   have T144 := T143.pres (.of0 E2)
   have T145 := T144.pres (.ofS E9 (by omega))
   have T146 := T145.pres (.of0 E130)
   refine S.call (dst := some 34) (f := 50) (args := #[pT rb, .agg #[iV x.d.1, iV x.d.2, .slice x.a x.len x.cap], .agg #[iV hand, .pointer (hp hl), .pointer (rp rl)]]) (by kernel_rfl) (by kernel_rfl) ((op_handle p k IH hpw n₀ rb md _ { σ with fuel := σ.fuel - 1 } les138 x hand hl rl hR138 T146 hwf N142 (by show σ.fuel - 1 ≤ k; omega) hlen).mono ?_)
   intro e138 w138 hq
   have hq : Post n₀ rb md p w130 les138 rl (opS p.xs (evalS p.xs k) x (scOf hand hl rl) { σ with fuel := σ.fuel - 1 }) e138 w138 := by unfold opS; rw [hd1]; exact hq
   obtain ⟨ho, hP⟩ := hq; have PP := back138 _ _ hP; have ho2 := ho
   rcases outE_cases ho2 with ⟨v, _, rfl, hv⟩ | ⟨ch, rfl, _, _⟩
   ·skip
    have XX := hP.1
    refine After.ret (by kernel_rfl) ?_
    have sXX := XX.size
    refine S.dreads2 bodyPost_panicOk [11] 0 [] [6] (rs := []) (κ' := [(6, iV v)]) (l' := #[true, true, true, true, true, true, true, true, true, true, true, true]) (by kernel_rfl) (by kernel_rfl) (by kernel_rfl) (by kernel_rfl) (fun w' hw => rfl) ?_
    refine S.dend (by kernel_rfl) (sw2 (by kernel_rfl) XX) ?_
    exact S.ret1 (v := iV v) rfl (by kernel_rfl) ⟨ho, PP⟩
   · exact fun _ _ _ hd => ⟨hd, ho, PP⟩
  ·skip
   refine S.regEnd (by kernel_rfl) (S.seq (S.drawN 12 #[false, false, false, false, false, false, false, false, false, false, false, false] 10 (fun u u' => Ext E0 u u') (fun u u' => Xt n₀ [56, 43] u u') (by kernel_rfl) (by kernel_rfl) (by kernel_rfl) (fun w147 E147 z147 => ?_)))
   have sE147 := E147.size
   refine S.dreads bodyPost_panicOk [0, 1, 2, 4, 7] 7 [] [4, 5, 26, 28, 31] (rs := []) (κ' := [(4, pT b1), (5, pT b2), (26, .pointer (some ⟨rb, 6, none⟩)), (28, pT b1), (31, pT rb)]) (l' := #[true, true, true, false, true, false, false, true, false, false, false, false]) (by kernel_rfl) (by kernel_rfl) (by kernel_rfl) (fun _ _ => rfl) ?_
   have P149 := PS10.std (.of0 E147) (PS10.1.trans (.of0 E147))
   obtain ⟨les148, ⟨ea148, ec148, ka148, kc148, hR148⟩, back148⟩ := P149.open; have hrb148 := hR148.rb0
   refine S.dreads1 bodyPost_panicOk [3] 6 [6, 10] [.v (.map (some md))] [4, 5, 27, 28, 31] (rs := [.load ⟨rb, 6, none⟩ (.map (some md))]) (κ' := [(4, pT b1), (5, pT b2), (27, .map (some md)), (28, pT b1), (31, pT rb)]) (l' := #[true, true, true, true, true, false, false, true, false, false, false, false]) (by kernel_rfl) (by kernel_rfl) (by kernel_rfl) (by kernel_rfl) (fun w' hw => (.load ((hR148.blk.ext0 hw).cell 6 rfl) .nil)) ?_
   have B150 := B1.ext0 E2
   have B151 := B150.extT E9 hR3.blk (by decide)
   have B152 := B151.ext0 E147
   refine S.dreads bodyPost_panicOk [5] 5 [.v (iV x.d.1)] [4, 5, 27, 29, 31] (rs := [.load ⟨b1, 0, none⟩ (iV x.d.1)]) (κ' := [(4, pT b1), (5, pT b2), (27, .map (some md)), (29, iV x.d.1), (31, pT rb)]) (l' := #[true, true, true, true, true, true, false, true, false, false, false, false]) (by kernel_rfl) (by kernel_rfl) (by kernel_rfl) (fun w' hw => hw.elim (fun hw => (.load ((B152.ext0 hw).cell 0 rfl) .nil)) (fun hw => (.load ((B152.xt hw (by decide)).cell 0 rfl) .nil))) ?_
   refine S.dreads bodyPost_panicOk [8] 4 [.v (iV x.d.1), .v (iV x.d.2), .v (.slice x.a x.len x.cap)] [5, 27, 29, 31, 32] (rs := [.load ⟨b1, 0, none⟩ (iV x.d.1), .load ⟨b1, 1, none⟩ (iV x.d.2), .load ⟨b1, 2, none⟩ (.slice x.a x.len x.cap)]) (κ' := [(5, pT b2), (27, .map (some md)), (29, iV x.d.1), (31, pT rb), (32, .agg #[iV x.d.1, iV x.d.2, .slice x.a x.len x.cap])]) (l' := #[true, true, true, true, true, true, false, true, true, false, false, false]) (by kernel_rfl) (by kernel_rfl) (by kernel_rfl) (fun w' hw => hw.elim (fun hw => (.load ((B152.ext0 hw).cell 0 rfl) (.load ((B152.ext0 hw).cell 1 rfl) (.load ((B152.ext0 hw).cell 2 rfl) .nil)))) (fun hw => (.load ((B152.xt hw (by decide)).cell 0 rfl) (.load ((B152.xt hw (by decide)).cell 1 rfl) (.load ((B152.xt hw (by decide)).cell 2 rfl) .nil))))) ?_
   have B153 := B2.extT E9 hR3.blk (by decide)
   have B154 := B153.ext0 E147
   refine S.dreads bodyPost_panicOk [9] 3 [.v (iV hand), .v (.pointer (hp hl)), .v (.pointer (rp rl))] [27, 29, 31, 32, 33] (rs := [.load ⟨b2, 0, none⟩ (iV hand), .load ⟨b2, 1, none⟩ (.pointer (hp hl)), .load ⟨b2, 2, none⟩ (.pointer (rp rl))]) (κ' := [(27, .map (some md)), (29, iV x.d.1), (31, pT rb), (32, .agg #[iV x.d.1, iV x.d.2, .slice x.a x.len x.cap]), (33, .agg #[iV hand, .pointer (hp hl), .pointer (rp rl)])]) (l' := #[true, true, true, true, true, true, false, true, true, true, false, false]) (by kernel_rfl) (by kernel_rfl) (by kernel_rfl) (fun w' hw => hw.elim (fun hw => (.load ((B154.ext0 hw).cell 0 rfl) (.load ((B154.ext0 hw).cell 1 rfl) (.load ((B154.ext0 hw).cell 2 rfl) .nil)))) (fun hw => (.load ((B154.xt hw (by decide)).cell 0 rfl) (.load ((B154.xt hw (by decide)).cell 1 rfl) (.load ((B154.xt hw (by decide)).cell 2 rfl) .nil))))) ?_
   refine S.dlaw bodyPost_panicOk 6 30 2 (v := .func (.func 51) #[] #[]) (l' := #[true, true, true, true, true, true, true, true, true, true, false, false]) (by kernel_rfl) (by kernel_rfl) (by kernel_rfl) (by kernel_rfl) (fun w' hw => lawRun (s := Instr.lookup 53 (.map (some md)) (iV x.d.1) false) (by kernel_rfl) (hw.elim (fun hw => lookup_does (hR148.does.ext0 hw) (by rw [hd1]; rfl)) (fun hw => lookup_does (hR148.does.xt hw rfl) (by rw [hd1]; rfl)))) ?_
   refine S.dnext (j := 10) (l' := #[true, true, true, true, true, true, true, true, true, true, true, false]) (by kernel_rfl) (by kernel_rfl) (sw1 (by kernel_rfl) (Ext.refl _)) ?_
   obtain ⟨les155, hR155, back155⟩ := P149.open
   have hlen : x.len = 1 := by have hh := hwf.len; rw [hd1] at hh; have hh : (x.len : Int) = 1 := hh; omega
   have N156 := hS1.keeps (.of0 E1)
   have N157 := N156.keeps (.of0 E2)
   have N158 := N157.keeps (.ofS E9 hR3.blk (by decide) (by omega))
   have N159 := N158.keeps (.of0 E147)
   have T160 := hx.pres (.of0 E1)
   have T161 := T160.pres (.of0 E2)
   have T162 := T161.pres (.ofS E9 (by omega))
   have T163 := T162.pres (.of0 E147)
   refine S.call (dst := some 34) (f := 51) (args := #[pT rb, .agg #[iV x.d.1, iV x.d.2, .slice x.a x.len x.cap], .agg #[iV hand, .pointer (hp hl), .pointer (rp rl)]]) (by kernel_rfl) (by kernel_rfl) ((op_signal p k IH hpw n₀ rb md _ { σ with fuel := σ.fuel - 1 } les155 x hand hl rl hR155 T163 hwf N159 (by show σ.fuel - 1 ≤ k; omega) hlen).mono ?_)
   intro e155 w155 hq
   have hq : Post n₀ rb md p w147 les155 rl (opS p.xs (evalS p.xs k) x (scOf hand hl rl) { σ with fuel := σ.fuel - 1 }) e155 w155 := by unfold opS; rw [hd1]; exact hq
   obtain ⟨ho, hP⟩ := hq; have PP := back155 _ _ hP; have ho2 := ho
   rcases outE_cases ho2 with ⟨v, _, rfl, hv⟩ | ⟨ch, rfl, _, _⟩
   ·skip
    have XX := hP.1
    refine After.ret (by kernel_rfl) ?_
    have sXX := XX.size
    refine S.dreads2 bodyPost_panicOk [11] 0 [] [6] (rs := []) (κ' := [(6, iV v)]) (l' := #[true, true, true, true, true, true, true, true, true, true, true, true]) (by kernel_rfl) (by kernel_rfl) (by kernel_rfl) (by kernel_rfl) (fun w' hw => rfl) ?_
    refine S.dend (by kernel_rfl) (sw2 (by kernel_rfl) XX) ?_
    exact S.ret1 (v := iV v) rfl (by kernel_rfl) ⟨ho, PP⟩
   · exact fun _ _ _ hd => ⟨hd, ho, PP⟩
  ·skip
   refine S.regEnd (by kernel_rfl) (S.seq (S.drawN 12 #[false, false, false, false, false, false, false, false, false, false, false, false] 10 (fun u u' => Ext E0 u u') (fun u u' => Xt n₀ [56, 43] u u') (by kernel_rfl) (by kernel_rfl) (by kernel_rfl) (fun w164 E164 z164 => ?_)))
   have sE164 := E164.size
   refine S.dreads bodyPost_panicOk [0, 1, 2, 4, 7] 7 [] [4, 5, 26, 28, 31] (rs := []) (κ' := [(4, pT b1), (5, pT b2), (26, .pointer (some ⟨rb, 6, none⟩)), (28, pT b1), (31, pT rb)]) (l' := #[true, true, true, false, true, false, false, true, false, false, false, false]) (by kernel_rfl) (by kernel_rfl) (by kernel_rfl) (fun _ _ => rfl) ?_
   have P166 := PS10.std (.of0 E164) (PS10.1.trans (.of0 E164))
   obtain ⟨les165, ⟨ea165, ec165, ka165, kc165, hR165⟩, back165⟩ := P166.open; have hrb165 := hR165.rb0
   refine S.dreads1 bodyPost_panicOk [3] 6 [6, 10] [.v (.map (some md))] [4, 5, 27, 28, 31] (rs := [.load ⟨rb, 6, none⟩ (.map (some md))]) (κ' := [(4, pT b1), (5, pT b2), (27, .map (some md)), (28, pT b1), (31, pT rb)]) (l' := #[true, true, true, true, true, false, false, true, false, false, false, false]) (by kernel_rfl) (by kernel_rfl) (by kernel_rfl) (by kernel_rfl) (fun w' hw => (.load ((hR165.blk.ext0 hw).cell 6 rfl) .nil)) ?_
   have B167 := B1.ext0 E2
   have B168 := B167.extT E9 hR3.blk (by decide)
   have B169 := B168.ext0 E164
   refine S.dreads bodyPost_panicOk [5] 5 [.v (iV x.d.1)] [4, 5, 27, 29, 31] (rs := [.load ⟨b1, 0, none⟩ (iV x.d.1)]) (κ' := [(4, pT b1), (5, pT b2), (27, .map (some md)), (29, iV x.d.1), (31, pT rb)]) (l' := #[true, true, true, true, true, true, false, true, false, false, false, false]) (by kernel_rfl) (by kernel_rfl) (by kernel_rfl) (fun w' hw => hw.elim (fun hw => (.load ((B169.ext0 hw).cell 0 rfl) .nil)) (fun hw => (.load ((B169.xt hw (by decide)).cell 0 rfl) .nil))) ?_
   refine S.dreads bodyPost_panicOk [8] 4 [.v (iV x.d.1), .v (iV x.d.2), .v (.slice x.a x.len x.cap)] [5, 27, 29, 31, 32] (rs := [.load ⟨b1, 0, none⟩ (iV x.d.1), .load ⟨b1, 1, none⟩ (iV x.d.2), .load ⟨b1, 2, none⟩ (.slice x.a x.len x.cap)]) (κ' := [(5, pT b2), (27, .map (some md)), (29, iV x.d.1), (31, pT rb), (32, .agg #[iV x.d.1, iV x.d.2, .slice x.a x.len x.cap])]) (l' := #[true, true, true, true, true, true, false, true, true, false, false, false]) (by kernel_rfl) (by kernel_rfl) (by kernel_rfl) (fun w' hw => hw.elim (fun hw => (.load ((B169.ext0 hw).cell 0 rfl) (.load ((B169.ext0 hw).cell 1 rfl) (.load ((B169.ext0 hw).cell 2 rfl) .nil)))) (fun hw => (.load ((B169.xt hw (by decide)).cell 0 rfl) (.load ((B169.xt hw (by decide)).cell 1 rfl) (.load ((B169.xt hw (by decide)).cell 2 rfl) .nil))))) ?_
   have B170 := B2.extT E9 hR3.blk (by decide)
   have B171 := B170.ext0 E164
   refine S.dreads bodyPost_panicOk [9] 3 [.v (iV hand), .v (.pointer (hp hl)), .v (.pointer (rp rl))] [27, 29, 31, 32, 33] (rs := [.load ⟨b2, 0, none⟩ (iV hand), .load ⟨b2, 1, none⟩ (.pointer (hp hl)), .load ⟨b2, 2, none⟩ (.pointer (rp rl))]) (κ' := [(27, .map (some md)), (29, iV x.d.1), (31, pT rb), (32, .agg #[iV x.d.1, iV x.d.2, .slice x.a x.len x.cap]), (33, .agg #[iV hand, .pointer (hp hl), .pointer (rp rl)])]) (l' := #[true, true, true, true, true, true, false, true, true, true, false, false]) (by kernel_rfl) (by kernel_rfl) (by kernel_rfl) (fun w' hw => hw.elim (fun hw => (.load ((B171.ext0 hw).cell 0 rfl) (.load ((B171.ext0 hw).cell 1 rfl) (.load ((B171.ext0 hw).cell 2 rfl) .nil)))) (fun hw => (.load ((B171.xt hw (by decide)).cell 0 rfl) (.load ((B171.xt hw (by decide)).cell 1 rfl) (.load ((B171.xt hw (by decide)).cell 2 rfl) .nil))))) ?_
   refine S.dlaw bodyPost_panicOk 6 30 2 (v := .func (.func 52) #[] #[]) (l' := #[true, true, true, true, true, true, true, true, true, true, false, false]) (by kernel_rfl) (by kernel_rfl) (by kernel_rfl) (by kernel_rfl) (fun w' hw => lawRun (s := Instr.lookup 53 (.map (some md)) (iV x.d.1) false) (by kernel_rfl) (hw.elim (fun hw => lookup_does (hR165.does.ext0 hw) (by rw [hd1]; rfl)) (fun hw => lookup_does (hR165.does.xt hw rfl) (by rw [hd1]; rfl)))) ?_
   refine S.dnext (j := 10) (l' := #[true, true, true, true, true, true, true, true, true, true, true, false]) (by kernel_rfl) (by kernel_rfl) (sw1 (by kernel_rfl) (Ext.refl _)) ?_
   obtain ⟨les172, hR172, back172⟩ := P166.open
   have hlen : x.len = 1 := by have hh := hwf.len; rw [hd1] at hh; have hh : (x.len : Int) = 1 := hh; omega
   have N173 := hS1.keeps (.of0 E1)
   have N174 := N173.keeps (.of0 E2)
   have N175 := N174.keeps (.ofS E9 hR3.blk (by decide) (by omega))
   have N176 := N175.keeps (.of0 E164)
   have T177 := hx.pres (.of0 E1)
   have T178 := T177.pres (.of0 E2)
   have T179 := T178.pres (.ofS E9 (by omega))
   have T180 := T179.pres (.of0 E164)
   refine S.call (dst := some 34) (f := 52) (args := #[pT rb, .agg #[iV x.d.1, iV x.d.2, .slice x.a x.len x.cap], .agg #[iV hand, .pointer (hp hl), .pointer (rp rl)]]) (by kernel_rfl) (by kernel_rfl) ((op_fails p k IH hpw n₀ rb md _ { σ with fuel := σ.fuel - 1 } les172 x hand hl rl hR172 T180 hwf N176 (by show σ.fuel - 1 ≤ k; omega) hlen).mono ?_)
   intro e172 w172 hq
   have hq : Post n₀ rb md p w164 les172 rl (opS p.xs (evalS p.xs k) x (scOf hand hl rl) { σ with fuel := σ.fuel - 1 }) e172 w172 := by unfold opS; rw [hd1]; exact hq
   obtain ⟨ho, hP⟩ := hq; have PP := back172 _ _ hP; have ho2 := ho
   rcases outE_cases ho2 with ⟨v, _, rfl, hv⟩ | ⟨ch, rfl, _, _⟩
   ·skip
    have XX := hP.1
    refine After.ret (by kernel_rfl) ?_
    have sXX := XX.size
    refine S.dreads2 bodyPost_panicOk [11] 0 [] [6] (rs := []) (κ' := [(6, iV v)]) (l' := #[true, true, true, true, true, true, true, true, true, true, true, true]) (by kernel_rfl) (by kernel_rfl) (by kernel_rfl) (by kernel_rfl) (fun w' hw => rfl) ?_
    refine S.dend (by kernel_rfl) (sw2 (by kernel_rfl) XX) ?_
    exact S.ret1 (v := iV v) rfl (by kernel_rfl) ⟨ho, PP⟩
   · exact fun _ _ _ hd => ⟨hd, ho, PP⟩
  ·skip
   refine S.regEnd (by kernel_rfl) (S.seq (S.drawN 12 #[false, false, false, false, false, false, false, false, false, false, false, false] 10 (fun u u' => Ext E0 u u') (fun u u' => Xt n₀ [56, 43] u u') (by kernel_rfl) (by kernel_rfl) (by kernel_rfl) (fun w181 E181 z181 => ?_)))
   have sE181 := E181.size
   refine S.dreads bodyPost_panicOk [0, 1, 2, 4, 7] 7 [] [4, 5, 26, 28, 31] (rs := []) (κ' := [(4, pT b1), (5, pT b2), (26, .pointer (some ⟨rb, 6, none⟩)), (28, pT b1), (31, pT rb)]) (l' := #[true, true, true, false, true, false, false, true, false, false, false, false]) (by kernel_rfl) (by kernel_rfl) (by kernel_rfl) (fun _ _ => rfl) ?_
   have P183 := PS10.std (.of0 E181) (PS10.1.trans (.of0 E181))
   obtain ⟨les182, ⟨ea182, ec182, ka182, kc182, hR182⟩, back182⟩ := P183.open; have hrb182 := hR182.rb0
   refine S.dreads1 bodyPost_panicOk [3] 6 [6, 10] [.v (.map (some md))] [4, 5, 27, 28, 31] (rs := [.load ⟨rb, 6, none⟩ (.map (some md))]) (κ' := [(4, pT b1), (5, pT b2), (27, .map (some md)), (28, pT b1), (31, pT rb)]) (l' := #[true, true, true, true, true, false, false, true, false, false, false, false]) (by kernel_rfl) (by kernel_rfl) (by kernel_rfl) (by kernel_rfl) (fun w' hw => (.load ((hR182.blk.ext0 hw).cell 6 rfl) .nil)) ?_
   have B184 := B1.ext0 E2
   have B185 := B184.extT E9 hR3.blk (by decide)
   have B186 := B185.ext0 E181
   refine S.dreads bodyPost_panicOk [5] 5 [.v (iV x.d.1)] [4, 5, 27, 29, 31] (rs := [.load ⟨b1, 0, none⟩ (iV x.d.1)]) (κ' := [(4, pT b1), (5, pT b2), (27, .map (some md)), (29, iV x.d.1), (31, pT rb)]) (l' := #[true, true, true, true, true, true, false, true, false, false, false, false]) (by kernel_rfl) (by kernel_rfl) (by kernel_rfl) (fun w' hw => hw.elim (fun hw => (.load ((B186.ext0 hw).cell 0 rfl) .nil)) (fun hw => (.load ((B186.xt hw (by decide)).cell 0 rfl) .nil))) ?_
   refine S.dreads bodyPost_panicOk [8] 4 [.v (iV x.d.1), .v (iV x.d.2), .v (.slice x.a x.len x.cap)] [5, 27, 29, 31, 32] (rs := [.load ⟨b1, 0, none⟩ (iV x.d.1), .load ⟨b1, 1, none⟩ (iV x.d.2), .load ⟨b1, 2, none⟩ (.slice x.a x.len x.cap)]) (κ' := [(5, pT b2), (27, .map (some md)), (29, iV x.d.1), (31, pT rb), (32, .agg #[iV x.d.1, iV x.d.2, .slice x.a x.len x.cap])]) (l' := #[true, true, true, true, true, true, false, true, true, false, false, false]) (by kernel_rfl) (by kernel_rfl) (by kernel_rfl) (fun w' hw => hw.elim (fun hw => (.load ((B186.ext0 hw).cell 0 rfl) (.load ((B186.ext0 hw).cell 1 rfl) (.load ((B186.ext0 hw).cell 2 rfl) .nil)))) (fun hw => (.load ((B186.xt hw (by decide)).cell 0 rfl) (.load ((B186.xt hw (by decide)).cell 1 rfl) (.load ((B186.xt hw (by decide)).cell 2 rfl) .nil))))) ?_
   have B187 := B2.extT E9 hR3.blk (by decide)
   have B188 := B187.ext0 E181
   refine S.dreads bodyPost_panicOk [9] 3 [.v (iV hand), .v (.pointer (hp hl)), .v (.pointer (rp rl))] [27, 29, 31, 32, 33] (rs := [.load ⟨b2, 0, none⟩ (iV hand), .load ⟨b2, 1, none⟩ (.pointer (hp hl)), .load ⟨b2, 2, none⟩ (.pointer (rp rl))]) (κ' := [(27, .map (some md)), (29, iV x.d.1), (31, pT rb), (32, .agg #[iV x.d.1, iV x.d.2, .slice x.a x.len x.cap]), (33, .agg #[iV hand, .pointer (hp hl), .pointer (rp rl)])]) (l' := #[true, true, true, true, true, true, false, true, true, true, false, false]) (by kernel_rfl) (by kernel_rfl) (by kernel_rfl) (fun w' hw => hw.elim (fun hw => (.load ((B188.ext0 hw).cell 0 rfl) (.load ((B188.ext0 hw).cell 1 rfl) (.load ((B188.ext0 hw).cell 2 rfl) .nil)))) (fun hw => (.load ((B188.xt hw (by decide)).cell 0 rfl) (.load ((B188.xt hw (by decide)).cell 1 rfl) (.load ((B188.xt hw (by decide)).cell 2 rfl) .nil))))) ?_
   refine S.dlaw bodyPost_panicOk 6 30 2 (v := .func (.func 53) #[] #[]) (l' := #[true, true, true, true, true, true, true, true, true, true, false, false]) (by kernel_rfl) (by kernel_rfl) (by kernel_rfl) (by kernel_rfl) (fun w' hw => lawRun (s := Instr.lookup 53 (.map (some md)) (iV x.d.1) false) (by kernel_rfl) (hw.elim (fun hw => lookup_does (hR182.does.ext0 hw) (by rw [hd1]; rfl)) (fun hw => lookup_does (hR182.does.xt hw rfl) (by rw [hd1]; rfl)))) ?_
   refine S.dnext (j := 10) (l' := #[true, true, true, true, true, true, true, true, true, true, true, false]) (by kernel_rfl) (by kernel_rfl) (sw1 (by kernel_rfl) (Ext.refl _)) ?_
   obtain ⟨les189, hR189, back189⟩ := P183.open
   have hlen : x.len = 2 := by have hh := hwf.len; rw [hd1] at hh; have hh : (x.len : Int) = 2 := hh; omega
   have N190 := hS1.keeps (.of0 E1)
   have N191 := N190.keeps (.of0 E2)
   have N192 := N191.keeps (.ofS E9 hR3.blk (by decide) (by omega))
   have N193 := N192.keeps (.of0 E181)
   have T194 := hx.pres (.of0 E1)
   have T195 := T194.pres (.of0 E2)
   have T196 := T195.pres (.ofS E9 (by omega))
   have T197 := T196.pres (.of0 E181)
   refine S.call (dst := some 34) (f := 53) (args := #[pT rb, .agg #[iV x.d.1, iV x.d.2, .slice x.a x.len x.cap], .agg #[iV hand, .pointer (hp hl), .pointer (rp rl)]]) (by kernel_rfl) (by kernel_rfl) ((op_restart p k IH hpw n₀ rb md _ { σ with fuel := σ.fuel - 1 } les189 x hand hl rl hR189 T197 hwf N193 (by show σ.fuel - 1 ≤ k; omega) hlen).mono ?_)
   intro e189 w189 hq
   have hq : Post n₀ rb md p w181 les189 rl (opS p.xs (evalS p.xs k) x (scOf hand hl rl) { σ with fuel := σ.fuel - 1 }) e189 w189 := by unfold opS; rw [hd1]; exact hq
   obtain ⟨ho, hP⟩ := hq; have PP := back189 _ _ hP; have ho2 := ho
   rcases outE_cases ho2 with ⟨v, _, rfl, hv⟩ | ⟨ch, rfl, _, _⟩
   ·skip
    have XX := hP.1
    refine After.ret (by kernel_rfl) ?_
    have sXX := XX.size
    refine S.dreads2 bodyPost_panicOk [11] 0 [] [6] (rs := []) (κ' := [(6, iV v)]) (l' := #[true, true, true, true, true, true, true, true, true, true, true, true]) (by kernel_rfl) (by kernel_rfl) (by kernel_rfl) (by kernel_rfl) (fun w' hw => rfl) ?_
    refine S.dend (by kernel_rfl) (sw2 (by kernel_rfl) XX) ?_
    exact S.ret1 (v := iV v) rfl (by kernel_rfl) ⟨ho, PP⟩
   · exact fun _ _ _ hd => ⟨hd, ho, PP⟩
  ·skip
   refine S.regEnd (by kernel_rfl) (S.seq (S.drawN 12 #[false, false, false, false, false, false, false, false, false, false, false, false] 10 (fun u u' => Ext E0 u u') (fun u u' => Xt n₀ [56, 43] u u') (by kernel_rfl) (by kernel_rfl) (by kernel_rfl) (fun w198 E198 z198 => ?_)))
   have sE198 := E198.size
   refine S.dreads bodyPost_panicOk [0, 1, 2, 4, 7] 7 [] [4, 5, 26, 28, 31] (rs := []) (κ' := [(4, pT b1), (5, pT b2), (26, .pointer (some ⟨rb, 6, none⟩)), (28, pT b1), (31, pT rb)]) (l' := #[true, true, true, false, true, false, false, true, false, false, false, false]) (by kernel_rfl) (by kernel_rfl) (by kernel_rfl) (fun _ _ => rfl) ?_
   have P200 := PS10.std (.of0 E198) (PS10.1.trans (.of0 E198))
   obtain ⟨les199, ⟨ea199, ec199, ka199, kc199, hR199⟩, back199⟩ := P200.open; have hrb199 := hR199.rb0
   refine S.dreads1 bodyPost_panicOk [3] 6 [6, 10] [.v (.map (some md))] [4, 5, 27, 28, 31] (rs := [.load ⟨rb, 6, none⟩ (.map (some md))]) (κ' := [(4, pT b1), (5, pT b2), (27, .map (some md)), (28, pT b1), (31, pT rb)]) (l' := #[true, true, true, true, true, false, false, true, false, false, false, false]) (by kernel_rfl) (by kernel_rfl) (by kernel_rfl) (by kernel_rfl) (fun w' hw => (.load ((hR199.blk.ext0 hw).cell 6 rfl) .nil)) ?_
   have B201 := B1.ext0 E2
   have B202 := B201.extT E9 hR3.blk (by decide)
   have B203 := B202.ext0 E198
   refine S.dreads bodyPost_panicOk [5] 5 [.v (iV x.d.1)] [4, 5, 27, 29, 31] (rs := [.load ⟨b1, 0, none⟩ (iV x.d.1)]) (κ' := [(4, pT b1), (5, pT b2), (27, .map (some md)), (29, iV x.d.1), (31, pT rb)]) (l' := #[true, true, true, true, true, true, false, true, false, false, false, false]) (by kernel_rfl) (by kernel_rfl) (by kernel_rfl) (fun w' hw => hw.elim (fun hw => (.load ((B203.ext0 hw).cell 0 rfl) .nil)) (fun hw => (.load ((B203.xt hw (by decide)).cell 0 rfl) .nil))) ?_
   refine S.dreads bodyPost_panicOk [8] 4 [.v (iV x.d.1), .v (iV x.d.2), .v (.slice x.a x.len x.cap)] [5, 27, 29, 31, 32] (rs := [.load ⟨b1, 0, none⟩ (iV x.d.1), .load ⟨b1, 1, none⟩ (iV x.d.2), .load ⟨b1, 2, none⟩ (.slice x.a x.len x.cap)]) (κ' := [(5, pT b2), (27, .map (some md)), (29, iV x.d.1), (31, pT rb), (32, .agg #[iV x.d.1, iV x.d.2, .slice x.a x.len x.cap])]) (l' := #[true, true, true, true, true, true, false, true, true, false, false, false]) (by kernel_rfl) (by kernel_rfl) (by kernel_rfl) (fun w' hw => hw.elim (fun hw => (.load ((B203.ext0 hw).cell 0 rfl) (.load ((B203.ext0 hw).cell 1 rfl) (.load ((B203.ext0 hw).cell 2 rfl) .nil)))) (fun hw => (.load ((B203.xt hw (by decide)).cell 0 rfl) (.load ((B203.xt hw (by decide)).cell 1 rfl) (.load ((B203.xt hw (by decide)).cell 2 rfl) .nil))))) ?_
   have B204 := B2.extT E9 hR3.blk (by decide)
   have B205 := B204.ext0 E198
   refine S.dreads bodyPost_panicOk [9] 3 [.v (iV hand), .v (.pointer (hp hl)), .v (.pointer (rp rl))] [27, 29, 31, 32, 33] (rs := [.load ⟨b2, 0, none⟩ (iV hand), .load ⟨b2, 1, none⟩ (.pointer (hp hl)), .load ⟨b2, 2, none⟩ (.pointer (rp rl))]) (κ' := [(27, .map (some md)), (29, iV x.d.1), (31, pT rb), (32, .agg #[iV x.d.1, iV x.d.2, .slice x.a x.len x.cap]), (33, .agg #[iV hand, .pointer (hp hl), .pointer (rp rl)])]) (l' := #[true, true, true, true, true, true, false, true, true, true, false, false]) (by kernel_rfl) (by kernel_rfl) (by kernel_rfl) (fun w' hw => hw.elim (fun hw => (.load ((B205.ext0 hw).cell 0 rfl) (.load ((B205.ext0 hw).cell 1 rfl) (.load ((B205.ext0 hw).cell 2 rfl) .nil)))) (fun hw => (.load ((B205.xt hw (by decide)).cell 0 rfl) (.load ((B205.xt hw (by decide)).cell 1 rfl) (.load ((B205.xt hw (by decide)).cell 2 rfl) .nil))))) ?_
   refine S.dlaw bodyPost_panicOk 6 30 2 (v := .func (.func 54) #[] #[]) (l' := #[true, true, true, true, true, true, true, true, true, true, false, false]) (by kernel_rfl) (by kernel_rfl) (by kernel_rfl) (by kernel_rfl) (fun w' hw => lawRun (s := Instr.lookup 53 (.map (some md)) (iV x.d.1) false) (by kernel_rfl) (hw.elim (fun hw => lookup_does (hR199.does.ext0 hw) (by rw [hd1]; rfl)) (fun hw => lookup_does (hR199.does.xt hw rfl) (by rw [hd1]; rfl)))) ?_
   refine S.dnext (j := 10) (l' := #[true, true, true, true, true, true, true, true, true, true, true, false]) (by kernel_rfl) (by kernel_rfl) (sw1 (by kernel_rfl) (Ext.refl _)) ?_
   obtain ⟨les206, hR206, back206⟩ := P200.open
   have hlen : x.len = 1 := by have hh := hwf.len; rw [hd1] at hh; have hh : (x.len : Int) = 1 := hh; omega
   have N207 := hS1.keeps (.of0 E1)
   have N208 := N207.keeps (.of0 E2)
   have N209 := N208.keeps (.ofS E9 hR3.blk (by decide) (by omega))
   have N210 := N209.keeps (.of0 E198)
   have T211 := hx.pres (.of0 E1)
   have T212 := T211.pres (.of0 E2)
   have T213 := T212.pres (.ofS E9 (by omega))
   have T214 := T213.pres (.of0 E198)
   refine S.call (dst := some 34) (f := 54) (args := #[pT rb, .agg #[iV x.d.1, iV x.d.2, .slice x.a x.len x.cap], .agg #[iV hand, .pointer (hp hl), .pointer (rp rl)]]) (by kernel_rfl) (by kernel_rfl) ((op_again p k IH hpw n₀ rb md _ { σ with fuel := σ.fuel - 1 } les206 x hand hl rl hR206 T214 hwf N210 (by show σ.fuel - 1 ≤ k; omega) hlen).mono ?_)
   intro e206 w206 hq
   have hq : Post n₀ rb md p w198 les206 rl (opS p.xs (evalS p.xs k) x (scOf hand hl rl) { σ with fuel := σ.fuel - 1 }) e206 w206 := by unfold opS; rw [hd1]; exact hq
   obtain ⟨ho, hP⟩ := hq; have PP := back206 _ _ hP; have ho2 := ho
   rcases outE_cases ho2 with ⟨v, _, rfl, hv⟩ | ⟨ch, rfl, _, _⟩
   ·skip
    have XX := hP.1
    refine After.ret (by kernel_rfl) ?_
    have sXX := XX.size
    refine S.dreads2 bodyPost_panicOk [11] 0 [] [6] (rs := []) (κ' := [(6, iV v)]) (l' := #[true, true, true, true, true, true, true, true, true, true, true, true]) (by kernel_rfl) (by kernel_rfl) (by kernel_rfl) (by kernel_rfl) (fun w' hw => rfl) ?_
    refine S.dend (by kernel_rfl) (sw2 (by kernel_rfl) XX) ?_
    exact S.ret1 (v := iV v) rfl (by kernel_rfl) ⟨ho, PP⟩
   · exact fun _ _ _ hd => ⟨hd, ho, PP⟩
  ·skip
   refine S.regEnd (by kernel_rfl) (S.seq (S.drawN 12 #[false, false, false, false, false, false, false, false, false, false, false, false] 10 (fun u u' => Ext E0 u u') (fun u u' => Xt n₀ [56, 43] u u') (by kernel_rfl) (by kernel_rfl) (by kernel_rfl) (fun w215 E215 z215 => ?_)))
   have sE215 := E215.size
   refine S.dreads bodyPost_panicOk [0, 1, 2, 4, 7] 7 [] [4, 5, 26, 28, 31] (rs := []) (κ' := [(4, pT b1), (5, pT b2), (26, .pointer (some ⟨rb, 6, none⟩)), (28, pT b1), (31, pT rb)]) (l' := #[true, true, true, false, true, false, false, true, false, false, false, false]) (by kernel_rfl) (by kernel_rfl) (by kernel_rfl) (fun _ _ => rfl) ?_
   have P217 := PS10.std (.of0 E215) (PS10.1.trans (.of0 E215))
   obtain ⟨les216, ⟨ea216, ec216, ka216, kc216, hR216⟩, back216⟩ := P217.open; have hrb216 := hR216.rb0
   refine S.dreads1 bodyPost_panicOk [3] 6 [6, 10] [.v (.map (some md))] [4, 5, 27, 28, 31] (rs := [.load ⟨rb, 6, none⟩ (.map (some md))]) (κ' := [(4, pT b1), (5, pT b2), (27, .map (some md)), (28, pT b1), (31, pT rb)]) (l' := #[true, true, true, true, true, false, false, true, false, false, false, false]) (by kernel_rfl) (by kernel_rfl) (by kernel_rfl) (by kernel_rfl) (fun w' hw => (.load ((hR216.blk.ext0 hw).cell 6 rfl) .nil)) ?_
   have B218 := B1.ext0 E2
   have B219 := B218.extT E9 hR3.blk (by decide)
   have B220 := B219.ext0 E215
   refine S.dreads bodyPost_panicOk [5] 5 [.v (iV x.d.1)] [4, 5, 27, 29, 31] (rs := [.load ⟨b1, 0, none⟩ (iV x.d.1)]) (κ' := [(4, pT b1), (5, pT b2), (27, .map (some md)), (29, iV x.d.1), (31, pT rb)]) (l' := #[true, true, true, true, true, true, false, true, false, false, false, false]) (by kernel_rfl) (by kernel_rfl) (by kernel_rfl) (fun w' hw => hw.elim (fun hw => (.load ((B220.ext0 hw).cell 0 rfl) .nil)) (fun hw => (.load ((B220.xt hw (by decide)).cell 0 rfl) .nil))) ?_
   refine S.dreads bodyPost_panicOk [8] 4 [.v (iV x.d.1), .v (iV x.d.2), .v (.slice x.a x.len x.cap)] [5, 27, 29, 31, 32] (rs := [.load ⟨b1, 0, none⟩ (iV x.d.1), .load ⟨b1, 1, none⟩ (iV x.d.2), .load ⟨b1, 2, none⟩ (.slice x.a x.len x.cap)]) (κ' := [(5, pT b2), (27, .map (some md)), (29, iV x.d.1), (31, pT rb), (32, .agg #[iV x.d.1, iV x.d.2, .slice x.a x.len x.cap])]) (l' := #[true, true, true, true, true, true, false, true, true, false, false, false]) (by kernel_rfl) (by kernel_rfl) (by kernel_rfl) (fun w' hw => hw.elim (fun hw => (.load ((B220.ext0 hw).cell 0 rfl) (.load ((B220.ext0 hw).cell 1 rfl) (.load ((B220.ext0 hw).cell 2 rfl) .nil)))) (fun hw => (.load ((B220.xt hw (by decide)).cell 0 rfl) (.load ((B220.xt hw (by decide)).cell 1 rfl) (.load ((B220.xt hw (by decide)).cell 2 rfl) .nil))))) ?_
   have B221 := B2.extT E9 hR3.blk (by decide)
   have B222 := B221.ext0 E215
   refine S.dreads bodyPost_panicOk [9] 3 [.v (iV hand), .v (.pointer (hp hl)), .v (.pointer (rp rl))] [27, 29, 31, 32, 33] (rs := [.load ⟨b2, 0, none⟩ (iV hand), .load ⟨b2, 1, none⟩ (.pointer (hp hl)), .load ⟨b2, 2, none⟩ (.pointer (rp rl))]) (κ' := [(27, .map (some md)), (29, iV x.d.1), (31, pT rb), (32, .agg #[iV x.d.1, iV x.d.2, .slice x.a x.len x.cap]), (33, .agg #[iV hand, .pointer (hp hl), .pointer (rp rl)])]) (l' := #[true, true, true, true, true, true, false, true, true, true, false, false]) (by kernel_rfl) (by kernel_rfl) (by kernel_rfl) (fun w' hw => hw.elim (fun hw => (.load ((B222.ext0 hw).cell 0 rfl) (.load ((B222.ext0 hw).cell 1 rfl) (.load ((B222.ext0 hw).cell 2 rfl) .nil)))) (fun hw => (.load ((B222.xt hw (by decide)).cell 0 rfl) (.load ((B222.xt hw (by decide)).cell 1 rfl) (.load ((B222.xt hw (by decide)).cell 2 rfl) .nil))))) ?_
   refine S.dlaw bodyPost_panicOk 6 30 2 (v := .func (.func 55) #[] #[]) (l' := #[true, true, true, true, true, true, true, true, true, true, false, false]) (by kernel_rfl) (by kernel_rfl) (by kernel_rfl) (by kernel_rfl) (fun w' hw => lawRun (s := Instr.lookup 53 (.map (some md)) (iV x.d.1) false) (by kernel_rfl) (hw.elim (fun hw => lookup_does (hR216.does.ext0 hw) (by rw [hd1]; rfl)) (fun hw => lookup_does (hR216.does.xt hw rfl) (by rw [hd1]; rfl)))) ?_
   refine S.dnext (j := 10) (l' := #[true, true, true, true, true, true, true, true, true, true, true, false]) (by kernel_rfl) (by kernel_rfl) (sw1 (by kernel_rfl) (Ext.refl _)) ?_
   obtain ⟨les223, hR223, back223⟩ := P217.open
   have hlen : x.len = 1 := by have hh := hwf.len; rw [hd1] at hh; have hh : (x.len : Int) = 1 := hh; omega
   have N224 := hS1.keeps (.of0 E1)
   have N225 := N224.keeps (.of0 E2)
   have N226 := N225.keeps (.ofS E9 hR3.blk (by decide) (by omega))
   have N227 := N226.keeps (.of0 E215)
   have T228 := hx.pres (.of0 E1)
   have T229 := T228.pres (.of0 E2)
   have T230 := T229.pres (.ofS E9 (by omega))
   have T231 := T230.pres (.of0 E215)
   refine S.call (dst := some 34) (f := 55) (args := #[pT rb, .agg #[iV x.d.1, iV x.d.2, .slice x.a x.len x.cap], .agg #[iV hand, .pointer (hp hl), .pointer (rp rl)]]) (by kernel_rfl) (by kernel_rfl) ((op_choose p k IH hpw n₀ rb md _ { σ with fuel := σ.fuel - 1 } les223 x hand hl rl hR223 T231 hwf N227 (by show σ.fuel - 1 ≤ k; omega) hlen).mono ?_)
   intro e223 w223 hq
   have hq : Post n₀ rb md p w215 les223 rl (opS p.xs (evalS p.xs k) x (scOf hand hl rl) { σ with fuel := σ.fuel - 1 }) e223 w223 := by unfold opS; rw [hd1]; exact hq
   obtain ⟨ho, hP⟩ := hq; have PP := back223 _ _ hP; have ho2 := ho
   rcases outE_cases ho2 with ⟨v, _, rfl, hv⟩ | ⟨ch, rfl, _, _⟩
   ·skip
    have XX := hP.1
    refine After.ret (by kernel_rfl) ?_
    have sXX := XX.size
    refine S.dreads2 bodyPost_panicOk [11] 0 [] [6] (rs := []) (κ' := [(6, iV v)]) (l' := #[true, true, true, true, true, true, true, true, true, true, true, true]) (by kernel_rfl) (by kernel_rfl) (by kernel_rfl) (by kernel_rfl) (fun w' hw => rfl) ?_
    refine S.dend (by kernel_rfl) (sw2 (by kernel_rfl) XX) ?_
    exact S.ret1 (v := iV v) rfl (by kernel_rfl) ⟨ho, PP⟩
   · exact fun _ _ _ hd => ⟨hd, ho, PP⟩
  ·skip
   refine S.regEnd (by kernel_rfl) (S.seq (S.drawN 12 #[false, false, false, false, false, false, false, false, false, false, false, false] 10 (fun u u' => Ext E0 u u') (fun u u' => Xt n₀ [56, 43] u u') (by kernel_rfl) (by kernel_rfl) (by kernel_rfl) (fun w232 E232 z232 => ?_)))
   have sE232 := E232.size
   refine S.dreads bodyPost_panicOk [0, 1, 2, 4, 7] 7 [] [4, 5, 26, 28, 31] (rs := []) (κ' := [(4, pT b1), (5, pT b2), (26, .pointer (some ⟨rb, 6, none⟩)), (28, pT b1), (31, pT rb)]) (l' := #[true, true, true, false, true, false, false, true, false, false, false, false]) (by kernel_rfl) (by kernel_rfl) (by kernel_rfl) (fun _ _ => rfl) ?_
   have P234 := PS10.std (.of0 E232) (PS10.1.trans (.of0 E232))
   obtain ⟨les233, ⟨ea233, ec233, ka233, kc233, hR233⟩, back233⟩ := P234.open; have hrb233 := hR233.rb0
   refine S.dreads1 bodyPost_panicOk [3] 6 [6, 10] [.v (.map (some md))] [4, 5, 27, 28, 31] (rs := [.load ⟨rb, 6, none⟩ (.map (some md))]) (κ' := [(4, pT b1), (5, pT b2), (27, .map (some md)), (28, pT b1), (31, pT rb)]) (l' := #[true, true, true, true, true, false, false, true, false, false, false, false]) (by kernel_rfl) (by kernel_rfl) (by kernel_rfl) (by kernel_rfl) (fun w' hw => (.load ((hR233.blk.ext0 hw).cell 6 rfl) .nil)) ?_
   have B235 := B1.ext0 E2
   have B236 := B235.extT E9 hR3.blk (by decide)
   have B237 := B236.ext0 E232
   refine S.dreads bodyPost_panicOk [5] 5 [.v (iV x.d.1)] [4, 5, 27, 29, 31] (rs := [.load ⟨b1, 0, none⟩ (iV x.d.1)]) (κ' := [(4, pT b1), (5, pT b2), (27, .map (some md)), (29, iV x.d.1), (31, pT rb)]) (l' := #[true, true, true, true, true, true, false, true, false, false, false, false]) (by kernel_rfl) (by kernel_rfl) (by kernel_rfl) (fun w' hw => hw.elim (fun hw => (.load ((B237.ext0 hw).cell 0 rfl) .nil)) (fun hw => (.load ((B237.xt hw (by decide)).cell 0 rfl) .nil))) ?_
   refine S.dreads bodyPost_panicOk [8] 4 [.v (iV x.d.1), .v (iV x.d.2), .v (.slice x.a x.len x.cap)] [5, 27, 29, 31, 32] (rs := [.load ⟨b1, 0, none⟩ (iV x.d.1), .load ⟨b1, 1, none⟩ (iV x.d.2), .load ⟨b1, 2, none⟩ (.slice x.a x.len x.cap)]) (κ' := [(5, pT b2), (27, .map (some md)), (29, iV x.d.1), (31, pT rb), (32, .agg #[iV x.d.1, iV x.d.2, .slice x.a x.len x.cap])]) (l' := #[true, true, true, true, true, true, false, true, true, false, false, false]) (by kernel_rfl) (by kernel_rfl) (by kernel_rfl) (fun w' hw => hw.elim (fun hw => (.load ((B237.ext0 hw).cell 0 rfl) (.load ((B237.ext0 hw).cell 1 rfl) (.load ((B237.ext0 hw).cell 2 rfl) .nil)))) (fun hw => (.load ((B237.xt hw (by decide)).cell 0 rfl) (.load ((B237.xt hw (by decide)).cell 1 rfl) (.load ((B237.xt hw (by decide)).cell 2 rfl) .nil))))) ?_
   have B238 := B2.extT E9 hR3.blk (by decide)
   have B239 := B238.ext0 E232
   refine S.dreads bodyPost_panicOk [9] 3 [.v (iV hand), .v (.pointer (hp hl)), .v (.pointer (rp rl))] [27, 29, 31, 32, 33] (rs := [.load ⟨b2, 0, none⟩ (iV hand), .load ⟨b2, 1, none⟩ (.pointer (hp hl)), .load ⟨b2, 2, none⟩ (.pointer (rp rl))]) (κ' := [(27, .map (some md)), (29, iV x.d.1), (31, pT rb), (32, .agg #[iV x.d.1, iV x.d.2, .slice x.a x.len x.cap]), (33, .agg #[iV hand, .pointer (hp hl), .pointer (rp rl)])]) (l' := #[true, true, true, true, true, true, false, true, true, true, false, false]) (by kernel_rfl) (by kernel_rfl) (by kernel_rfl) (fun w' hw => hw.elim (fun hw => (.load ((B239.ext0 hw).cell 0 rfl) (.load ((B239.ext0 hw).cell 1 rfl) (.load ((B239.ext0 hw).cell 2 rfl) .nil)))) (fun hw => (.load ((B239.xt hw (by decide)).cell 0 rfl) (.load ((B239.xt hw (by decide)).cell 1 rfl) (.load ((B239.xt hw (by decide)).cell 2 rfl) .nil))))) ?_
   refine S.dlaw bodyPost_panicOk 6 30 2 (v := .func (.func 56) #[] #[]) (l' := #[true, true, true, true, true, true, true, true, true, true, false, false]) (by kernel_rfl) (by kernel_rfl) (by kernel_rfl) (by kernel_rfl) (fun w' hw => lawRun (s := Instr.lookup 53 (.map (some md)) (iV x.d.1) false) (by kernel_rfl) (hw.elim (fun hw => lookup_does (hR233.does.ext0 hw) (by rw [hd1]; rfl)) (fun hw => lookup_does (hR233.does.xt hw rfl) (by rw [hd1]; rfl)))) ?_
   refine S.dnext (j := 10) (l' := #[true, true, true, true, true, true, true, true, true, true, true, false]) (by kernel_rfl) (by kernel_rfl) (sw1 (by kernel_rfl) (Ext.refl _)) ?_
   obtain ⟨les240, hR240, back240⟩ := P234.open
   have hlen : x.len = 0 := by have hh := hwf.len; rw [hd1] at hh; have hh : (x.len : Int) = 0 := hh; omega
   have N241 := hS1.keeps (.of0 E1)
   have N242 := N241.keeps (.of0 E2)
   have N243 := N242.keeps (.ofS E9 hR3.blk (by decide) (by omega))
   have N244 := N243.keeps (.of0 E232)
   refine S.call (dst := some 34) (f := 56) (args := #[pT rb, .agg #[iV x.d.1, iV x.d.2, .slice x.a x.len x.cap], .agg #[iV hand, .pointer (hp hl), .pointer (rp rl)]]) (by kernel_rfl) (by kernel_rfl) ((op_find p n₀ rb md _ { σ with fuel := σ.fuel - 1 } les240 x hand hl rl hR240 (N244.mono (by omega) (by omega))).mono ?_)
   intro e240 w240 hq
   have hq : Post n₀ rb md p w232 les240 rl (opS p.xs (evalS p.xs k) x (scOf hand hl rl) { σ with fuel := σ.fuel - 1 }) e240 w240 := by unfold opS; rw [hd1]; exact hq
   obtain ⟨ho, hP⟩ := hq; have PP := back240 _ _ hP; have ho2 := ho
   rcases outE_cases ho2 with ⟨v, _, rfl, hv⟩ | ⟨ch, rfl, _, _⟩
   ·skip
    have XX := hP.1
    refine After.ret (by kernel_rfl) ?_
    have sXX := XX.size
    refine S.dreads2 bodyPost_panicOk [11] 0 [] [6] (rs := []) (κ' := [(6, iV v)]) (l' := #[true, true, true, true, true, true, true, true, true, true, true, true]) (by kernel_rfl) (by kernel_rfl) (by kernel_rfl) (by kernel_rfl) (fun w' hw => rfl) ?_
    refine S.dend (by kernel_rfl) (sw2 (by kernel_rfl) XX) ?_
    exact S.ret1 (v := iV v) rfl (by kernel_rfl) ⟨ho, PP⟩
   · exact fun _ _ _ hd => ⟨hd, ho, PP⟩
  ·skip
   refine S.regEnd (by kernel_rfl) (S.seq (S.drawN 12 #[false, false, false, false, false, false, false, false, false, false, false, false] 10 (fun u u' => Ext E0 u u') (fun u u' => Xt n₀ [56, 43] u u') (by kernel_rfl) (by kernel_rfl) (by kernel_rfl) (fun w245 E245 z245 => ?_)))
   have sE245 := E245.size
   refine S.dreads bodyPost_panicOk [0, 1, 2, 4, 7] 7 [] [4, 5, 26, 28, 31] (rs := []) (κ' := [(4, pT b1), (5, pT b2), (26, .pointer (some ⟨rb, 6, none⟩)), (28, pT b1), (31, pT rb)]) (l' := #[true, true, true, false, true, false, false, true, false, false, false, false]) (by kernel_rfl) (by kernel_rfl) (by kernel_rfl) (fun _ _ => rfl) ?_
   have P247 := PS10.std (.of0 E245) (PS10.1.trans (.of0 E245))
   obtain ⟨les246, ⟨ea246, ec246, ka246, kc246, hR246⟩, back246⟩ := P247.open; have hrb246 := hR246.rb0
   refine S.dreads1 bodyPost_panicOk [3] 6 [6, 10] [.v (.map (some md))] [4, 5, 27, 28, 31] (rs := [.load ⟨rb, 6, none⟩ (.map (some md))]) (κ' := [(4, pT b1), (5, pT b2), (27, .map (some md)), (28, pT b1), (31, pT rb)]) (l' := #[true, true, true, true, true, false, false, true, false, false, false, false]) (by kernel_rfl) (by kernel_rfl) (by kernel_rfl) (by kernel_rfl) (fun w' hw => (.load ((hR246.blk.ext0 hw).cell 6 rfl) .nil)) ?_
   have B248 := B1.ext0 E2
   have B249 := B248.extT E9 hR3.blk (by decide)
   have B250 := B249.ext0 E245
   refine S.dreads bodyPost_panicOk [5] 5 [.v (iV x.d.1)] [4, 5, 27, 29, 31] (rs := [.load ⟨b1, 0, none⟩ (iV x.d.1)]) (κ' := [(4, pT b1), (5, pT b2), (27, .map (some md)), (29, iV x.d.1), (31, pT rb)]) (l' := #[true, true, true, true, true, true, false, true, false, false, false, false]) (by kernel_rfl) (by kernel_rfl) (by kernel_rfl) (fun w' hw => hw.elim (fun hw => (.load ((B250.ext0 hw).cell 0 rfl) .nil)) (fun hw => (.load ((B250.xt hw (by decide)).cell 0 rfl) .nil))) ?_
   refine S.dreads bodyPost_panicOk [8] 4 [.v (iV x.d.1), .v (iV x.d.2), .v (.slice x.a x.len x.cap)] [5, 27, 29, 31, 32] (rs := [.load ⟨b1, 0, none⟩ (iV x.d.1), .load ⟨b1, 1, none⟩ (iV x.d.2), .load ⟨b1, 2, none⟩ (.slice x.a x.len x.cap)]) (κ' := [(5, pT b2), (27, .map (some md)), (29, iV x.d.1), (31, pT rb), (32, .agg #[iV x.d.1, iV x.d.2, .slice x.a x.len x.cap])]) (l' := #[true, true, true, true, true, true, false, true, true, false, false, false]) (by kernel_rfl) (by kernel_rfl) (by kernel_rfl) (fun w' hw => hw.elim (fun hw => (.load ((B250.ext0 hw).cell 0 rfl) (.load ((B250.ext0 hw).cell 1 rfl) (.load ((B250.ext0 hw).cell 2 rfl) .nil)))) (fun hw => (.load ((B250.xt hw (by decide)).cell 0 rfl) (.load ((B250.xt hw (by decide)).cell 1 rfl) (.load ((B250.xt hw (by decide)).cell 2 rfl) .nil))))) ?_
   have B251 := B2.extT E9 hR3.blk (by decide)
   have B252 := B251.ext0 E245
   refine S.dreads bodyPost_panicOk [9] 3 [.v (iV hand), .v (.pointer (hp hl)), .v (.pointer (rp rl))] [27, 29, 31, 32, 33] (rs := [.load ⟨b2, 0, none⟩ (iV hand), .load ⟨b2, 1, none⟩ (.pointer (hp hl)), .load ⟨b2, 2, none⟩ (.pointer (rp rl))]) (κ' := [(27, .map (some md)), (29, iV x.d.1), (31, pT rb), (32, .agg #[iV x.d.1, iV x.d.2, .slice x.a x.len x.cap]), (33, .agg #[iV hand, .pointer (hp hl), .pointer (rp rl)])]) (l' := #[true, true, true, true, true, true, false, true, true, true, false, false]) (by kernel_rfl) (by kernel_rfl) (by kernel_rfl) (fun w' hw => hw.elim (fun hw => (.load ((B252.ext0 hw).cell 0 rfl) (.load ((B252.ext0 hw).cell 1 rfl) (.load ((B252.ext0 hw).cell 2 rfl) .nil)))) (fun hw => (.load ((B252.xt hw (by decide)).cell 0 rfl) (.load ((B252.xt hw (by decide)).cell 1 rfl) (.load ((B252.xt hw (by decide)).cell 2 rfl) .nil))))) ?_
   refine S.dlaw bodyPost_panicOk 6 30 2 (v := .func (.func 57) #[] #[]) (l' := #[true, true, true, true, true, true, true, true, true, true, false, false]) (by kernel_rfl) (by kernel_rfl) (by kernel_rfl) (by kernel_rfl) (fun w' hw => lawRun (s := Instr.lookup 53 (.map (some md)) (iV x.d.1) false) (by kernel_rfl) (hw.elim (fun hw => lookup_does (hR246.does.ext0 hw) (by rw [hd1]; rfl)) (fun hw => lookup_does (hR246.does.xt hw rfl) (by rw [hd1]; rfl)))) ?_
   refine S.dnext (j := 10) (l' := #[true, true, true, true, true, true, true, true, true, true, true, false]) (by kernel_rfl) (by kernel_rfl) (sw1 (by kernel_rfl) (Ext.refl _)) ?_
   obtain ⟨les253, hR253, back253⟩ := P247.open
   have hlen : x.len = 2 := by have hh := hwf.len; rw [hd1] at hh; have hh : (x.len : Int) = 2 := hh; omega
   have N254 := hS1.keeps (.of0 E1)
   have N255 := N254.keeps (.of0 E2)
   have N256 := N255.keeps (.ofS E9 hR3.blk (by decide) (by omega))
   have N257 := N256.keeps (.of0 E245)
   have T258 := hx.pres (.of0 E1)
   have T259 := T258.pres (.of0 E2)
   have T260 := T259.pres (.ofS E9 (by omega))
   have T261 := T260.pres (.of0 E245)
   refine S.call (dst := some 34) (f := 57) (args := #[pT rb, .agg #[iV x.d.1, iV x.d.2, .slice x.a x.len x.cap], .agg #[iV hand, .pointer (hp hl), .pointer (rp rl)]]) (by kernel_rfl) (by kernel_rfl) ((op_guard p k IH hpw n₀ rb md _ { σ with fuel := σ.fuel - 1 } les253 x hand hl rl hR253 T261 hwf N257 (by show σ.fuel - 1 ≤ k; omega) hlen).mono ?_)
   intro e253 w253 hq
   have hq : Post n₀ rb md p w245 les253 rl (opS p.xs (evalS p.xs k) x (scOf hand hl rl) { σ with fuel := σ.fuel - 1 }) e253 w253 := by unfold opS; rw [hd1]; exact hq
   obtain ⟨ho, hP⟩ := hq; have PP := back253 _ _ hP; have ho2 := ho
   rcases outE_cases ho2 with ⟨v, _, rfl, hv⟩ | ⟨ch, rfl, _, _⟩
   ·skip
    have XX := hP.1
    refine After.ret (by kernel_rfl) ?_
    have sXX := XX.size
    refine S.dreads2 bodyPost_panicOk [11] 0 [] [6] (rs := []) (κ' := [(6, iV v)]) (l' := #[true, true, true, true, true, true, true, true, true, true, true, true]) (by kernel_rfl) (by kernel_rfl) (by kernel_rfl) (by kernel_rfl) (fun w' hw => rfl) ?_
    refine S.dend (by kernel_rfl) (sw2 (by kernel_rfl) XX) ?_
    exact S.ret1 (v := iV v) rfl (by kernel_rfl) ⟨ho, PP⟩
   · exact fun _ _ _ hd => ⟨hd, ho, PP⟩

/-- Evaluation, with whatever fuel. -/
theorem eval_all (p : LP) (hpw : ∀ y, y ∈ p.xs → WfX p.xs.length y) : ∀ k, EvalC p k
  | 0 => eval_zero p
  | k + 1 => eval_step p k (eval_all p hpw k) hpw

end Go.Proofs.Ytmgakpnejbembaa
