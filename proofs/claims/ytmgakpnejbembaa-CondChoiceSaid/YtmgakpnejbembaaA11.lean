/-
  CondChoice, a part of the proof (printed by a program of the prover): what functions of the given program compute, each under the conditions that its theorem names.
-/
import Derived.Test.YtmgakpnejbembaaA10
namespace Go.Proofs.Ytmgakpnejbembaa
open Go Go.Proofs.Ytmgakpnejbembaa.L

theorem run_rem {t : Nat} {x y : Int} {w : World} (hy : y ≠ 0) : (binOp .rem t (.int .i64 x) (.int .i64 y)).run Try.prog w = .ok (.int .i64 (x.tmod y)) w := by simp [binOp_rem, Op.intDiv, hy]
theorem rem_nat {q : Int} {n : Nat} (hq : 0 ≤ q) (hn : 0 < n) : ∃ j : Nat, j < n ∧ q.tmod (n : Int) = ((j : Nat) : Int) ∧ (q % (n : Int)).toNat = j := by
  have h1 := Int.emod_nonneg q (show (n : Int) ≠ 0 by omega)
  have h2 := Int.emod_lt_of_pos q (show (0 : Int) < n by omega)
  refine ⟨(q % (n : Int)).toNat, by omega, ?_, rfl⟩
  rw [Int.tmod_eq_emod_of_nonneg hq]; omega
theorem run_tail {a : Option Addr} {len cap : Nat} {w : World} {n : Nat} {q : Int} {qs : List Int} (hl : len = qs.length + 1) (hc : len ≤ cap) (hr : Row n 0 1 intCs w a (q :: qs)) :
    ∃ a', (Instr.sliceAt 23 (.slice a len cap) (some (.int .i64 1)) none none).run Try.prog w = .ok (.slice a' qs.length (cap - 1)) w ∧ Row n 0 1 intCs w a' qs := by
  obtain ⟨b, off, rfl, -⟩ := hr 0 q rfl
  refine ⟨if cap = 1 then some ⟨b, off, none⟩ else some ⟨b, off + 1, none⟩, ?_, ?_⟩
  · rw [run_sliceAt_slice (P := Try.prog) w 23 _ _ _ _ (by kernel_rfl), run_slice_l (P := Try.prog) w 23 _ len cap (by kernel_rfl) .i64 1 (by omega) (by omega)]
    have : (sizeOf (Try.prog.elem 23)).run Try.prog w = .ok 1 w := by kernel_rfl
    rw [this]
    simp only [Result.andThen_ok, sliced, Int.toNat_one, hl, Nat.add_sub_cancel]
    split <;> simp [addr_add]
  · split
    · have : qs = [] := List.eq_nil_of_length_eq_zero (by omega)
      subst this
      exact Row.nil
    · intro i x hx
      obtain ⟨b', off', h1, h2⟩ := hr (i + 1) x (by simpa using hx)
      simp only [Option.some.injEq, Addr.mk.injEq] at h1
      obtain ⟨rfl, rfl, -⟩ := h1
      exact ⟨_, _, rfl, by rw [show off + 1 + i * 1 = off + (i + 1) * 1 by omega]; exact h2⟩
theorem RC.at {n : Nat} {w : World} : ∀ {l : List RR} {j : Nat} {h : RR}, RC n w l → l[j]? = some h → ∃ q, Blk w h.1 [.pointer q, .int .i64 h.2] 117
  | [], _, _, _, h => by simp at h
  | a :: r, 0, h, hc, hx => by
    simp only [List.getElem?_cons_zero, Option.some.injEq] at hx
    subst hx
    exact ⟨_, hc.1⟩
  | a :: r, j + 1, h, hc, hx => RC.at hc.2.2 (by simpa using hx)
theorem rev_get {l : List RR} {j : Nat} {h : RR} (hx : l[j]? = some h) : l.reverse[l.length - 1 - j]? = some h := by
  have hj := (List.getElem?_eq_some_iff.1 hx).1
  rw [List.getElem?_reverse (by omega), show l.length - 1 - (l.length - 1 - j) = j by omega]
  exact hx
theorem ScOk.picks {b : Int} {n₀ N E : Nat} {w : World} {hand : Int} {hl : List H} {rl : List RR} {σ : RSt} {qs : List Int} (h : ScOk b n₀ N E w hand hl rl σ) : ScOk b n₀ N E w hand hl rl { σ with picks := qs } := ⟨h.hc, h.rc, h.wf, h.rg, h.h1, h.r1, h.ev⟩
def rCs (h : RR) : List Value := [.pointer (some ⟨h.1, 0, none⟩)]

theorem AppendSeq_spec (n₀ bx : Nat) (rl : List RR) (w : World) (hB : Blk w bx [.pointer (rp rl)] 92) (hC : RC n₀ w rl) (hnb : n₀ ≤ bx) (hb : rl.length ≤ 1000) :
    Calls Try.prog 90 #[.slice none 0 0, .func (.func 91) #[] #[pT bx]] w (fun e w' => ∃ ra rc, e = .returned (.slice ra rl.length rc) ∧ Xt bx [108, 92] w w' ∧ Row w'.heap.size 92 1 rCs w' ra rl) := by
 refine calls_of_SM (n := 13) Try.func90 rfl rfl (by kernel_rfl) ?_
 have hlt := hB.lt
 refine S.seq (S.region (S.one (by kernel_rfl) (S.new 2 [.slice none 0 0] 108 (fun b => pT b) (by kernel_rfl) (by kernel_rfl) (fun b => by kernel_rfl) (fun b1 w1 E1 B1 e1 z1 => ?_))))
 have sE1 := E1.size
 refine S.run 1 [] [1, 2] (rs := []) (κ' := [(1, .func (.func 91) #[] #[pT bx]), (2, pT b1)]) (by kernel_rfl) (by kernel_rfl) rfl ?_
 refine S.regEnd (by kernel_rfl) (S.seq (S.seq (S.region (S.run 1 [] [2, 6] (rs := []) (κ' := [(2, pT b1), (6, .func (.func 91) #[] #[pT bx])]) (by kernel_rfl) (by kernel_rfl) rfl ?_))))
 refine S.regEnd (by kernel_rfl) (S.block (S.range (gf := 91) (lb := #[.pointer (some ⟨bx, 0, none⟩)]) rfl (by kernel_rfl) (fun l => by kernel_rfl) (fun d2 l2 w2 r2 E2 ed2 el2 z2 hD2 hL2 hst2 hpe2 hn2 hk2 hpar2 hass2 hbod2 => ?_)))
 rw [show (#[.func (.yield l2) #[] #[]] ++ #[.pointer (some ⟨bx, 0, none⟩)] : Array Value) = #[.func (.yield l2) #[] #[], .pointer (some ⟨bx, 0, none⟩)] from by kernel_rfl]
 have sE2 := E2.size
 have B3 := hB.ext0 E1
 have B4 := B3.ext0 E2
 have N5 := hC.keeps (.of0 E1)
 have N6 := N5.keeps (.of0 E2)
 have B7 := B1.ext0 E2
 refine restarts_iter _ bx (.func (.yield l2) #[] #[]) (fun (r' : List RR) wj => ∃ dn, ∃ ra, ∃ rc, Xt bx [108, 92] w1 wj ∧ LoopAt wj l2 r2 ∧ ObjAt wj d2 (.deferred (some [])) ∧ rl = dn ++ r' ∧ Blk wj b1 [.slice ra dn.length rc] 108 ∧ OwnR w.heap.size 92 1 wj ra dn.length rc (dn.flatMap rCs)) _ rl _ B4 N6 (by omega) ⟨[], none, 0, (Xt.of0 E2), hL2.obj, hD2, rfl, B7, OwnR.nil _ _ _ _⟩ ?_ ?_ ?_
 ·skip
  rintro r' wa2 wb cs ⟨dn, ra, rc, Ej2, hLj2, hDj2, i2_0, i2_1, i2_2⟩ hBx hEx
  have sEj2 := Ej2.size
  have shEx := hEx.size
  have O8 := hLj2.obj.extB hEx hBx rfl
  have O9 := hDj2.extB hEx hBx rfl
  have B10 := i2_1.extT hEx hBx (by decide)
  have U11 := i2_2.ofB hEx (by omega)
  exact ⟨dn, ra, rc, Ej2.trans (Xt.ofS hEx hBx (by decide) (by omega)), O8, O9, i2_0, B10, U11⟩
 ·skip
  rintro h r' wa2 ⟨dn, ra, rc, Ej2, hLj2, hDj2, i2_0, i2_1, i2_2⟩ hCa hBa
  have sEj2 := Ej2.size
  refine rStep0_le (S.round (κ₁ := [(2, pT b1), (5, pT h.1)]) hLj2 hst2 (.inr (fun _ _ h => h)) hn2 hk2 hpar2 hass2 hbod2 rfl (by kernel_rfl) ?_ ?_)
  · refine S.region (S.run (κ' := [(2, pT b1), (5, pT h.1)]) 1 [] [2, 5] (rs := []) (by kernel_rfl) (by kernel_rfl) rfl (S.regEnd (by kernel_rfl) (S.stop (fun _ hs hh hd => ⟨rfl, hs, hh, hd⟩))))
  intro w12 E12 z12 hL12
  have sE12 := E12.size
  have hlen := congrArg List.length i2_0
  simp only [List.length_append, List.length_cons] at hlen
  refine S.block (S.region ?_)
  have B13 := i2_1.extO E12 hLj2.obj rfl
  refine S.run 2 [.v (.slice ra dn.length rc)] [2, 8, 9] (rs := [.load ⟨b1, 0, none⟩ (.slice ra dn.length rc)]) (κ' := [(2, pT b1), (8, .slice ra dn.length rc), (9, pT h.1)]) (by kernel_rfl) (by kernel_rfl) (.load (B13.cell 0 rfl) .nil) ?_
  refine S.one (by kernel_rfl) (S.new 10 [pT h.1] 92 (fun b => .slice (some ⟨b, 0, none⟩) 1 1) (by kernel_rfl) (by kernel_rfl) (fun b => by kernel_rfl) (fun b14 w14 E14 B14 e14 z14 => ?_))
  have sE14 := E14.size
  have U15 := i2_2.pres (fun _ => .ofO E12 hLj2.obj rfl)
  have U16 := U15.pres (fun _ => .of0 E14)
  refine S.one (by kernel_rfl) (S.append 11 (t := 108) (ty := 108) (e := 92) (base := w.heap.size) (size := 1) (bytes := 8) (m := dn.length) (m' := 1) (c := 1) U16 B14 (by kernel_rfl) (by kernel_rfl) (by kernel_rfl) (by kernel_rfl) (by kernel_rfl) (by kernel_rfl) (by omega) (by omega) (by omega) (fun a17 c17 w17 E17 U17 => ?_))
  have sE17 := E17.size
  have B18 := B13.ext0 E14
  have B19 := B18.xt E17 (by decide)
  refine S.one (by kernel_rfl) (S.store 0 [.slice a17 (dn.length + 1) c17] [.slice a17 (dn.length + 1) c17] B19 (by kernel_rfl) (by kernel_rfl) (by kernel_rfl) (by kernel_rfl) (by kernel_rfl) (fun w20 E20 B20 z20 => ?_))
  have sE20 := E20.size
  refine S.regEnd (by kernel_rfl) (S.out ?_)
  have O21 := hL12.obj.ext0 E14
  have O22 := O21.xt E17 rfl
  have O23 := O22.extB E20 B19 rfl
  refine S.fin (fun _ _ _ _ => round_go hst2 hpe2 O23 (fun w24 E24 z24 hL24 => ?_))
  have sE24 := E24.size
  have N25 := hCa.keeps (.ofO E12 hLj2.obj rfl (by omega))
  have N26 := N25.keeps (.of0 E14)
  have N27 := N26.keeps (.ofX E17 (by decide) (by omega))
  have N28 := N27.keeps (.ofS E20 B19 (by decide) (by omega))
  have N29 := N28.keeps (.ofO E24 O23 rfl (by omega))
  have B30 := hBa.extO E12 hLj2.obj rfl
  have B31 := B30.ext0 E14
  have B32 := B31.xtn E17 (by omega)
  have B33 := B32.extT E20 B19 (by decide)
  have B34 := B33.extO E24 O23 rfl
  have O35 := hDj2.extS E12 (by omega)
  have O36 := O35.ext0 E14
  have O37 := O36.xt E17 rfl
  have O38 := O37.extB E20 B19 rfl
  have O39 := O38.extS E24 (by omega)
  have B40 := B20.extO E24 O23 rfl
  have U41 := U17.pres (fun _ => .ofE E20 B19 (by decide))
  have U42 := U41.pres (fun _ => .ofO E24 O23 rfl)
  exact .inl ⟨rfl, ⟨(dn ++ [h]), a17, c17, ((((Ej2.ofO E12 (by omega)).trans (Xt.of0 E14)).trans (E17.mono (by omega) (by decide))).trans (Xt.ofS E20 B19 (by decide) (by omega))).ofO E24 (by omega), hL24.obj, O39, (by rw [i2_0]; simp), (by rw [List.length_append]; exact B40), (by rw [List.length_append]; exact OwnR.snoc U42)⟩, N29, B34⟩
 ·skip
  rintro wa2 ⟨dn, ra, rc, Ej2, hLj2, hDj2, i2_0, i2_1, i2_2⟩ -
  have sEj2 := Ej2.size
  refine after_go hLj2 hst2 hpe2 (fun w43 E43 z43 => ?_)
  have sE43 := E43.size
  refine S.out (S.seq (S.region ?_))
  have B44 := i2_1.extO E43 hLj2.obj rfl
  refine S.run 2 [.v (.slice ra dn.length rc)] [4] (rs := [.load ⟨b1, 0, none⟩ (.slice ra dn.length rc)]) (κ' := [(4, .slice ra dn.length rc)]) (by kernel_rfl) (by kernel_rfl) (.load (B44.cell 0 rfl) .nil) ?_
  refine S.regEnd (by kernel_rfl) ?_
  have O45 := hDj2.extS E43 (by omega)
  have heq := i2_0; rw [List.append_nil] at heq; subst heq
  have U46 := i2_2.pres (fun _ => .ofO E43 hLj2.obj rfl)
  refine S.retM1 O45 (A := []) (rs := []) (v := .slice ra rl.length rc) (fun _ => by kernel_rfl) (fun w9 E9 z9 => ⟨rfl, ra, rc, rfl, (((Xt.of0 E1).trans Ej2).ofO E43 (by omega)).ofO E9 (by omega), ?_⟩)
  exact OwnR.row (U46.pres (fun _ => .ofO E9 O45 rfl)) (fun _ => rfl) (by omega)

theorem Collect_spec (n₀ bx : Nat) (rl : List RR) (w : World) (hB : Blk w bx [.pointer (rp rl)] 92) (hC : RC n₀ w rl) (hnb : n₀ ≤ bx) (hb : rl.length ≤ 1000) :
    Calls Try.prog 72 #[.func (.func 91) #[] #[pT bx]] w (fun e w' => ∃ ra rc, e = .returned (.slice ra rl.length rc) ∧ Xt bx [108, 92] w w' ∧ Row w'.heap.size 92 1 rCs w' ra rl) := by
 refine calls_of_S (n := 5) Try.func72 rfl rfl (by kernel_rfl) ?_
 refine S.seq (S.region (S.run 1 [] [0] (rs := []) (κ' := [(0, .func (.func 91) #[] #[pT bx])]) (by kernel_rfl) (by kernel_rfl) rfl ?_))
 refine S.regEnd (by kernel_rfl) (S.seq (S.region (S.run 1 [] [3] (rs := []) (κ' := [(3, .func (.func 91) #[] #[pT bx])]) (by kernel_rfl) (by kernel_rfl) rfl ?_)))
 refine S.one (by kernel_rfl) (S.call (dst := some 4) (f := 90) (args := #[.slice none 0 0, .func (.func 91) #[] #[pT bx]]) (by kernel_rfl) (by kernel_rfl) ((AppendSeq_spec n₀ bx rl w hB hC hnb hb).mono ?_))
 rintro _ w1 ⟨ra, rc, rfl, X1, hrow⟩
 refine After.ret (by kernel_rfl) ?_
 have sX1 := X1.size
 refine S.run 1 [] [2] (rs := []) (κ' := [(2, .slice ra rl.length rc)]) (by kernel_rfl) (by kernel_rfl) rfl ?_
 exact S.regEnd (by kernel_rfl) (S.ret1 (v := .slice ra rl.length rc) rfl (by kernel_rfl) ⟨ra, rc, rfl, X1, hrow⟩)

theorem op_fails (p : LP) (k : Nat) (IH : EvalC p k) (hpw : ∀ y, y ∈ p.xs → WfX p.xs.length y) (n₀ rb md : Nat) (w : World) (σ : RSt) (les : List LE) (x : X) (hand : Int) (hl : List H) (rl : List RR) (hR : RunE n₀ rb md p w σ les) (hx : XOk n₀ w x) (hwf : WfX p.xs.length x) (hS : ScOk p.xs.length n₀ 899 4992 w hand hl rl σ) (hk : σ.fuel ≤ k) (hlen : x.len = 1) :
    Calls Try.prog 52 #[pT rb, .agg #[iV x.d.1, iV x.d.2, .slice x.a x.len x.cap], .agg #[iV hand, .pointer (hp hl), .pointer (rp rl)]] w (Post n₀ rb md p w les rl (failsS (evalS p.xs k) x (scOf hand hl rl) σ)) := by
 refine calls_of_S (n := 65) Try.func52 rfl rfl (by kernel_rfl) ?_
 have hev0 := hS.ev; have hh0 := hS.h1; have hr0 := hS.r1; have hrg := hS.rg; have P0 := RunP.refl hR; have hn0 := P0.n0
 have hkl := hx.len
 refine S.seq (S.region (S.one (by kernel_rfl) (S.new 4 [iV x.d.1, iV x.d.2, .slice x.a x.len x.cap] 60 (fun b => pT b) (by kernel_rfl) (by kernel_rfl) (fun b => by kernel_rfl) (fun b1 w1 E1 B1 e1 z1 => ?_))))
 have sE1 := E1.size
 refine S.one (by kernel_rfl) (S.new 5 [iV hand, .pointer (hp hl), .pointer (rp rl)] 94 (fun b => pT b) (by kernel_rfl) (by kernel_rfl) (fun b => by kernel_rfl) (fun b2 w2 E2 B2 e2 z2 => ?_))
 have sE2 := E2.size
 refine S.run 1 [] [0, 4, 5] (rs := []) (κ' := [(0, pT rb), (4, pT b1), (5, pT b2)]) (by kernel_rfl) (by kernel_rfl) rfl ?_
 refine S.regEnd (by kernel_rfl) (S.seq (S.drawN 8 #[false, false, false, false, false, false, false, false] 6 (fun u u' => Ext E0 u u') (fun u u' => Xt n₀ [56, 43] u u') (by kernel_rfl) (by kernel_rfl) (by kernel_rfl) (fun w3 E3 z3 => ?_)))
 have sE3 := E3.size
 refine S.dreads bodyPost_panicOk [0, 1] 6 [] [0, 4, 5, 10, 11] (rs := []) (κ' := [(0, pT rb), (4, pT b1), (5, pT b2), (10, pT rb), (11, .pointer (some ⟨b1, 2, none⟩))]) (l' := #[true, true, false, false, false, false, false, false]) (by kernel_rfl) (by kernel_rfl) (by kernel_rfl) (fun _ _ => rfl) ?_
 have B4 := B1.ext0 E2
 have B5 := B4.ext0 E3
 refine S.dreads bodyPost_panicOk [2] 5 [.v (.slice x.a x.len x.cap)] [0, 4, 5, 10, 12] (rs := [.load ⟨b1, 2, none⟩ (.slice x.a x.len x.cap)]) (κ' := [(0, pT rb), (4, pT b1), (5, pT b2), (10, pT rb), (12, .slice x.a x.len x.cap)]) (l' := #[true, true, true, false, false, false, false, false]) (by kernel_rfl) (by kernel_rfl) (by kernel_rfl) (fun w' hw => hw.elim (fun hw => (.load ((B5.ext0 hw).cell 2 rfl) .nil)) (fun hw => (.load ((B5.xt hw (by decide)).cell 2 rfl) .nil))) ?_
 have B6 := B2.ext0 E3
 refine S.dreads bodyPost_panicOk [5] 4 [.v (iV hand), .v (.pointer (hp hl)), .v (.pointer (rp rl))] [0, 4, 5, 10, 12, 15] (rs := [.load ⟨b2, 0, none⟩ (iV hand), .load ⟨b2, 1, none⟩ (.pointer (hp hl)), .load ⟨b2, 2, none⟩ (.pointer (rp rl))]) (κ' := [(0, pT rb), (4, pT b1), (5, pT b2), (10, pT rb), (12, .slice x.a x.len x.cap), (15, .agg #[iV hand, .pointer (hp hl), .pointer (rp rl)])]) (l' := #[true, true, true, false, false, true, false, false]) (by kernel_rfl) (by kernel_rfl) (by kernel_rfl) (fun w' hw => hw.elim (fun hw => (.load ((B6.ext0 hw).cell 0 rfl) (.load ((B6.ext0 hw).cell 1 rfl) (.load ((B6.ext0 hw).cell 2 rfl) .nil)))) (fun hw => (.load ((B6.xt hw (by decide)).cell 0 rfl) (.load ((B6.xt hw (by decide)).cell 1 rfl) (.load ((B6.xt hw (by decide)).cell 2 rfl) .nil))))) ?_
 have R7 := hx.row.pres (.of0 E1)
 have R8 := R7.pres (.of0 E2)
 have R9 := R8.pres (.of0 E3)
 obtain ⟨x10, b10, o10, hx10, h10, H10⟩ := R9.get 0 (by omega)
 have T11 := hx.pres (.of0 E1)
 have T12 := T11.pres (.of0 E2)
 have T13 := T12.pres (.of0 E3)
 have K10 := T13.kid (List.mem_of_getElem? hx10)
 have W10 := hwf.kid (List.mem_of_getElem? hx10)
 have hkid10 := kid_eq hx10
 refine S.dlaw bodyPost_panicOk 3 13 3 (v := .pointer (some ⟨b10, o10 + 0 * 3, none⟩)) (l' := #[true, true, true, true, false, true, false, false]) (by kernel_rfl) (by kernel_rfl) (by kernel_rfl) (by kernel_rfl) (fun w' hw => lawRun (s := Instr.indexAt 22 (.slice x.a x.len x.cap) (.int .i64 ((0 : Nat) : Int))) (by kernel_rfl) (run_idx (e := 60) 0 h10 (by kernel_rfl) (by kernel_rfl) (by omega))) ?_
 refine S.dreads bodyPost_panicOk [4] 2 [.v (iV x10.d.1), .v (iV x10.d.2), .v (.slice x10.a x10.len x10.cap)] [0, 4, 5, 10, 14, 15] (rs := [.load ⟨b10, o10 + 0 * 3, none⟩ (iV x10.d.1), .load ⟨b10, o10 + 0 * 3 + 1, none⟩ (iV x10.d.2), .load ⟨b10, o10 + 0 * 3 + 2, none⟩ (.slice x10.a x10.len x10.cap)]) (κ' := [(0, pT rb), (4, pT b1), (5, pT b2), (10, pT rb), (14, .agg #[iV x10.d.1, iV x10.d.2, .slice x10.a x10.len x10.cap]), (15, .agg #[iV hand, .pointer (hp hl), .pointer (rp rl)])]) (l' := #[true, true, true, true, true, true, false, false]) (by kernel_rfl) (by kernel_rfl) (by kernel_rfl) (fun w' hw => hw.elim (fun hw => (.load ((H10.pres (.of0 hw)).cell0 rfl) (.load ((H10.pres (.of0 hw)).cell 1 rfl) (.load ((H10.pres (.of0 hw)).cell 2 rfl) .nil)))) (fun hw => (.load ((H10.pres (.ofXn hw (by omega))).cell0 rfl) (.load ((H10.pres (.ofXn hw (by omega))).cell 1 rfl) (.load ((H10.pres (.ofXn hw (by omega))).cell 2 rfl) .nil))))) ?_
 refine S.dnext (j := 6) (l' := #[true, true, true, true, true, true, true, false]) (by kernel_rfl) (by kernel_rfl) (sw1 (by kernel_rfl) (Ext.refl _)) ?_
 have P15 := P0.std (.of0 E1) (P0.1.trans (.of0 E1))
 have P16 := P15.std (.of0 E2) (P15.1.trans (.of0 E2))
 have P17 := P16.std (.of0 E3) (P16.1.trans (.of0 E3))
 obtain ⟨les14, hR14, back14⟩ := P17.open
 have N18 := hS.keeps (.of0 E1)
 have N19 := N18.keeps (.of0 E2)
 have N20 := N19.keeps (.of0 E3)
 refine S.call (dst := some 16) (f := 59) (args := #[pT rb, .agg #[iV x10.d.1, iV x10.d.2, .slice x10.a x10.len x10.cap], .agg #[iV hand, .pointer (hp hl), .pointer (rp rl)]]) (by kernel_rfl) (by kernel_rfl) ((IH n₀ rb md _ σ les14 x10 hand hl rl hR14 K10 W10 ((N20.next (E' := 5000) hrg (by omega) (by omega)).mono (by omega) (Nat.le_refl _)) (by omega)).mono ?_)
 rintro e14 w14 ⟨ho14, hP14⟩
 have PP14 : RunP n₀ rb md p w w14 les (evalS p.xs k x10 (scOf hand hl rl) σ).2 := back14 _ _ hP14; have X14 := hP14.1; have hfin14 : Fin 0 1 σ (evalS p.xs k x10 (scOf hand hl rl) σ) := fin_eval p.xs k _ _ _; have ho14 : OutE rl (evalS p.xs k x10 (scOf hand hl rl) σ).1 e14 := ho14; have hP14 : RunP n₀ rb md p w3 w14 les14 (evalS p.xs k x10 (scOf hand hl rl) σ).2 := hP14
 rcases hr14 : evalS p.xs k x10 (scOf hand hl rl) σ with ⟨o14, σ14⟩
 rw [hr14] at ho14 PP14 hfin14 hP14
 have PQ14 : RunP n₀ rb md p w w14 les σ14 := PP14; have hq14 : OutE rl o14 e14 := ho14; have PR14 : RunP n₀ rb md p w3 w14 les14 σ14 := hP14
 clear PP14 ho14 hP14
 rcases outE_cases hq14 with ⟨v14, rfl, rfl, hv14⟩ | ⟨ch, rfl, hb14, hn14⟩
 ·skip
  have hf14 := hfin14.val
  refine After.ret (by kernel_rfl) ?_
  have sX14 := X14.size
  refine S.dreads2 bodyPost_panicOk [7] 0 [] [0, 4, 5, 7] (rs := []) (κ' := [(0, pT rb), (4, pT b1), (5, pT b2), (7, iV v14)]) (l' := #[true, true, true, true, true, true, true, true]) (by kernel_rfl) (by kernel_rfl) (by kernel_rfl) (by kernel_rfl) (fun w' hw => rfl) ?_
  refine S.dend (by kernel_rfl) (sw2 (by kernel_rfl) X14) ?_
  refine S.seq (S.region ?_)
  have B21 := B2.ext0 E3
  have B22 := B21.xt X14 (by decide)
  have B23 := B1.ext0 E2
  have B24 := B23.ext0 E3
  have B25 := B24.xt X14 (by decide)
  refine S.run 5 [.v (iV hand), .v (.pointer (hp hl)), .v (.pointer (rp rl)), .v (iV x.d.2)] [0, 5, 7, 17, 18, 20, 21] (rs := [.load ⟨b2, 0, none⟩ (iV hand), .load ⟨b2, 1, none⟩ (.pointer (hp hl)), .load ⟨b2, 2, none⟩ (.pointer (rp rl)), .load ⟨b1, 1, none⟩ (iV x.d.2)]) (κ' := [(0, pT rb), (5, pT b2), (7, iV v14), (17, pT rb), (18, .agg #[iV hand, .pointer (hp hl), .pointer (rp rl)]), (20, iV x.d.2), (21, iV v14)]) (by kernel_rfl) (by kernel_rfl) (.load (B22.cell 0 rfl) (.load (B22.cell 1 rfl) (.load (B22.cell 2 rfl) (.load (B25.cell 1 rfl) .nil)))) ?_
  obtain ⟨les26, hR26, back26⟩ := PQ14.open
  have N27 := N20.keeps (.ofX X14 (by decide) (by omega))
  refine S.one (by kernel_rfl) (S.call (dst := some 22) (f := 71) (args := #[pT rb, .agg #[iV hand, .pointer (hp hl), .pointer (rp rl)], iV x.d.2, iV v14]) (by kernel_rfl) (by kernel_rfl) ((raise_spec p k IH n₀ rb md _ σ14 les26 hand hl rl hR26 ((N27.next (E' := 4996) hrg (by omega) (by omega)).mono (by omega) (Nat.le_refl _)) (by omega) x.d.2 v14 hv14).mono ?_))
  rintro e26 w26 ⟨ho26, hP26⟩
  have PP26 : RunP n₀ rb md p w w26 les (raiseS (evalS p.xs k) (scOf hand hl rl) x.d.2 v14 σ14).2 := back26 _ _ hP26; have X26 := hP26.1; have hfin26 : Fin 2 0 σ14 (raiseS (evalS p.xs k) (scOf hand hl rl) x.d.2 v14 σ14) := fin_raise (fin_eval p.xs k) _ _ _ _; clear hP26
  rcases hr26 : raiseS (evalS p.xs k) (scOf hand hl rl) x.d.2 v14 σ14 with ⟨o26, σ26⟩
  rw [hr26] at ho26 PP26 hfin26
  have PQ26 : RunP n₀ rb md p w w26 les σ26 := PP26; have hq26 : OutU rl o26 e26 := ho26
  clear PP26 ho26
  rcases outU_cases hq26 with ⟨v26, rfl, rfl⟩ | ⟨ch, rfl, o', hq', hn26, hb26⟩
  ·skip
   have hf26 := hfin26.val
   refine After.ret (by kernel_rfl) ?_
   have sX26 := X26.size
   refine S.regEnd (by kernel_rfl) (S.seq (S.region ?_))
   have B28 := B22.xt X26 (by decide)
   refine S.run 2 [.v (.pointer (rp rl))] [0, 5, 7, 24] (rs := [.load ⟨b2, 2, none⟩ (.pointer (rp rl))]) (κ' := [(0, pT rb), (5, pT b2), (7, iV v14), (24, .pointer (rp rl))]) (by kernel_rfl) (by kernel_rfl) (.load (B28.cell 2 rfl) .nil) ?_
   refine S.one (by kernel_rfl) (S.call (dst := some 25) (f := 73) (args := #[.pointer (rp rl)]) (by kernel_rfl) (by kernel_rfl) ((restarts_spec rl _).mono ?_))
   rintro _ w29 ⟨E29, b29, e29, z29, B29, rfl⟩
   refine After.ret (by kernel_rfl) ?_
   have sE29 := E29.size
   have N31 := hS.rc.keeps (.of0 E1)
   have N32 := N31.keeps (.of0 E2)
   have N33 := N32.keeps (.of0 E3)
   have N34 := N33.keeps (.ofX X14 (by decide) (by omega))
   have N35 := N34.keeps (.ofX X26 (by decide) (by omega))
   have N36 := N35.keeps (.of0 E29)
   refine S.one (by kernel_rfl) (S.call (dst := some 26) (f := 72) (args := #[.func (.func 91) #[] #[pT b29]]) (by kernel_rfl) (by kernel_rfl) ((Collect_spec n₀ b29 rl _ B29 N36 (by omega) (by omega)).mono ?_))
   rintro _ w30 ⟨ra, rc, rfl, X30, hrow⟩
   refine After.ret (by kernel_rfl) ?_
   have sX30 := X30.size
   refine S.run 1 [] [0, 5, 7, 8] (rs := []) (κ' := [(0, pT rb), (5, pT b2), (7, iV v14), (8, .slice ra rl.length rc)]) (by kernel_rfl) (by kernel_rfl) rfl ?_
   refine S.regEnd (by kernel_rfl) (S.seq (S.seq (S.region ?_)))
   have P38 := PQ26.std (.of0 E29) (PQ26.1.trans (.of0 E29))
   have P39 := P38.std (.ofX X30 (by decide) (by omega)) (P38.1.thenY X30 (by omega))
   obtain ⟨les37, ⟨ea37, ec37, ka37, kc37, hR37⟩, back37⟩ := P39.open; have hrb37 := hR37.rb0
   refine S.run 7 [.v (.slice ka37 σ26.picks.length kc37)] [0, 5, 7, 8, 33] (rs := [.load ⟨rb, 5, none⟩ (.slice ka37 σ26.picks.length kc37)]) (κ' := [(0, pT rb), (5, pT b2), (7, iV v14), (8, .slice ra rl.length rc), (33, .bool (((σ26.picks.length : Nat) : Int) == 0))]) (by kernel_rfl) (by kernel_rfl) (.load (hR37.blk.cell 5 rfl) .nil) ?_
   refine S.both 33 (((σ26.picks.length : Nat) : Int) == 0) (by kernel_rfl) (fun c40 => ?_) (fun c40 => ?_)
   ·skip
    have p41 : ((σ26.picks.length : Nat) : Int) = 0 := by simpa using c40
    refine S.run 4 [] [0, 5, 7, 8, 37] (rs := []) (κ' := [(0, pT rb), (5, pT b2), (7, iV v14), (8, .slice ra rl.length rc), (37, .bool true)]) (by kernel_rfl) (by kernel_rfl) rfl ?_
    refine S.regEnd (by kernel_rfl) (S.yes (by kernel_rfl) (S.region (S.run 2 [] [0, 5, 7, 8, 39] (rs := []) (κ' := [(0, pT rb), (5, pT b2), (7, iV v14), (8, .slice ra rl.length rc), (39, .iface 90 (.agg #[iV 2]))]) (by kernel_rfl) (by kernel_rfl) rfl ?_)))
    refine S.one (by kernel_rfl) (S.panics (dst := none) (v := .iface 90 (.agg #[iV 2])) (by kernel_rfl) (by kernel_rfl) ?_)
    have hp0 : σ26.picks = [] := List.eq_nil_of_length_eq_zero (by omega)
    have hs : (failsS (evalS p.xs k) x (scOf hand hl rl) σ : Res Int) = (.stop 2, σ26) := by
      simp only [failsS, hkid10, hr14, hr26, bnd_val]
      simp only [hp0]
    exact fun _ _ _ hd => ⟨hd, by rw [hs]; exact ⟨⟨[], fun e he => by simp at he, rfl⟩, P39⟩⟩
   ·skip
    have p42 : ((σ26.picks.length : Nat) : Int) ≠ 0 := by simpa using c40
    refine S.run 4 [] [0, 5, 7, 8, 37] (rs := []) (κ' := [(0, pT rb), (5, pT b2), (7, iV v14), (8, .slice ra rl.length rc), (37, .bool (((rl.length : Nat) : Int) == 0))]) (by kernel_rfl) (by kernel_rfl) rfl ?_
    refine S.regEnd (by kernel_rfl) (S.both 37 (((rl.length : Nat) : Int) == 0) (by kernel_rfl) (fun c43 => ?_) (fun c43 => ?_))
    ·skip
     have p44 : ((rl.length : Nat) : Int) = 0 := by simpa using c43
     refine S.yes (by kernel_rfl) (S.region (S.run 2 [] [0, 5, 7, 8, 39] (rs := []) (κ' := [(0, pT rb), (5, pT b2), (7, iV v14), (8, .slice ra rl.length rc), (39, .iface 90 (.agg #[iV 2]))]) (by kernel_rfl) (by kernel_rfl) rfl ?_))
     refine S.one (by kernel_rfl) (S.panics (dst := none) (v := .iface 90 (.agg #[iV 2])) (by kernel_rfl) (by kernel_rfl) ?_)
     have hp1 : rl.length = 0 := by omega
     have hs : (failsS (evalS p.xs k) x (scOf hand hl rl) σ : Res Int) = (.stop 2, σ26) := by
       simp only [failsS, hkid10, hr14, hr26, bnd_val]
       cases σ26.picks with | nil => rfl | cons q qs => simp only [scOf, List.length_map, if_pos hp1]
     exact fun _ _ _ hd => ⟨hd, by rw [hs]; exact ⟨⟨[], fun e he => by simp at he, rfl⟩, P39⟩⟩
    ·skip
     have p45 : ((rl.length : Nat) : Int) ≠ 0 := by simpa using c43
     refine S.no (by kernel_rfl) (S.skip (S.seq (S.region (S.run 4 [.v (.slice ka37 σ26.picks.length kc37)] [0, 5, 7, 8, 43] (rs := [.load ⟨rb, 5, none⟩ (.slice ka37 σ26.picks.length kc37)]) (κ' := [(0, pT rb), (5, pT b2), (7, iV v14), (8, .slice ra rl.length rc), (43, .slice ka37 σ26.picks.length kc37)]) (by kernel_rfl) (by kernel_rfl) (.load (hR37.blk.cell 5 rfl) .nil) ?_))))
     obtain ⟨x46, b46, o46, hx46, h46, H46⟩ := hR37.pk.get 0 (by omega)
     refine S.one (by kernel_rfl) (S.law 44 (v := .pointer (some ⟨b46, o46 + 0 * 1, none⟩)) (Instr.indexAt 23 (.slice ka37 σ26.picks.length kc37) (.int .i64 ((0 : Nat) : Int))) (by kernel_rfl) (by kernel_rfl) (by kernel_rfl) (run_idx (e := 3) 0 h46 (by kernel_rfl) (by kernel_rfl) (by omega)) ?_)
     refine S.run 3 [.v (iV x46)] [0, 5, 7, 8, 45, 47] (rs := [.load ⟨b46, o46 + 0 * 1, none⟩ (iV x46)]) (κ' := [(0, pT rb), (5, pT b2), (7, iV v14), (8, .slice ra rl.length rc), (45, iV x46), (47, iV ((rl.length : Nat) : Int))]) (by kernel_rfl) (by kernel_rfl) (.load (H46.cell0 rfl) .nil) ?_
     obtain ⟨qs, hq⟩ : ∃ qs, σ26.picks = x46 :: qs := by
       cases hp : σ26.picks with
       | nil => rw [hp] at hx46; simp at hx46
       | cons z zs => rw [hp] at hx46; simp at hx46; exact ⟨zs, by rw [hx46]⟩
     have hq0 := hR37.pkn x46 (by rw [hq]; simp)
     obtain ⟨j, hj, hj1, hj2⟩ := rem_nat (n := rl.length) hq0 (by omega)
     refine S.one (by kernel_rfl) (S.law 48 (v := .int .i64 ((j : Nat) : Int)) (binOp .rem 3 (iV x46) (iV ((rl.length : Nat) : Int))) (by kernel_rfl) (by kernel_rfl) (by kernel_rfl) (by rw [run_rem (by omega), hj1]) ?_)
     refine S.run 1 [] [0, 5, 7, 8, 9] (rs := []) (κ' := [(0, pT rb), (5, pT b2), (7, iV v14), (8, .slice ra rl.length rc), (9, iV ((j : Nat) : Int))]) (by kernel_rfl) (by kernel_rfl) rfl ?_
     refine S.regEnd (by kernel_rfl) (S.seq (S.region (S.run 5 [.v (.slice ka37 σ26.picks.length kc37)] [0, 5, 7, 8, 9, 49, 53] (rs := [.load ⟨rb, 5, none⟩ (.slice ka37 σ26.picks.length kc37)]) (κ' := [(0, pT rb), (5, pT b2), (7, iV v14), (8, .slice ra rl.length rc), (9, iV ((j : Nat) : Int)), (49, pT rb), (53, .slice ka37 σ26.picks.length kc37)]) (by kernel_rfl) (by kernel_rfl) (.load (hR37.blk.cell 5 rfl) .nil) ?_)))
     obtain ⟨a', hsl, hrow'⟩ := run_tail (len := σ26.picks.length) (cap := kc37) (q := x46) (qs := qs) (by rw [hq]; rfl) hR37.pkc (by rw [← hq]; exact hR37.pk)
     refine S.one (by kernel_rfl) (S.law 54 (v := .slice a' qs.length (kc37 - 1)) (Instr.sliceAt 23 (.slice ka37 σ26.picks.length kc37) (some (.int .i64 1)) none none) (by kernel_rfl) (by kernel_rfl) (by kernel_rfl) hsl ?_)
     refine S.run 2 [] [0, 5, 7, 8, 9, 54, 56] (rs := []) (κ' := [(0, pT rb), (5, pT b2), (7, iV v14), (8, .slice ra rl.length rc), (9, iV ((j : Nat) : Int)), (54, .slice a' qs.length (kc37 - 1)), (56, .pointer (some ⟨rb, 5, none⟩))]) (by kernel_rfl) (by kernel_rfl) rfl ?_
     refine S.one (by kernel_rfl) (S.store 5 [.slice a' qs.length (kc37 - 1)] [iV 0, iV 0, .slice ea37 les37.length ec37, iV ((σ26.fuel : Nat) : Int), .slice p.a p.xs.length p.cap, .slice a' qs.length (kc37 - 1), .map (some md)] hR37.blk (by kernel_rfl) (by kernel_rfl) (by kernel_rfl) (by kernel_rfl) (by kernel_rfl) (fun w47 E47 B47 z47 => ?_))
     have sE47 := E47.size
     have PS48 : RunP n₀ rb md p w w47 les { σ26 with picks := qs } := back37 _ _ ⟨Xt.ofS E47 hR37.blk (by decide) hR37.rb0, [], by rw [List.append_nil]; exact ⟨_, _, _, _, hR37.picked E47 hq B47 (hrow'.pres (.ofS E47 hR37.rb0)) (by have := hR37.pkc; rw [hq] at this; simp at this; omega)⟩, fun e he => by simp at he⟩
     have hf9 : ({ σ26 with picks := qs } : RSt).fuel = σ26.fuel := rfl; have he9 : ({ σ26 with picks := qs } : RSt).evs = σ26.evs := rfl
     refine S.regEnd (by kernel_rfl) (S.seq (S.drawN 9 #[false, false, false, false, false, false, false, false, false] 9 (fun u u' => Ext E0 u u') (fun u u' => Ext E0 u u') (by kernel_rfl) (by kernel_rfl) (by kernel_rfl) (fun w49 E49 z49 => ?_)))
     have sE49 := E49.size
     have B50 := B28.ext0 E29
     have B51 := B50.xt X30 (by decide)
     have B52 := B51.extT E47 hR37.blk (by decide)
     have B53 := B52.ext0 E49
     refine S.dreads bodyPost_panicOk [0, 1, 2, 3, 6] 4 [.v (iV hand), .v (.pointer (hp hl)), .v (.pointer (rp rl))] [57, 58, 59, 60, 63] (rs := [.load ⟨b2, 0, none⟩ (iV hand), .load ⟨b2, 1, none⟩ (.pointer (hp hl)), .load ⟨b2, 2, none⟩ (.pointer (rp rl))]) (κ' := [(57, pT rb), (58, .agg #[iV hand, .pointer (hp hl), .pointer (rp rl)]), (59, .slice ra rl.length rc), (60, iV ((j : Nat) : Int)), (63, iV v14)]) (l' := #[true, true, true, true, false, false, true, false, false]) (by kernel_rfl) (by kernel_rfl) (by kernel_rfl) (fun w' hw => have hw := hw.elim id id; (.load ((B53.ext0 hw).cell 0 rfl) (.load ((B53.ext0 hw).cell 1 rfl) (.load ((B53.ext0 hw).cell 2 rfl) .nil)))) ?_
     have R54 := hrow.pres (.ofE E47 hR37.blk (by decide))
     have R55 := R54.pres (.of0 E49)
     obtain ⟨x56, b56, o56, hx56, h56, H56⟩ := R55.get j (by omega)
     refine S.dlaw bodyPost_panicOk 4 61 3 (v := .pointer (some ⟨b56, o56 + j * 1, none⟩)) (l' := #[true, true, true, true, true, false, true, false, false]) (by kernel_rfl) (by kernel_rfl) (by kernel_rfl) (by kernel_rfl) (fun w' hw => lawRun (s := Instr.indexAt 108 (.slice ra rl.length rc) (.int .i64 ((j : Nat) : Int))) (by kernel_rfl) (run_idx (e := 92) j h56 (by kernel_rfl) (by kernel_rfl) (by omega))) ?_
     refine S.dreads bodyPost_panicOk [5] 2 [.v (pT x56.1)] [57, 58, 62, 63] (rs := [.load ⟨b56, o56 + j * 1, none⟩ (pT x56.1)]) (κ' := [(57, pT rb), (58, .agg #[iV hand, .pointer (hp hl), .pointer (rp rl)]), (62, pT x56.1), (63, iV v14)]) (l' := #[true, true, true, true, true, true, true, false, false]) (by kernel_rfl) (by kernel_rfl) (by kernel_rfl) (fun w' hw => have hw := hw.elim id id; (.load ((H56.pres (.of0 hw)).cell0 rfl) .nil)) ?_
     refine S.dnext (j := 7) (l' := #[true, true, true, true, true, true, true, true, false]) (by kernel_rfl) (by kernel_rfl) (sw1 (by kernel_rfl) (Ext.refl _)) ?_
     have P58 := PS48.std (.of0 E49) (PS48.1.trans (.of0 E49))
     obtain ⟨les57, hR57, back57⟩ := P58.open
     have N59 := N36.keeps (.ofX X30 (by decide) (by omega))
     have N60 := N59.keeps (.ofS E47 hR37.blk (by decide) (by omega))
     have N61 := N60.keeps (.of0 E49)
     obtain ⟨q9, hB9⟩ := RC.at N61 hx56
     have N62 := N27.keeps (.ofX X26 (by decide) (by omega))
     have N63 := N62.keeps (.of0 E29)
     have N64 := N63.keeps (.ofX X30 (by decide) (by omega))
     have N65 := N64.keeps (.ofS E47 hR37.blk (by decide) (by omega))
     have N66 := N65.keeps (.of0 E49)
     refine S.call (dst := some 64) (f := 74) (args := #[pT rb, .agg #[iV hand, .pointer (hp hl), .pointer (rp rl)], pT x56.1, iV v14]) (by kernel_rfl) (by kernel_rfl) ((choice_spec p n₀ rb md _ ({ σ26 with picks := qs }) les57 hand hl rl hR57 (ScOk.picks ((N66.next (E' := 5000) hrg (by omega) (by omega)).mono (by omega) (Nat.le_refl _))) v14 x56.2 x56.1 (rl.length - 1 - j) _ hv14 hB9 (rev_get hx56)).mono ?_)
     rintro e57 w57 ⟨ho, hP⟩
     have PP57 := back57 _ _ hP
     have hs : (failsS (evalS p.xs k) x (scOf hand hl rl) σ : Res Int) = choiceS (scOf hand hl rl) (rl.length - 1 - j) x56.2 v14 { σ26 with picks := qs } := by
       simp only [failsS, hkid10, hr14, hr26, bnd_val, hq]
       have hne : ¬ ((scOf hand hl rl).rs.length = 0) := by simp only [scOf, List.length_map]; omega
       rw [if_neg hne]; simp only [scOf, List.length_map, hj2]; rw [getD_eq (y := x56.2) (by rw [List.getElem?_map, hx56]; rfl)]
     have ho2 := ho; obtain ⟨_, _, _, _, _, _, rfl⟩ := ho2
     exact fun _ _ _ hd => ⟨hd, by rw [hs]; exact ⟨ho, PP57⟩⟩
  ·skip
   exact fun _ _ _ hd => ⟨hd, (by have hs : (failsS (evalS p.xs k) x (scOf hand hl rl) σ : Res Int) = (o', σ26) := (by simp only [hkid10, hr14, hr26, hb26, bnd_val, bnd_bnd, failsS]); rw [hs]; exact ⟨hq', PQ26⟩)⟩
 ·skip
  exact fun _ _ _ hd => ⟨hd, (by have hs : (failsS (evalS p.xs k) x (scOf hand hl rl) σ : Res Int) = (o14, σ14) := (by simp only [hkid10, hr14, hb14, bnd_val, bnd_bnd, failsS]); rw [hs]; exact ⟨hq14, PQ14⟩)⟩

end Go.Proofs.Ytmgakpnejbembaa
