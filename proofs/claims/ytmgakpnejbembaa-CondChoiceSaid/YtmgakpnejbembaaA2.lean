/-
  CondChoice, a part of the proof (printed by a program of the prover): what functions of the given program compute, each under the conditions that its theorem names.
-/
import Derived.Test.YtmgakpnejbembaaA1
import Derived.Test.YtmgakpnejbembaaA0
namespace Go.Proofs.Ytmgakpnejbembaa
open Go Go.Proofs.Ytmgakpnejbembaa.L

theorem evbeq (x y : LE) : (x.ev == y.ev) = (decide (x.deed = y.deed) && decide (x.n = y.n) && decide (x.val = y.val) && (x.h.xs == y.h.xs) && (x.r.xs == y.r.xs)) := by
  rw [Bool.eq_iff_iff]
  simp [LE.ev, and_assoc]

/-- Two expressions say the same. -/
def eqX : X → X → Bool
  | .mk d _ _ _ k, .mk d' _ _ _ k' => decide (d.1 = d'.1) && decide (d.2 = d'.2) && eqL k k'
  where eqL : List X → List X → Bool
  | [], [] => true
  | x :: r, y :: s => eqX x y && eqL r s
  | _, _ => false
theorem eqX_eq (x y : X) : eqX x y = (decide (x.d.1 = y.d.1) && decide (x.d.2 = y.d.2) && eqX.eqL x.kids y.kids) := by
  cases x; cases y; rfl
theorem eqL_len : ∀ {xs ys : List X}, xs.length ≠ ys.length → eqX.eqL xs ys = false
  | [], [], h => absurd rfl h
  | [], _ :: _, _ => by simp [eqX.eqL]
  | _ :: _, [], _ => by simp [eqX.eqL]
  | x :: r, y :: s, h => by simp [eqX.eqL, eqL_len (xs := r) (ys := s) (by simpa using h)]
theorem eqL_diff : ∀ {xs ys : List X} {i : Nat} {x y : X}, xs[i]? = some x → ys[i]? = some y → eqX x y = false → eqX.eqL xs ys = false
  | [], _, _, _, _, hx, _, _ => by simp at hx
  | _ :: _, [], _, _, _, _, hy, _ => by simp at hy
  | a :: r, b :: s, 0, x, y, hx, hy, h => by
    simp only [List.getElem?_cons_zero, Option.some.injEq] at hx hy
    subst hx hy
    simp [eqX.eqL, h]
  | a :: r, b :: s, i + 1, x, y, hx, hy, h => by simp [eqX.eqL, eqL_diff (xs := r) (ys := s) (by simpa using hx) (by simpa using hy) h]
theorem eqL_all : ∀ {xs ys : List X}, xs.length = ys.length → (∀ (j : Nat) (x y : X), xs[j]? = some x → ys[j]? = some y → eqX x y = true) → eqX.eqL xs ys = true
  | [], [], _, _ => by simp [eqX.eqL]
  | [], _ :: _, h, _ => by simp at h
  | _ :: _, [], h, _ => by simp at h
  | x :: r, y :: s, h, k => by
    simp only [eqX.eqL, k 0 x y rfl rfl, Bool.true_and]
    exact eqL_all (by simpa using h) fun j a b ha hb => k (j + 1) a b (by simpa using ha) (by simpa using hb)

theorem SameEvent_spec (n m : Nat) (x y : LE) (w : World) (hx : x.ok n w) (hy : y.ok m w) :
    Calls Try.prog 34 #[.agg #[iV x.deed, iV x.n, iV x.val, .slice x.h.a x.h.xs.length x.h.cap, .slice x.r.a x.r.xs.length x.r.cap], .agg #[iV y.deed, iV y.n, iV y.val, .slice y.h.a y.h.xs.length y.h.cap, .slice y.r.a y.r.xs.length y.r.cap]] w (fun e w' => Ext E0 w w' ∧ e = .returned (.bool (x.ev == y.ev))) := by
 refine calls_of_S (n := 38) Try.func34 rfl rfl (by kernel_rfl) ?_
 refine S.seq (S.region (S.one (by kernel_rfl) (S.new 2 [iV x.deed, iV x.n, iV x.val, .slice x.h.a x.h.xs.length x.h.cap, .slice x.r.a x.r.xs.length x.r.cap] 43 (fun b => pT b) (by kernel_rfl) (by kernel_rfl) (fun b => by kernel_rfl) (fun b1 w1 E1 B1 e1 z1 => ?_))))
 have sE1 := E1.size
 refine S.one (by kernel_rfl) (S.new 3 [iV y.deed, iV y.n, iV y.val, .slice y.h.a y.h.xs.length y.h.cap, .slice y.r.a y.r.xs.length y.r.cap] 43 (fun b => pT b) (by kernel_rfl) (by kernel_rfl) (fun b => by kernel_rfl) (fun b2 w2 E2 B2 e2 z2 => ?_))
 have sE2 := E2.size
 refine S.run 1 [] [2, 3] (rs := []) (κ' := [(2, pT b1), (3, pT b2)]) (by kernel_rfl) (by kernel_rfl) rfl ?_
 refine S.regEnd (by kernel_rfl) (S.seq (S.region ?_))
 have B3 := B1.ext0 E2
 refine S.run 6 [.v (iV x.deed), .v (iV y.deed)] [2, 3, 10] (rs := [.load ⟨b1, 0, none⟩ (iV x.deed), .load ⟨b2, 0, none⟩ (iV y.deed)]) (κ' := [(2, pT b1), (3, pT b2), (10, .bool (x.deed == y.deed))]) (by kernel_rfl) (by kernel_rfl) (.load (B3.cell 0 rfl) (.load (B2.cell 0 rfl) .nil)) ?_
 refine S.both 10 (x.deed == y.deed) (by kernel_rfl) (fun c4 => ?_) (fun c4 => ?_)
 ·skip
  have p5 : x.deed = y.deed := by simpa using c4
  refine S.run 7 [.v (iV x.n), .v (iV y.n)] [2, 3, 17] (rs := [.load ⟨b1, 1, none⟩ (iV x.n), .load ⟨b2, 1, none⟩ (iV y.n)]) (κ' := [(2, pT b1), (3, pT b2), (17, .bool (x.n == y.n))]) (by kernel_rfl) (by kernel_rfl) (.load (B3.cell 1 rfl) (.load (B2.cell 1 rfl) .nil)) ?_
  refine S.both 17 (x.n == y.n) (by kernel_rfl) (fun c6 => ?_) (fun c6 => ?_)
  ·skip
   have p7 : x.n = y.n := by simpa using c6
   refine S.run 7 [.v (iV x.val), .v (iV y.val)] [2, 3, 24] (rs := [.load ⟨b1, 2, none⟩ (iV x.val), .load ⟨b2, 2, none⟩ (iV y.val)]) (κ' := [(2, pT b1), (3, pT b2), (24, .bool (x.val == y.val))]) (by kernel_rfl) (by kernel_rfl) (.load (B3.cell 2 rfl) (.load (B2.cell 2 rfl) .nil)) ?_
   refine S.both 24 (x.val == y.val) (by kernel_rfl) (fun c8 => ?_) (fun c8 => ?_)
   ·skip
    have p9 : x.val = y.val := by simpa using c8
    refine S.run 4 [.v (.slice x.h.a x.h.xs.length x.h.cap), .v (.slice y.h.a y.h.xs.length y.h.cap)] [2, 3, 24, 26, 28] (rs := [.load ⟨b1, 3, none⟩ (.slice x.h.a x.h.xs.length x.h.cap), .load ⟨b2, 3, none⟩ (.slice y.h.a y.h.xs.length y.h.cap)]) (κ' := [(2, pT b1), (3, pT b2), (24, .bool true), (26, .slice x.h.a x.h.xs.length x.h.cap), (28, .slice y.h.a y.h.xs.length y.h.cap)]) (by kernel_rfl) (by kernel_rfl) (.load (B3.cell 3 rfl) (.load (B2.cell 3 rfl) .nil)) ?_
    have R10 := hx.1.1.pres (.of0 E1)
    have R11 := R10.pres (.of0 E2)
    have R12 := hy.1.1.pres (.of0 E1)
    have R13 := R12.pres (.of0 E2)
    have W15 := hx.1.2
    have W16 := hy.1.2
    refine S.one (by kernel_rfl) (S.call (dst := some 29) (f := 66) (args := #[.slice x.h.a x.h.xs.length x.h.cap, .slice y.h.a y.h.xs.length y.h.cap]) (by kernel_rfl) (by kernel_rfl) ((SameInts_spec _ _ _ _ _ _ _ _ _ R11 R13 (by omega) (by omega)).mono ?_))
    rintro _ w14 ⟨E14, rfl⟩
    refine After.ret (by kernel_rfl) ?_
    have sE14 := E14.size
    refine S.run 2 [] [2, 3, 31] (rs := []) (κ' := [(2, pT b1), (3, pT b2), (31, .bool (x.h.xs == y.h.xs))]) (by kernel_rfl) (by kernel_rfl) rfl ?_
    refine S.both 31 (x.h.xs == y.h.xs) (by kernel_rfl) (fun c17 => ?_) (fun c17 => ?_)
    ·skip
     have B18 := B3.ext0 E14
     have B19 := B2.ext0 E14
     refine S.run 4 [.v (.slice x.r.a x.r.xs.length x.r.cap), .v (.slice y.r.a y.r.xs.length y.r.cap)] [31, 33, 35] (rs := [.load ⟨b1, 4, none⟩ (.slice x.r.a x.r.xs.length x.r.cap), .load ⟨b2, 4, none⟩ (.slice y.r.a y.r.xs.length y.r.cap)]) (κ' := [(31, .bool true), (33, .slice x.r.a x.r.xs.length x.r.cap), (35, .slice y.r.a y.r.xs.length y.r.cap)]) (by kernel_rfl) (by kernel_rfl) (.load (B18.cell 4 rfl) (.load (B19.cell 4 rfl) .nil)) ?_
     have R20 := hx.2.1.pres (.of0 E1)
     have R21 := R20.pres (.of0 E2)
     have R22 := R21.pres (.of0 E14)
     have R23 := hy.2.1.pres (.of0 E1)
     have R24 := R23.pres (.of0 E2)
     have R25 := R24.pres (.of0 E14)
     have W27 := hx.2.2
     have W28 := hy.2.2
     refine S.one (by kernel_rfl) (S.call (dst := some 36) (f := 66) (args := #[.slice x.r.a x.r.xs.length x.r.cap, .slice y.r.a y.r.xs.length y.r.cap]) (by kernel_rfl) (by kernel_rfl) ((SameInts_spec _ _ _ _ _ _ _ _ _ R22 R25 (by omega) (by omega)).mono ?_))
     rintro _ w26 ⟨E26, rfl⟩
     refine After.ret (by kernel_rfl) ?_
     have sE26 := E26.size
     refine S.run 2 [] [4] (rs := []) (κ' := [(4, .bool (x.r.xs == y.r.xs))]) (by kernel_rfl) (by kernel_rfl) rfl ?_
     exact S.regEnd (by kernel_rfl) (S.ret1 (v := .bool (x.r.xs == y.r.xs)) rfl (by kernel_rfl) ⟨((E1.trans E2).trans E14).trans E26, by rw [evbeq]; simp [*]⟩)
    ·skip
     refine S.run 7 [] [4] (rs := []) (κ' := [(4, .bool false)]) (by kernel_rfl) (by kernel_rfl) rfl ?_
     exact S.regEnd (by kernel_rfl) (S.ret1 (v := .bool false) rfl (by kernel_rfl) ⟨(E1.trans E2).trans E14, by rw [evbeq]; simp [*]⟩)
   ·skip
    have p29 : x.val ≠ y.val := by simpa using c8
    refine S.run 14 [] [4] (rs := []) (κ' := [(4, .bool false)]) (by kernel_rfl) (by kernel_rfl) rfl ?_
    exact S.regEnd (by kernel_rfl) (S.ret1 (v := .bool false) rfl (by kernel_rfl) ⟨E1.trans E2, by rw [evbeq]; simp [*]⟩)
  ·skip
   have p30 : x.n ≠ y.n := by simpa using c6
   refine S.run 21 [] [4] (rs := []) (κ' := [(4, .bool false)]) (by kernel_rfl) (by kernel_rfl) rfl ?_
   exact S.regEnd (by kernel_rfl) (S.ret1 (v := .bool false) rfl (by kernel_rfl) ⟨E1.trans E2, by rw [evbeq]; simp [*]⟩)
 ·skip
  have p31 : x.deed ≠ y.deed := by simpa using c4
  refine S.run 28 [] [4] (rs := []) (κ' := [(4, .bool false)]) (by kernel_rfl) (by kernel_rfl) rfl ?_
  exact S.regEnd (by kernel_rfl) (S.ret1 (v := .bool false) rfl (by kernel_rfl) ⟨E1.trans E2, by rw [evbeq]; simp [*]⟩)

theorem SameEvents_spec (n m r s : Nat) (a b : Option Addr) (c d : Nat) (xs ys : List LE) (w : World) (R1 : Row r 43 5 evCs w a xs) (R2 : Row s 43 5 evCs w b ys) (ha : EvsOk n w xs) (hb : EvsOk m w ys) (hl1 : xs.length ≤ 9223372036854775807) (hl2 : ys.length ≤ 9223372036854775807) :
    Calls Try.prog 8 #[.slice a xs.length c, .slice b ys.length d] w (fun e w' => Ext E0 w w' ∧ e = .returned (.bool (xs.map LE.ev == ys.map LE.ev))) := by
 refine calls_of_S (n := 27) Try.func8 rfl rfl (by kernel_rfl) ?_
 refine S.seq (S.region (S.run 1 [] [0, 1] (rs := []) (κ' := [(0, .slice a xs.length c), (1, .slice b ys.length d)]) (by kernel_rfl) (by kernel_rfl) rfl ?_))
 refine S.regEnd (by kernel_rfl) (S.seq (S.seq (S.region (S.run 5 [] [0, 1, 10] (rs := []) (κ' := [(0, .slice a xs.length c), (1, .slice b ys.length d), (10, .bool (((xs.length : Nat) : Int) != ((ys.length : Nat) : Int)))]) (by kernel_rfl) (by kernel_rfl) rfl ?_))))
 refine S.regEnd (by kernel_rfl) (S.both 10 (((xs.length : Nat) : Int) != ((ys.length : Nat) : Int)) (by kernel_rfl) (fun c1 => ?_) (fun c1 => ?_))
 ·skip
  have p2 : ((xs.length : Nat) : Int) ≠ ((ys.length : Nat) : Int) := by simpa using c1
  refine S.yes (by kernel_rfl) (S.seq (S.region (S.run 1 [] [4] (rs := []) (κ' := [(4, .bool false)]) (by kernel_rfl) (by kernel_rfl) rfl ?_)))
  exact S.regEnd (by kernel_rfl) (S.ret1 (v := .bool false) rfl (by kernel_rfl) ⟨Ext.refl _, by rw [(all2_len (by omega) : (xs.map LE.ev == ys.map LE.ev) = false)]⟩)
 ·skip
  have p3 : ((xs.length : Nat) : Int) = ((ys.length : Nat) : Int) := by simpa using c1
  refine S.no (by kernel_rfl) (S.skip (S.seq (S.seq (S.region (S.run 3 [] [0, 1, 12, 13] (rs := []) (κ' := [(0, .slice a xs.length c), (1, .slice b ys.length d), (12, iV ((xs.length : Nat) : Int)), (13, iV 0)]) (by kernel_rfl) (by kernel_rfl) rfl ?_)))))
  refine S.regEnd (by kernel_rfl) (S.block (S.weaken (ks := [0, 1, 12, 13]) (S.loop (fun m κ wj => ∃ i : Nat, i ≤ xs.length ∧ m = xs.length - i ∧ κ = [(0, .slice a xs.length c), (1, .slice b ys.length d), (12, iV ((xs.length : Nat) : Int)), (13, iV ((i : Nat) : Int))] ∧ Ext E0 w wj ∧ (∀ j, j < i → (xs[j]?).map LE.ev = (ys[j]?).map LE.ev)) ⟨0, Nat.zero_le _, rfl, by kernel_rfl, Ext.refl _, fun _ h => absurd h (Nat.not_lt_zero _)⟩ ?_)))
  rintro _ _ w4 ⟨i4, hi4, rfl, rfl, E4, hv4⟩
  have sE4 := E4.size
  refine S.seq (S.region (S.run 1 [] [0, 1, 12, 13, 14] (rs := []) (κ' := [(0, .slice a xs.length c), (1, .slice b ys.length d), (12, iV ((xs.length : Nat) : Int)), (13, iV ((i4 : Nat) : Int)), (14, .bool (decide (((i4 : Nat) : Int) < ((xs.length : Nat) : Int))))]) (by kernel_rfl) (by kernel_rfl) rfl ?_))
  refine S.regEnd (by kernel_rfl) (S.seq (S.both 14 (decide (((i4 : Nat) : Int) < ((xs.length : Nat) : Int))) (by kernel_rfl) (fun c5 => ?_) (fun c5 => ?_)))
  ·skip
   have p6 : ((i4 : Nat) : Int) < ((xs.length : Nat) : Int) := of_decide_eq_true c5
   refine S.yes (by kernel_rfl) (S.skip (S.seq (S.block (S.seq (S.region (S.run 2 [] [0, 1, 5, 12, 13] (rs := []) (κ' := [(0, .slice a xs.length c), (1, .slice b ys.length d), (5, iV ((i4 : Nat) : Int)), (12, iV ((xs.length : Nat) : Int)), (13, iV ((i4 : Nat) : Int))]) (by kernel_rfl) (by kernel_rfl) rfl ?_))))))
   refine S.regEnd (by kernel_rfl) (S.seq (S.drawN 10 #[false, false, false, false, false, false, false, false, false, false] 10 (fun u u' => Ext E0 u u') (fun u u' => Ext E0 u u') (by kernel_rfl) (by kernel_rfl) (by kernel_rfl) (fun w7 E7 z7 => ?_)))
   have sE7 := E7.size
   refine S.dreads bodyPost_panicOk [0, 1, 4, 5] 6 [] [0, 1, 12, 13, 16, 17, 20, 21] (rs := []) (κ' := [(0, .slice a xs.length c), (1, .slice b ys.length d), (12, iV ((xs.length : Nat) : Int)), (13, iV ((i4 : Nat) : Int)), (16, .slice a xs.length c), (17, iV ((i4 : Nat) : Int)), (20, .slice b ys.length d), (21, iV ((i4 : Nat) : Int))]) (l' := #[true, true, false, false, true, true, false, false, false, false]) (by kernel_rfl) (by kernel_rfl) (by kernel_rfl) (fun _ _ => rfl) ?_
   have R8 := R1.pres (.of0 E4)
   have R9 := R8.pres (.of0 E7)
   obtain ⟨x10, b10, o10, hx10, h10, H10⟩ := R9.get i4 (by omega)
   have T11 := ha.pres (.of0 E4)
   have T12 := T11.pres (.of0 E7)
   have K10 := T12 _ (List.mem_of_getElem? hx10)
   refine S.dlaw bodyPost_panicOk 2 18 5 (v := .pointer (some ⟨b10, o10 + i4 * 5, none⟩)) (l' := #[true, true, true, false, true, true, false, false, false, false]) (by kernel_rfl) (by kernel_rfl) (by kernel_rfl) (by kernel_rfl) (fun w' hw => lawRun (s := Instr.indexAt 27 (.slice a xs.length c) (.int .i64 ((i4 : Nat) : Int))) (by kernel_rfl) (run_idx (e := 43) i4 h10 (by kernel_rfl) (by kernel_rfl) (by omega))) ?_
   refine S.dreads bodyPost_panicOk [3] 4 [.v (iV x10.deed), .v (iV x10.n), .v (iV x10.val), .v (.slice x10.h.a x10.h.xs.length x10.h.cap), .v (.slice x10.r.a x10.r.xs.length x10.r.cap)] [0, 1, 12, 13, 19, 20, 21] (rs := [.load ⟨b10, o10 + i4 * 5, none⟩ (iV x10.deed), .load ⟨b10, o10 + i4 * 5 + 1, none⟩ (iV x10.n), .load ⟨b10, o10 + i4 * 5 + 2, none⟩ (iV x10.val), .load ⟨b10, o10 + i4 * 5 + 3, none⟩ (.slice x10.h.a x10.h.xs.length x10.h.cap), .load ⟨b10, o10 + i4 * 5 + 4, none⟩ (.slice x10.r.a x10.r.xs.length x10.r.cap)]) (κ' := [(0, .slice a xs.length c), (1, .slice b ys.length d), (12, iV ((xs.length : Nat) : Int)), (13, iV ((i4 : Nat) : Int)), (19, .agg #[iV x10.deed, iV x10.n, iV x10.val, .slice x10.h.a x10.h.xs.length x10.h.cap, .slice x10.r.a x10.r.xs.length x10.r.cap]), (20, .slice b ys.length d), (21, iV ((i4 : Nat) : Int))]) (l' := #[true, true, true, true, true, true, false, false, false, false]) (by kernel_rfl) (by kernel_rfl) (by kernel_rfl) (fun w' hw => have hw := hw.elim id id; (.load ((H10.pres (.of0 hw)).cell0 rfl) (.load ((H10.pres (.of0 hw)).cell 1 rfl) (.load ((H10.pres (.of0 hw)).cell 2 rfl) (.load ((H10.pres (.of0 hw)).cell 3 rfl) (.load ((H10.pres (.of0 hw)).cell 4 rfl) .nil)))))) ?_
   have R13 := R2.pres (.of0 E4)
   have R14 := R13.pres (.of0 E7)
   obtain ⟨x15, b15, o15, hx15, h15, H15⟩ := R14.get i4 (by omega)
   have T16 := hb.pres (.of0 E4)
   have T17 := T16.pres (.of0 E7)
   have K15 := T17 _ (List.mem_of_getElem? hx15)
   refine S.dlaw bodyPost_panicOk 6 22 3 (v := .pointer (some ⟨b15, o15 + i4 * 5, none⟩)) (l' := #[true, true, true, true, true, true, true, false, false, false]) (by kernel_rfl) (by kernel_rfl) (by kernel_rfl) (by kernel_rfl) (fun w' hw => lawRun (s := Instr.indexAt 27 (.slice b ys.length d) (.int .i64 ((i4 : Nat) : Int))) (by kernel_rfl) (run_idx (e := 43) i4 h15 (by kernel_rfl) (by kernel_rfl) (by omega))) ?_
   refine S.dreads bodyPost_panicOk [7] 2 [.v (iV x15.deed), .v (iV x15.n), .v (iV x15.val), .v (.slice x15.h.a x15.h.xs.length x15.h.cap), .v (.slice x15.r.a x15.r.xs.length x15.r.cap)] [0, 1, 12, 13, 19, 23] (rs := [.load ⟨b15, o15 + i4 * 5, none⟩ (iV x15.deed), .load ⟨b15, o15 + i4 * 5 + 1, none⟩ (iV x15.n), .load ⟨b15, o15 + i4 * 5 + 2, none⟩ (iV x15.val), .load ⟨b15, o15 + i4 * 5 + 3, none⟩ (.slice x15.h.a x15.h.xs.length x15.h.cap), .load ⟨b15, o15 + i4 * 5 + 4, none⟩ (.slice x15.r.a x15.r.xs.length x15.r.cap)]) (κ' := [(0, .slice a xs.length c), (1, .slice b ys.length d), (12, iV ((xs.length : Nat) : Int)), (13, iV ((i4 : Nat) : Int)), (19, .agg #[iV x10.deed, iV x10.n, iV x10.val, .slice x10.h.a x10.h.xs.length x10.h.cap, .slice x10.r.a x10.r.xs.length x10.r.cap]), (23, .agg #[iV x15.deed, iV x15.n, iV x15.val, .slice x15.h.a x15.h.xs.length x15.h.cap, .slice x15.r.a x15.r.xs.length x15.r.cap])]) (l' := #[true, true, true, true, true, true, true, true, false, false]) (by kernel_rfl) (by kernel_rfl) (by kernel_rfl) (fun w' hw => have hw := hw.elim id id; (.load ((H15.pres (.of0 hw)).cell0 rfl) (.load ((H15.pres (.of0 hw)).cell 1 rfl) (.load ((H15.pres (.of0 hw)).cell 2 rfl) (.load ((H15.pres (.of0 hw)).cell 3 rfl) (.load ((H15.pres (.of0 hw)).cell 4 rfl) .nil)))))) ?_
   refine S.dnext (j := 8) (l' := #[true, true, true, true, true, true, true, true, true, false]) (by kernel_rfl) (by kernel_rfl) (sw1 (by kernel_rfl) (Ext.refl _)) ?_
   refine S.call (dst := some 24) (f := 34) (args := #[.agg #[iV x10.deed, iV x10.n, iV x10.val, .slice x10.h.a x10.h.xs.length x10.h.cap, .slice x10.r.a x10.r.xs.length x10.r.cap], .agg #[iV x15.deed, iV x15.n, iV x15.val, .slice x15.h.a x15.h.xs.length x15.h.cap, .slice x15.r.a x15.r.xs.length x15.r.cap]]) (by kernel_rfl) (by kernel_rfl) ((SameEvent_spec _ _ x10 x15 _ (K10) (K15)).mono ?_)
   rintro _ w18 ⟨E18, rfl⟩
   refine After.ret (by kernel_rfl) ?_
   have sE18 := E18.size
   refine S.dreads bodyPost_panicOk [9] 0 [] [0, 1, 12, 13, 25] (rs := []) (κ' := [(0, .slice a xs.length c), (1, .slice b ys.length d), (12, iV ((xs.length : Nat) : Int)), (13, iV ((i4 : Nat) : Int)), (25, .bool (!(x10.ev == x15.ev)))]) (l' := #[true, true, true, true, true, true, true, true, true, true]) (by kernel_rfl) (by kernel_rfl) (by kernel_rfl) (fun _ _ => rfl) ?_
   refine S.dend (by kernel_rfl) (sw1 (by kernel_rfl) E18) ?_
   refine S.both 25 (!(x10.ev == x15.ev)) (by kernel_rfl) (fun c19 => ?_) (fun c19 => ?_)
   ·skip
    have c20 : (x10.ev == x15.ev) = false := notT c19
    have p21 : x10.ev ≠ x15.ev := by simpa using c20
    refine S.yes (by kernel_rfl) (S.seq (S.region (S.run 1 [] [4] (rs := []) (κ' := [(4, .bool false)]) (by kernel_rfl) (by kernel_rfl) rfl ?_)))
    exact S.regEnd (by kernel_rfl) (S.ret1 (v := .bool false) rfl (by kernel_rfl) ⟨(E4.trans E7).trans E18, by rw [(all2_diff hx10 hx15 (by assumption) : (xs.map LE.ev == ys.map LE.ev) = false)]⟩)
   ·skip
    have c22 : (x10.ev == x15.ev) = true := notF c19
    have p23 : x10.ev = x15.ev := by simpa using c22
    refine S.no (by kernel_rfl) (S.skip (S.out (S.region (S.run 1 [] [0, 1, 12, 13, 26] (rs := []) (κ' := [(0, .slice a xs.length c), (1, .slice b ys.length d), (12, iV ((xs.length : Nat) : Int)), (13, iV ((i4 : Nat) : Int)), (26, iV (IntKind.i64.wrap (((i4 : Nat) : Int) + 1)))]) (by kernel_rfl) (by kernel_rfl) rfl ?_))))
    refine S.subst 26 (iV (IntKind.i64.wrap (((i4 : Nat) : Int) + 1))) (iV ((i4 + 1 : Nat) : Int)) (by kernel_rfl) (congrArg (Value.int .i64) (by rw [wrap_i64 (by omega) (by omega)]; omega)) ?_
    refine S.run 1 [] [0, 1, 12, 13] (rs := []) (κ' := [(0, .slice a xs.length c), (1, .slice b ys.length d), (12, iV ((xs.length : Nat) : Int)), (13, iV ((i4 + 1 : Nat) : Int))]) (by kernel_rfl) (by kernel_rfl) rfl ?_
    exact S.regEnd (by kernel_rfl) (S.stop (fun _ hs hh hd => ⟨hs, hd, xs.length - (i4 + 1), [(0, .slice a xs.length c), (1, .slice b ys.length d), (12, iV ((xs.length : Nat) : Int)), (13, iV (((i4 + 1) : Nat) : Int))], by omega, hh, i4 + 1, by omega, rfl, rfl, ((E4.trans E7).trans E18), all2_step hv4 hx10 hx15 (by assumption)⟩))
  ·skip
   have p24 : ¬ (((i4 : Nat) : Int) < ((xs.length : Nat) : Int)) := of_decide_eq_false c5
   refine S.no (by kernel_rfl) (S.exit rfl (S.seq (S.region (S.run 1 [] [4] (rs := []) (κ' := [(4, .bool true)]) (by kernel_rfl) (by kernel_rfl) rfl ?_))))
   exact S.regEnd (by kernel_rfl) (S.ret1 (v := .bool true) rfl (by kernel_rfl) ⟨E4, by rw [(all2_all (by omega) (by assumption) (by omega) : (xs.map LE.ev == ys.map LE.ev) = true)]⟩)

theorem Same_spec (n m r s : Nat) (x y : Option Addr) (xc yc : Nat) (xe xv xf ye yv yf : Int) (xs ys : List LE) (w : World) (R1 : Row r 43 5 evCs w x xs) (R2 : Row s 43 5 evCs w y ys) (ha : EvsOk n w xs) (hb : EvsOk m w ys) (hl1 : xs.length ≤ 9223372036854775807) (hl2 : ys.length ≤ 9223372036854775807) :
    Calls Try.prog 9 #[.agg #[iV xe, iV xv, .slice x xs.length xc, iV xf], .agg #[iV ye, iV yv, .slice y ys.length yc, iV yf]] w (fun e w' => Ext E0 w w' ∧ e = .returned (.bool (decide (xe = ye) && decide (xv = yv) && decide (xf = yf) && (xs.map LE.ev == ys.map LE.ev)))) := by
 refine calls_of_S (n := 31) Try.func9 rfl rfl (by kernel_rfl) ?_
 refine S.seq (S.region (S.one (by kernel_rfl) (S.new 2 [iV xe, iV xv, .slice x xs.length xc, iV xf] 29 (fun b => pT b) (by kernel_rfl) (by kernel_rfl) (fun b => by kernel_rfl) (fun b1 w1 E1 B1 e1 z1 => ?_))))
 have sE1 := E1.size
 refine S.one (by kernel_rfl) (S.new 3 [iV ye, iV yv, .slice y ys.length yc, iV yf] 29 (fun b => pT b) (by kernel_rfl) (by kernel_rfl) (fun b => by kernel_rfl) (fun b2 w2 E2 B2 e2 z2 => ?_))
 have sE2 := E2.size
 refine S.run 1 [] [2, 3] (rs := []) (κ' := [(2, pT b1), (3, pT b2)]) (by kernel_rfl) (by kernel_rfl) rfl ?_
 refine S.regEnd (by kernel_rfl) (S.seq (S.region ?_))
 have B3 := B1.ext0 E2
 refine S.run 6 [.v (iV xe), .v (iV ye)] [2, 3, 10] (rs := [.load ⟨b1, 0, none⟩ (iV xe), .load ⟨b2, 0, none⟩ (iV ye)]) (κ' := [(2, pT b1), (3, pT b2), (10, .bool (xe == ye))]) (by kernel_rfl) (by kernel_rfl) (.load (B3.cell 0 rfl) (.load (B2.cell 0 rfl) .nil)) ?_
 refine S.both 10 (xe == ye) (by kernel_rfl) (fun c4 => ?_) (fun c4 => ?_)
 ·skip
  have p5 : xe = ye := by simpa using c4
  refine S.run 7 [.v (iV xv), .v (iV yv)] [2, 3, 17] (rs := [.load ⟨b1, 1, none⟩ (iV xv), .load ⟨b2, 1, none⟩ (iV yv)]) (κ' := [(2, pT b1), (3, pT b2), (17, .bool (xv == yv))]) (by kernel_rfl) (by kernel_rfl) (.load (B3.cell 1 rfl) (.load (B2.cell 1 rfl) .nil)) ?_
  refine S.both 17 (xv == yv) (by kernel_rfl) (fun c6 => ?_) (fun c6 => ?_)
  ·skip
   have p7 : xv = yv := by simpa using c6
   refine S.run 7 [.v (iV xf), .v (iV yf)] [2, 3, 24] (rs := [.load ⟨b1, 3, none⟩ (iV xf), .load ⟨b2, 3, none⟩ (iV yf)]) (κ' := [(2, pT b1), (3, pT b2), (24, .bool (xf == yf))]) (by kernel_rfl) (by kernel_rfl) (.load (B3.cell 3 rfl) (.load (B2.cell 3 rfl) .nil)) ?_
   refine S.both 24 (xf == yf) (by kernel_rfl) (fun c8 => ?_) (fun c8 => ?_)
   ·skip
    have p9 : xf = yf := by simpa using c8
    refine S.run 4 [.v (.slice x xs.length xc), .v (.slice y ys.length yc)] [24, 26, 28] (rs := [.load ⟨b1, 2, none⟩ (.slice x xs.length xc), .load ⟨b2, 2, none⟩ (.slice y ys.length yc)]) (κ' := [(24, .bool true), (26, .slice x xs.length xc), (28, .slice y ys.length yc)]) (by kernel_rfl) (by kernel_rfl) (.load (B3.cell 2 rfl) (.load (B2.cell 2 rfl) .nil)) ?_
    have R11 := R1.pres (.of0 E1)
    have R12 := R11.pres (.of0 E2)
    have R13 := R2.pres (.of0 E1)
    have R14 := R13.pres (.of0 E2)
    have T15 := ha.pres (.of0 E1)
    have T16 := T15.pres (.of0 E2)
    have T17 := hb.pres (.of0 E1)
    have T18 := T17.pres (.of0 E2)
    refine S.one (by kernel_rfl) (S.call (dst := some 29) (f := 8) (args := #[.slice x xs.length xc, .slice y ys.length yc]) (by kernel_rfl) (by kernel_rfl) ((SameEvents_spec _ _ _ _ x y xc yc xs ys _ R12 R14 T16 T18 (by omega) (by omega)).mono ?_))
    rintro _ w10 ⟨E10, rfl⟩
    refine After.ret (by kernel_rfl) ?_
    have sE10 := E10.size
    refine S.run 2 [] [4] (rs := []) (κ' := [(4, .bool (xs.map LE.ev == ys.map LE.ev))]) (by kernel_rfl) (by kernel_rfl) rfl ?_
    exact S.regEnd (by kernel_rfl) (S.ret1 (v := .bool (xs.map LE.ev == ys.map LE.ev)) rfl (by kernel_rfl) ⟨(E1.trans E2).trans E10, by simp [*]⟩)
   ·skip
    have p19 : xf ≠ yf := by simpa using c8
    refine S.run 7 [] [4] (rs := []) (κ' := [(4, .bool false)]) (by kernel_rfl) (by kernel_rfl) rfl ?_
    exact S.regEnd (by kernel_rfl) (S.ret1 (v := .bool false) rfl (by kernel_rfl) ⟨E1.trans E2, by simp [*]⟩)
  ·skip
   have p20 : xv ≠ yv := by simpa using c6
   refine S.run 14 [] [4] (rs := []) (κ' := [(4, .bool false)]) (by kernel_rfl) (by kernel_rfl) rfl ?_
   exact S.regEnd (by kernel_rfl) (S.ret1 (v := .bool false) rfl (by kernel_rfl) ⟨E1.trans E2, by simp [*]⟩)
 ·skip
  have p21 : xe ≠ ye := by simpa using c4
  refine S.run 21 [] [4] (rs := []) (κ' := [(4, .bool false)]) (by kernel_rfl) (by kernel_rfl) rfl ?_
  exact S.regEnd (by kernel_rfl) (S.ret1 (v := .bool false) rfl (by kernel_rfl) ⟨E1.trans E2, by simp [*]⟩)

end Go.Proofs.Ytmgakpnejbembaa
