/-
  CondChoice, a part of the proof (printed by a program of the prover): what functions of the given program compute, each under the conditions that its theorem names.
-/
import Derived.Test.YtmgakpnejbembaaA22
namespace Go.Proofs.Ytmgakpnejbembaa
open Go Go.Proofs.Ytmgakpnejbembaa.L

def SameExp1 (x : X) : Prop := ∀ (n m : Nat) (y : X) (w : World), XOk n w x → XOk m w y → Calls Try.prog 67 #[.agg (xCs x).toArray, .agg (xCs y).toArray] w (fun e w' => Ext E0 w w' ∧ e = .returned (.bool (eqX x y)))
theorem eqL_step {xs ys : List X} {i : Nat} {x y : X} (h : ∀ (j : Nat) (x y : X), j < i → xs[j]? = some x → ys[j]? = some y → eqX x y = true) (hx : xs[i]? = some x) (hy : ys[i]? = some y) (e : eqX x y = true) :
    ∀ (j : Nat) (x y : X), j < i + 1 → xs[j]? = some x → ys[j]? = some y → eqX x y = true := by
  intro j a b hj ha hb
  by_cases hji : j < i
  · exact h j a b hji ha hb
  · obtain rfl : j = i := by omega
    rw [hx] at ha; rw [hy] at hb
    injection ha with ha; injection hb with hb
    subst ha hb; exact e
theorem SameProg_of (p q : LP) (IH : ∀ x, x ∈ p.xs → SameExp1 x) (n m : Nat) (w : World) (hp : p.ok n w) (hq : q.ok m w) :
    Calls Try.prog 33 #[.slice p.a p.xs.length p.cap, .slice q.a q.xs.length q.cap] w (fun e w' => Ext E0 w w' ∧ e = .returned (.bool (eqX.eqL p.xs q.xs))) := by
 refine calls_of_S (n := 27) Try.func33 rfl rfl (by kernel_rfl) ?_
 have hb1 := hp.2.1; have hb2 := hq.2.1
 refine S.seq (S.region (S.run 1 [] [0, 1] (rs := []) (κ' := [(0, .slice p.a p.xs.length p.cap), (1, .slice q.a q.xs.length q.cap)]) (by kernel_rfl) (by kernel_rfl) rfl ?_))
 refine S.regEnd (by kernel_rfl) (S.seq (S.seq (S.region (S.run 5 [] [0, 1, 10] (rs := []) (κ' := [(0, .slice p.a p.xs.length p.cap), (1, .slice q.a q.xs.length q.cap), (10, .bool (((p.xs.length : Nat) : Int) != ((q.xs.length : Nat) : Int)))]) (by kernel_rfl) (by kernel_rfl) rfl ?_))))
 refine S.regEnd (by kernel_rfl) (S.both 10 (((p.xs.length : Nat) : Int) != ((q.xs.length : Nat) : Int)) (by kernel_rfl) (fun c1 => ?_) (fun c1 => ?_))
 ·skip
  have p2 : ((p.xs.length : Nat) : Int) ≠ ((q.xs.length : Nat) : Int) := by simpa using c1
  refine S.yes (by kernel_rfl) (S.seq (S.region (S.run 1 [] [4] (rs := []) (κ' := [(4, .bool false)]) (by kernel_rfl) (by kernel_rfl) rfl ?_)))
  exact S.regEnd (by kernel_rfl) (S.ret1 (v := .bool false) rfl (by kernel_rfl) ⟨Ext.refl _, by rw [(eqL_len (by omega) : eqX.eqL p.xs q.xs = false)]⟩)
 ·skip
  have p3 : ((p.xs.length : Nat) : Int) = ((q.xs.length : Nat) : Int) := by simpa using c1
  refine S.no (by kernel_rfl) (S.skip (S.seq (S.seq (S.region (S.run 3 [] [0, 1, 12, 13] (rs := []) (κ' := [(0, .slice p.a p.xs.length p.cap), (1, .slice q.a q.xs.length q.cap), (12, iV ((p.xs.length : Nat) : Int)), (13, iV 0)]) (by kernel_rfl) (by kernel_rfl) rfl ?_)))))
  refine S.regEnd (by kernel_rfl) (S.block (S.weaken (ks := [0, 1, 12, 13]) (S.loop (fun m κ wj => ∃ i : Nat, i ≤ p.xs.length ∧ m = p.xs.length - i ∧ κ = [(0, .slice p.a p.xs.length p.cap), (1, .slice q.a q.xs.length q.cap), (12, iV ((p.xs.length : Nat) : Int)), (13, iV ((i : Nat) : Int))] ∧ Ext E0 w wj ∧ (∀ (j : Nat) (x y : X), j < i → p.xs[j]? = some x → q.xs[j]? = some y → eqX x y = true)) ⟨0, Nat.zero_le _, rfl, by kernel_rfl, Ext.refl _, fun _ _ _ h => absurd h (Nat.not_lt_zero _)⟩ ?_)))
  rintro _ _ w4 ⟨i4, hi4, rfl, rfl, E4, hv4⟩
  have sE4 := E4.size
  refine S.seq (S.region (S.run 1 [] [0, 1, 12, 13, 14] (rs := []) (κ' := [(0, .slice p.a p.xs.length p.cap), (1, .slice q.a q.xs.length q.cap), (12, iV ((p.xs.length : Nat) : Int)), (13, iV ((i4 : Nat) : Int)), (14, .bool (decide (((i4 : Nat) : Int) < ((p.xs.length : Nat) : Int))))]) (by kernel_rfl) (by kernel_rfl) rfl ?_))
  refine S.regEnd (by kernel_rfl) (S.seq (S.both 14 (decide (((i4 : Nat) : Int) < ((p.xs.length : Nat) : Int))) (by kernel_rfl) (fun c5 => ?_) (fun c5 => ?_)))
  ·skip
   have p6 : ((i4 : Nat) : Int) < ((p.xs.length : Nat) : Int) := of_decide_eq_true c5
   refine S.yes (by kernel_rfl) (S.skip (S.seq (S.block (S.seq (S.region (S.run 2 [] [0, 1, 5, 12, 13] (rs := []) (κ' := [(0, .slice p.a p.xs.length p.cap), (1, .slice q.a q.xs.length q.cap), (5, iV ((i4 : Nat) : Int)), (12, iV ((p.xs.length : Nat) : Int)), (13, iV ((i4 : Nat) : Int))]) (by kernel_rfl) (by kernel_rfl) rfl ?_))))))
   refine S.regEnd (by kernel_rfl) (S.seq (S.drawN 10 #[false, false, false, false, false, false, false, false, false, false] 10 (fun u u' => Ext E0 u u') (fun u u' => Ext E0 u u') (by kernel_rfl) (by kernel_rfl) (by kernel_rfl) (fun w7 E7 z7 => ?_)))
   have sE7 := E7.size
   refine S.dreads bodyPost_panicOk [0, 1, 4, 5] 6 [] [0, 1, 12, 13, 16, 17, 20, 21] (rs := []) (κ' := [(0, .slice p.a p.xs.length p.cap), (1, .slice q.a q.xs.length q.cap), (12, iV ((p.xs.length : Nat) : Int)), (13, iV ((i4 : Nat) : Int)), (16, .slice p.a p.xs.length p.cap), (17, iV ((i4 : Nat) : Int)), (20, .slice q.a q.xs.length q.cap), (21, iV ((i4 : Nat) : Int))]) (l' := #[true, true, false, false, true, true, false, false, false, false]) (by kernel_rfl) (by kernel_rfl) (by kernel_rfl) (fun _ _ => rfl) ?_
   have R8 := hp.1.pres (.of0 E4)
   have R9 := R8.pres (.of0 E7)
   obtain ⟨x10, b10, o10, hx10, h10, H10⟩ := R9.get i4 (by omega)
   have T11 := hp.pres (.of0 E4)
   have T12 := T11.pres (.of0 E7)
   have K10 := T12.2.2 _ (List.mem_of_getElem? hx10)
   have IH9 := IH _ (List.mem_of_getElem? hx10)
   refine S.dlaw bodyPost_panicOk 2 18 5 (v := .pointer (some ⟨b10, o10 + i4 * 3, none⟩)) (l' := #[true, true, true, false, true, true, false, false, false, false]) (by kernel_rfl) (by kernel_rfl) (by kernel_rfl) (by kernel_rfl) (fun w' hw => lawRun (s := Instr.indexAt 22 (.slice p.a p.xs.length p.cap) (.int .i64 ((i4 : Nat) : Int))) (by kernel_rfl) (run_idx (e := 60) i4 h10 (by kernel_rfl) (by kernel_rfl) (by omega))) ?_
   refine S.dreads bodyPost_panicOk [3] 4 [.v (iV x10.d.1), .v (iV x10.d.2), .v (.slice x10.a x10.len x10.cap)] [0, 1, 12, 13, 19, 20, 21] (rs := [.load ⟨b10, o10 + i4 * 3, none⟩ (iV x10.d.1), .load ⟨b10, o10 + i4 * 3 + 1, none⟩ (iV x10.d.2), .load ⟨b10, o10 + i4 * 3 + 2, none⟩ (.slice x10.a x10.len x10.cap)]) (κ' := [(0, .slice p.a p.xs.length p.cap), (1, .slice q.a q.xs.length q.cap), (12, iV ((p.xs.length : Nat) : Int)), (13, iV ((i4 : Nat) : Int)), (19, .agg #[iV x10.d.1, iV x10.d.2, .slice x10.a x10.len x10.cap]), (20, .slice q.a q.xs.length q.cap), (21, iV ((i4 : Nat) : Int))]) (l' := #[true, true, true, true, true, true, false, false, false, false]) (by kernel_rfl) (by kernel_rfl) (by kernel_rfl) (fun w' hw => have hw := hw.elim id id; (.load ((H10.pres (.of0 hw)).cell0 rfl) (.load ((H10.pres (.of0 hw)).cell 1 rfl) (.load ((H10.pres (.of0 hw)).cell 2 rfl) .nil)))) ?_
   have R13 := hq.1.pres (.of0 E4)
   have R14 := R13.pres (.of0 E7)
   obtain ⟨x15, b15, o15, hx15, h15, H15⟩ := R14.get i4 (by omega)
   have T16 := hq.pres (.of0 E4)
   have T17 := T16.pres (.of0 E7)
   have K15 := T17.2.2 _ (List.mem_of_getElem? hx15)
   refine S.dlaw bodyPost_panicOk 6 22 3 (v := .pointer (some ⟨b15, o15 + i4 * 3, none⟩)) (l' := #[true, true, true, true, true, true, true, false, false, false]) (by kernel_rfl) (by kernel_rfl) (by kernel_rfl) (by kernel_rfl) (fun w' hw => lawRun (s := Instr.indexAt 22 (.slice q.a q.xs.length q.cap) (.int .i64 ((i4 : Nat) : Int))) (by kernel_rfl) (run_idx (e := 60) i4 h15 (by kernel_rfl) (by kernel_rfl) (by omega))) ?_
   refine S.dreads bodyPost_panicOk [7] 2 [.v (iV x15.d.1), .v (iV x15.d.2), .v (.slice x15.a x15.len x15.cap)] [0, 1, 12, 13, 19, 23] (rs := [.load ⟨b15, o15 + i4 * 3, none⟩ (iV x15.d.1), .load ⟨b15, o15 + i4 * 3 + 1, none⟩ (iV x15.d.2), .load ⟨b15, o15 + i4 * 3 + 2, none⟩ (.slice x15.a x15.len x15.cap)]) (κ' := [(0, .slice p.a p.xs.length p.cap), (1, .slice q.a q.xs.length q.cap), (12, iV ((p.xs.length : Nat) : Int)), (13, iV ((i4 : Nat) : Int)), (19, .agg #[iV x10.d.1, iV x10.d.2, .slice x10.a x10.len x10.cap]), (23, .agg #[iV x15.d.1, iV x15.d.2, .slice x15.a x15.len x15.cap])]) (l' := #[true, true, true, true, true, true, true, true, false, false]) (by kernel_rfl) (by kernel_rfl) (by kernel_rfl) (fun w' hw => have hw := hw.elim id id; (.load ((H15.pres (.of0 hw)).cell0 rfl) (.load ((H15.pres (.of0 hw)).cell 1 rfl) (.load ((H15.pres (.of0 hw)).cell 2 rfl) .nil)))) ?_
   refine S.dnext (j := 8) (l' := #[true, true, true, true, true, true, true, true, true, false]) (by kernel_rfl) (by kernel_rfl) (sw1 (by kernel_rfl) (Ext.refl _)) ?_
   refine S.call (dst := some 24) (f := 67) (args := #[.agg #[iV x10.d.1, iV x10.d.2, .slice x10.a x10.len x10.cap], .agg #[iV x15.d.1, iV x15.d.2, .slice x15.a x15.len x15.cap]]) (by kernel_rfl) (by kernel_rfl) ((IH9 n m x15 _ K10 K15).mono ?_)
   rintro _ w18 ⟨E18, rfl⟩
   refine After.ret (by kernel_rfl) ?_
   have sE18 := E18.size
   refine S.dreads bodyPost_panicOk [9] 0 [] [0, 1, 12, 13, 25] (rs := []) (κ' := [(0, .slice p.a p.xs.length p.cap), (1, .slice q.a q.xs.length q.cap), (12, iV ((p.xs.length : Nat) : Int)), (13, iV ((i4 : Nat) : Int)), (25, .bool (!(eqX x10 x15)))]) (l' := #[true, true, true, true, true, true, true, true, true, true]) (by kernel_rfl) (by kernel_rfl) (by kernel_rfl) (fun _ _ => rfl) ?_
   refine S.dend (by kernel_rfl) (sw1 (by kernel_rfl) E18) ?_
   refine S.both 25 (!(eqX x10 x15)) (by kernel_rfl) (fun c19 => ?_) (fun c19 => ?_)
   ·skip
    have c20 : (eqX x10 x15) = false := notT c19
    refine S.yes (by kernel_rfl) (S.seq (S.region (S.run 1 [] [4] (rs := []) (κ' := [(4, .bool false)]) (by kernel_rfl) (by kernel_rfl) rfl ?_)))
    exact S.regEnd (by kernel_rfl) (S.ret1 (v := .bool false) rfl (by kernel_rfl) ⟨(E4.trans E7).trans E18, by rw [(eqL_diff hx10 hx15 (by simpa using c19) : eqX.eqL p.xs q.xs = false)]⟩)
   ·skip
    have c21 : (eqX x10 x15) = true := notF c19
    refine S.no (by kernel_rfl) (S.skip (S.out (S.region (S.run 1 [] [0, 1, 12, 13, 26] (rs := []) (κ' := [(0, .slice p.a p.xs.length p.cap), (1, .slice q.a q.xs.length q.cap), (12, iV ((p.xs.length : Nat) : Int)), (13, iV ((i4 : Nat) : Int)), (26, iV (IntKind.i64.wrap (((i4 : Nat) : Int) + 1)))]) (by kernel_rfl) (by kernel_rfl) rfl ?_))))
    refine S.subst 26 (iV (IntKind.i64.wrap (((i4 : Nat) : Int) + 1))) (iV ((i4 + 1 : Nat) : Int)) (by kernel_rfl) (congrArg (Value.int .i64) (by rw [wrap_i64 (by omega) (by omega)]; omega)) ?_
    refine S.run 1 [] [0, 1, 12, 13] (rs := []) (κ' := [(0, .slice p.a p.xs.length p.cap), (1, .slice q.a q.xs.length q.cap), (12, iV ((p.xs.length : Nat) : Int)), (13, iV ((i4 + 1 : Nat) : Int))]) (by kernel_rfl) (by kernel_rfl) rfl ?_
    exact S.regEnd (by kernel_rfl) (S.stop (fun _ hs hh hd => ⟨hs, hd, p.xs.length - (i4 + 1), [(0, .slice p.a p.xs.length p.cap), (1, .slice q.a q.xs.length q.cap), (12, iV ((p.xs.length : Nat) : Int)), (13, iV (((i4 + 1) : Nat) : Int))], by omega, hh, i4 + 1, by omega, rfl, rfl, ((E4.trans E7).trans E18), eqL_step hv4 hx10 hx15 (by simpa using c19)⟩))
  ·skip
   have p22 : ¬ (((i4 : Nat) : Int) < ((p.xs.length : Nat) : Int)) := of_decide_eq_false c5
   refine S.no (by kernel_rfl) (S.exit rfl (S.seq (S.region (S.run 1 [] [4] (rs := []) (κ' := [(4, .bool true)]) (by kernel_rfl) (by kernel_rfl) rfl ?_))))
   exact S.regEnd (by kernel_rfl) (S.ret1 (v := .bool true) rfl (by kernel_rfl) ⟨E4, by rw [(eqL_all (by omega) (fun j x y hx hy => hv4 j x y (by have := (List.getElem?_eq_some_iff.1 hx).1; omega) hx hy) : eqX.eqL p.xs q.xs = true)]⟩)

theorem SameExp_step (x y : X) (IH : ∀ z, z ∈ x.kids → SameExp1 z) (n m : Nat) (w : World) (hx : XOk n w x) (hy : XOk m w y) :
    Calls Try.prog 67 #[.agg #[iV x.d.1, iV x.d.2, .slice x.a x.len x.cap], .agg #[iV y.d.1, iV y.d.2, .slice y.a y.len y.cap]] w (fun e w' => Ext E0 w w' ∧ e = .returned (.bool (eqX x y))) := by
 refine calls_of_S (n := 24) Try.func67 rfl rfl (by kernel_rfl) ?_
 have hlx := hx.len; have hly := hy.len
 refine S.seq (S.region (S.one (by kernel_rfl) (S.new 2 [iV x.d.1, iV x.d.2, .slice x.a x.len x.cap] 60 (fun b => pT b) (by kernel_rfl) (by kernel_rfl) (fun b => by kernel_rfl) (fun b1 w1 E1 B1 e1 z1 => ?_))))
 have sE1 := E1.size
 refine S.one (by kernel_rfl) (S.new 3 [iV y.d.1, iV y.d.2, .slice y.a y.len y.cap] 60 (fun b => pT b) (by kernel_rfl) (by kernel_rfl) (fun b => by kernel_rfl) (fun b2 w2 E2 B2 e2 z2 => ?_))
 have sE2 := E2.size
 refine S.run 1 [] [2, 3] (rs := []) (κ' := [(2, pT b1), (3, pT b2)]) (by kernel_rfl) (by kernel_rfl) rfl ?_
 refine S.regEnd (by kernel_rfl) (S.seq (S.region ?_))
 have B3 := B1.ext0 E2
 refine S.run 6 [.v (iV x.d.1), .v (iV y.d.1)] [2, 3, 10] (rs := [.load ⟨b1, 0, none⟩ (iV x.d.1), .load ⟨b2, 0, none⟩ (iV y.d.1)]) (κ' := [(2, pT b1), (3, pT b2), (10, .bool (x.d.1 == y.d.1))]) (by kernel_rfl) (by kernel_rfl) (.load (B3.cell 0 rfl) (.load (B2.cell 0 rfl) .nil)) ?_
 refine S.both 10 (x.d.1 == y.d.1) (by kernel_rfl) (fun c4 => ?_) (fun c4 => ?_)
 ·skip
  have p5 : x.d.1 = y.d.1 := by simpa using c4
  refine S.run 7 [.v (iV x.d.2), .v (iV y.d.2)] [2, 3, 17] (rs := [.load ⟨b1, 1, none⟩ (iV x.d.2), .load ⟨b2, 1, none⟩ (iV y.d.2)]) (κ' := [(2, pT b1), (3, pT b2), (17, .bool (x.d.2 == y.d.2))]) (by kernel_rfl) (by kernel_rfl) (.load (B3.cell 1 rfl) (.load (B2.cell 1 rfl) .nil)) ?_
  refine S.both 17 (x.d.2 == y.d.2) (by kernel_rfl) (fun c6 => ?_) (fun c6 => ?_)
  ·skip
   have p7 : x.d.2 = y.d.2 := by simpa using c6
   refine S.run 4 [.v (.slice x.a x.len x.cap), .v (.slice y.a y.len y.cap)] [17, 19, 21] (rs := [.load ⟨b1, 2, none⟩ (.slice x.a x.len x.cap), .load ⟨b2, 2, none⟩ (.slice y.a y.len y.cap)]) (κ' := [(17, .bool true), (19, .slice x.a x.len x.cap), (21, .slice y.a y.len y.cap)]) (by kernel_rfl) (by kernel_rfl) (.load (B3.cell 2 rfl) (.load (B2.cell 2 rfl) .nil)) ?_
   have T9 := hx.pres (.of0 E1)
   have T10 := T9.pres (.of0 E2)
   have T11 := hy.pres (.of0 E1)
   have T12 := T11.pres (.of0 E2)
   have hk9 := SameProg_of (X.prog x) (X.prog y) IH n m _ T10.prog T12.prog
   rw [show (X.prog x).xs.length = x.len from hlx, show (X.prog y).xs.length = y.len from hly] at hk9
   refine S.one (by kernel_rfl) (S.call (dst := some 22) (f := 33) (args := #[.slice x.a x.len x.cap, .slice y.a y.len y.cap]) (by kernel_rfl) (by kernel_rfl) (hk9.mono ?_))
   rintro _ w8 ⟨E8, rfl⟩
   refine After.ret (by kernel_rfl) ?_
   have sE8 := E8.size
   refine S.run 2 [] [4] (rs := []) (κ' := [(4, .bool (eqX.eqL x.kids y.kids))]) (by kernel_rfl) (by kernel_rfl) rfl ?_
   exact S.regEnd (by kernel_rfl) (S.ret1 (v := .bool (eqX.eqL x.kids y.kids)) rfl (by kernel_rfl) ⟨(E1.trans E2).trans E8, by rw [eqX_eq]; simp [*]⟩)
  ·skip
   have p13 : x.d.2 ≠ y.d.2 := by simpa using c6
   refine S.run 7 [] [4] (rs := []) (κ' := [(4, .bool false)]) (by kernel_rfl) (by kernel_rfl) rfl ?_
   exact S.regEnd (by kernel_rfl) (S.ret1 (v := .bool false) rfl (by kernel_rfl) ⟨E1.trans E2, by rw [eqX_eq]; simp [*]⟩)
 ·skip
  have p14 : x.d.1 ≠ y.d.1 := by simpa using c4
  refine S.run 14 [] [4] (rs := []) (κ' := [(4, .bool false)]) (by kernel_rfl) (by kernel_rfl) rfl ?_
  exact S.regEnd (by kernel_rfl) (S.ret1 (v := .bool false) rfl (by kernel_rfl) ⟨E1.trans E2, by rw [eqX_eq]; simp [*]⟩)

theorem SameExp_all : ∀ x, SameExp1 x := by
  apply Tr.rec (motive_1 := SameExp1) (motive_2 := fun l => ∀ y, y ∈ l → SameExp1 y)
  · intro d a len cap kids ih n m y w hx hy
    exact SameExp_step (.mk d a len cap kids) y ih n m w hx hy
  · intro y hy; simp at hy
  · intro x r h1 h2 y hy
    rcases List.mem_cons.1 hy with rfl | hy
    · exact h1
    · exact h2 y hy
theorem SameProg_spec (p q : LP) (n m : Nat) (w : World) (hp : p.ok n w) (hq : q.ok m w) : Calls Try.prog 33 #[.slice p.a p.xs.length p.cap, .slice q.a q.xs.length q.cap] w (fun e w' => Ext E0 w w' ∧ e = .returned (.bool (eqX.eqL p.xs q.xs))) :=
  SameProg_of p q (fun x _ => SameExp_all x) n m w hp hq

theorem SameLists_spec (n m r s : Nat) (a b : Option Addr) (c d : Nat) (xs ys : List LS) (w : World) (R1 : Row r 23 1 lsCs w a xs) (R2 : Row s 23 1 lsCs w b ys) (ha : RowsOk n w xs) (hb : RowsOk m w ys) (hl1 : xs.length ≤ 9223372036854775807) (hl2 : ys.length ≤ 9223372036854775807) :
    Calls Try.prog 32 #[.slice a xs.length c, .slice b ys.length d] w (fun e w' => Ext E0 w w' ∧ e = .returned (.bool (xs.map LS.xs == ys.map LS.xs))) := by
 refine calls_of_S (n := 27) Try.func32 rfl rfl (by kernel_rfl) ?_
 refine S.seq (S.region (S.run 1 [] [0, 1] (rs := []) (κ' := [(0, .slice a xs.length c), (1, .slice b ys.length d)]) (by kernel_rfl) (by kernel_rfl) rfl ?_))
 refine S.regEnd (by kernel_rfl) (S.seq (S.seq (S.region (S.run 5 [] [0, 1, 10] (rs := []) (κ' := [(0, .slice a xs.length c), (1, .slice b ys.length d), (10, .bool (((xs.length : Nat) : Int) != ((ys.length : Nat) : Int)))]) (by kernel_rfl) (by kernel_rfl) rfl ?_))))
 refine S.regEnd (by kernel_rfl) (S.both 10 (((xs.length : Nat) : Int) != ((ys.length : Nat) : Int)) (by kernel_rfl) (fun c1 => ?_) (fun c1 => ?_))
 ·skip
  have p2 : ((xs.length : Nat) : Int) ≠ ((ys.length : Nat) : Int) := by simpa using c1
  refine S.yes (by kernel_rfl) (S.seq (S.region (S.run 1 [] [4] (rs := []) (κ' := [(4, .bool false)]) (by kernel_rfl) (by kernel_rfl) rfl ?_)))
  exact S.regEnd (by kernel_rfl) (S.ret1 (v := .bool false) rfl (by kernel_rfl) ⟨Ext.refl _, by rw [(all2_len (by omega) : (xs.map LS.xs == ys.map LS.xs) = false)]⟩)
 ·skip
  have p3 : ((xs.length : Nat) : Int) = ((ys.length : Nat) : Int) := by simpa using c1
  refine S.no (by kernel_rfl) (S.skip (S.seq (S.seq (S.region (S.run 3 [] [0, 1, 12, 13] (rs := []) (κ' := [(0, .slice a xs.length c), (1, .slice b ys.length d), (12, iV ((xs.length : Nat) : Int)), (13, iV 0)]) (by kernel_rfl) (by kernel_rfl) rfl ?_)))))
  refine S.regEnd (by kernel_rfl) (S.block (S.weaken (ks := [0, 1, 12, 13]) (S.loop (fun m κ wj => ∃ i : Nat, i ≤ xs.length ∧ m = xs.length - i ∧ κ = [(0, .slice a xs.length c), (1, .slice b ys.length d), (12, iV ((xs.length : Nat) : Int)), (13, iV ((i : Nat) : Int))] ∧ Ext E0 w wj ∧ (∀ j, j < i → (xs[j]?).map LS.xs = (ys[j]?).map LS.xs)) ⟨0, Nat.zero_le _, rfl, by kernel_rfl, Ext.refl _, fun _ h => absurd h (Nat.not_lt_zero _)⟩ ?_)))
  rintro _ _ w4 ⟨i4, hi4, rfl, rfl, E4, hv4⟩
  have sE4 := E4.size
  refine S.seq (S.region (S.run 1 [] [0, 1, 12, 13, 14] (rs := []) (κ' := [(0, .slice a xs.length c), (1, .slice b ys.length d), (12, iV ((xs.length : Nat) : Int)), (13, iV ((i4 : Nat) : Int)), (14, .bool (decide (((i4 : Nat) : Int) < ((xs.length : Nat) : Int))))]) (by kernel_rfl) (by kernel_rfl) rfl ?_))
  refine S.regEnd (by kernel_rfl) (S.seq (S.both 14 (decide (((i4 : Nat) : Int) < ((xs.length : Nat) : Int))) (by kernel_rfl) (fun c5 => ?_) (fun c5 => ?_)))
  ·skip
   have p6 : ((i4 : Nat) : Int) < ((xs.length : Nat) : Int) := of_decide_eq_true c5
   refine S.yes (by kernel_rfl) (S.skip (S.seq (S.block (S.seq (S.region (S.run 2 [] [0, 1, 5, 12, 13] (rs := []) (κ' := [(0, .slice a xs.length c), (1, .slice b ys.length d), (5, iV ((i4 : Nat) : Int)), (12, iV ((xs.length : Nat) : Int)), (13, iV ((i4 : Nat) : Int))]) (by kernel_rfl) (by kernel_rfl) rfl ?_))))))
   refine S.regEnd (by kernel_rfl) (S.seq (S.drawN 10 #[false, false, false, false, false, false, false, false, false, false] 10 (fun u u' => Ext E0 u u') (fun u u' => Ext E0 u u') (by kernel_rfl) (by kernel_rfl) (by kernel_rfl) (fun w7 E7 z7 => ?_)))
   have sE7 := E7.size
   refine S.dreads bodyPost_panicOk [0, 1, 4, 5] 6 [] [0, 1, 12, 13, 16, 17, 20, 21] (rs := []) (κ' := [(0, .slice a xs.length c), (1, .slice b ys.length d), (12, iV ((xs.length : Nat) : Int)), (13, iV ((i4 : Nat) : Int)), (16, .slice a xs.length c), (17, iV ((i4 : Nat) : Int)), (20, .slice b ys.length d), (21, iV ((i4 : Nat) : Int))]) (l' := #[true, true, false, false, true, true, false, false, false, false]) (by kernel_rfl) (by kernel_rfl) (by kernel_rfl) (fun _ _ => rfl) ?_
   have R8 := R1.pres (.of0 E4)
   have R9 := R8.pres (.of0 E7)
   obtain ⟨x10, b10, o10, hx10, h10, H10⟩ := R9.get i4 (by omega)
   have T11 := ha.pres (.of0 E4)
   have T12 := T11.pres (.of0 E7)
   have K10 := T12 _ (List.mem_of_getElem? hx10)
   have L10 := K10.2
   refine S.dlaw bodyPost_panicOk 2 18 5 (v := .pointer (some ⟨b10, o10 + i4 * 1, none⟩)) (l' := #[true, true, true, false, true, true, false, false, false, false]) (by kernel_rfl) (by kernel_rfl) (by kernel_rfl) (by kernel_rfl) (fun w' hw => lawRun (s := Instr.indexAt 34 (.slice a xs.length c) (.int .i64 ((i4 : Nat) : Int))) (by kernel_rfl) (run_idx (e := 23) i4 h10 (by kernel_rfl) (by kernel_rfl) (by omega))) ?_
   refine S.dreads bodyPost_panicOk [3] 4 [.v (.slice x10.a x10.xs.length x10.cap)] [0, 1, 12, 13, 19, 20, 21] (rs := [.load ⟨b10, o10 + i4 * 1, none⟩ (.slice x10.a x10.xs.length x10.cap)]) (κ' := [(0, .slice a xs.length c), (1, .slice b ys.length d), (12, iV ((xs.length : Nat) : Int)), (13, iV ((i4 : Nat) : Int)), (19, .slice x10.a x10.xs.length x10.cap), (20, .slice b ys.length d), (21, iV ((i4 : Nat) : Int))]) (l' := #[true, true, true, true, true, true, false, false, false, false]) (by kernel_rfl) (by kernel_rfl) (by kernel_rfl) (fun w' hw => have hw := hw.elim id id; (.load ((H10.pres (.of0 hw)).cell0 rfl) .nil)) ?_
   have R13 := R2.pres (.of0 E4)
   have R14 := R13.pres (.of0 E7)
   obtain ⟨x15, b15, o15, hx15, h15, H15⟩ := R14.get i4 (by omega)
   have T16 := hb.pres (.of0 E4)
   have T17 := T16.pres (.of0 E7)
   have K15 := T17 _ (List.mem_of_getElem? hx15)
   have L15 := K15.2
   refine S.dlaw bodyPost_panicOk 6 22 3 (v := .pointer (some ⟨b15, o15 + i4 * 1, none⟩)) (l' := #[true, true, true, true, true, true, true, false, false, false]) (by kernel_rfl) (by kernel_rfl) (by kernel_rfl) (by kernel_rfl) (fun w' hw => lawRun (s := Instr.indexAt 34 (.slice b ys.length d) (.int .i64 ((i4 : Nat) : Int))) (by kernel_rfl) (run_idx (e := 23) i4 h15 (by kernel_rfl) (by kernel_rfl) (by omega))) ?_
   refine S.dreads bodyPost_panicOk [7] 2 [.v (.slice x15.a x15.xs.length x15.cap)] [0, 1, 12, 13, 19, 23] (rs := [.load ⟨b15, o15 + i4 * 1, none⟩ (.slice x15.a x15.xs.length x15.cap)]) (κ' := [(0, .slice a xs.length c), (1, .slice b ys.length d), (12, iV ((xs.length : Nat) : Int)), (13, iV ((i4 : Nat) : Int)), (19, .slice x10.a x10.xs.length x10.cap), (23, .slice x15.a x15.xs.length x15.cap)]) (l' := #[true, true, true, true, true, true, true, true, false, false]) (by kernel_rfl) (by kernel_rfl) (by kernel_rfl) (fun w' hw => have hw := hw.elim id id; (.load ((H15.pres (.of0 hw)).cell0 rfl) .nil)) ?_
   refine S.dnext (j := 8) (l' := #[true, true, true, true, true, true, true, true, true, false]) (by kernel_rfl) (by kernel_rfl) (sw1 (by kernel_rfl) (Ext.refl _)) ?_
   refine S.call (dst := some 24) (f := 66) (args := #[.slice x10.a x10.xs.length x10.cap, .slice x15.a x15.xs.length x15.cap]) (by kernel_rfl) (by kernel_rfl) ((SameInts_spec _ _ _ _ _ _ _ _ _ K10.1 K15.1 (by omega) (by omega)).mono ?_)
   rintro _ w18 ⟨E18, rfl⟩
   refine After.ret (by kernel_rfl) ?_
   have sE18 := E18.size
   refine S.dreads bodyPost_panicOk [9] 0 [] [0, 1, 12, 13, 25] (rs := []) (κ' := [(0, .slice a xs.length c), (1, .slice b ys.length d), (12, iV ((xs.length : Nat) : Int)), (13, iV ((i4 : Nat) : Int)), (25, .bool (!(x10.xs == x15.xs)))]) (l' := #[true, true, true, true, true, true, true, true, true, true]) (by kernel_rfl) (by kernel_rfl) (by kernel_rfl) (fun _ _ => rfl) ?_
   refine S.dend (by kernel_rfl) (sw1 (by kernel_rfl) E18) ?_
   refine S.both 25 (!(x10.xs == x15.xs)) (by kernel_rfl) (fun c19 => ?_) (fun c19 => ?_)
   ·skip
    have c20 : (x10.xs == x15.xs) = false := notT c19
    refine S.yes (by kernel_rfl) (S.seq (S.region (S.run 1 [] [4] (rs := []) (κ' := [(4, .bool false)]) (by kernel_rfl) (by kernel_rfl) rfl ?_)))
    exact S.regEnd (by kernel_rfl) (S.ret1 (v := .bool false) rfl (by kernel_rfl) ⟨(E4.trans E7).trans E18, by rw [(all2_diff hx10 hx15 (by simpa using c19) : (xs.map LS.xs == ys.map LS.xs) = false)]⟩)
   ·skip
    have c21 : (x10.xs == x15.xs) = true := notF c19
    refine S.no (by kernel_rfl) (S.skip (S.out (S.region (S.run 1 [] [0, 1, 12, 13, 26] (rs := []) (κ' := [(0, .slice a xs.length c), (1, .slice b ys.length d), (12, iV ((xs.length : Nat) : Int)), (13, iV ((i4 : Nat) : Int)), (26, iV (IntKind.i64.wrap (((i4 : Nat) : Int) + 1)))]) (by kernel_rfl) (by kernel_rfl) rfl ?_))))
    refine S.subst 26 (iV (IntKind.i64.wrap (((i4 : Nat) : Int) + 1))) (iV ((i4 + 1 : Nat) : Int)) (by kernel_rfl) (congrArg (Value.int .i64) (by rw [wrap_i64 (by omega) (by omega)]; omega)) ?_
    refine S.run 1 [] [0, 1, 12, 13] (rs := []) (κ' := [(0, .slice a xs.length c), (1, .slice b ys.length d), (12, iV ((xs.length : Nat) : Int)), (13, iV ((i4 + 1 : Nat) : Int))]) (by kernel_rfl) (by kernel_rfl) rfl ?_
    exact S.regEnd (by kernel_rfl) (S.stop (fun _ hs hh hd => ⟨hs, hd, xs.length - (i4 + 1), [(0, .slice a xs.length c), (1, .slice b ys.length d), (12, iV ((xs.length : Nat) : Int)), (13, iV (((i4 + 1) : Nat) : Int))], by omega, hh, i4 + 1, by omega, rfl, rfl, ((E4.trans E7).trans E18), all2_step hv4 hx10 hx15 (by simpa using c19)⟩))
  ·skip
   have p22 : ¬ (((i4 : Nat) : Int) < ((xs.length : Nat) : Int)) := of_decide_eq_false c5
   refine S.no (by kernel_rfl) (S.exit rfl (S.seq (S.region (S.run 1 [] [4] (rs := []) (κ' := [(4, .bool true)]) (by kernel_rfl) (by kernel_rfl) rfl ?_))))
   exact S.regEnd (by kernel_rfl) (S.ret1 (v := .bool true) rfl (by kernel_rfl) ⟨E4, by rw [(all2_all (by omega) (by assumption) (by omega) : (xs.map LS.xs == ys.map LS.xs) = true)]⟩)

theorem Row.ofBlk {α : Type} {e e' sz : Nat} {cs : α → List Value} {w : World} {b n : Nat} {xs : List α} (h : Blk w b (xs.flatMap cs) e') (hcs : ∀ y, (cs y).length = sz) (hn : b < n) (ht : tyB e e' = true := by rfl) : Row n e sz cs w (some ⟨b, 0, none⟩) xs := by
  intro i x hx
  refine ⟨b, 0, rfl, hn, _, e', (0, 0), ht, h, fun j v hv => ?_⟩
  have hj : j < sz := by rw [← hcs x]; exact (List.getElem?_eq_some_iff.1 hv).1
  have hf := flat_get hcs xs i x j hx hj
  rw [hv] at hf
  rw [Nat.zero_add]; simpa using hf
theorem XOk.nil {n : Nat} {w : World} (d : Int × Int) : XOk n w (.mk d none 0 0 []) := .mk d none 0 0 [] rfl (by omega) trivial Row.nil (by simp)
theorem XOk.ofB {n : Nat} {w : World} {b : Nat} {kids : List X} {k : Nat} (d : Int × Int) (h : Blk w b (kids.flatMap xCs) 60) (hl : kids.length = k) (hb : k ≤ 1000) (hn : b < n) (hk : ∀ y, y ∈ kids → XOk n w y) : XOk n w (.mk d (some ⟨b, 0, none⟩) k k kids) :=
  .mk d _ k k kids hl (by omega) trivial (Row.ofBlk h (fun _ => rfl) hn) hk

theorem Of_spec (op n : Int) (a : Option Addr) (len cap : Nat) (w : World) :
    Calls Try.prog 28 #[iV op, iV n, .slice a len cap] w (fun e w' => Ext E0 w w' ∧ e = .returned (.agg #[iV op, iV n, .slice a len cap])) := by
 refine calls_of_S (n := 11) Try.func28 rfl rfl (by kernel_rfl) ?_
 refine S.seq (S.region (S.one (by kernel_rfl) (S.new 6 [iV 0, iV 0, .slice none 0 0] 60 (fun b => pT b) (by kernel_rfl) (by kernel_rfl) (fun b => by kernel_rfl) (fun b1 w1 E1 B1 e1 z1 => ?_))))
 have sE1 := E1.size
 refine S.regEnd (by kernel_rfl) (S.seq (S.region (S.run 4 [] [6, 10] (rs := []) (κ' := [(6, pT b1), (10, .agg #[iV op, iV n, .slice a len cap])]) (by kernel_rfl) (by kernel_rfl) rfl ?_)))
 refine S.one (by kernel_rfl) (S.store 0 [iV op, iV n, .slice a len cap] [iV op, iV n, .slice a len cap] B1 (by kernel_rfl) (by kernel_rfl) (by kernel_rfl) (by kernel_rfl) (by kernel_rfl) (fun w2 E2 B2 z2 => ?_))
 have sE2 := E2.size
 exact S.regEnd (by kernel_rfl) (S.retR (A := [.v (iV op), .v (iV n), .v (.slice a len cap)]) (rs := [.load ⟨b1, 0, none⟩ (iV op), .load ⟨b1, 1, none⟩ (iV n), .load ⟨b1, 2, none⟩ (.slice a len cap)]) (v := .agg #[iV op, iV n, .slice a len cap]) (fun _ => by kernel_rfl) (.load (B2.cell 0 rfl) (.load (B2.cell 1 rfl) (.load (B2.cell 2 rfl) .nil))) ⟨E1.thenS E2 (by omega), rfl⟩)

theorem Num_spec (n : Int) (w : World) :
    Calls Try.prog 29 #[iV n] w (fun e w' => Ext E0 w w' ∧ e = .returned (.agg #[iV 1, iV n, .slice none 0 0])) := by
 refine calls_of_S (n := 5) Try.func29 rfl rfl (by kernel_rfl) ?_
 refine S.seq (S.region (S.one (by kernel_rfl) (S.new 2 [iV 0, iV 0, .slice none 0 0] 60 (fun b => pT b) (by kernel_rfl) (by kernel_rfl) (fun b => by kernel_rfl) (fun b1 w1 E1 B1 e1 z1 => ?_))))
 have sE1 := E1.size
 refine S.regEnd (by kernel_rfl) (S.seq (S.region (S.run 1 [] [2, 3] (rs := []) (κ' := [(2, pT b1), (3, iV n)]) (by kernel_rfl) (by kernel_rfl) rfl ?_)))
 refine S.one (by kernel_rfl) (S.call (dst := some 4) (f := 28) (args := #[iV 1, iV n, .slice none 0 0]) (by kernel_rfl) (by kernel_rfl) ((Of_spec _ _ _ _ _ _).mono ?_))
 rintro _ w2 ⟨E2, rfl⟩
 refine After.ret (by kernel_rfl) ?_
 have sE2 := E2.size
 have B3 := B1.ext0 E2
 refine S.one (by kernel_rfl) (S.store 0 [iV 1, iV n, .slice none 0 0] [iV 1, iV n, .slice none 0 0] B3 (by kernel_rfl) (by kernel_rfl) (by kernel_rfl) (by kernel_rfl) (by kernel_rfl) (fun w4 E4 B4 z4 => ?_))
 have sE4 := E4.size
 exact S.regEnd (by kernel_rfl) (S.retR (A := [.v (iV 1), .v (iV n), .v (.slice none 0 0)]) (rs := [.load ⟨b1, 0, none⟩ (iV 1), .load ⟨b1, 1, none⟩ (iV n), .load ⟨b1, 2, none⟩ (.slice none 0 0)]) (v := .agg #[iV 1, iV n, .slice none 0 0]) (fun _ => by kernel_rfl) (.load (B4.cell 0 rfl) (.load (B4.cell 1 rfl) (.load (B4.cell 2 rfl) .nil))) ⟨(E1.trans E2).thenS E4 (by omega), rfl⟩)

theorem Hand_spec (w : World) :
    Calls Try.prog 30 #[] w (fun e w' => Ext E0 w w' ∧ e = .returned (.agg #[iV 2, iV 0, .slice none 0 0])) := by
 refine calls_of_S (n := 2) Try.func30 rfl rfl (by kernel_rfl) ?_
 refine S.seq (S.region (S.one (by kernel_rfl) (S.new 0 [iV 0, iV 0, .slice none 0 0] 60 (fun b => pT b) (by kernel_rfl) (by kernel_rfl) (fun b => by kernel_rfl) (fun b1 w1 E1 B1 e1 z1 => ?_))))
 have sE1 := E1.size
 refine S.regEnd (by kernel_rfl) (S.seq (S.region (S.one (by kernel_rfl) (S.call (dst := some 1) (f := 28) (args := #[iV 2, iV 0, .slice none 0 0]) (by kernel_rfl) (by kernel_rfl) ((Of_spec _ _ _ _ _ _).mono ?_)))))
 rintro _ w2 ⟨E2, rfl⟩
 refine After.ret (by kernel_rfl) ?_
 have sE2 := E2.size
 have B3 := B1.ext0 E2
 refine S.one (by kernel_rfl) (S.store 0 [iV 2, iV 0, .slice none 0 0] [iV 2, iV 0, .slice none 0 0] B3 (by kernel_rfl) (by kernel_rfl) (by kernel_rfl) (by kernel_rfl) (by kernel_rfl) (fun w4 E4 B4 z4 => ?_))
 have sE4 := E4.size
 exact S.regEnd (by kernel_rfl) (S.retR (A := [.v (iV 2), .v (iV 0), .v (.slice none 0 0)]) (rs := [.load ⟨b1, 0, none⟩ (iV 2), .load ⟨b1, 1, none⟩ (iV 0), .load ⟨b1, 2, none⟩ (.slice none 0 0)]) (v := .agg #[iV 2, iV 0, .slice none 0 0]) (fun _ => by kernel_rfl) (.load (B4.cell 0 rfl) (.load (B4.cell 1 rfl) (.load (B4.cell 2 rfl) .nil))) ⟨(E1.trans E2).thenS E4 (by omega), rfl⟩)

theorem event_spec (deed n val : Int) (a : Option Addr) (len cap : Nat) (a2 : Option Addr) (len2 cap2 : Nat) (w : World) :
    Calls Try.prog 26 #[iV deed, iV n, iV val, .slice a len cap, .slice a2 len2 cap2] w (fun e w' => Ext E0 w w' ∧ e = .returned (.agg #[iV deed, iV n, iV val, .slice a len cap, .slice a2 len2 cap2])) := by
 refine calls_of_S (n := 17) Try.func26 rfl rfl (by kernel_rfl) ?_
 refine S.seq (S.region (S.one (by kernel_rfl) (S.new 10 [iV 0, iV 0, iV 0, .slice none 0 0, .slice none 0 0] 43 (fun b => pT b) (by kernel_rfl) (by kernel_rfl) (fun b => by kernel_rfl) (fun b1 w1 E1 B1 e1 z1 => ?_))))
 have sE1 := E1.size
 refine S.regEnd (by kernel_rfl) (S.seq (S.region (S.run 6 [] [10, 16] (rs := []) (κ' := [(10, pT b1), (16, .agg #[iV deed, iV n, iV val, .slice a len cap, .slice a2 len2 cap2])]) (by kernel_rfl) (by kernel_rfl) rfl ?_)))
 refine S.one (by kernel_rfl) (S.store 0 [iV deed, iV n, iV val, .slice a len cap, .slice a2 len2 cap2] [iV deed, iV n, iV val, .slice a len cap, .slice a2 len2 cap2] B1 (by kernel_rfl) (by kernel_rfl) (by kernel_rfl) (by kernel_rfl) (by kernel_rfl) (fun w2 E2 B2 z2 => ?_))
 have sE2 := E2.size
 exact S.regEnd (by kernel_rfl) (S.retR (A := [.v (iV deed), .v (iV n), .v (iV val), .v (.slice a len cap), .v (.slice a2 len2 cap2)]) (rs := [.load ⟨b1, 0, none⟩ (iV deed), .load ⟨b1, 1, none⟩ (iV n), .load ⟨b1, 2, none⟩ (iV val), .load ⟨b1, 3, none⟩ (.slice a len cap), .load ⟨b1, 4, none⟩ (.slice a2 len2 cap2)]) (v := .agg #[iV deed, iV n, iV val, .slice a len cap, .slice a2 len2 cap2]) (fun _ => by kernel_rfl) (.load (B2.cell 0 rfl) (.load (B2.cell 1 rfl) (.load (B2.cell 2 rfl) (.load (B2.cell 3 rfl) (.load (B2.cell 4 rfl) .nil))))) ⟨E1.thenS E2 (by omega), rfl⟩)

end Go.Proofs.Ytmgakpnejbembaa
