/-
  CondChoice, a part of the proof (printed by a program of the prover): what functions of the given program compute, each under the conditions that its theorem names.
-/
import Derived.Test.YtmgakpnejbembaaA20
import Derived.Test.YtmgakpnejbembaaLibG
import Derived.Test.YtmgakpnejbembaaShelf
import Derived.Sort.OwnSortedInts
namespace Go.Proofs.Ytmgakpnejbembaa
open Go Go.Proofs.Ytmgakpnejbembaa.L

open Go.Sort Go.RowKit
theorem flat_int (zs : List Int) : zs.flatMap intCs = zs.map (Value.int .i64) := by
  induction zs with
  | nil => rfl
  | cons z r ih => simp [intCs, ih]
theorem sort_own {base cap : Nat} {a : Option Addr} {zs : List Int} {w : World} (h : OwnR base 3 1 w a zs.length cap (zs.flatMap intCs)) (hb : zs.length < 4611686018427387904) :
    Calls Try.prog 23 #[.slice a zs.length cap] w (fun e w' => e = .returned (.tuple #[]) ∧ Xt base [3] w w' ∧ OwnR base 3 1 w' a zs.length cap ((zs.mergeSort fun x y => decide (x ≤ y)).flatMap intCs)) := by
  rw [flat_int] at h
  rcases h.2 with ⟨hv, hn⟩ | ⟨g, c, cur, hv, hbg, hg, hnc, hcm, hcs, ht⟩
  · have : zs = [] := List.eq_nil_of_length_eq_zero hn
    subst this
    refine (Try.slices_Sort_int_none a cap w).mono ?_
    rintro e w' ⟨rfl, rfl⟩
    exact ⟨rfl, Xt.refl _, by simpa using h⟩
  · simp only [Value.slice.injEq] at hv
    obtain ⟨rfl, -, rfl⟩ := hv
    rw [Nat.mul_one] at ht hcs
    refine (Try.slices_Sort_int g 0 _ zs w (holds_of_blockI hg ht) (Array.getElem?_eq_some_iff.1 hg).1 hb).mono ?_
    rintro e w' ⟨rfl, n, os, rfl⟩
    refine ⟨rfl, Xt.ofGrown h (grownBy_sortedI _), ?_⟩
    rw [flat_int]
    exact ownsRow_sortedI (List.length_mergeSort _) hbg hg hnc hcm (by rw [Nat.mul_one]; exact hcs)
theorem compact_own {base cap : Nat} {a : Option Addr} {zs : List Int} {w : World} (h : OwnR base 3 1 w a zs.length cap (zs.flatMap intCs)) (hb : zs.length < 4611686018427387904) :
    Calls Try.prog 24 #[.slice a zs.length cap] w (fun e w' => e = .returned (.slice a (Lib.compact zs).length cap) ∧ Xt base [3] w w' ∧ OwnR base 3 1 w' a (Lib.compact zs).length cap ((Lib.compact zs).flatMap intCs)) := by
  rw [flat_int] at h
  rcases h.2 with ⟨hv, hn⟩ | ⟨g, c, cur, hv, hbg, hg, hnc, hcm, hcs, ht⟩
  · have : zs = [] := List.eq_nil_of_length_eq_zero hn
    subst this
    refine (Try.slices_Compact_int_empty a cap w).mono ?_
    rintro e w' ⟨rfl, rfl⟩
    exact ⟨rfl, Xt.refl _, h⟩
  · simp only [Value.slice.injEq] at hv
    obtain ⟨rfl, -, rfl⟩ := hv
    rw [Nat.mul_one] at ht hcs
    have hle := Lib.compact_length_le zs
    refine (Try.slices_Compact_int g 0 _ zs w (holds_of_blockI hg ht) (by omega) hnc).mono ?_
    rintro e w' ⟨rfl, n, rfl⟩
    refine ⟨rfl, ?_, ?_⟩
    · have := Xt.ofGrown h (grownBy_sortedI (w := w) (g := g) (n := n) (os := #[]) (Lib.compact zs ++ List.replicate (zs.length - (Lib.compact zs).length) 0).toArray)
      rwa [grow_empty] at this
    · rw [flat_int]
      have := ownsRow_sortedI (w := w) (base := base) (g := g) (cap := cap) (n := n) (e := 3) (os := #[]) (cur := cur) (ss := zs) (ts := Lib.compact zs ++ List.replicate (zs.length - (Lib.compact zs).length) 0) (by simp; omega) hbg hg hnc hcm (by rw [Nat.mul_one]; exact hcs)
      rw [grow_empty] at this
      have h2 := OwnR.take (k := (Lib.compact zs).length) this hle
      rwa [List.map_append, List.take_append_of_le_length (by simp), List.take_of_length_le (by simp)] at h2

/-- Does this node signal the condition (-1: any)? -/
def sigs (c : Int) (y : X) : Bool := (y.d.1 == 9 || y.d.1 == 10) && (decide (c < 0) || y.d.2 == c)

theorem raises_spec (p : LP) (hpw : ∀ y, y ∈ p.xs → WfX p.xs.length y) (hp6 : p.xs.length ≤ 6) (n : Nat) (x : X) (c : Int) (K : Nat) (V : List X) (m' : List Bool) (w : World) (hv : visit p.xs K x (List.replicate 6 false) = some (V, m')) (hok : p.ok n w) (hx : XOk n w x) (hwf : WfX p.xs.length x) (hn : n ≤ w.heap.size) :
    Calls Try.prog 65 #[.slice p.a p.xs.length p.cap, .agg #[iV x.d.1, iV x.d.2, .slice x.a x.len x.cap], iV c] w (fun e w' => Ext E0 w w' ∧ e = .returned (.bool (V.any (sigs c)))) := by
 refine calls_of_SM (n := 30) Try.func65 rfl rfl (by kernel_rfl) ?_
 refine S.seq (S.region (S.one (by kernel_rfl) (S.new 4 [iV x.d.1, iV x.d.2, .slice x.a x.len x.cap] 60 (fun b => pT b) (by kernel_rfl) (by kernel_rfl) (fun b => by kernel_rfl) (fun b1 w1 E1 B1 e1 z1 => ?_))))
 have sE1 := E1.size
 refine S.one (by kernel_rfl) (S.new 5 [iV c] 3 (fun b => pT b) (by kernel_rfl) (by kernel_rfl) (fun b => by kernel_rfl) (fun b2 w2 E2 B2 e2 z2 => ?_))
 have sE2 := E2.size
 refine S.one (by kernel_rfl) (S.new 6 [.bool false] 4 (fun b => pT b) (by kernel_rfl) (by kernel_rfl) (fun b => by kernel_rfl) (fun b3 w3 E3 B3 e3 z3 => ?_))
 have sE3 := E3.size
 refine S.regEnd (by kernel_rfl) (S.seq (S.seq (S.region ?_)))
 have B4 := B1.ext0 E2
 have B5 := B4.ext0 E3
 refine S.run 2 [.v (iV x.d.1), .v (iV x.d.2), .v (.slice x.a x.len x.cap)] [5, 6, 8, 9] (rs := [.load ⟨b1, 0, none⟩ (iV x.d.1), .load ⟨b1, 1, none⟩ (iV x.d.2), .load ⟨b1, 2, none⟩ (.slice x.a x.len x.cap)]) (κ' := [(5, pT b2), (6, pT b3), (8, .slice p.a p.xs.length p.cap), (9, .agg #[iV x.d.1, iV x.d.2, .slice x.a x.len x.cap])]) (by kernel_rfl) (by kernel_rfl) (.load (B5.cell 0 rfl) (.load (B5.cell 1 rfl) (.load (B5.cell 2 rfl) .nil))) ?_
 refine S.one (by kernel_rfl) (S.call (dst := some 10) (f := 22) (args := #[.slice p.a p.xs.length p.cap, .agg #[iV x.d.1, iV x.d.2, .slice x.a x.len x.cap]]) (by kernel_rfl) (by kernel_rfl) ((every_spec p x _).mono ?_))
 rintro _ w6 ⟨E6, b6, c6, eb6, ec6, hB6, hC6, rfl⟩
 refine After.ret (by kernel_rfl) ?_
 have sE6 := E6.size
 refine S.regEnd (by kernel_rfl) (S.block (S.weaken (ks := [5, 6, 10]) (S.range (gf := 60) (lb := #[.pointer (some ⟨b6, 0, none⟩), .pointer (some ⟨c6, 0, none⟩)]) rfl (by kernel_rfl) (fun l => by kernel_rfl) (fun d7 l7 w7 r7 E7 ed7 el7 z7 hD7 hL7 hst7 hpe7 hn7 hk7 hpar7 hass7 hbod7 => ?_))))
 rw [show (#[.func (.yield l7) #[] #[]] ++ #[.pointer (some ⟨b6, 0, none⟩), .pointer (some ⟨c6, 0, none⟩)] : Array Value) = #[.func (.yield l7) #[] #[], .pointer (some ⟨b6, 0, none⟩), .pointer (some ⟨c6, 0, none⟩)] from by kernel_rfl]
 have sE7 := E7.size
 have B8 := hB6.ext0 E7
 have B9 := hC6.ext0 E7
 have T10 := hok.pres (.of0 E1)
 have T11 := T10.pres (.of0 E2)
 have T12 := T11.pres (.of0 E3)
 have T13 := T12.pres (.of0 E6)
 have T14 := T13.pres (.of0 E7)
 have T15 := hx.pres (.of0 E1)
 have T16 := T15.pres (.of0 E2)
 have T17 := T16.pres (.of0 E3)
 have T18 := T17.pres (.of0 E6)
 have T19 := T18.pres (.of0 E7)
 have B20 := B3.ext0 E6
 have B21 := B20.ext0 E7
 refine every_iter p hpw hp6 n w7.heap.size b6 c6 l7 (fun (r' : List X) wj => Xt w.heap.size [4] w6 wj ∧ LoopAt wj l7 r7 ∧ ObjAt wj d7 (.deferred (some [])) ∧ V.any (sigs c) = List.any r' (sigs c) ∧ Blk wj b3 [.bool false] 4) (fun wj => ∃ r', Xt w.heap.size [4] w6 wj ∧ LoopAt wj l7 { r7 with state := .done, pending := some .ret } ∧ ObjAt wj d7 (.deferred (some [])) ∧ V.any (sigs c) = List.any r' (sigs c) ∧ V.any (sigs c) = true ∧ Blk wj b3 [.bool true] 4) ?_ ?_ x K V _ _ _ hv B8 B9 T14 T19 hwf ⟨by omega, Nat.le_refl _⟩ ⟨(Xt.of0 E7), hL7.obj, hD7, rfl, B21⟩ ?_ ?_
 ·skip
  rintro r' wa7 wb ⟨Ej7, hLj7, hDj7, i7_0, i7_1⟩ hEx
  have sEj7 := Ej7.size
  have shEx := hEx.size
  have O22 := hLj7.obj.xt hEx rfl
  have O23 := hDj7.xt hEx rfl
  have B24 := i7_1.xt hEx (by decide)
  exact ⟨Ej7.thenY hEx (by omega), O22, O23, i7_0, B24⟩
 ·skip
  rintro y9 r' wa7 ⟨Ej7, hLj7, hDj7, i7_0, i7_1⟩
  have sEj7 := Ej7.size
  change CallsV Try.prog (callSem _ #[.agg #[iV y9.d.1, iV y9.d.2, .slice y9.a y9.len y9.cap]]) _ _
  refine S.roundW (κ := [(5, pT b2), (6, pT b3), (10, .func (.func 60) #[] #[pT b6, pT c6])]) (fun κ₁ wj => ∃ b9, κ₁ = [(5, pT b2), (6, pT b3), (7, pT b9)] ∧ Ext E0 wa7 wj ∧ Blk wj b9 [iV y9.d.1, iV y9.d.2, .slice y9.a y9.len y9.cap] 60) hLj7 hst7 (.inr (fun _ _ h => by rcases h with ⟨h, _⟩ | ⟨h, _⟩ <;> cases h)) hn7 hk7 hpar7 hass7 hbod7 rfl (by kernel_rfl) ?_ ?_ ?_
  ·skip
   refine S.region (S.one (by kernel_rfl) (S.new 7 [iV 0, iV 0, .slice none 0 0] 60 (fun b => pT b) (by kernel_rfl) (by kernel_rfl) (fun b => by kernel_rfl) (fun b25 w25 E25 B25 e25 z25 => ?_)))
   have sE25 := E25.size
   refine S.one (by kernel_rfl) (S.store 0 [iV y9.d.1, iV y9.d.2, .slice y9.a y9.len y9.cap] [iV y9.d.1, iV y9.d.2, .slice y9.a y9.len y9.cap] B25 (by kernel_rfl) (by kernel_rfl) (by kernel_rfl) (by kernel_rfl) (by kernel_rfl) (fun w26 E26 B26 z26 => ?_))
   have sE26 := E26.size
   exact S.regEnd (by kernel_rfl) (S.stop (fun _ hs hh hd => ⟨_, ⟨b25, by kernel_rfl, E25.thenS E26 (by omega), B26⟩, hs, hh.keep [5, 6, 7], hd⟩))
  · rintro _ wc ⟨b9, rfl, E9, B9⟩
    exact ObjAt.ext0 hLj7.obj E9
  ·skip
   rintro _ wc w27 ⟨b9, rfl, E9, B9⟩ E27 z27 hL27
   have sE9 := E9.size
   have O28 := hLj7.obj.ext0 E9
   have sE27 := E27.size
   refine S.block (S.seq (S.region ?_))
   have B29 := B9.extO E27 O28 rfl
   refine S.run 4 [.v (iV y9.d.1)] [5, 6, 7, 15] (rs := [.load ⟨b9, 0, none⟩ (iV y9.d.1)]) (κ' := [(5, pT b2), (6, pT b3), (7, pT b9), (15, .bool (y9.d.1 == 9))]) (by kernel_rfl) (by kernel_rfl) (.load (B29.cell 0 rfl) .nil) ?_
   refine S.both 15 (y9.d.1 == 9) (by kernel_rfl) (fun c30 => ?_) (fun c30 => ?_)
   ·skip
    have p31 : y9.d.1 = 9 := by simpa using c30
    have B32 := B2.ext0 E3
    have B33 := B32.ext0 E6
    have B34 := B33.xt Ej7 (by decide)
    have B35 := B34.ext0 E9
    have B36 := B35.extO E27 O28 rfl
    refine S.run 8 [.v (iV c)] [5, 6, 7, 20, 23] (rs := [.load ⟨b2, 0, none⟩ (iV c)]) (κ' := [(5, pT b2), (6, pT b3), (7, pT b9), (20, .bool true), (23, .bool (decide (c < 0)))]) (by kernel_rfl) (by kernel_rfl) (.load (B36.cell 0 rfl) .nil) ?_
    refine S.both 23 (decide (c < 0)) (by kernel_rfl) (fun c37 => ?_) (fun c37 => ?_)
    ·skip
     have p38 : c < 0 := of_decide_eq_true c37
     refine S.run 6 [] [6, 29] (rs := []) (κ' := [(6, pT b3), (29, .bool true)]) (by kernel_rfl) (by kernel_rfl) rfl ?_
     refine S.regEnd (by kernel_rfl) (S.yes (by kernel_rfl) (S.seq (S.region ?_)))
     have B39 := i7_1.ext0 E9
     have B40 := B39.extO E27 O28 rfl
     refine S.one (by kernel_rfl) (S.store 0 [.bool true] [.bool true] B40 (by kernel_rfl) (by kernel_rfl) (by kernel_rfl) (by kernel_rfl) (by kernel_rfl) (fun w41 E41 B41 z41 => ?_))
     have sE41 := E41.size
     refine S.regEnd (by kernel_rfl) ?_
     have O42 := hL27.obj.extB E41 B40 rfl
     refine S.ret (fun _ _ _ _ => round_ret O42 (fun w43 E43 z43 hL43 => .inr ⟨rfl, ?_⟩))
     have sE43 := E43.size
     have hsg : sigs c y9 = true := by unfold sigs; simp [*]
     have hany2 : V.any (sigs c) = true := i7_0.trans (by rw [List.any_cons, hsg, Bool.true_or])
     have O44 := hDj7.ext0 E9
     have O45 := O44.extS E27 (by omega)
     have O46 := O45.extB E41 B40 rfl
     have O47 := O46.extS E43 (by omega)
     have B48 := B41.extO E43 O42 rfl
     exact ⟨(y9 :: r'), (((Ej7.trans (Xt.of0 E9)).ofO E27 (by omega)).trans (Xt.ofS E41 B40 (by decide) (by omega))).ofO E43 (by omega), hL43.obj, O47, i7_0, ⟨hany2, B48⟩⟩
    ·skip
     have p49 : ¬ (c < 0) := of_decide_eq_false c37
     refine S.run 6 [.v (iV y9.d.2), .v (iV c)] [6, 29] (rs := [.load ⟨b9, 1, none⟩ (iV y9.d.2), .load ⟨b2, 0, none⟩ (iV c)]) (κ' := [(6, pT b3), (29, .bool (y9.d.2 == c))]) (by kernel_rfl) (by kernel_rfl) (.load (B29.cell 1 rfl) (.load (B36.cell 0 rfl) .nil)) ?_
     refine S.regEnd (by kernel_rfl) (S.both 29 (y9.d.2 == c) (by kernel_rfl) (fun c50 => ?_) (fun c50 => ?_))
     ·skip
      have p51 : y9.d.2 = c := by simpa using c50
      refine S.yes (by kernel_rfl) (S.seq (S.region ?_))
      have B52 := i7_1.ext0 E9
      have B53 := B52.extO E27 O28 rfl
      refine S.one (by kernel_rfl) (S.store 0 [.bool true] [.bool true] B53 (by kernel_rfl) (by kernel_rfl) (by kernel_rfl) (by kernel_rfl) (by kernel_rfl) (fun w54 E54 B54 z54 => ?_))
      have sE54 := E54.size
      refine S.regEnd (by kernel_rfl) ?_
      have O55 := hL27.obj.extB E54 B53 rfl
      refine S.ret (fun _ _ _ _ => round_ret O55 (fun w56 E56 z56 hL56 => .inr ⟨rfl, ?_⟩))
      have sE56 := E56.size
      have hsg : sigs c y9 = true := by unfold sigs; simp [*]
      have hany2 : V.any (sigs c) = true := i7_0.trans (by rw [List.any_cons, hsg, Bool.true_or])
      have O57 := hDj7.ext0 E9
      have O58 := O57.extS E27 (by omega)
      have O59 := O58.extB E54 B53 rfl
      have O60 := O59.extS E56 (by omega)
      have B61 := B54.extO E56 O55 rfl
      exact ⟨(y9 :: r'), (((Ej7.trans (Xt.of0 E9)).ofO E27 (by omega)).trans (Xt.ofS E54 B53 (by decide) (by omega))).ofO E56 (by omega), hL56.obj, O60, i7_0, ⟨hany2, B61⟩⟩
     ·skip
      have p62 : y9.d.2 ≠ c := by simpa using c50
      refine S.no (by kernel_rfl) (S.skip (S.out (S.fin (fun _ _ _ _ => round_go hst7 hpe7 hL27.obj (fun w63 E63 z63 hL63 => ?_)))))
      have sE63 := E63.size
      have hno : sigs c y9 = false := by unfold sigs; simp [*] <;> omega
      have O64 := hDj7.ext0 E9
      have O65 := O64.extS E27 (by omega)
      have O66 := O65.extS E63 (by omega)
      have B67 := i7_1.ext0 E9
      have B68 := B67.extO E27 O28 rfl
      have B69 := B68.extO E63 hL27.obj rfl
      exact .inl ⟨rfl, ⟨((Ej7.trans (Xt.of0 E9)).ofO E27 (by omega)).ofO E63 (by omega), hL63.obj, O66, (i7_0.trans (by rw [List.any_cons, hno, Bool.false_or])), B69⟩, ((Kp.of0 E9).trans (Kp.ofO E27 O28 rfl (by omega))).trans (Kp.ofO E63 hL27.obj rfl (by omega))⟩
   ·skip
    have p70 : y9.d.1 ≠ 9 := by simpa using c30
    refine S.run 5 [.v (iV y9.d.1)] [5, 6, 7, 20] (rs := [.load ⟨b9, 0, none⟩ (iV y9.d.1)]) (κ' := [(5, pT b2), (6, pT b3), (7, pT b9), (20, .bool (y9.d.1 == 10))]) (by kernel_rfl) (by kernel_rfl) (.load (B29.cell 0 rfl) .nil) ?_
    refine S.both 20 (y9.d.1 == 10) (by kernel_rfl) (fun c71 => ?_) (fun c71 => ?_)
    ·skip
     have p72 : y9.d.1 = 10 := by simpa using c71
     have B73 := B2.ext0 E3
     have B74 := B73.ext0 E6
     have B75 := B74.xt Ej7 (by decide)
     have B76 := B75.ext0 E9
     have B77 := B76.extO E27 O28 rfl
     refine S.run 3 [.v (iV c)] [5, 6, 7, 20, 23] (rs := [.load ⟨b2, 0, none⟩ (iV c)]) (κ' := [(5, pT b2), (6, pT b3), (7, pT b9), (20, .bool true), (23, .bool (decide (c < 0)))]) (by kernel_rfl) (by kernel_rfl) (.load (B77.cell 0 rfl) .nil) ?_
     refine S.both 23 (decide (c < 0)) (by kernel_rfl) (fun c78 => ?_) (fun c78 => ?_)
     ·skip
      have p79 : c < 0 := of_decide_eq_true c78
      refine S.run 6 [] [6, 29] (rs := []) (κ' := [(6, pT b3), (29, .bool true)]) (by kernel_rfl) (by kernel_rfl) rfl ?_
      refine S.regEnd (by kernel_rfl) (S.yes (by kernel_rfl) (S.seq (S.region ?_)))
      have B80 := i7_1.ext0 E9
      have B81 := B80.extO E27 O28 rfl
      refine S.one (by kernel_rfl) (S.store 0 [.bool true] [.bool true] B81 (by kernel_rfl) (by kernel_rfl) (by kernel_rfl) (by kernel_rfl) (by kernel_rfl) (fun w82 E82 B82 z82 => ?_))
      have sE82 := E82.size
      refine S.regEnd (by kernel_rfl) ?_
      have O83 := hL27.obj.extB E82 B81 rfl
      refine S.ret (fun _ _ _ _ => round_ret O83 (fun w84 E84 z84 hL84 => .inr ⟨rfl, ?_⟩))
      have sE84 := E84.size
      have hsg : sigs c y9 = true := by unfold sigs; simp [*]
      have hany2 : V.any (sigs c) = true := i7_0.trans (by rw [List.any_cons, hsg, Bool.true_or])
      have O85 := hDj7.ext0 E9
      have O86 := O85.extS E27 (by omega)
      have O87 := O86.extB E82 B81 rfl
      have O88 := O87.extS E84 (by omega)
      have B89 := B82.extO E84 O83 rfl
      exact ⟨(y9 :: r'), (((Ej7.trans (Xt.of0 E9)).ofO E27 (by omega)).trans (Xt.ofS E82 B81 (by decide) (by omega))).ofO E84 (by omega), hL84.obj, O88, i7_0, ⟨hany2, B89⟩⟩
     ·skip
      have p90 : ¬ (c < 0) := of_decide_eq_false c78
      refine S.run 6 [.v (iV y9.d.2), .v (iV c)] [6, 29] (rs := [.load ⟨b9, 1, none⟩ (iV y9.d.2), .load ⟨b2, 0, none⟩ (iV c)]) (κ' := [(6, pT b3), (29, .bool (y9.d.2 == c))]) (by kernel_rfl) (by kernel_rfl) (.load (B29.cell 1 rfl) (.load (B77.cell 0 rfl) .nil)) ?_
      refine S.regEnd (by kernel_rfl) (S.both 29 (y9.d.2 == c) (by kernel_rfl) (fun c91 => ?_) (fun c91 => ?_))
      ·skip
       have p92 : y9.d.2 = c := by simpa using c91
       refine S.yes (by kernel_rfl) (S.seq (S.region ?_))
       have B93 := i7_1.ext0 E9
       have B94 := B93.extO E27 O28 rfl
       refine S.one (by kernel_rfl) (S.store 0 [.bool true] [.bool true] B94 (by kernel_rfl) (by kernel_rfl) (by kernel_rfl) (by kernel_rfl) (by kernel_rfl) (fun w95 E95 B95 z95 => ?_))
       have sE95 := E95.size
       refine S.regEnd (by kernel_rfl) ?_
       have O96 := hL27.obj.extB E95 B94 rfl
       refine S.ret (fun _ _ _ _ => round_ret O96 (fun w97 E97 z97 hL97 => .inr ⟨rfl, ?_⟩))
       have sE97 := E97.size
       have hsg : sigs c y9 = true := by unfold sigs; simp [*]
       have hany2 : V.any (sigs c) = true := i7_0.trans (by rw [List.any_cons, hsg, Bool.true_or])
       have O98 := hDj7.ext0 E9
       have O99 := O98.extS E27 (by omega)
       have O100 := O99.extB E95 B94 rfl
       have O101 := O100.extS E97 (by omega)
       have B102 := B95.extO E97 O96 rfl
       exact ⟨(y9 :: r'), (((Ej7.trans (Xt.of0 E9)).ofO E27 (by omega)).trans (Xt.ofS E95 B94 (by decide) (by omega))).ofO E97 (by omega), hL97.obj, O101, i7_0, ⟨hany2, B102⟩⟩
      ·skip
       have p103 : y9.d.2 ≠ c := by simpa using c91
       refine S.no (by kernel_rfl) (S.skip (S.out (S.fin (fun _ _ _ _ => round_go hst7 hpe7 hL27.obj (fun w104 E104 z104 hL104 => ?_)))))
       have sE104 := E104.size
       have hno : sigs c y9 = false := by unfold sigs; simp [*] <;> omega
       have O105 := hDj7.ext0 E9
       have O106 := O105.extS E27 (by omega)
       have O107 := O106.extS E104 (by omega)
       have B108 := i7_1.ext0 E9
       have B109 := B108.extO E27 O28 rfl
       have B110 := B109.extO E104 hL27.obj rfl
       exact .inl ⟨rfl, ⟨((Ej7.trans (Xt.of0 E9)).ofO E27 (by omega)).ofO E104 (by omega), hL104.obj, O107, (i7_0.trans (by rw [List.any_cons, hno, Bool.false_or])), B110⟩, ((Kp.of0 E9).trans (Kp.ofO E27 O28 rfl (by omega))).trans (Kp.ofO E104 hL27.obj rfl (by omega))⟩
    ·skip
     have p111 : y9.d.1 ≠ 10 := by simpa using c71
     refine S.run 9 [] [6, 29] (rs := []) (κ' := [(6, pT b3), (29, .bool false)]) (by kernel_rfl) (by kernel_rfl) rfl ?_
     refine S.regEnd (by kernel_rfl) (S.no (by kernel_rfl) (S.skip (S.out (S.fin (fun _ _ _ _ => round_go hst7 hpe7 hL27.obj (fun w112 E112 z112 hL112 => ?_))))))
     have sE112 := E112.size
     have hno : sigs c y9 = false := by unfold sigs; simp [*] <;> omega
     have O113 := hDj7.ext0 E9
     have O114 := O113.extS E27 (by omega)
     have O115 := O114.extS E112 (by omega)
     have B116 := i7_1.ext0 E9
     have B117 := B116.extO E27 O28 rfl
     have B118 := B117.extO E112 hL27.obj rfl
     exact .inl ⟨rfl, ⟨((Ej7.trans (Xt.of0 E9)).ofO E27 (by omega)).ofO E112 (by omega), hL112.obj, O115, (i7_0.trans (by rw [List.any_cons, hno, Bool.false_or])), B118⟩, ((Kp.of0 E9).trans (Kp.ofO E27 O28 rfl (by omega))).trans (Kp.ofO E112 hL27.obj rfl (by omega))⟩
 ·skip
  rintro wa7 ⟨Ej7, hLj7, hDj7, i7_0, i7_1⟩
  have sEj7 := Ej7.size
  refine after_go hLj7 hst7 hpe7 (fun w119 E119 z119 => ?_)
  have sE119 := E119.size
  refine S.out (S.seq (S.region ?_))
  have B120 := i7_1.extO E119 hLj7.obj rfl
  refine S.one (by kernel_rfl) (S.store 0 [.bool false] [.bool false] B120 (by kernel_rfl) (by kernel_rfl) (by kernel_rfl) (by kernel_rfl) (by kernel_rfl) (fun w121 E121 B121 z121 => ?_))
  have sE121 := E121.size
  refine S.regEnd (by kernel_rfl) ?_
  have O122 := hDj7.extS E119 (by omega)
  have O123 := O122.extB E121 B120 rfl
  have hany : V.any (sigs c) = false := i7_0
  exact S.retM1 O123 (A := [.v (.bool false)]) (rs := [.load ⟨b3, 0, none⟩ (.bool false)]) (v := .bool false) (fun _ => by kernel_rfl) (fun w9 E9 z9 => ⟨(.load ((B121.extO E9 O123 rfl).cell 0 rfl) .nil), ((((((E1.trans E2).trans E3).trans E6).thenX Ej7 (by omega)).thenS E119 (by omega)).thenS E121 (by omega)).thenS E9 (by omega), by rw [hany]⟩)
 ·skip
  rintro wa7 ⟨r', Ej7, hLj7, hDj7, i7_0, hout⟩
  have sEj7 := Ej7.size
  refine after_out hLj7 rfl rfl (fun w124 E124 z124 => ?_)
  have sE124 := E124.size
  have O125 := hDj7.extS E124 (by omega)
  obtain ⟨hany, hB6⟩ := hout
  have B126 := hB6.extO E124 hLj7.obj rfl
  exact S.retM1 O125 (A := [.v (.bool true)]) (rs := [.load ⟨b3, 0, none⟩ (.bool true)]) (v := .bool true) (fun _ => by kernel_rfl) (fun w9 E9 z9 => ⟨(.load ((B126.extO E9 O125 rfl).cell 0 rfl) .nil), (((((E1.trans E2).trans E3).trans E6).thenX Ej7 (by omega)).thenS E124 (by omega)).thenS E9 (by omega), by rw [hany]⟩)

end Go.Proofs.Ytmgakpnejbembaa
