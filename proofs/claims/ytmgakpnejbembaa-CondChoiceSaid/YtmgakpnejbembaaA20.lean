/-
  CondChoice, a part of the proof (printed by a program of the prover): what functions of the given program compute, each under the conditions that its theorem names.
-/
import Derived.Test.YtmgakpnejbembaaA18
import Derived.Test.YtmgakpnejbembaaLibG
namespace Go.Proofs.Ytmgakpnejbembaa
open Go Go.Proofs.Ytmgakpnejbembaa.L

/-- Which expressions a walk comes to, one behind the other, and which blocks have been met. -/
def visitL (f : X → List Bool → Option (List X × List Bool)) : List X → List Bool → Option (List X × List Bool)
  | [], m => some ([], m)
  | y :: r, m => (f y m).bind fun a => (visitL f r a.2).map fun b => (a.1 ++ b.1, b.2)
def visit (p : List X) : Nat → X → List Bool → Option (List X × List Bool)
  | 0, _, _ => none
  | K + 1, x, m => (visitL (visit p K) x.kids m).bind fun a =>
    if x.d.1 = 7 ∧ a.2.getD x.d.2.toNat true = false then (visit p K (p.getD x.d.2.toNat default) (a.2.set x.d.2.toNat true)).map fun b => (x :: (a.1 ++ b.1), b.2)
    else some (x :: (a.1 ++ []), a.2)
theorem visit_succ {p : List X} {K : Nat} {x : X} {m m' : List Bool} {V : List X} (h : visit p (K + 1) x m = some (V, m')) :
    ∃ V1 m1 V2, visitL (visit p K) x.kids m = some (V1, m1) ∧ V = x :: (V1 ++ V2) ∧ ((x.d.1 = 7 ∧ m1.getD x.d.2.toNat true = false ∧ visit p K (p.getD x.d.2.toNat default) (m1.set x.d.2.toNat true) = some (V2, m')) ∨
      (¬ (x.d.1 = 7 ∧ m1.getD x.d.2.toNat true = false) ∧ V2 = [] ∧ m' = m1)) := by
  simp only [visit, Option.bind_eq_some_iff] at h
  obtain ⟨⟨V1, m1⟩, h1, h2⟩ := h
  simp only at h2
  split at h2
  · rename_i hc
    simp only [Option.map_eq_some_iff] at h2
    obtain ⟨⟨V2, m2⟩, h3, h4⟩ := h2
    simp only [Prod.mk.injEq] at h4
    obtain ⟨rfl, rfl⟩ := h4
    exact ⟨V1, m1, V2, h1, rfl, .inl ⟨hc.1, hc.2, h3⟩⟩
  · rename_i hc
    simp only [Option.some.injEq, Prod.mk.injEq] at h2
    obtain ⟨rfl, rfl⟩ := h2
    exact ⟨V1, m1, [], h1, rfl, .inr ⟨hc, rfl, rfl⟩⟩
theorem visitL_cons {f : X → List Bool → Option (List X × List Bool)} {y : X} {r : List X} {m m' : List Bool} {V : List X} (h : visitL f (y :: r) m = some (V, m')) :
    ∃ V1 m1 V2, f y m = some (V1, m1) ∧ visitL f r m1 = some (V2, m') ∧ V = V1 ++ V2 := by
  simp only [visitL, Option.bind_eq_some_iff, Option.map_eq_some_iff] at h
  obtain ⟨⟨V1, m1⟩, h1, ⟨V2, m2⟩, h2, h3⟩ := h
  simp only [Prod.mk.injEq] at h3
  obtain ⟨rfl, rfl⟩ := h3
  exact ⟨V1, m1, V2, h1, h2, rfl⟩
theorem drop_at {xs : List X} {i : Nat} {x : X} (h : xs[i]? = some x) : xs.drop i = x :: xs.drop (i + 1) := by
  obtain ⟨hi, rfl⟩ := List.getElem?_eq_some_iff.1 h
  exact List.drop_eq_getElem_cons hi

/-- What the closures of every capture. -/
structure EE (w : World) (n bY bw bm bp : Nat) (y : Value) (p : LP) (m : List Bool) : Prop where
  hy : Blk w bY [y] 85
  hf : Blk w bw [.func (.func 61) #[] #[.pointer (some ⟨bY, 0, none⟩), .pointer (some ⟨bw, 0, none⟩), .pointer (some ⟨bm, 0, none⟩), .pointer (some ⟨bp, 0, none⟩)]] 85
  hm : Blk w bm (m.map Value.bool) 95
  hp : Blk w bp [.slice p.a p.xs.length p.cap] 22
  ok : p.ok n w
  len : m.length = 6
theorem met_set {m : List Bool} {i : Nat} : setL (m.map Value.bool) i [.bool true] = (m.set i true).map Value.bool := by
  simp [setL, List.map_set]
theorem met_get {m : List Bool} {i : Nat} (h : i < m.length) : (m.map Value.bool)[i]? = some (.bool (m.getD i true)) := by
  simp [List.getElem?_eq_getElem h]
/-- How a call of the yield ends. -/
def YQ (n : Nat) (J : List X → World → Prop) (Rf : World → Prop) (r : List X) (w : World) : Ending → World → Prop := fun e w' => (e = .returned (.bool true) ∧ J r w' ∧ Kp n [22, 60, 85, 95] w w') ∨ (e = .returned (.bool false) ∧ Rf w')
def WQ (J : List X → World → Prop) (Rf : World → Prop) (r : List X) (n bY bw bm bp : Nat) (y : Value) (p : LP) (m : List Bool) (w : World) : Ending → World → Prop := fun e w' =>
  (e = .returned (.bool true) ∧ J r w' ∧ Blk w' bm (m.map Value.bool) 95 ∧ m.length = 6 ∧ Kp n [22, 60, 85] w w') ∨ (e = .returned (.bool false) ∧ Rf w')
def Walk1 (p : LP) (K : Nat) : Prop := ∀ (n N bY bw bm bp : Nat) (y : Value) (J : List X → World → Prop) (Rf : World → Prop)
  (hadv : ∀ r w w', J r w → Xt N [60, 85, 95] w w' → J r w') (hstep : ∀ x r w', J (x :: r) w' → CallsV Try.prog (callSem y #[.agg (xCs x).toArray]) w' (YQ n J Rf r w'))
  (x : X) (m m' : List Bool) (V r : List X) (w : World), visit p.xs K x m = some (V, m') → XOk n w x → WfX p.xs.length x → EE w n bY bw bm bp y p m → N ≤ bm → n ≤ N ∧ N ≤ w.heap.size → J (V ++ r) w →
  Calls Try.prog 61 #[.agg (xCs x).toArray, .pointer (some ⟨bY, 0, none⟩), .pointer (some ⟨bw, 0, none⟩), .pointer (some ⟨bm, 0, none⟩), .pointer (some ⟨bp, 0, none⟩)] w (WQ J Rf r n bY bw bm bp y p m' w)

theorem walk_step (p : LP) (hpw : ∀ y, y ∈ p.xs → WfX p.xs.length y) (hp6 : p.xs.length ≤ 6) (K : Nat) (IH : Walk1 p K) (n N bY bw bm bp : Nat) (y : Value) (J : List X → World → Prop) (Rf : World → Prop) (hadv : ∀ r w w', J r w → Xt N [60, 85, 95] w w' → J r w') (hstep : ∀ x r w', J (x :: r) w' → CallsV Try.prog (callSem y #[.agg (xCs x).toArray]) w' (YQ n J Rf r w')) (x : X) (m m' : List Bool) (V r : List X) (w : World) (hv : visit p.xs (K + 1) x m = some (V, m')) (hx : XOk n w x) (hwf : WfX p.xs.length x) (hE : EE w n bY bw bm bp y p m) (hN : N ≤ bm) (hNw : n ≤ N ∧ N ≤ w.heap.size) (hJ : J (V ++ r) w) :
    Calls Try.prog 61 #[.agg #[iV x.d.1, iV x.d.2, .slice x.a x.len x.cap], pT bY, pT bw, pT bm, pT bp] w (WQ J Rf r n bY bw bm bp y p m' w) := by
 refine calls_of_S (n := 45) Try.func61 rfl rfl (by kernel_rfl) ?_
 obtain ⟨V1, m1, V2, hL, rfl, hcase⟩ := visit_succ hv
 have hkl := hx.len; have hbig := hx.big; have hbmlt := hE.hm.lt
 refine S.seq (S.region (S.one (by kernel_rfl) (S.new 5 [iV x.d.1, iV x.d.2, .slice x.a x.len x.cap] 60 (fun b => pT b) (by kernel_rfl) (by kernel_rfl) (fun b => by kernel_rfl) (fun b1 w1 E1 B1 e1 z1 => ?_))))
 have sE1 := E1.size
 refine S.run 1 [] [1, 2, 3, 4, 5] (rs := []) (κ' := [(1, pT bY), (2, pT bw), (3, pT bm), (4, pT bp), (5, pT b1)]) (by kernel_rfl) (by kernel_rfl) rfl ?_
 refine S.regEnd (by kernel_rfl) (S.seq (S.seq (S.region ?_)))
 have B2 := hE.hy.ext0 E1
 refine S.run 2 [.v (y), .v (iV x.d.1), .v (iV x.d.2), .v (.slice x.a x.len x.cap)] [2, 3, 4, 5, 9, 10] (rs := [.load ⟨bY, 0, none⟩ (y), .load ⟨b1, 0, none⟩ (iV x.d.1), .load ⟨b1, 1, none⟩ (iV x.d.2), .load ⟨b1, 2, none⟩ (.slice x.a x.len x.cap)]) (κ' := [(2, pT bw), (3, pT bm), (4, pT bp), (5, pT b1), (9, y), (10, .agg #[iV x.d.1, iV x.d.2, .slice x.a x.len x.cap])]) (by kernel_rfl) (by kernel_rfl) (.load (B2.cell 0 rfl) (.load (B1.cell 0 rfl) (.load (B1.cell 1 rfl) (.load (B1.cell 2 rfl) .nil)))) ?_
 have J4 := hadv _ _ _ hJ (Xt.of0 E1)
 refine S.one (by kernel_rfl) (S.callF (dst := some 11) (y := y) (args := #[.agg #[iV x.d.1, iV x.d.2, .slice x.a x.len x.cap]]) (by kernel_rfl) (by kernel_rfl) ((hstep x ((V1 ++ V2) ++ r) _ J4).mono ?_))
 rintro e3 w3 (⟨rfl, hJ2, hK3⟩ | ⟨rfl, hR2⟩)
 ·skip
  refine After.ret (by kernel_rfl) ?_
  have shK3 := hK3.size
  have hJ3 : J (V1 ++ (V2 ++ r)) w3 := by rw [← List.append_assoc]; exact hJ2
  refine S.run 1 [] [2, 3, 4, 5, 12] (rs := []) (κ' := [(2, pT bw), (3, pT bm), (4, pT bp), (5, pT b1), (12, .bool false)]) (by kernel_rfl) (by kernel_rfl) rfl ?_
  refine S.regEnd (by kernel_rfl) (S.no (by kernel_rfl) (S.skip (S.seq (S.seq (S.region ?_)))))
  have B5 := B1.kp hK3 rfl
  refine S.run 4 [.v (.slice x.a x.len x.cap)] [2, 3, 4, 5, 14, 15, 16] (rs := [.load ⟨b1, 2, none⟩ (.slice x.a x.len x.cap)]) (κ' := [(2, pT bw), (3, pT bm), (4, pT bp), (5, pT b1), (14, .slice x.a x.len x.cap), (15, iV ((x.len : Nat) : Int)), (16, iV 0)]) (by kernel_rfl) (by kernel_rfl) (.load (B5.cell 2 rfl) .nil) ?_
  refine S.regEnd (by kernel_rfl) (S.block ?_)
  have B6 := hE.hm.ext0 E1
  have B7 := B6.kp hK3 rfl
  refine S.weaken (ks := [2, 3, 4, 5, 14, 15, 16]) (S.loop (fun m κ wj => ∃ i : Nat, i ≤ x.len ∧ m = x.len - i ∧ κ = [(2, pT bw), (3, pT bm), (4, pT bp), (5, pT b1), (14, .slice x.a x.len x.cap), (15, iV ((x.len : Nat) : Int)), (16, iV ((i : Nat) : Int))] ∧ Kp n [22, 60, 85] w3 wj ∧ (∃ (mi : List Bool) (Vi : List X), visitL (visit p.xs K) (x.kids.drop i) mi = some (Vi, m1) ∧ J (Vi ++ (V2 ++ r)) wj ∧ Blk wj bm (mi.map Value.bool) 95 ∧ mi.length = 6)) ⟨0, Nat.zero_le _, rfl, by kernel_rfl, Kp.refl _, ⟨m, V1, hL, hJ3, B7, hE.len⟩⟩ ?_)
  rintro _ _ w8 ⟨i8, hi8, rfl, rfl, E8, hv8⟩
  have sE8 := E8.size
  obtain ⟨mi, Vi, hLi, hJi, hmi, hli⟩ := hv8
  refine S.seq (S.region (S.run 1 [] [2, 3, 4, 5, 14, 15, 16, 17] (rs := []) (κ' := [(2, pT bw), (3, pT bm), (4, pT bp), (5, pT b1), (14, .slice x.a x.len x.cap), (15, iV ((x.len : Nat) : Int)), (16, iV ((i8 : Nat) : Int)), (17, .bool (decide (((i8 : Nat) : Int) < ((x.len : Nat) : Int))))]) (by kernel_rfl) (by kernel_rfl) rfl ?_))
  refine S.regEnd (by kernel_rfl) (S.seq (S.both 17 (decide (((i8 : Nat) : Int) < ((x.len : Nat) : Int))) (by kernel_rfl) (fun c9 => ?_) (fun c9 => ?_)))
  ·skip
   have p10 : ((i8 : Nat) : Int) < ((x.len : Nat) : Int) := of_decide_eq_true c9
   refine S.yes (by kernel_rfl) (S.skip (S.seq (S.block (S.seq (S.region ?_)))))
   have R11 := hx.row.pres (.of0 E1)
   have R12 := R11.pres (Kp.presL hK3 (by omega))
   have R13 := R12.pres (Kp.presL E8 (by omega))
   obtain ⟨x14, b14, o14, hx14, h14, H14⟩ := R13.get i8 (by omega)
   have T15 := hx.pres (.of0 E1)
   have T16 := T15.pres (Kp.presL hK3 (by omega))
   have T17 := T16.pres (Kp.presL E8 (by omega))
   have K14 := T17.kid (List.mem_of_getElem? hx14)
   have W14 := hwf.kid (List.mem_of_getElem? hx14)
   obtain ⟨Va, ma, Vb, hva, hvb, rfl⟩ := visitL_cons (by rw [drop_at hx14] at hLi; exact hLi)
   refine S.one (by kernel_rfl) (S.law 18 (v := .pointer (some ⟨b14, o14 + i8 * 3, none⟩)) (Instr.indexAt 22 (.slice x.a x.len x.cap) (.int .i64 ((i8 : Nat) : Int))) (by kernel_rfl) (by kernel_rfl) (by kernel_rfl) (run_idx (e := 60) i8 h14 (by kernel_rfl) (by kernel_rfl) (by omega)) ?_)
   refine S.run 1 [.v (iV x14.d.1), .v (iV x14.d.2), .v (.slice x14.a x14.len x14.cap)] [2, 3, 4, 5, 14, 15, 16, 19] (rs := [.load ⟨b14, o14 + i8 * 3, none⟩ (iV x14.d.1), .load ⟨b14, o14 + i8 * 3 + 1, none⟩ (iV x14.d.2), .load ⟨b14, o14 + i8 * 3 + 2, none⟩ (.slice x14.a x14.len x14.cap)]) (κ' := [(2, pT bw), (3, pT bm), (4, pT bp), (5, pT b1), (14, .slice x.a x.len x.cap), (15, iV ((x.len : Nat) : Int)), (16, iV ((i8 : Nat) : Int)), (19, .agg #[iV x14.d.1, iV x14.d.2, .slice x14.a x14.len x14.cap])]) (by kernel_rfl) (by kernel_rfl) (.load (H14.cell0 rfl) (.load (H14.cell 1 rfl) (.load (H14.cell 2 rfl) .nil))) ?_
   refine S.one (by kernel_rfl) (S.new 8 [iV 0, iV 0, .slice none 0 0] 60 (fun b => pT b) (by kernel_rfl) (by kernel_rfl) (fun b => by kernel_rfl) (fun b18 w18 E18 B18 e18 z18 => ?_))
   have sE18 := E18.size
   refine S.one (by kernel_rfl) (S.store 0 [iV x14.d.1, iV x14.d.2, .slice x14.a x14.len x14.cap] [iV x14.d.1, iV x14.d.2, .slice x14.a x14.len x14.cap] B18 (by kernel_rfl) (by kernel_rfl) (by kernel_rfl) (by kernel_rfl) (by kernel_rfl) (fun w19 E19 B19 z19 => ?_))
   have sE19 := E19.size
   refine S.regEnd (by kernel_rfl) (S.seq (S.region ?_))
   have B20 := hE.hf.ext0 E1
   have B21 := B20.kp hK3 rfl
   have B22 := B21.kp E8 rfl
   have B23 := B22.ext0 E18
   have B24 := B23.extT E19 B18 (by decide)
   refine S.run 2 [.v (.func (.func 61) #[] #[pT bY, pT bw, pT bm, pT bp]), .v (iV x14.d.1), .v (iV x14.d.2), .v (.slice x14.a x14.len x14.cap)] [2, 3, 4, 5, 14, 15, 16, 20, 21] (rs := [.load ⟨bw, 0, none⟩ (.func (.func 61) #[] #[pT bY, pT bw, pT bm, pT bp]), .load ⟨b18, 0, none⟩ (iV x14.d.1), .load ⟨b18, 1, none⟩ (iV x14.d.2), .load ⟨b18, 2, none⟩ (.slice x14.a x14.len x14.cap)]) (κ' := [(2, pT bw), (3, pT bm), (4, pT bp), (5, pT b1), (14, .slice x.a x.len x.cap), (15, iV ((x.len : Nat) : Int)), (16, iV ((i8 : Nat) : Int)), (20, .func (.func 61) #[] #[pT bY, pT bw, pT bm, pT bp]), (21, .agg #[iV x14.d.1, iV x14.d.2, .slice x14.a x14.len x14.cap])]) (by kernel_rfl) (by kernel_rfl) (.load (B24.cell 0 rfl) (.load (B19.cell 0 rfl) (.load (B19.cell 1 rfl) (.load (B19.cell 2 rfl) .nil)))) ?_
   have J26 := hadv _ _ _ hJi ((Xt.of0 E18).trans (Xt.ofS E19 B18 (by decide) (by omega)))
   have B27 := B2.kp hK3 rfl
   have B28 := B27.kp E8 rfl
   have B29 := B28.ext0 E18
   have B30 := B29.extT E19 B18 (by decide)
   have B31 := hmi.ext0 E18
   have B32 := B31.extT E19 B18 (by decide)
   have B33 := hE.hp.ext0 E1
   have B34 := B33.kp hK3 rfl
   have B35 := B34.kp E8 rfl
   have B36 := B35.ext0 E18
   have B37 := B36.extT E19 B18 (by decide)
   have T38 := hE.ok.pres (.of0 E1)
   have T39 := T38.pres (Kp.presL hK3 (by omega))
   have T40 := T39.pres (Kp.presL E8 (by omega))
   have T41 := T40.pres (.of0 E18)
   have T42 := T41.pres (.ofS E19 (by omega))
   refine S.one (by kernel_rfl) ?_
   have T43 := K14.pres (.of0 E18)
   have T44 := T43.pres (.ofS E19 (by omega))
   refine S.call (dst := some 22) (f := 61) (args := #[.agg #[iV x14.d.1, iV x14.d.2, .slice x14.a x14.len x14.cap], pT bY, pT bw, pT bm, pT bp]) (by kernel_rfl) (by kernel_rfl) ((IH n N bY bw bm bp y J Rf hadv hstep x14 _ ma Va (Vb ++ (V2 ++ r)) _ hva T44 W14 ⟨B30, B24, B32, B37, T42, hli⟩ hN ⟨hNw.1, by omega⟩ (by rw [List.append_assoc] at J26; exact J26)).mono ?_)
   rintro e25 w25 (⟨rfl, hJ25, hm25, hl25, hK25⟩ | ⟨rfl, hR2⟩)
   ·skip
    refine After.ret (by kernel_rfl) ?_
    have shK25 := hK25.size
    refine S.run 1 [] [2, 3, 4, 5, 14, 15, 16, 23] (rs := []) (κ' := [(2, pT bw), (3, pT bm), (4, pT bp), (5, pT b1), (14, .slice x.a x.len x.cap), (15, iV ((x.len : Nat) : Int)), (16, iV ((i8 : Nat) : Int)), (23, .bool false)]) (by kernel_rfl) (by kernel_rfl) rfl ?_
    refine S.regEnd (by kernel_rfl) (S.no (by kernel_rfl) (S.skip (S.out (S.region (S.run 1 [] [2, 3, 4, 5, 14, 15, 16, 24] (rs := []) (κ' := [(2, pT bw), (3, pT bm), (4, pT bp), (5, pT b1), (14, .slice x.a x.len x.cap), (15, iV ((x.len : Nat) : Int)), (16, iV ((i8 : Nat) : Int)), (24, iV (IntKind.i64.wrap (((i8 : Nat) : Int) + 1)))]) (by kernel_rfl) (by kernel_rfl) rfl ?_)))))
    refine S.subst 24 (iV (IntKind.i64.wrap (((i8 : Nat) : Int) + 1))) (iV ((i8 + 1 : Nat) : Int)) (by kernel_rfl) (congrArg (Value.int .i64) (by rw [wrap_i64 (by omega) (by omega)]; omega)) ?_
    refine S.run 1 [] [2, 3, 4, 5, 14, 15, 16] (rs := []) (κ' := [(2, pT bw), (3, pT bm), (4, pT bp), (5, pT b1), (14, .slice x.a x.len x.cap), (15, iV ((x.len : Nat) : Int)), (16, iV ((i8 + 1 : Nat) : Int))]) (by kernel_rfl) (by kernel_rfl) rfl ?_
    exact S.regEnd (by kernel_rfl) (S.stop (fun _ hs hh hd => ⟨hs, hd, x.len - (i8 + 1), [(2, pT bw), (3, pT bm), (4, pT bp), (5, pT b1), (14, .slice x.a x.len x.cap), (15, iV ((x.len : Nat) : Int)), (16, iV (((i8 + 1) : Nat) : Int))], by omega, hh, i8 + 1, by omega, rfl, rfl, (((E8.trans (Kp.of0 E18)).thenN E19 (by omega) (by omega)).trans hK25), ⟨ma, Vb, hvb, hJ25, hm25, hl25⟩⟩))
   ·skip
    refine After.ret (by kernel_rfl) ?_
    refine S.run 1 [] [2, 3, 4, 5, 14, 15, 16, 23] (rs := []) (κ' := [(2, pT bw), (3, pT bm), (4, pT bp), (5, pT b1), (14, .slice x.a x.len x.cap), (15, iV ((x.len : Nat) : Int)), (16, iV ((i8 : Nat) : Int)), (23, .bool true)]) (by kernel_rfl) (by kernel_rfl) rfl ?_
    refine S.regEnd (by kernel_rfl) (S.yes (by kernel_rfl) (S.seq (S.region (S.run 1 [] [6] (rs := []) (κ' := [(6, .bool false)]) (by kernel_rfl) (by kernel_rfl) rfl ?_))))
    exact S.regEnd (by kernel_rfl) (S.ret1 (v := .bool false) rfl (by kernel_rfl) (.inr ⟨rfl, hR2⟩))
  ·skip
   have p45 : ¬ (((i8 : Nat) : Int) < ((x.len : Nat) : Int)) := of_decide_eq_false c9
   refine S.no (by kernel_rfl) (S.exit rfl (S.seq (S.seq (S.region ?_))))
   rw [List.drop_eq_nil_of_le (by omega)] at hLi; simp only [visitL, Option.some.injEq, Prod.mk.injEq] at hLi; obtain ⟨rfl, rfl⟩ := hLi; rw [List.nil_append] at hJi
   have B46 := B5.kp E8 rfl
   refine S.run 4 [.v (iV x.d.1)] [2, 3, 4, 5, 28] (rs := [.load ⟨b1, 0, none⟩ (iV x.d.1)]) (κ' := [(2, pT bw), (3, pT bm), (4, pT bp), (5, pT b1), (28, .bool (x.d.1 == 7))]) (by kernel_rfl) (by kernel_rfl) (.load (B46.cell 0 rfl) .nil) ?_
   refine S.both 28 (x.d.1 == 7) (by kernel_rfl) (fun c47 => ?_) (fun c47 => ?_)
   ·skip
    have p48 : x.d.1 = 7 := by simpa using c47
    have hlo : 0 ≤ x.d.2 := by have hh := hwf.lo; rw [p48] at hh; exact hh
    have hhi : x.d.2 ≤ ((p.xs.length : Nat) : Int) - 1 := by have hh := hwf.hi; rw [p48] at hh; exact hh
    refine S.run 2 [.v (iV x.d.2)] [2, 3, 4, 5, 28, 30] (rs := [.load ⟨b1, 1, none⟩ (iV x.d.2)]) (κ' := [(2, pT bw), (3, pT bm), (4, pT bp), (5, pT b1), (28, .bool true), (30, iV x.d.2)]) (by kernel_rfl) (by kernel_rfl) (.load (B46.cell 1 rfl) .nil) ?_
    refine S.one (by kernel_rfl) (S.law 31 (v := .pointer (some ⟨bm, x.d.2.toNat, none⟩)) (Instr.indexAt 95 (pT bm) (iV x.d.2)) (by kernel_rfl) (by kernel_rfl) (by kernel_rfl) ((run_idxA (len := 6) (sz := 1) (e := 4) x.d.2 (by kernel_rfl) (by kernel_rfl) (by omega) (by omega)).trans (by rw [Nat.mul_one])) ?_)
    have hA49 := hmi.at1 (met_get (m := mi) (i := x.d.2.toNat) (by omega))
    refine S.run 3 [.v (.bool (mi.getD x.d.2.toNat true))] [2, 3, 4, 5, 34] (rs := [.load ⟨bm, x.d.2.toNat, none⟩ (.bool (mi.getD x.d.2.toNat true))]) (κ' := [(2, pT bw), (3, pT bm), (4, pT bp), (5, pT b1), (34, .bool (!(mi.getD x.d.2.toNat true)))]) (by kernel_rfl) (by kernel_rfl) (.load (hA49.cell0 rfl) .nil) ?_
    refine S.regEnd (by kernel_rfl) (S.both 34 (!(mi.getD x.d.2.toNat true)) (by kernel_rfl) (fun c50 => ?_) (fun c50 => ?_))
    ·skip
     have c51 : (mi.getD x.d.2.toNat true) = false := notT c50
     refine S.yes (by kernel_rfl) (S.seq (S.region ?_))
     obtain ⟨hvis0⟩ : Nonempty (visit p.xs K (p.xs.getD x.d.2.toNat default) (mi.set x.d.2.toNat true) = some (V2, m')) := by
       rcases hcase with hc | hc
       · exact ⟨hc.2.2⟩
       · exact absurd ⟨p48, c51⟩ hc.1
     refine S.run 2 [.v (iV x.d.2)] [2, 3, 4, 5, 36] (rs := [.load ⟨b1, 1, none⟩ (iV x.d.2)]) (κ' := [(2, pT bw), (3, pT bm), (4, pT bp), (5, pT b1), (36, iV x.d.2)]) (by kernel_rfl) (by kernel_rfl) (.load (B46.cell 1 rfl) .nil) ?_
     refine S.one (by kernel_rfl) (S.law 37 (v := .pointer (some ⟨bm, x.d.2.toNat, none⟩)) (Instr.indexAt 95 (pT bm) (iV x.d.2)) (by kernel_rfl) (by kernel_rfl) (by kernel_rfl) ((run_idxA (len := 6) (sz := 1) (e := 4) x.d.2 (by kernel_rfl) (by kernel_rfl) (by omega) (by omega)).trans (by rw [Nat.mul_one])) ?_)
     refine S.one (by kernel_rfl) (S.store x.d.2.toNat [.bool true] _ hmi (by kernel_rfl) (by kernel_rfl) (by rw [List.length_map, hli]; exact Nat.ble_eq_true_of_le (show x.d.2.toNat + 1 ≤ 6 by omega)) (by kernel_rfl) rfl (fun w53 E53 B53 z53 => ?_))
     rw [met_set] at B53; have hl53 : (mi.set x.d.2.toNat true).length = 6 := by rw [List.length_set]; exact hli
     have sE53 := E53.size
     refine S.regEnd (by kernel_rfl) (S.seq (S.drawN 8 #[false, false, false, false, false, false, false, false] 6 (fun u u' => Ext E0 u u') (fun _ _ => True) (by kernel_rfl) (by kernel_rfl) (by kernel_rfl) (fun w54 E54 z54 => ?_)))
     have sE54 := E54.size
     have B55 := hE.hf.ext0 E1
     have B56 := B55.kp hK3 rfl
     have B57 := B56.kp E8 rfl
     have B58 := B57.extT E53 hmi (by decide)
     have B59 := B58.ext0 E54
     refine S.dreads1 bodyPost_panicOk [0] 7 [6] [.v (.func (.func 61) #[] #[pT bY, pT bw, pT bm, pT bp])] [4, 5, 38] (rs := [.load ⟨bw, 0, none⟩ (.func (.func 61) #[] #[pT bY, pT bw, pT bm, pT bp])]) (κ' := [(4, pT bp), (5, pT b1), (38, .func (.func 61) #[] #[pT bY, pT bw, pT bm, pT bp])]) (l' := #[true, false, false, false, false, false, false, false]) (by kernel_rfl) (by kernel_rfl) (by kernel_rfl) (by kernel_rfl) (fun w' hw => (.load ((B59.ext0 hw).cell 0 rfl) .nil)) ?_
     have B60 := hE.hp.ext0 E1
     have B61 := B60.kp hK3 rfl
     have B62 := B61.kp E8 rfl
     have B63 := B62.extT E53 hmi (by decide)
     have B64 := B63.ext0 E54
     refine S.dreads1 bodyPost_panicOk [1] 6 [4, 5, 6] [.v (.slice p.a p.xs.length p.cap)] [5, 38, 39] (rs := [.load ⟨bp, 0, none⟩ (.slice p.a p.xs.length p.cap)]) (κ' := [(5, pT b1), (38, .func (.func 61) #[] #[pT bY, pT bw, pT bm, pT bp]), (39, .slice p.a p.xs.length p.cap)]) (l' := #[true, true, false, false, false, false, false, false]) (by kernel_rfl) (by kernel_rfl) (by kernel_rfl) (by kernel_rfl) (fun w' hw => (.load ((B64.ext0 hw).cell 0 rfl) .nil)) ?_
     refine S.dreads bodyPost_panicOk [2] 5 [] [38, 39, 40] (rs := []) (κ' := [(38, .func (.func 61) #[] #[pT bY, pT bw, pT bm, pT bp]), (39, .slice p.a p.xs.length p.cap), (40, .pointer (some ⟨b1, 1, none⟩))]) (l' := #[true, true, true, false, false, false, false, false]) (by kernel_rfl) (by kernel_rfl) (by kernel_rfl) (fun _ _ => rfl) ?_
     have B65 := B46.extT E53 hmi (by decide)
     have B66 := B65.ext0 E54
     refine S.dreads1 bodyPost_panicOk [3] 4 [4, 5, 6] [.v (iV x.d.2)] [38, 39, 41] (rs := [.load ⟨b1, 1, none⟩ (iV x.d.2)]) (κ' := [(38, .func (.func 61) #[] #[pT bY, pT bw, pT bm, pT bp]), (39, .slice p.a p.xs.length p.cap), (41, iV x.d.2)]) (l' := #[true, true, true, true, false, false, false, false]) (by kernel_rfl) (by kernel_rfl) (by kernel_rfl) (by kernel_rfl) (fun w' hw => (.load ((B66.ext0 hw).cell 1 rfl) .nil)) ?_
     have R67 := hE.ok.1.pres (.of0 E1)
     have R68 := R67.pres (Kp.presL hK3 (by omega))
     have R69 := R68.pres (Kp.presL E8 (by omega))
     have R70 := R69.pres (.ofS E53 (by omega))
     have R71 := R70.pres (.of0 E54)
     obtain ⟨x72, b72, o72, hx72, h72, H72⟩ := R71.get x.d.2.toNat (by omega)
     have T73 := hE.ok.pres (.of0 E1)
     have T74 := T73.pres (Kp.presL hK3 (by omega))
     have T75 := T74.pres (Kp.presL E8 (by omega))
     have T76 := T75.pres (.ofS E53 (by omega))
     have T77 := T76.pres (.of0 E54)
     have K72 := T77.2.2 _ (List.mem_of_getElem? hx72)
     have W72 := hpw _ (List.mem_of_getElem? hx72)
     have hget72 := getD_eq (d := default) hx72
     have hvis := hvis0; rw [hget72] at hvis
     refine S.dlaw bodyPost_panicOk 4 42 3 (v := .pointer (some ⟨b72, o72 + x.d.2.toNat * 3, none⟩)) (l' := #[true, true, true, true, true, false, false, false]) (by kernel_rfl) (by kernel_rfl) (by kernel_rfl) (by kernel_rfl) (fun w' hw => lawRun (s := Instr.indexAt 22 (.slice p.a p.xs.length p.cap) (.int .i64 x.d.2)) (by kernel_rfl) (run_idxI (e := 60) x.d.2 h72 (by kernel_rfl) (by kernel_rfl) (by omega) (by omega))) ?_
     refine S.dreads1 bodyPost_panicOk [5] 2 [6] [.v (iV x72.d.1), .v (iV x72.d.2), .v (.slice x72.a x72.len x72.cap)] [38, 43] (rs := [.load ⟨b72, o72 + x.d.2.toNat * 3, none⟩ (iV x72.d.1), .load ⟨b72, o72 + x.d.2.toNat * 3 + 1, none⟩ (iV x72.d.2), .load ⟨b72, o72 + x.d.2.toNat * 3 + 2, none⟩ (.slice x72.a x72.len x72.cap)]) (κ' := [(38, .func (.func 61) #[] #[pT bY, pT bw, pT bm, pT bp]), (43, .agg #[iV x72.d.1, iV x72.d.2, .slice x72.a x72.len x72.cap])]) (l' := #[true, true, true, true, true, true, false, false]) (by kernel_rfl) (by kernel_rfl) (by kernel_rfl) (by kernel_rfl) (fun w' hw => (.load ((H72.pres (.of0 hw)).cell0 rfl) (.load ((H72.pres (.of0 hw)).cell 1 rfl) (.load ((H72.pres (.of0 hw)).cell 2 rfl) .nil)))) ?_
     refine S.dnext (j := 6) (l' := #[true, true, true, true, true, true, true, false]) (by kernel_rfl) (by kernel_rfl) (sw1 (by kernel_rfl) (Ext.refl _)) ?_
     have J79 := hadv _ _ _ hJi ((Xt.ofS E53 hmi (by decide) (by omega)).trans (Xt.of0 E54))
     have B80 := B2.kp hK3 rfl
     have B81 := B80.kp E8 rfl
     have B82 := B81.extT E53 hmi (by decide)
     have B83 := B82.ext0 E54
     have B84 := hE.hf.ext0 E1
     have B85 := B84.kp hK3 rfl
     have B86 := B85.kp E8 rfl
     have B87 := B86.extT E53 hmi (by decide)
     have B88 := B87.ext0 E54
     have B89 := B53.ext0 E54
     have B90 := hE.hp.ext0 E1
     have B91 := B90.kp hK3 rfl
     have B92 := B91.kp E8 rfl
     have B93 := B92.extT E53 hmi (by decide)
     have B94 := B93.ext0 E54
     refine S.call (dst := some 44) (f := 61) (args := #[.agg #[iV x72.d.1, iV x72.d.2, .slice x72.a x72.len x72.cap], pT bY, pT bw, pT bm, pT bp]) (by kernel_rfl) (by kernel_rfl) ((IH n N bY bw bm bp y J Rf hadv hstep x72 _ m' V2 r _ hvis K72 W72 ⟨B83, B88, B89, B94, T77, hl53⟩ hN ⟨hNw.1, by omega⟩ J79).mono ?_)
     rintro e78 w78 (⟨rfl, hJ78, hm78, hl78, hK78⟩ | ⟨rfl, hR2⟩)
     ·skip
      refine After.ret (by kernel_rfl) ?_
      have shK78 := hK78.size
      refine S.dreads2 bodyPost_panicOk [7] 0 [] [6] (rs := []) (κ' := [(6, .bool true)]) (l' := #[true, true, true, true, true, true, true, true]) (by kernel_rfl) (by kernel_rfl) (by kernel_rfl) (by kernel_rfl) (fun w' hw => rfl) ?_
      refine S.dend (by kernel_rfl) (sw2 (by kernel_rfl) trivial) ?_
      exact S.ret1 (v := .bool true) rfl (by kernel_rfl) (.inl ⟨rfl, hJ78, hm78, hl78, (((((Kp.of0 E1).trans (hK3.sub rfl)).trans E8).trans (Kp.ofS E53 hmi rfl (by omega))).trans (Kp.of0 E54)).trans hK78⟩)
     ·skip
      refine After.ret (by kernel_rfl) ?_
      refine S.dreads2 bodyPost_panicOk [7] 0 [] [6] (rs := []) (κ' := [(6, .bool false)]) (l' := #[true, true, true, true, true, true, true, true]) (by kernel_rfl) (by kernel_rfl) (by kernel_rfl) (by kernel_rfl) (fun w' hw => rfl) ?_
      refine S.dend (by kernel_rfl) (sw2 (by kernel_rfl) trivial) ?_
      exact S.ret1 (v := .bool false) rfl (by kernel_rfl) (.inr ⟨rfl, hR2⟩)
    ·skip
     have c95 : (mi.getD x.d.2.toNat true) = true := notF c50
     refine S.no (by kernel_rfl) (S.skip (S.seq (S.region (S.run 1 [] [6] (rs := []) (κ' := [(6, .bool true)]) (by kernel_rfl) (by kernel_rfl) rfl ?_))))
     refine S.regEnd (by kernel_rfl) ?_
     have hno : ¬ (x.d.1 = 7 ∧ mi.getD x.d.2.toNat true = false) := fun hc => by have hc2 := hc.2; rw [c95] at hc2; cases hc2
     obtain ⟨rfl, rfl⟩ : V2 = [] ∧ m' = mi := by rcases hcase with hc | hc; exact (hno ⟨hc.1, hc.2.1⟩).elim; exact hc.2
     exact S.ret1 (v := .bool true) rfl (by kernel_rfl) (.inl ⟨rfl, hJi, hmi, hli, ((Kp.of0 E1).trans (hK3.sub rfl)).trans E8⟩)
   ·skip
    have p97 : x.d.1 ≠ 7 := by simpa using c47
    refine S.run 6 [] [2, 3, 4, 5, 34] (rs := []) (κ' := [(2, pT bw), (3, pT bm), (4, pT bp), (5, pT b1), (34, .bool false)]) (by kernel_rfl) (by kernel_rfl) rfl ?_
    refine S.regEnd (by kernel_rfl) (S.no (by kernel_rfl) (S.skip (S.seq (S.region (S.run 1 [] [6] (rs := []) (κ' := [(6, .bool true)]) (by kernel_rfl) (by kernel_rfl) rfl ?_)))))
    refine S.regEnd (by kernel_rfl) ?_
    have hno : ¬ (x.d.1 = 7 ∧ mi.getD x.d.2.toNat true = false) := fun hc => p97 hc.1
    obtain ⟨rfl, rfl⟩ : V2 = [] ∧ m' = mi := by rcases hcase with hc | hc; exact (hno ⟨hc.1, hc.2.1⟩).elim; exact hc.2
    exact S.ret1 (v := .bool true) rfl (by kernel_rfl) (.inl ⟨rfl, hJi, hmi, hli, ((Kp.of0 E1).trans (hK3.sub rfl)).trans E8⟩)
 ·skip
  refine After.ret (by kernel_rfl) ?_
  refine S.run 1 [] [2, 3, 4, 5, 12] (rs := []) (κ' := [(2, pT bw), (3, pT bm), (4, pT bp), (5, pT b1), (12, .bool true)]) (by kernel_rfl) (by kernel_rfl) rfl ?_
  refine S.regEnd (by kernel_rfl) (S.yes (by kernel_rfl) (S.seq (S.region (S.run 1 [] [6] (rs := []) (κ' := [(6, .bool false)]) (by kernel_rfl) (by kernel_rfl) rfl ?_))))
  exact S.regEnd (by kernel_rfl) (S.ret1 (v := .bool false) rfl (by kernel_rfl) (.inr ⟨rfl, hR2⟩))

theorem walk_all (p : LP) (hpw : ∀ y, y ∈ p.xs → WfX p.xs.length y) (hp6 : p.xs.length ≤ 6) : ∀ K, Walk1 p K
  | 0 => by
    intro n N bY bw bm bp y J Rf hadv hstep x m m' V r w hv
    simp [visit] at hv
  | K + 1 => fun n N bY bw bm bp y J Rf hadv hstep x m m' V r w hv hx hwf hE hN hNw hJ => walk_step p hpw hp6 K (walk_all p hpw hp6 K) n N bY bw bm bp y J Rf hadv hstep x m m' V r w hv hx hwf hE hN hNw hJ

theorem every_iter (p : LP) (hpw : ∀ y, y ∈ p.xs → WfX p.xs.length y) (hp6 : p.xs.length ≤ 6) (n N bp bx l : Nat) (J : List X → World → Prop) (Rf : World → Prop) (hadv : ∀ r w w', J r w → Xt N [60, 85, 95] w w' → J r w') (hstep : ∀ x r w', J (x :: r) w' → CallsV Try.prog (callSem (.func (.yield l) #[] #[]) #[.agg (xCs x).toArray]) w' (YQ n J Rf r w')) (x : X) (K : Nat) (V : List X) (m' : List Bool) (R : Ending → World → Prop) (w : World) (hv : visit p.xs K x (List.replicate 6 false) = some (V, m')) (hB : Blk w bp [.slice p.a p.xs.length p.cap] 22) (hX : Blk w bx (xCs x) 60) (hok : p.ok n w) (hx : XOk n w x) (hwf : WfX p.xs.length x) (hN : n ≤ N ∧ N ≤ w.heap.size) (hJ : J V w) (hend : ∀ w', J [] w' → R (.returned (.tuple #[])) w') (hout : ∀ w', Rf w' → R (.returned (.tuple #[])) w') :
    Calls Try.prog 60 #[.func (.yield l) #[] #[], pT bp, pT bx] w R := by
 refine calls_of_S (n := 10) Try.func60 rfl rfl (by kernel_rfl) ?_
 refine S.seq (S.region (S.one (by kernel_rfl) (S.new 3 [.func (.yield l) #[] #[]] 85 (fun b => pT b) (by kernel_rfl) (by kernel_rfl) (fun b => by kernel_rfl) (fun b1 w1 E1 B1 e1 z1 => ?_))))
 have sE1 := E1.size
 refine S.regEnd (by kernel_rfl) (S.seq (S.region (S.one (by kernel_rfl) (S.new 4 [.bool false, .bool false, .bool false, .bool false, .bool false, .bool false] 95 (fun b => pT b) (by kernel_rfl) (by kernel_rfl) (fun b => by kernel_rfl) (fun b2 w2 E2 B2 e2 z2 => ?_)))))
 have sE2 := E2.size
 refine S.regEnd (by kernel_rfl) (S.seq (S.region (S.one (by kernel_rfl) (S.new 5 [.nilFunc] 85 (fun b => pT b) (by kernel_rfl) (by kernel_rfl) (fun b => by kernel_rfl) (fun b3 w3 E3 B3 e3 z3 => ?_)))))
 have sE3 := E3.size
 refine S.regEnd (by kernel_rfl) (S.seq (S.region (S.run 1 [] [2, 5, 6] (rs := []) (κ' := [(2, pT bx), (5, pT b3), (6, .func (.func 61) #[] #[pT b1, pT b3, pT b2, pT bp])]) (by kernel_rfl) (by kernel_rfl) rfl ?_)))
 refine S.one (by kernel_rfl) (S.store 0 [.func (.func 61) #[] #[pT b1, pT b3, pT b2, pT bp]] [.func (.func 61) #[] #[pT b1, pT b3, pT b2, pT bp]] B3 (by kernel_rfl) (by kernel_rfl) (by kernel_rfl) (by kernel_rfl) (by kernel_rfl) (fun w4 E4 B4 z4 => ?_))
 have sE4 := E4.size
 refine S.regEnd (by kernel_rfl) (S.region ?_)
 have B5 := hX.ext0 E1
 have B6 := B5.ext0 E2
 have B7 := B6.ext0 E3
 have B8 := B7.extT E4 B3 (by decide)
 refine S.run 2 [.v (.func (.func 61) #[] #[pT b1, pT b3, pT b2, pT bp]), .v (iV x.d.1), .v (iV x.d.2), .v (.slice x.a x.len x.cap)] [7, 8] (rs := [.load ⟨b3, 0, none⟩ (.func (.func 61) #[] #[pT b1, pT b3, pT b2, pT bp]), .load ⟨bx, 0, none⟩ (iV x.d.1), .load ⟨bx, 1, none⟩ (iV x.d.2), .load ⟨bx, 2, none⟩ (.slice x.a x.len x.cap)]) (κ' := [(7, .func (.func 61) #[] #[pT b1, pT b3, pT b2, pT bp]), (8, .agg #[iV x.d.1, iV x.d.2, .slice x.a x.len x.cap])]) (by kernel_rfl) (by kernel_rfl) (.load (B4.cell 0 rfl) (.load (B8.cell 0 rfl) (.load (B8.cell 1 rfl) (.load (B8.cell 2 rfl) .nil)))) ?_
 have J10 := hadv _ _ _ hJ ((((Xt.of0 E1).trans (Xt.of0 E2)).trans (Xt.of0 E3)).trans (Xt.ofS E4 B3 (by decide) (by omega)))
 have B11 := B1.ext0 E2
 have B12 := B11.ext0 E3
 have B13 := B12.extS E4 (by omega)
 have B14 := B2.ext0 E3
 have B15 := B14.extT E4 B3 (by decide)
 have B16 := hB.ext0 E1
 have B17 := B16.ext0 E2
 have B18 := B17.ext0 E3
 have B19 := B18.extT E4 B3 (by decide)
 have T20 := hok.pres (.of0 E1)
 have T21 := T20.pres (.of0 E2)
 have T22 := T21.pres (.of0 E3)
 have T23 := T22.pres (.ofS E4 (by omega))
 refine S.one (by kernel_rfl) ?_
 have T24 := hx.pres (.of0 E1)
 have T25 := T24.pres (.of0 E2)
 have T26 := T25.pres (.of0 E3)
 have T27 := T26.pres (.ofS E4 (by omega))
 refine S.call (dst := some 9) (f := 61) (args := #[.agg #[iV x.d.1, iV x.d.2, .slice x.a x.len x.cap], pT b1, pT b3, pT b2, pT bp]) (by kernel_rfl) (by kernel_rfl) ((walk_all p hpw hp6 K n N b1 b3 b2 bp _ J Rf hadv hstep x _ m' V [] _ hv T27 hwf ⟨B13, B4, B15, B19, T23, rfl⟩ (by omega) ⟨hN.1, by omega⟩ (by rw [List.append_nil]; exact J10)).mono ?_)
 rintro e9 w9 (⟨rfl, hJ2, -, -, -⟩ | ⟨rfl, hR2⟩)
 ·skip
  refine After.ret (by kernel_rfl) ?_
  exact S.regEnd (by kernel_rfl) (S.fin0 rfl (hend _ hJ2))
 ·skip
  refine After.ret (by kernel_rfl) ?_
  exact S.regEnd (by kernel_rfl) (S.fin0 rfl (hout _ hR2))

theorem every_spec (p : LP) (x : X) (w : World) :
    Calls Try.prog 22 #[.slice p.a p.xs.length p.cap, .agg #[iV x.d.1, iV x.d.2, .slice x.a x.len x.cap]] w (fun e w' => Ext E0 w w' ∧ ∃ b1 b2, w.heap.size ≤ b1 ∧ w.heap.size ≤ b2 ∧ Blk w' b1 [.slice p.a p.xs.length p.cap] 22 ∧ Blk w' b2 (xCs x) 60 ∧ e = .returned (.func (.func 60) #[] #[.pointer (some ⟨b1, 0, none⟩), .pointer (some ⟨b2, 0, none⟩)])) := by
 refine calls_of_S (n := 6) Try.func22 rfl rfl (by kernel_rfl) ?_
 refine S.seq (S.region (S.one (by kernel_rfl) (S.new 2 [.slice p.a p.xs.length p.cap] 22 (fun b => pT b) (by kernel_rfl) (by kernel_rfl) (fun b => by kernel_rfl) (fun b1 w1 E1 B1 e1 z1 => ?_))))
 have sE1 := E1.size
 refine S.one (by kernel_rfl) (S.new 3 [iV x.d.1, iV x.d.2, .slice x.a x.len x.cap] 60 (fun b => pT b) (by kernel_rfl) (by kernel_rfl) (fun b => by kernel_rfl) (fun b2 w2 E2 B2 e2 z2 => ?_))
 have sE2 := E2.size
 refine S.run 1 [] [2, 3] (rs := []) (κ' := [(2, pT b1), (3, pT b2)]) (by kernel_rfl) (by kernel_rfl) rfl ?_
 refine S.regEnd (by kernel_rfl) (S.seq (S.region (S.run 2 [] [4] (rs := []) (κ' := [(4, .func (.func 60) #[] #[pT b1, pT b2])]) (by kernel_rfl) (by kernel_rfl) rfl ?_)))
 refine S.regEnd (by kernel_rfl) ?_
 have B3 := B1.ext0 E2
 exact S.ret1 (v := .func (.func 60) #[] #[pT b1, pT b2]) rfl (by kernel_rfl) ⟨E1.trans E2, b1, b2, by omega, by omega, B3, B2, rfl⟩

end Go.Proofs.Ytmgakpnejbembaa
