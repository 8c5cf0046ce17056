/-
  CondChoice, a part of the proof (printed by a program of the prover): what functions of the given program compute, each under the conditions that its theorem names.
-/
import Derived.Test.YtmgakpnejbembaaA3
namespace Go.Proofs.Ytmgakpnejbembaa
open Go Go.Proofs.Ytmgakpnejbembaa.L

/-- The kinds of expressions, in a program of b blocks: how many kids, the lowest and the highest number. -/
def nodesT (b : Int) : List (Int × Int × Int × Int) := [(1, 0, -1000000000, 1000000000), (2, 0, 0, 0), (3, 2, 0, 0), (4, 1, 0, 0), (5, 2, 0, 0), (6, 3, 0, 0), (7, 1, 0, b - 1), (8, 2, -1, 7), (9, 1, 0, 7), (10, 1, 0, 7), (11, 2, 0, 7), (12, 1, 0, 7), (13, 1, 0, 7), (14, 0, 0, 7), (15, 2, 0, 0)]
def ndV (t : Int × Int × Int) : Value := .agg #[.int .i64 t.1, .int .i64 t.2.1, .int .i64 t.2.2]
def nodesL (b : Int) : List (Int × Value) := (nodesT b).map fun t => (t.1, ndV t.2)
def nodesO (b : Int) : Obj := .map (ents 0 (nodesL b)).toArray 15
def kd (b x : Int) : Option (Int × Int × Int) := ((nodesT b).find? fun t => x == t.1).map (·.2)
def kn (b x : Int) : Int × Int × Int := (kd b x).getD (0, 0, 0)
theorem lookup_nodes {b x : Int} {m : Nat} {w : World} (hm : ObjAt w m (nodesO b)) :
    (Instr.lookup 78 (.map (some m)) (.int .i64 x) true).run Try.prog w = .ok (.tuple #[.agg #[.int .i64 (kn b x).1, .int .i64 (kn b x).2.1, .int .i64 (kn b x).2.2], .bool (kd b x).isSome]) w := by
  rw [run_lookup_int (P := Try.prog) (z := .agg #[.int .i64 0, .int .i64 0, .int .i64 0]) true (kt := 58) (et := 82) (by kernel_rfl) (by kernel_rfl) (fun w => by kernel_rfl) hm]
  unfold kn kd nodesL
  rw [List.find?_map]
  have : ((fun e : Int × Value => x == e.1) ∘ fun t : Int × Int × Int × Int => (t.1, ndV t.2)) = fun t => x == t.1 := rfl
  rw [this]
  cases (nodesT b).find? fun t => x == t.1 with
  | none => rfl
  | some t => rfl

/-- What fine's walk answers, and how many nodes are left. -/
def okX (b : Int) (d : Int × Int) (len : Nat) (depth left : Int) : Bool :=
  !(decide (left - 1 < 0) || decide (depth > 12) || !(kd b d.1).isSome || ((len : Int) != (kn b d.1).1) || !(decide ((kn b d.1).2.1 ≤ d.2) && decide (d.2 ≤ (kn b d.1).2.2)))
def walkS (b : Int) : X → Int → Int → Bool × Int
  | .mk d _ len _ kids, depth, left => bif okX b d len depth left then go b kids (depth + 1) (left - 1) else (false, left - 1)
  where go (b : Int) : List X → Int → Int → Bool × Int
  | [], _, l => (true, l)
  | x :: r, d, l => bif (walkS b x d l).1 then go b r d (walkS b x d l).2 else (false, (walkS b x d l).2)
theorem walk_eq (b : Int) (x : X) (depth left : Int) : walkS b x depth left = bif okX b x.d x.len depth left then walkS.go b x.kids (depth + 1) (left - 1) else (false, left - 1) := by
  cases x; simp only [walkS, Tr.d, Tr.len, Tr.kids]
/-- The walk takes nodes away. -/
theorem walk_le (b : Int) : ∀ (x : X) (depth left : Int), 0 ≤ left → -1 ≤ (walkS b x depth left).2 ∧ (walkS b x depth left).2 < left ∧ ((walkS b x depth left).1 = true → 0 ≤ (walkS b x depth left).2) := by
  apply Tr.rec (motive_1 := fun x => ∀ (depth left : Int), 0 ≤ left → -1 ≤ (walkS b x depth left).2 ∧ (walkS b x depth left).2 < left ∧ ((walkS b x depth left).1 = true → 0 ≤ (walkS b x depth left).2))
    (motive_2 := fun l => ∀ (depth left : Int), 0 ≤ left → -1 ≤ (walkS.go b l depth left).2 ∧ (walkS.go b l depth left).2 ≤ left ∧ ((walkS.go b l depth left).1 = true → 0 ≤ (walkS.go b l depth left).2))
  · intro d a len cap kids ih depth left hl
    simp only [walkS]
    cases hk : okX b d len depth left with
    | true =>
      simp only [cond_true]
      have h0 : 0 ≤ left - 1 := by
        unfold okX at hk
        simp at hk
        omega
      have := ih (depth + 1) (left - 1) h0
      exact ⟨this.1, by omega, this.2.2⟩
    | false => simp only [cond_false]; refine ⟨by omega, by omega, by simp⟩
  · intro depth left hl; simp only [walkS.go]; exact ⟨by omega, by omega, fun _ => hl⟩
  · intro x r h1 h2 depth left hl
    simp only [walkS.go]
    have g1 := h1 depth left hl
    cases hw : (walkS b x depth left).1 with
    | true =>
      simp only [cond_true]
      have g2 := h2 depth _ (g1.2.2 hw)
      exact ⟨g2.1, by omega, g2.2.2⟩
    | false => simp only [cond_false]; refine ⟨g1.1, by omega, by simp⟩

/-- What the closures of fine capture. -/
structure FEnv (w : World) (bk bl bw m : Nat) (b left : Int) : Prop where
  k : Blk w bk [.map (some m)] 78
  o : ObjAt w m (nodesO b)
  l : Blk w bl [.int .i64 left] 3
  f : Blk w bw [.func (.func 38) #[] #[.pointer (some ⟨bk, 0, none⟩), .pointer (some ⟨bl, 0, none⟩), .pointer (some ⟨bw, 0, none⟩)]] 80
theorem FEnv.step {w w' : World} {bk bl bw m : Nat} {b left left' : Int} (h : FEnv w bk bl bw m b left) (E : Ext (· = bl) w w') (B : Blk w' bl [.int .i64 left'] 3) : FEnv w' bk bl bw m b left' :=
  ⟨h.k.extT E h.l rfl, h.o.extB E h.l rfl, B, h.f.extT E h.l rfl⟩
theorem FEnv.ext0 {w w' : World} {bk bl bw m : Nat} {b left : Int} (h : FEnv w bk bl bw m b left) (E : Ext E0 w w') : FEnv w' bk bl bw m b left := ⟨h.k.ext0 E, h.o.ext0 E, h.l.ext0 E, h.f.ext0 E⟩

/-- The closure's contract at an expression. -/
def Fine1 (x : X) : Prop := ∀ (b : Int) (n bk bl bw m : Nat) (depth left : Int) (w : World), XOk n w x → FEnv w bk bl bw m b left → n ≤ bl → 0 ≤ left → left ≤ 80 → 1 ≤ depth → depth ≤ 13 →
  Calls Try.prog 38 #[.agg (xCs x).toArray, .int .i64 depth, .pointer (some ⟨bk, 0, none⟩), .pointer (some ⟨bl, 0, none⟩), .pointer (some ⟨bw, 0, none⟩)] w
    (fun e w' => Ext (· = bl) w w' ∧ Blk w' bl [.int .i64 (walkS b x depth left).2] 3 ∧ e = .returned (.bool (walkS b x depth left).1))

theorem nodes_spec (b : Int) (w : World) (h0 : 0 ≤ b) (h1 : b ≤ 6) :
    Calls Try.prog 37 #[iV b] w (fun e w' => Ext E0 w w' ∧ ∃ m, e = .returned (.map (some m)) ∧ ObjAt w' m (nodesO b)) := by
 refine calls_of_S (n := 30) Try.func37 rfl rfl (by kernel_rfl) ?_
 refine S.seq (S.region (S.run 1 [] [0] (rs := []) (κ' := [(0, iV b)]) (by kernel_rfl) (by kernel_rfl) rfl ?_))
 refine S.regEnd (by kernel_rfl) (S.seq (S.region (S.run 1 [] [0, 3] (rs := []) (κ' := [(0, iV b), (3, iV 7)]) (by kernel_rfl) (by kernel_rfl) rfl ?_)))
 refine S.regEnd (by kernel_rfl) (S.seq (S.region (S.one (by kernel_rfl) (S.newO 4 (.map #[] 0) (fun b => .map (some b)) (by kernel_rfl) (by kernel_rfl) (fun b => by kernel_rfl) (fun b1 w1 E1 O1 e1 z1 => ?_)))))
 have sE1 := E1.size
 refine S.run 1 [] [0, 3, 4, 5] (rs := []) (κ' := [(0, iV b), (3, iV 7), (4, .map (some b1)), (5, .agg #[iV 0, iV (-1000000000), iV 1000000000])]) (by kernel_rfl) (by kernel_rfl) rfl ?_
 refine S.one (by kernel_rfl) (S.setO (o' := (.map #[{ key := iV 1, val := .agg #[iV 0, iV (-1000000000), iV 1000000000], born := 0 }] 1)) O1 rfl (by kernel_rfl) (by kernel_rfl) (fun w2 E2 O2 z2 => ?_))
 have sE2 := E2.size
 refine S.run 1 [] [0, 3, 4, 6] (rs := []) (κ' := [(0, iV b), (3, iV 7), (4, .map (some b1)), (6, .agg #[iV 0, iV 0, iV 0])]) (by kernel_rfl) (by kernel_rfl) rfl ?_
 refine S.one (by kernel_rfl) (S.setO (o' := (.map #[{ key := iV 1, val := .agg #[iV 0, iV (-1000000000), iV 1000000000], born := 0 }, { key := iV 2, val := .agg #[iV 0, iV 0, iV 0], born := 1 }] 2)) O2 rfl (by kernel_rfl) (by kernel_rfl) (fun w3 E3 O3 z3 => ?_))
 have sE3 := E3.size
 refine S.run 1 [] [0, 3, 4, 7] (rs := []) (κ' := [(0, iV b), (3, iV 7), (4, .map (some b1)), (7, .agg #[iV 2, iV 0, iV 0])]) (by kernel_rfl) (by kernel_rfl) rfl ?_
 refine S.one (by kernel_rfl) (S.setO (o' := (.map #[{ key := iV 1, val := .agg #[iV 0, iV (-1000000000), iV 1000000000], born := 0 }, { key := iV 2, val := .agg #[iV 0, iV 0, iV 0], born := 1 }, { key := iV 3, val := .agg #[iV 2, iV 0, iV 0], born := 2 }] 3)) O3 rfl (by kernel_rfl) (by kernel_rfl) (fun w4 E4 O4 z4 => ?_))
 have sE4 := E4.size
 refine S.run 1 [] [0, 3, 4, 8] (rs := []) (κ' := [(0, iV b), (3, iV 7), (4, .map (some b1)), (8, .agg #[iV 1, iV 0, iV 0])]) (by kernel_rfl) (by kernel_rfl) rfl ?_
 refine S.one (by kernel_rfl) (S.setO (o' := (.map #[{ key := iV 1, val := .agg #[iV 0, iV (-1000000000), iV 1000000000], born := 0 }, { key := iV 2, val := .agg #[iV 0, iV 0, iV 0], born := 1 }, { key := iV 3, val := .agg #[iV 2, iV 0, iV 0], born := 2 }, { key := iV 4, val := .agg #[iV 1, iV 0, iV 0], born := 3 }] 4)) O4 rfl (by kernel_rfl) (by kernel_rfl) (fun w5 E5 O5 z5 => ?_))
 have sE5 := E5.size
 refine S.run 1 [] [0, 3, 4, 9] (rs := []) (κ' := [(0, iV b), (3, iV 7), (4, .map (some b1)), (9, .agg #[iV 2, iV 0, iV 0])]) (by kernel_rfl) (by kernel_rfl) rfl ?_
 refine S.one (by kernel_rfl) (S.setO (o' := (.map #[{ key := iV 1, val := .agg #[iV 0, iV (-1000000000), iV 1000000000], born := 0 }, { key := iV 2, val := .agg #[iV 0, iV 0, iV 0], born := 1 }, { key := iV 3, val := .agg #[iV 2, iV 0, iV 0], born := 2 }, { key := iV 4, val := .agg #[iV 1, iV 0, iV 0], born := 3 }, { key := iV 5, val := .agg #[iV 2, iV 0, iV 0], born := 4 }] 5)) O5 rfl (by kernel_rfl) (by kernel_rfl) (fun w6 E6 O6 z6 => ?_))
 have sE6 := E6.size
 refine S.run 1 [] [0, 3, 4, 10] (rs := []) (κ' := [(0, iV b), (3, iV 7), (4, .map (some b1)), (10, .agg #[iV 3, iV 0, iV 0])]) (by kernel_rfl) (by kernel_rfl) rfl ?_
 refine S.one (by kernel_rfl) (S.setO (o' := (.map #[{ key := iV 1, val := .agg #[iV 0, iV (-1000000000), iV 1000000000], born := 0 }, { key := iV 2, val := .agg #[iV 0, iV 0, iV 0], born := 1 }, { key := iV 3, val := .agg #[iV 2, iV 0, iV 0], born := 2 }, { key := iV 4, val := .agg #[iV 1, iV 0, iV 0], born := 3 }, { key := iV 5, val := .agg #[iV 2, iV 0, iV 0], born := 4 }, { key := iV 6, val := .agg #[iV 3, iV 0, iV 0], born := 5 }] 6)) O6 rfl (by kernel_rfl) (by kernel_rfl) (fun w7 E7 O7 z7 => ?_))
 have sE7 := E7.size
 refine S.run 2 [] [3, 4, 11, 12] (rs := []) (κ' := [(3, iV 7), (4, .map (some b1)), (11, iV b), (12, iV (IntKind.i64.wrap (b - 1)))]) (by kernel_rfl) (by kernel_rfl) rfl ?_
 refine S.subst 12 (iV (IntKind.i64.wrap (b - 1))) (iV (b - 1)) (by kernel_rfl) (congrArg (Value.int .i64) (wrap_i64 (by omega) (by omega))) ?_
 refine S.run 1 [] [3, 4, 13] (rs := []) (κ' := [(3, iV 7), (4, .map (some b1)), (13, .agg #[iV 1, iV 0, iV (b - 1)])]) (by kernel_rfl) (by kernel_rfl) rfl ?_
 refine S.one (by kernel_rfl) (S.setO (o' := (.map #[{ key := iV 1, val := .agg #[iV 0, iV (-1000000000), iV 1000000000], born := 0 }, { key := iV 2, val := .agg #[iV 0, iV 0, iV 0], born := 1 }, { key := iV 3, val := .agg #[iV 2, iV 0, iV 0], born := 2 }, { key := iV 4, val := .agg #[iV 1, iV 0, iV 0], born := 3 }, { key := iV 5, val := .agg #[iV 2, iV 0, iV 0], born := 4 }, { key := iV 6, val := .agg #[iV 3, iV 0, iV 0], born := 5 }, { key := iV 7, val := .agg #[iV 1, iV 0, iV (b - 1)], born := 6 }] 7)) O7 rfl (by kernel_rfl) (by kernel_rfl) (fun w8 E8 O8 z8 => ?_))
 have sE8 := E8.size
 refine S.run 2 [] [3, 4, 15] (rs := []) (κ' := [(3, iV 7), (4, .map (some b1)), (15, .agg #[iV 2, iV (-1), iV 7])]) (by kernel_rfl) (by kernel_rfl) rfl ?_
 refine S.one (by kernel_rfl) (S.setO (o' := (.map #[{ key := iV 1, val := .agg #[iV 0, iV (-1000000000), iV 1000000000], born := 0 }, { key := iV 2, val := .agg #[iV 0, iV 0, iV 0], born := 1 }, { key := iV 3, val := .agg #[iV 2, iV 0, iV 0], born := 2 }, { key := iV 4, val := .agg #[iV 1, iV 0, iV 0], born := 3 }, { key := iV 5, val := .agg #[iV 2, iV 0, iV 0], born := 4 }, { key := iV 6, val := .agg #[iV 3, iV 0, iV 0], born := 5 }, { key := iV 7, val := .agg #[iV 1, iV 0, iV (b - 1)], born := 6 }, { key := iV 8, val := .agg #[iV 2, iV (-1), iV 7], born := 7 }] 8)) O8 rfl (by kernel_rfl) (by kernel_rfl) (fun w9 E9 O9 z9 => ?_))
 have sE9 := E9.size
 refine S.run 2 [] [3, 4, 17] (rs := []) (κ' := [(3, iV 7), (4, .map (some b1)), (17, .agg #[iV 1, iV 0, iV 7])]) (by kernel_rfl) (by kernel_rfl) rfl ?_
 refine S.one (by kernel_rfl) (S.setO (o' := (.map #[{ key := iV 1, val := .agg #[iV 0, iV (-1000000000), iV 1000000000], born := 0 }, { key := iV 2, val := .agg #[iV 0, iV 0, iV 0], born := 1 }, { key := iV 3, val := .agg #[iV 2, iV 0, iV 0], born := 2 }, { key := iV 4, val := .agg #[iV 1, iV 0, iV 0], born := 3 }, { key := iV 5, val := .agg #[iV 2, iV 0, iV 0], born := 4 }, { key := iV 6, val := .agg #[iV 3, iV 0, iV 0], born := 5 }, { key := iV 7, val := .agg #[iV 1, iV 0, iV (b - 1)], born := 6 }, { key := iV 8, val := .agg #[iV 2, iV (-1), iV 7], born := 7 }, { key := iV 9, val := .agg #[iV 1, iV 0, iV 7], born := 8 }] 9)) O9 rfl (by kernel_rfl) (by kernel_rfl) (fun w10 E10 O10 z10 => ?_))
 have sE10 := E10.size
 refine S.run 2 [] [3, 4, 19] (rs := []) (κ' := [(3, iV 7), (4, .map (some b1)), (19, .agg #[iV 1, iV 0, iV 7])]) (by kernel_rfl) (by kernel_rfl) rfl ?_
 refine S.one (by kernel_rfl) (S.setO (o' := (.map #[{ key := iV 1, val := .agg #[iV 0, iV (-1000000000), iV 1000000000], born := 0 }, { key := iV 2, val := .agg #[iV 0, iV 0, iV 0], born := 1 }, { key := iV 3, val := .agg #[iV 2, iV 0, iV 0], born := 2 }, { key := iV 4, val := .agg #[iV 1, iV 0, iV 0], born := 3 }, { key := iV 5, val := .agg #[iV 2, iV 0, iV 0], born := 4 }, { key := iV 6, val := .agg #[iV 3, iV 0, iV 0], born := 5 }, { key := iV 7, val := .agg #[iV 1, iV 0, iV (b - 1)], born := 6 }, { key := iV 8, val := .agg #[iV 2, iV (-1), iV 7], born := 7 }, { key := iV 9, val := .agg #[iV 1, iV 0, iV 7], born := 8 }, { key := iV 10, val := .agg #[iV 1, iV 0, iV 7], born := 9 }] 10)) O10 rfl (by kernel_rfl) (by kernel_rfl) (fun w11 E11 O11 z11 => ?_))
 have sE11 := E11.size
 refine S.run 2 [] [3, 4, 21] (rs := []) (κ' := [(3, iV 7), (4, .map (some b1)), (21, .agg #[iV 2, iV 0, iV 7])]) (by kernel_rfl) (by kernel_rfl) rfl ?_
 refine S.one (by kernel_rfl) (S.setO (o' := (.map #[{ key := iV 1, val := .agg #[iV 0, iV (-1000000000), iV 1000000000], born := 0 }, { key := iV 2, val := .agg #[iV 0, iV 0, iV 0], born := 1 }, { key := iV 3, val := .agg #[iV 2, iV 0, iV 0], born := 2 }, { key := iV 4, val := .agg #[iV 1, iV 0, iV 0], born := 3 }, { key := iV 5, val := .agg #[iV 2, iV 0, iV 0], born := 4 }, { key := iV 6, val := .agg #[iV 3, iV 0, iV 0], born := 5 }, { key := iV 7, val := .agg #[iV 1, iV 0, iV (b - 1)], born := 6 }, { key := iV 8, val := .agg #[iV 2, iV (-1), iV 7], born := 7 }, { key := iV 9, val := .agg #[iV 1, iV 0, iV 7], born := 8 }, { key := iV 10, val := .agg #[iV 1, iV 0, iV 7], born := 9 }, { key := iV 11, val := .agg #[iV 2, iV 0, iV 7], born := 10 }] 11)) O11 rfl (by kernel_rfl) (by kernel_rfl) (fun w12 E12 O12 z12 => ?_))
 have sE12 := E12.size
 refine S.run 2 [] [3, 4, 23] (rs := []) (κ' := [(3, iV 7), (4, .map (some b1)), (23, .agg #[iV 1, iV 0, iV 7])]) (by kernel_rfl) (by kernel_rfl) rfl ?_
 refine S.one (by kernel_rfl) (S.setO (o' := (.map #[{ key := iV 1, val := .agg #[iV 0, iV (-1000000000), iV 1000000000], born := 0 }, { key := iV 2, val := .agg #[iV 0, iV 0, iV 0], born := 1 }, { key := iV 3, val := .agg #[iV 2, iV 0, iV 0], born := 2 }, { key := iV 4, val := .agg #[iV 1, iV 0, iV 0], born := 3 }, { key := iV 5, val := .agg #[iV 2, iV 0, iV 0], born := 4 }, { key := iV 6, val := .agg #[iV 3, iV 0, iV 0], born := 5 }, { key := iV 7, val := .agg #[iV 1, iV 0, iV (b - 1)], born := 6 }, { key := iV 8, val := .agg #[iV 2, iV (-1), iV 7], born := 7 }, { key := iV 9, val := .agg #[iV 1, iV 0, iV 7], born := 8 }, { key := iV 10, val := .agg #[iV 1, iV 0, iV 7], born := 9 }, { key := iV 11, val := .agg #[iV 2, iV 0, iV 7], born := 10 }, { key := iV 12, val := .agg #[iV 1, iV 0, iV 7], born := 11 }] 12)) O12 rfl (by kernel_rfl) (by kernel_rfl) (fun w13 E13 O13 z13 => ?_))
 have sE13 := E13.size
 refine S.run 2 [] [3, 4, 25] (rs := []) (κ' := [(3, iV 7), (4, .map (some b1)), (25, .agg #[iV 1, iV 0, iV 7])]) (by kernel_rfl) (by kernel_rfl) rfl ?_
 refine S.one (by kernel_rfl) (S.setO (o' := (.map #[{ key := iV 1, val := .agg #[iV 0, iV (-1000000000), iV 1000000000], born := 0 }, { key := iV 2, val := .agg #[iV 0, iV 0, iV 0], born := 1 }, { key := iV 3, val := .agg #[iV 2, iV 0, iV 0], born := 2 }, { key := iV 4, val := .agg #[iV 1, iV 0, iV 0], born := 3 }, { key := iV 5, val := .agg #[iV 2, iV 0, iV 0], born := 4 }, { key := iV 6, val := .agg #[iV 3, iV 0, iV 0], born := 5 }, { key := iV 7, val := .agg #[iV 1, iV 0, iV (b - 1)], born := 6 }, { key := iV 8, val := .agg #[iV 2, iV (-1), iV 7], born := 7 }, { key := iV 9, val := .agg #[iV 1, iV 0, iV 7], born := 8 }, { key := iV 10, val := .agg #[iV 1, iV 0, iV 7], born := 9 }, { key := iV 11, val := .agg #[iV 2, iV 0, iV 7], born := 10 }, { key := iV 12, val := .agg #[iV 1, iV 0, iV 7], born := 11 }, { key := iV 13, val := .agg #[iV 1, iV 0, iV 7], born := 12 }] 13)) O13 rfl (by kernel_rfl) (by kernel_rfl) (fun w14 E14 O14 z14 => ?_))
 have sE14 := E14.size
 refine S.run 2 [] [4, 27] (rs := []) (κ' := [(4, .map (some b1)), (27, .agg #[iV 0, iV 0, iV 7])]) (by kernel_rfl) (by kernel_rfl) rfl ?_
 refine S.one (by kernel_rfl) (S.setO (o' := (.map #[{ key := iV 1, val := .agg #[iV 0, iV (-1000000000), iV 1000000000], born := 0 }, { key := iV 2, val := .agg #[iV 0, iV 0, iV 0], born := 1 }, { key := iV 3, val := .agg #[iV 2, iV 0, iV 0], born := 2 }, { key := iV 4, val := .agg #[iV 1, iV 0, iV 0], born := 3 }, { key := iV 5, val := .agg #[iV 2, iV 0, iV 0], born := 4 }, { key := iV 6, val := .agg #[iV 3, iV 0, iV 0], born := 5 }, { key := iV 7, val := .agg #[iV 1, iV 0, iV (b - 1)], born := 6 }, { key := iV 8, val := .agg #[iV 2, iV (-1), iV 7], born := 7 }, { key := iV 9, val := .agg #[iV 1, iV 0, iV 7], born := 8 }, { key := iV 10, val := .agg #[iV 1, iV 0, iV 7], born := 9 }, { key := iV 11, val := .agg #[iV 2, iV 0, iV 7], born := 10 }, { key := iV 12, val := .agg #[iV 1, iV 0, iV 7], born := 11 }, { key := iV 13, val := .agg #[iV 1, iV 0, iV 7], born := 12 }, { key := iV 14, val := .agg #[iV 0, iV 0, iV 7], born := 13 }] 14)) O14 rfl (by kernel_rfl) (by kernel_rfl) (fun w15 E15 O15 z15 => ?_))
 have sE15 := E15.size
 refine S.run 1 [] [4, 28] (rs := []) (κ' := [(4, .map (some b1)), (28, .agg #[iV 2, iV 0, iV 0])]) (by kernel_rfl) (by kernel_rfl) rfl ?_
 refine S.one (by kernel_rfl) (S.setO (o' := (.map #[{ key := iV 1, val := .agg #[iV 0, iV (-1000000000), iV 1000000000], born := 0 }, { key := iV 2, val := .agg #[iV 0, iV 0, iV 0], born := 1 }, { key := iV 3, val := .agg #[iV 2, iV 0, iV 0], born := 2 }, { key := iV 4, val := .agg #[iV 1, iV 0, iV 0], born := 3 }, { key := iV 5, val := .agg #[iV 2, iV 0, iV 0], born := 4 }, { key := iV 6, val := .agg #[iV 3, iV 0, iV 0], born := 5 }, { key := iV 7, val := .agg #[iV 1, iV 0, iV (b - 1)], born := 6 }, { key := iV 8, val := .agg #[iV 2, iV (-1), iV 7], born := 7 }, { key := iV 9, val := .agg #[iV 1, iV 0, iV 7], born := 8 }, { key := iV 10, val := .agg #[iV 1, iV 0, iV 7], born := 9 }, { key := iV 11, val := .agg #[iV 2, iV 0, iV 7], born := 10 }, { key := iV 12, val := .agg #[iV 1, iV 0, iV 7], born := 11 }, { key := iV 13, val := .agg #[iV 1, iV 0, iV 7], born := 12 }, { key := iV 14, val := .agg #[iV 0, iV 0, iV 7], born := 13 }, { key := iV 15, val := .agg #[iV 2, iV 0, iV 0], born := 14 }] 15)) O15 rfl (by kernel_rfl) (by kernel_rfl) (fun w16 E16 O16 z16 => ?_))
 have sE16 := E16.size
 refine S.run 2 [] [2] (rs := []) (κ' := [(2, .map (some b1))]) (by kernel_rfl) (by kernel_rfl) rfl ?_
 exact S.regEnd (by kernel_rfl) (S.ret1 (v := .map (some b1)) rfl (by kernel_rfl) ⟨((((((((((((((E1.thenS E2 (by omega)).thenS E3 (by omega)).thenS E4 (by omega)).thenS E5 (by omega)).thenS E6 (by omega)).thenS E7 (by omega)).thenS E8 (by omega)).thenS E9 (by omega)).thenS E10 (by omega)).thenS E11 (by omega)).thenS E12 (by omega)).thenS E13 (by omega)).thenS E14 (by omega)).thenS E15 (by omega)).thenS E16 (by omega), b1, rfl, O16⟩)

theorem fine11_spec (b : Int) (n bk bl bw bd m : Nat) (y : X) (depth left : Int) (w : World) (IH : Fine1 y) (hy : XOk n w y) (hE : FEnv w bk bl bw m b left) (hnb : n ≤ bl) (hd : Blk w bd [.int .i64 depth] 3) (h1 : 0 ≤ left) (h2 : left ≤ 80) (h3 : 1 ≤ depth) (h4 : depth ≤ 12) :
    Calls Try.prog 40 #[.agg #[iV y.d.1, iV y.d.2, .slice y.a y.len y.cap], pT bw, pT bd] w (fun e w' => Ext (· = bl) w w' ∧ Blk w' bl [.int .i64 (walkS b y (depth + 1) left).2] 3 ∧ e = .returned (.bool !(walkS b y (depth + 1) left).1)) := by
 refine calls_of_S (n := 11) Try.func40 rfl rfl (by kernel_rfl) ?_
 refine S.seq (S.region (S.one (by kernel_rfl) (S.new 3 [iV y.d.1, iV y.d.2, .slice y.a y.len y.cap] 60 (fun b => pT b) (by kernel_rfl) (by kernel_rfl) (fun b => by kernel_rfl) (fun b1 w1 E1 B1 e1 z1 => ?_))))
 have sE1 := E1.size
 refine S.run 1 [] [1, 2, 3] (rs := []) (κ' := [(1, pT bw), (2, pT bd), (3, pT b1)]) (by kernel_rfl) (by kernel_rfl) rfl ?_
 refine S.regEnd (by kernel_rfl) (S.seq (S.region ?_))
 have B2 := hE.f.ext0 E1
 have B3 := hd.ext0 E1
 refine S.run 4 [.v (.func (.func 38) #[] #[pT bk, pT bl, pT bw]), .v (iV y.d.1), .v (iV y.d.2), .v (.slice y.a y.len y.cap), .v (iV depth)] [5, 6, 7, 8] (rs := [.load ⟨bw, 0, none⟩ (.func (.func 38) #[] #[pT bk, pT bl, pT bw]), .load ⟨b1, 0, none⟩ (iV y.d.1), .load ⟨b1, 1, none⟩ (iV y.d.2), .load ⟨b1, 2, none⟩ (.slice y.a y.len y.cap), .load ⟨bd, 0, none⟩ (iV depth)]) (κ' := [(5, .func (.func 38) #[] #[pT bk, pT bl, pT bw]), (6, .agg #[iV y.d.1, iV y.d.2, .slice y.a y.len y.cap]), (7, iV depth), (8, iV (IntKind.i64.wrap (depth + 1)))]) (by kernel_rfl) (by kernel_rfl) (.load (B2.cell 0 rfl) (.load (B1.cell 0 rfl) (.load (B1.cell 1 rfl) (.load (B1.cell 2 rfl) (.load (B3.cell 0 rfl) .nil))))) ?_
 refine S.subst 8 (iV (IntKind.i64.wrap (depth + 1))) (iV (depth + 1)) (by kernel_rfl) (congrArg (Value.int .i64) (wrap_i64 (by omega) (by omega))) ?_
 have B5 := hE.k.ext0 E1
 have O6 := hE.o.ext0 E1
 have B7 := hE.l.ext0 E1
 have T8 := hy.pres (.of0 E1)
 refine S.one (by kernel_rfl) (S.call (dst := some 9) (f := 38) (args := #[.agg #[iV y.d.1, iV y.d.2, .slice y.a y.len y.cap], iV (depth + 1), pT bk, pT bl, pT bw]) (by kernel_rfl) (by kernel_rfl) ((IH b n bk bl bw m (depth + 1) left _ T8 ⟨B5, O6, B7, B2⟩ hnb h1 h2 (by omega) (by omega)).mono ?_))
 rintro _ w4 ⟨E4, hB, rfl⟩
 refine After.ret (by kernel_rfl) ?_
 have sE4 := E4.size
 refine S.run 2 [] [4] (rs := []) (κ' := [(4, .bool (!((walkS b y (depth + 1) left).1)))]) (by kernel_rfl) (by kernel_rfl) rfl ?_
 exact S.regEnd (by kernel_rfl) (S.ret1 (v := .bool (!((walkS b y (depth + 1) left).1))) rfl (by kernel_rfl) ⟨(Ext.of0 E1).trans E4, hB, rfl⟩)

theorem go_drop {b : Int} {d : Int} : ∀ (l : List X) (i : Nat) (x : X) (left l' : Int), l[i]? = some x → walkS.go b l d left = walkS.go b (l.drop i) d l' → (walkS b x d l').1 = true → walkS.go b l d left = walkS.go b (l.drop (i + 1)) d (walkS b x d l').2 := by
  intro l i x left l' hx h hw
  rw [h, show l.drop i = x :: l.drop (i + 1) from by
    have hi := (List.getElem?_eq_some_iff.1 hx).1
    rw [List.drop_eq_getElem_cons hi, (List.getElem?_eq_some_iff.1 hx).2]]
  simp [walkS.go, hw]
theorem go_stop {b : Int} {d : Int} : ∀ (l : List X) (i : Nat) (x : X) (left l' : Int), l[i]? = some x → walkS.go b l d left = walkS.go b (l.drop i) d l' → (walkS b x d l').1 = false → walkS.go b l d left = (false, (walkS b x d l').2) := by
  intro l i x left l' hx h hw
  rw [h, show l.drop i = x :: l.drop (i + 1) from by
    have hi := (List.getElem?_eq_some_iff.1 hx).1
    rw [List.drop_eq_getElem_cons hi, (List.getElem?_eq_some_iff.1 hx).2]]
  simp [walkS.go, hw]
theorem walk_no {b : Int} {x : X} {depth left : Int} (h : okX b x.d x.len depth left = false) : walkS b x depth left = (false, left - 1) := by rw [walk_eq, h]; rfl
theorem walk_yes {b : Int} {x : X} {depth left : Int} (h : okX b x.d x.len depth left = true) : walkS b x depth left = walkS.go b x.kids (depth + 1) (left - 1) := by rw [walk_eq, h]; rfl
/-- The kids, one by one. -/
def FJ (b : Int) (l : List X) (d left : Int) (bl : Nat) (w0 : World) (i : Nat) (w : World) : Prop := Ext (· = bl) w0 w ∧ ∃ l', Blk w bl [.int .i64 l'] 3 ∧ 0 ≤ l' ∧ l' ≤ 80 ∧ walkS.go b l d left = walkS.go b (l.drop i) d l'
def FQ (b : Int) (l : List X) (d left : Int) (bl : Nat) (w0 : World) (_ : Nat) (w : World) : Prop := Ext (· = bl) w0 w ∧ ∃ l', Blk w bl [.int .i64 l'] 3 ∧ walkS.go b l d left = (false, l')
theorem fine_kids {b : Int} {n bk bl bw bd m : Nat} {p : LP} {depth left : Int} {w : World} (IH : ∀ y, y ∈ p.xs → Fine1 y) (hp : p.ok n w) (hE : FEnv w bk bl bw m b left) (hnb : n ≤ bl) (hd : Blk w bd [.int .i64 depth] 3) (hne : bd ≠ bl) (h1 : 0 ≤ left) (h2 : left ≤ 80) (h3 : 1 ≤ depth) (h4 : depth ≤ 12) :
    Calls Try.prog 39 #[.slice p.a p.xs.length p.cap, .func (.func 40) #[] #[.pointer (some ⟨bw, 0, none⟩), .pointer (some ⟨bd, 0, none⟩)]] w
      (fun e w' => (e = .returned (.bool false) ∧ FJ b p.xs (depth + 1) left bl w p.xs.length w') ∨ ∃ i : Nat, i < p.xs.length ∧ e = .returned (.bool true) ∧ FQ b p.xs (depth + 1) left bl w i w') := by
  refine ContainsFunc_x n p.a p.cap _ p.xs (FJ b p.xs (depth + 1) left bl w) (FQ b p.xs (depth + 1) left bl w) w hp.2.1 ?_ ?_ ?_
  · rintro i w1 ⟨hx, -⟩
    exact hp.1.pres (.ofS hx hnb)
  · rintro i y w1 hy ⟨hx, l', hB, g1, g2, g3⟩
    have hE1 := hE.step hx hB
    have hy1 := (hp.2.2 y (List.mem_of_getElem? hy)).pres (.ofS hx hnb)
    refine callSem_func (fn := Try.f40) (by kernel_rfl) ((fine11_spec b n bk bl bw bd m y depth l' w1 (IH y (List.mem_of_getElem? hy)) hy1 hE1 hnb (hd.extS hx hne) g1 g2 h3 h4).mono ?_)
    rintro _ w2 ⟨hx2, hB2, rfl⟩
    have hle := walk_le b y (depth + 1) l' g1
    cases hw : (walkS b y (depth + 1) l').1 with
    | true => exact .inl ⟨rfl, hx.trans hx2, _, hB2, hle.2.2 hw, by omega, go_drop _ _ _ _ _ hy g3 hw⟩
    | false => exact .inr ⟨rfl, hx.trans hx2, _, hB2, go_stop _ _ _ _ _ hy g3 hw⟩
  · exact ⟨Ext.refl w, left, hE.l, h1, h2, by simp⟩

theorem fine1_of (b : Int) (n bk bl bw m : Nat) (x : X) (depth left : Int) (w : World) (IH : ∀ y, y ∈ x.kids → Fine1 y) (hx : XOk n w x) (hE : FEnv w bk bl bw m b left) (hnb : n ≤ bl) (h1 : 0 ≤ left) (h2 : left ≤ 80) (h3 : 1 ≤ depth) (h4 : depth ≤ 13) :
    Calls Try.prog 38 #[.agg #[iV x.d.1, iV x.d.2, .slice x.a x.len x.cap], iV depth, pT bk, pT bl, pT bw] w (fun e w' => Ext (· = bl) w w' ∧ Blk w' bl [.int .i64 (walkS b x depth left).2] 3 ∧ e = .returned (.bool (walkS b x depth left).1)) := by
 refine calls_of_S (n := 52) Try.func38 rfl rfl (by kernel_rfl) ?_
 have hl0 := hE.l.lt
 have hbig := hx.big
 refine S.seq (S.region (S.one (by kernel_rfl) (S.new 5 [iV x.d.1, iV x.d.2, .slice x.a x.len x.cap] 60 (fun b => pT b) (by kernel_rfl) (by kernel_rfl) (fun b => by kernel_rfl) (fun b1 w1 E1 B1 e1 z1 => ?_))))
 have sE1 := E1.size
 refine S.one (by kernel_rfl) (S.new 6 [iV depth] 3 (fun b => pT b) (by kernel_rfl) (by kernel_rfl) (fun b => by kernel_rfl) (fun b2 w2 E2 B2 e2 z2 => ?_))
 have sE2 := E2.size
 refine S.run 1 [] [2, 3, 4, 5, 6] (rs := []) (κ' := [(2, pT bk), (3, pT bl), (4, pT bw), (5, pT b1), (6, pT b2)]) (by kernel_rfl) (by kernel_rfl) rfl ?_
 refine S.regEnd (by kernel_rfl) (S.seq (S.region ?_))
 have B3 := hE.k.ext0 E1
 have B4 := B3.ext0 E2
 have B5 := B1.ext0 E2
 refine S.run 3 [.v (.map (some m)), .v (iV x.d.1)] [3, 4, 5, 6, 11, 13] (rs := [.load ⟨bk, 0, none⟩ (.map (some m)), .load ⟨b1, 0, none⟩ (iV x.d.1)]) (κ' := [(3, pT bl), (4, pT bw), (5, pT b1), (6, pT b2), (11, .map (some m)), (13, iV x.d.1)]) (by kernel_rfl) (by kernel_rfl) (.load (B4.cell 0 rfl) (.load (B5.cell 0 rfl) .nil)) ?_
 have O6 := hE.o.ext0 E1
 have O7 := O6.ext0 E2
 refine S.one (by kernel_rfl) (S.law 14 (v := .tuple #[.agg #[iV ((kn b x.d.1).1), iV ((kn b x.d.1).2.1), iV ((kn b x.d.1).2.2)], .bool ((kd b x.d.1).isSome)]) (Instr.lookup 78 (.map (some m)) (iV x.d.1) true) (by kernel_rfl) (by kernel_rfl) (by kernel_rfl) (lookup_nodes O7) ?_)
 refine S.run 3 [] [3, 4, 5, 6, 15, 16] (rs := []) (κ' := [(3, pT bl), (4, pT bw), (5, pT b1), (6, pT b2), (15, .agg #[iV ((kn b x.d.1).1), iV ((kn b x.d.1).2.1), iV ((kn b x.d.1).2.2)]), (16, .bool ((kd b x.d.1).isSome))]) (by kernel_rfl) (by kernel_rfl) rfl ?_
 refine S.one (by kernel_rfl) (S.new 8 [iV 0, iV 0, iV 0] 82 (fun b => pT b) (by kernel_rfl) (by kernel_rfl) (fun b => by kernel_rfl) (fun b8 w8 E8 B8 e8 z8 => ?_))
 have sE8 := E8.size
 refine S.one (by kernel_rfl) (S.store 0 [iV ((kn b x.d.1).1), iV ((kn b x.d.1).2.1), iV ((kn b x.d.1).2.2)] [iV ((kn b x.d.1).1), iV ((kn b x.d.1).2.1), iV ((kn b x.d.1).2.2)] B8 (by kernel_rfl) (by kernel_rfl) (by kernel_rfl) (by kernel_rfl) (by kernel_rfl) (fun w9 E9 B9 z9 => ?_))
 have sE9 := E9.size
 refine S.run 1 [] [3, 4, 5, 6, 8, 9] (rs := []) (κ' := [(3, pT bl), (4, pT bw), (5, pT b1), (6, pT b2), (8, pT b8), (9, .bool ((kd b x.d.1).isSome))]) (by kernel_rfl) (by kernel_rfl) rfl ?_
 refine S.regEnd (by kernel_rfl) (S.seq (S.seq (S.region ?_)))
 have B10 := hE.l.ext0 E1
 have B11 := B10.ext0 E2
 have B12 := B11.ext0 E8
 have B13 := B12.extT E9 B8 (by decide)
 refine S.run 2 [.v (iV left)] [3, 4, 5, 6, 8, 9, 17, 18] (rs := [.load ⟨bl, 0, none⟩ (iV left)]) (κ' := [(3, pT bl), (4, pT bw), (5, pT b1), (6, pT b2), (8, pT b8), (9, .bool ((kd b x.d.1).isSome)), (17, iV left), (18, iV (IntKind.i64.wrap (left - 1)))]) (by kernel_rfl) (by kernel_rfl) (.load (B13.cell 0 rfl) .nil) ?_
 refine S.subst 18 (iV (IntKind.i64.wrap (left - 1))) (iV (left - 1)) (by kernel_rfl) (congrArg (Value.int .i64) (wrap_i64 (by omega) (by omega))) ?_
 refine S.one (by kernel_rfl) (S.store 0 [iV (left - 1)] [iV (left - 1)] B13 (by kernel_rfl) (by kernel_rfl) (by kernel_rfl) (by kernel_rfl) (by kernel_rfl) (fun w14 E14 B14 z14 => ?_))
 have sE14 := E14.size
 refine S.regEnd (by kernel_rfl) (S.seq (S.region (S.run 3 [.v (iV (left - 1))] [4, 5, 6, 8, 9, 21] (rs := [.load ⟨bl, 0, none⟩ (iV (left - 1))]) (κ' := [(4, pT bw), (5, pT b1), (6, pT b2), (8, pT b8), (9, .bool ((kd b x.d.1).isSome)), (21, .bool (decide ((left - 1) < 0)))]) (by kernel_rfl) (by kernel_rfl) (.load (B14.cell 0 rfl) .nil) ?_)))
 refine S.both 21 (decide ((left - 1) < 0)) (by kernel_rfl) (fun c15 => ?_) (fun c15 => ?_)
 ·skip
  have p16 : (left - 1) < 0 := of_decide_eq_true c15
  refine S.run 25 [] [4, 5, 6, 46] (rs := []) (κ' := [(4, pT bw), (5, pT b1), (6, pT b2), (46, .bool true)]) (by kernel_rfl) (by kernel_rfl) rfl ?_
  refine S.regEnd (by kernel_rfl) (S.yes (by kernel_rfl) (S.seq (S.region (S.run 1 [] [7] (rs := []) (κ' := [(7, .bool false)]) (by kernel_rfl) (by kernel_rfl) rfl ?_))))
  refine S.regEnd (by kernel_rfl) ?_
  have hno : okX b x.d x.len depth left = false := by unfold okX; first | (simp [*]; done) | simp only [*, Bool.not_false, Bool.or_true, Bool.not_true]
  exact S.ret1 (v := .bool false) rfl (by kernel_rfl) ⟨((((Ext.of0 E1).trans (Ext.of0 E2)).trans (Ext.of0 E8)).thenN E9 (by omega)).trans E14, by rw [walk_no hno]; exact B14, by rw [walk_no hno]⟩
 ·skip
  have p17 : ¬ ((left - 1) < 0) := of_decide_eq_false c15
  have B18 := B2.ext0 E8
  have B19 := B18.extT E9 B8 (by decide)
  have B20 := B19.extS E14 (by omega)
  refine S.run 4 [.v (iV depth)] [4, 5, 6, 8, 9, 25] (rs := [.load ⟨b2, 0, none⟩ (iV depth)]) (κ' := [(4, pT bw), (5, pT b1), (6, pT b2), (8, pT b8), (9, .bool ((kd b x.d.1).isSome)), (25, .bool (decide (depth > 12)))]) (by kernel_rfl) (by kernel_rfl) (.load (B20.cell 0 rfl) .nil) ?_
  refine S.both 25 (decide (depth > 12)) (by kernel_rfl) (fun c21 => ?_) (fun c21 => ?_)
  ·skip
   have p22 : depth > 12 := of_decide_eq_true c21
   refine S.run 21 [] [4, 5, 6, 46] (rs := []) (κ' := [(4, pT bw), (5, pT b1), (6, pT b2), (46, .bool true)]) (by kernel_rfl) (by kernel_rfl) rfl ?_
   refine S.regEnd (by kernel_rfl) (S.yes (by kernel_rfl) (S.seq (S.region (S.run 1 [] [7] (rs := []) (κ' := [(7, .bool false)]) (by kernel_rfl) (by kernel_rfl) rfl ?_))))
   refine S.regEnd (by kernel_rfl) ?_
   have hno : okX b x.d x.len depth left = false := by unfold okX; first | (simp [*]; done) | simp only [*, Bool.not_false, Bool.or_true, Bool.not_true]
   exact S.ret1 (v := .bool false) rfl (by kernel_rfl) ⟨((((Ext.of0 E1).trans (Ext.of0 E2)).trans (Ext.of0 E8)).thenN E9 (by omega)).trans E14, by rw [walk_no hno]; exact B14, by rw [walk_no hno]⟩
  ·skip
   have p23 : ¬ (depth > 12) := of_decide_eq_false c21
   refine S.run 4 [] [4, 5, 6, 8, 29] (rs := []) (κ' := [(4, pT bw), (5, pT b1), (6, pT b2), (8, pT b8), (29, .bool (!((kd b x.d.1).isSome)))]) (by kernel_rfl) (by kernel_rfl) rfl ?_
   refine S.both 29 (!((kd b x.d.1).isSome)) (by kernel_rfl) (fun c24 => ?_) (fun c24 => ?_)
   ·skip
    have c25 : ((kd b x.d.1).isSome) = false := notT c24
    refine S.run 17 [] [4, 5, 6, 46] (rs := []) (κ' := [(4, pT bw), (5, pT b1), (6, pT b2), (46, .bool true)]) (by kernel_rfl) (by kernel_rfl) rfl ?_
    refine S.regEnd (by kernel_rfl) (S.yes (by kernel_rfl) (S.seq (S.region (S.run 1 [] [7] (rs := []) (κ' := [(7, .bool false)]) (by kernel_rfl) (by kernel_rfl) rfl ?_))))
    refine S.regEnd (by kernel_rfl) ?_
    have hno : okX b x.d x.len depth left = false := by unfold okX; first | (simp [*]; done) | simp only [*, Bool.not_false, Bool.or_true, Bool.not_true]
    exact S.ret1 (v := .bool false) rfl (by kernel_rfl) ⟨((((Ext.of0 E1).trans (Ext.of0 E2)).trans (Ext.of0 E8)).thenN E9 (by omega)).trans E14, by rw [walk_no hno]; exact B14, by rw [walk_no hno]⟩
   ·skip
    have c26 : ((kd b x.d.1).isSome) = true := notF c24
    have B27 := B5.ext0 E8
    have B28 := B27.extT E9 B8 (by decide)
    have B29 := B28.extT E14 B13 (by decide)
    have B30 := B9.extT E14 B13 (by decide)
    refine S.run 8 [.v (.slice x.a x.len x.cap), .v (iV ((kn b x.d.1).1))] [4, 5, 6, 8, 37] (rs := [.load ⟨b1, 2, none⟩ (.slice x.a x.len x.cap), .load ⟨b8, 0, none⟩ (iV ((kn b x.d.1).1))]) (κ' := [(4, pT bw), (5, pT b1), (6, pT b2), (8, pT b8), (37, .bool (((x.len : Nat) : Int) != ((kn b x.d.1).1)))]) (by kernel_rfl) (by kernel_rfl) (.load (B29.cell 2 rfl) (.load (B30.cell 0 rfl) .nil)) ?_
    refine S.both 37 (((x.len : Nat) : Int) != ((kn b x.d.1).1)) (by kernel_rfl) (fun c31 => ?_) (fun c31 => ?_)
    ·skip
     have p32 : ((x.len : Nat) : Int) ≠ ((kn b x.d.1).1) := by simpa using c31
     refine S.run 9 [] [4, 5, 6, 46] (rs := []) (κ' := [(4, pT bw), (5, pT b1), (6, pT b2), (46, .bool true)]) (by kernel_rfl) (by kernel_rfl) rfl ?_
     refine S.regEnd (by kernel_rfl) (S.yes (by kernel_rfl) (S.seq (S.region (S.run 1 [] [7] (rs := []) (κ' := [(7, .bool false)]) (by kernel_rfl) (by kernel_rfl) rfl ?_))))
     refine S.regEnd (by kernel_rfl) ?_
     have hno : okX b x.d x.len depth left = false := by unfold okX; first | (simp [*]; done) | simp only [*, Bool.not_false, Bool.or_true, Bool.not_true]
     exact S.ret1 (v := .bool false) rfl (by kernel_rfl) ⟨((((Ext.of0 E1).trans (Ext.of0 E2)).trans (Ext.of0 E8)).thenN E9 (by omega)).trans E14, by rw [walk_no hno]; exact B14, by rw [walk_no hno]⟩
    ·skip
     have p33 : ((x.len : Nat) : Int) = ((kn b x.d.1).1) := by simpa using c31
     refine S.run 6 [.v (iV x.d.2), .v (iV ((kn b x.d.1).2.1)), .v (iV ((kn b x.d.1).2.2))] [4, 5, 6, 37, 39, 41, 43] (rs := [.load ⟨b1, 1, none⟩ (iV x.d.2), .load ⟨b8, 1, none⟩ (iV ((kn b x.d.1).2.1)), .load ⟨b8, 2, none⟩ (iV ((kn b x.d.1).2.2))]) (κ' := [(4, pT bw), (5, pT b1), (6, pT b2), (37, .bool false), (39, iV x.d.2), (41, iV ((kn b x.d.1).2.1)), (43, iV ((kn b x.d.1).2.2))]) (by kernel_rfl) (by kernel_rfl) (.load (B29.cell 1 rfl) (.load (B30.cell 1 rfl) (.load (B30.cell 2 rfl) .nil))) ?_
     refine S.one (by kernel_rfl) (S.call (dst := some 44) (f := 17) (args := #[iV x.d.2, iV ((kn b x.d.1).2.1), iV ((kn b x.d.1).2.2)]) (by kernel_rfl) (by kernel_rfl) ((in_spec x.d.2 ((kn b x.d.1).2.1) ((kn b x.d.1).2.2) w14).mono ?_))
     rintro _ _ ⟨rfl, rfl⟩
     refine After.ret (by kernel_rfl) ?_
     refine S.run 2 [] [4, 5, 6, 46] (rs := []) (κ' := [(4, pT bw), (5, pT b1), (6, pT b2), (46, .bool (!(decide (((kn b x.d.1).2.1) ≤ x.d.2) && decide (x.d.2 ≤ ((kn b x.d.1).2.2)))))]) (by kernel_rfl) (by kernel_rfl) rfl ?_
     refine S.regEnd (by kernel_rfl) (S.both 46 (!(decide (((kn b x.d.1).2.1) ≤ x.d.2) && decide (x.d.2 ≤ ((kn b x.d.1).2.2)))) (by kernel_rfl) (fun c34 => ?_) (fun c34 => ?_))
     ·skip
      have c35 : (decide (((kn b x.d.1).2.1) ≤ x.d.2) && decide (x.d.2 ≤ ((kn b x.d.1).2.2))) = false := notT c34
      refine S.yes (by kernel_rfl) (S.seq (S.region (S.run 1 [] [7] (rs := []) (κ' := [(7, .bool false)]) (by kernel_rfl) (by kernel_rfl) rfl ?_)))
      refine S.regEnd (by kernel_rfl) ?_
      have hno : okX b x.d x.len depth left = false := by unfold okX; first | (simp [*]; done) | simp only [*, Bool.not_false, Bool.or_true, Bool.not_true]
      exact S.ret1 (v := .bool false) rfl (by kernel_rfl) ⟨((((Ext.of0 E1).trans (Ext.of0 E2)).trans (Ext.of0 E8)).thenN E9 (by omega)).trans E14, by rw [walk_no hno]; exact B14, by rw [walk_no hno]⟩
     ·skip
      have c36 : (decide (((kn b x.d.1).2.1) ≤ x.d.2) && decide (x.d.2 ≤ ((kn b x.d.1).2.2))) = true := notF c34
      refine S.no (by kernel_rfl) (S.skip (S.seq (S.region (S.run 3 [.v (.slice x.a x.len x.cap)] [48, 49] (rs := [.load ⟨b1, 2, none⟩ (.slice x.a x.len x.cap)]) (κ' := [(48, .slice x.a x.len x.cap), (49, .func (.func 40) #[] #[pT bw, pT b2])]) (by kernel_rfl) (by kernel_rfl) (.load (B29.cell 2 rfl) .nil) ?_))))
      have B38 := B4.ext0 E8
      have B39 := B38.extT E9 B8 (by decide)
      have B40 := B39.extT E14 B13 (by decide)
      have O41 := O7.ext0 E8
      have O42 := O41.extB E9 B8 rfl
      have O43 := O42.extB E14 B13 rfl
      have B44 := hE.f.ext0 E1
      have B45 := B44.ext0 E2
      have B46 := B45.ext0 E8
      have B47 := B46.extT E9 B8 (by decide)
      have B48 := B47.extT E14 B13 (by decide)
      have hlen := hx.len
      have hyes : okX b x.d x.len depth left = true := by unfold okX; simp [*] <;> omega
      have T49 := hx.pres (.of0 E1)
      have T50 := T49.pres (.of0 E2)
      have T51 := T50.pres (.of0 E8)
      have T52 := T51.pres (.ofS E9 (by omega))
      have T53 := T52.pres (.ofS E14 (by omega))
      have hk := fine_kids (p := X.prog x) (bd := b2) (left := left - 1) IH T53.prog ⟨B40, O43, B14, B48⟩ hnb B20 (by omega) (by omega) (by omega) h3 (by omega)
      rw [show (X.prog x).xs.length = x.len from hlen] at hk
      refine S.one (by kernel_rfl) (S.call (dst := some 50) (f := 39) (args := #[.slice x.a x.len x.cap, .func (.func 40) #[] #[pT bw, pT b2]]) (by kernel_rfl) (by kernel_rfl) (hk.mono ?_))
      rintro _ w37 (⟨rfl, E, l', hB, g1, g2, g3⟩ | ⟨i, hi, rfl, E, l', hB, g3⟩)
      ·skip
       refine After.ret (by kernel_rfl) ?_
       have sE := E.size
       refine S.run 2 [] [7] (rs := []) (κ' := [(7, .bool true)]) (by kernel_rfl) (by kernel_rfl) rfl ?_
       refine S.regEnd (by kernel_rfl) ?_
       have g4 : walkS b x depth left = (true, l') := by rw [walk_yes hyes]; rw [show (X.prog x).xs = x.kids from rfl] at g3; rw [g3, ← hlen, List.drop_length]; rfl
       exact S.ret1 (v := .bool true) rfl (by kernel_rfl) ⟨(((((Ext.of0 E1).trans (Ext.of0 E2)).trans (Ext.of0 E8)).thenN E9 (by omega)).trans E14).trans E, by rw [g4]; exact hB, by rw [g4]⟩
      ·skip
       refine After.ret (by kernel_rfl) ?_
       have sE := E.size
       refine S.run 2 [] [7] (rs := []) (κ' := [(7, .bool false)]) (by kernel_rfl) (by kernel_rfl) rfl ?_
       refine S.regEnd (by kernel_rfl) ?_
       have g4 : walkS b x depth left = (false, l') := by rw [walk_yes hyes]; exact g3
       exact S.ret1 (v := .bool false) rfl (by kernel_rfl) ⟨(((((Ext.of0 E1).trans (Ext.of0 E2)).trans (Ext.of0 E8)).thenN E9 (by omega)).trans E14).trans E, by rw [g4]; exact hB, by rw [g4]⟩

theorem Fine1_all : ∀ x, Fine1 x := by
  apply Tr.rec (motive_1 := Fine1) (motive_2 := fun l => ∀ y, y ∈ l → Fine1 y)
  · intro d a len cap kids ih b n bk bl bw m depth left w hx hE hnb h1 h2 h3 h4
    exact fine1_of b n bk bl bw m _ depth left w ih hx hE hnb h1 h2 h3 h4
  · intro y hy; simp at hy
  · intro x r h1 h2 y hy
    rcases List.mem_cons.1 hy with rfl | hy
    · exact h1
    · exact h2 y hy

/-- A program that is formed. -/
def fineS (p : List X) : Bool := decide (1 ≤ (p.length : Int)) && decide ((p.length : Int) ≤ 6) && (walkS.go p.length p 1 80).1

theorem fine2_spec (b : Int) (n bk bl bw m : Nat) (y : X) (left : Int) (w : World) (hy : XOk n w y) (hE : FEnv w bk bl bw m b left) (hnb : n ≤ bl) (h1 : 0 ≤ left) (h2 : left ≤ 80) :
    Calls Try.prog 41 #[.agg #[iV y.d.1, iV y.d.2, .slice y.a y.len y.cap], pT bw] w (fun e w' => Ext (· = bl) w w' ∧ Blk w' bl [.int .i64 (walkS b y 1 left).2] 3 ∧ e = .returned (.bool !(walkS b y 1 left).1)) := by
 refine calls_of_S (n := 8) Try.func41 rfl rfl (by kernel_rfl) ?_
 refine S.seq (S.region (S.one (by kernel_rfl) (S.new 2 [iV y.d.1, iV y.d.2, .slice y.a y.len y.cap] 60 (fun b => pT b) (by kernel_rfl) (by kernel_rfl) (fun b => by kernel_rfl) (fun b1 w1 E1 B1 e1 z1 => ?_))))
 have sE1 := E1.size
 refine S.run 1 [] [1, 2] (rs := []) (κ' := [(1, pT bw), (2, pT b1)]) (by kernel_rfl) (by kernel_rfl) rfl ?_
 refine S.regEnd (by kernel_rfl) (S.seq (S.region ?_))
 have B2 := hE.f.ext0 E1
 refine S.run 2 [.v (.func (.func 38) #[] #[pT bk, pT bl, pT bw]), .v (iV y.d.1), .v (iV y.d.2), .v (.slice y.a y.len y.cap)] [4, 5] (rs := [.load ⟨bw, 0, none⟩ (.func (.func 38) #[] #[pT bk, pT bl, pT bw]), .load ⟨b1, 0, none⟩ (iV y.d.1), .load ⟨b1, 1, none⟩ (iV y.d.2), .load ⟨b1, 2, none⟩ (.slice y.a y.len y.cap)]) (κ' := [(4, .func (.func 38) #[] #[pT bk, pT bl, pT bw]), (5, .agg #[iV y.d.1, iV y.d.2, .slice y.a y.len y.cap])]) (by kernel_rfl) (by kernel_rfl) (.load (B2.cell 0 rfl) (.load (B1.cell 0 rfl) (.load (B1.cell 1 rfl) (.load (B1.cell 2 rfl) .nil)))) ?_
 have B4 := hE.k.ext0 E1
 have O5 := hE.o.ext0 E1
 have B6 := hE.l.ext0 E1
 have T7 := hy.pres (.of0 E1)
 refine S.one (by kernel_rfl) (S.call (dst := some 6) (f := 38) (args := #[.agg #[iV y.d.1, iV y.d.2, .slice y.a y.len y.cap], iV 1, pT bk, pT bl, pT bw]) (by kernel_rfl) (by kernel_rfl) ((Fine1_all y b n bk bl bw m 1 left _ T7 ⟨B4, O5, B6, B2⟩ hnb h1 h2 (by omega) (by omega)).mono ?_))
 rintro _ w3 ⟨E3, hB, rfl⟩
 refine After.ret (by kernel_rfl) ?_
 have sE3 := E3.size
 refine S.run 2 [] [3] (rs := []) (κ' := [(3, .bool (!((walkS b y 1 left).1)))]) (by kernel_rfl) (by kernel_rfl) rfl ?_
 exact S.regEnd (by kernel_rfl) (S.ret1 (v := .bool (!((walkS b y 1 left).1))) rfl (by kernel_rfl) ⟨(Ext.of0 E1).trans E3, hB, rfl⟩)

theorem fine_roots {b : Int} {n bk bl bw m : Nat} {p : LP} {left : Int} {w : World} (hp : p.ok n w) (hE : FEnv w bk bl bw m b left) (hnb : n ≤ bl) (h1 : 0 ≤ left) (h2 : left ≤ 80) :
    Calls Try.prog 39 #[.slice p.a p.xs.length p.cap, .func (.func 41) #[] #[.pointer (some ⟨bw, 0, none⟩)]] w
      (fun e w' => (e = .returned (.bool false) ∧ FJ b p.xs 1 left bl w p.xs.length w') ∨ ∃ i : Nat, i < p.xs.length ∧ e = .returned (.bool true) ∧ FQ b p.xs 1 left bl w i w') := by
  refine ContainsFunc_x n p.a p.cap _ p.xs (FJ b p.xs 1 left bl w) (FQ b p.xs 1 left bl w) w hp.2.1 ?_ ?_ ?_
  · rintro i w1 ⟨hx, -⟩
    exact hp.1.pres (.ofS hx hnb)
  · rintro i y w1 hy ⟨hx, l', hB, g1, g2, g3⟩
    have hE1 := hE.step hx hB
    have hy1 := (hp.2.2 y (List.mem_of_getElem? hy)).pres (.ofS hx hnb)
    refine callSem_func (fn := Try.f41) (by kernel_rfl) ((fine2_spec b n bk bl bw m y l' w1 hy1 hE1 hnb g1 g2).mono ?_)
    rintro _ w2 ⟨hx2, hB2, rfl⟩
    have hle := walk_le b y 1 l' g1
    cases hw : (walkS b y 1 l').1 with
    | true => exact .inl ⟨rfl, hx.trans hx2, _, hB2, hle.2.2 hw, by omega, go_drop _ _ _ _ _ hy g3 hw⟩
    | false => exact .inr ⟨rfl, hx.trans hx2, _, hB2, go_stop _ _ _ _ _ hy g3 hw⟩
  · exact ⟨Ext.refl w, left, hE.l, h1, h2, by simp⟩

theorem fine_spec (n : Nat) (p : LP) (w : World) (hp : p.ok n w) (hn : n ≤ w.heap.size) :
    Calls Try.prog 15 #[.slice p.a p.xs.length p.cap] w (fun e w' => Ext E0 w w' ∧ e = .returned (.bool (fineS p.xs))) := by
 refine calls_of_S (n := 18) Try.func15 rfl rfl (by kernel_rfl) ?_
 have hbig := hp.2.1
 refine S.seq (S.region (S.run 1 [] [0] (rs := []) (κ' := [(0, .slice p.a p.xs.length p.cap)]) (by kernel_rfl) (by kernel_rfl) rfl ?_))
 refine S.regEnd (by kernel_rfl) (S.seq (S.seq (S.region (S.run 2 [] [0, 7] (rs := []) (κ' := [(0, .slice p.a p.xs.length p.cap), (7, iV ((p.xs.length : Nat) : Int))]) (by kernel_rfl) (by kernel_rfl) rfl ?_))))
 refine S.one (by kernel_rfl) (S.call (dst := some 8) (f := 17) (args := #[iV ((p.xs.length : Nat) : Int), iV 1, iV 6]) (by kernel_rfl) (by kernel_rfl) ((in_spec ((p.xs.length : Nat) : Int) 1 6 w).mono ?_))
 rintro _ _ ⟨rfl, rfl⟩
 refine After.ret (by kernel_rfl) ?_
 refine S.run 1 [] [0, 9] (rs := []) (κ' := [(0, .slice p.a p.xs.length p.cap), (9, .bool (!(decide ((1 : Int) ≤ ((p.xs.length : Nat) : Int)) && decide (((p.xs.length : Nat) : Int) ≤ (6 : Int)))))]) (by kernel_rfl) (by kernel_rfl) rfl ?_
 refine S.regEnd (by kernel_rfl) (S.both 9 (!(decide ((1 : Int) ≤ ((p.xs.length : Nat) : Int)) && decide (((p.xs.length : Nat) : Int) ≤ (6 : Int)))) (by kernel_rfl) (fun c1 => ?_) (fun c1 => ?_))
 ·skip
  have c2 : (decide ((1 : Int) ≤ ((p.xs.length : Nat) : Int)) && decide (((p.xs.length : Nat) : Int) ≤ (6 : Int))) = false := notT c1
  refine S.yes (by kernel_rfl) (S.seq (S.region (S.run 1 [] [2] (rs := []) (κ' := [(2, .bool false)]) (by kernel_rfl) (by kernel_rfl) rfl ?_)))
  exact S.regEnd (by kernel_rfl) (S.ret1 (v := .bool false) rfl (by kernel_rfl) ⟨Ext.refl _, by simp only [fineS, *, Bool.false_and]⟩)
 ·skip
  have c4 : (decide ((1 : Int) ≤ ((p.xs.length : Nat) : Int)) && decide (((p.xs.length : Nat) : Int) ≤ (6 : Int))) = true := notF c1
  have hin := c4
  simp only [Bool.and_eq_true, decide_eq_true_eq] at hin
  refine S.no (by kernel_rfl) (S.skip (S.seq (S.region (S.run 2 [] [0, 11] (rs := []) (κ' := [(0, .slice p.a p.xs.length p.cap), (11, iV ((p.xs.length : Nat) : Int))]) (by kernel_rfl) (by kernel_rfl) rfl ?_))))
  refine S.one (by kernel_rfl) (S.call (dst := some 12) (f := 37) (args := #[iV ((p.xs.length : Nat) : Int)]) (by kernel_rfl) (by kernel_rfl) ((nodes_spec _ _ (by omega) (by omega)).mono ?_))
  rintro _ w37 ⟨E37, m, rfl, hm⟩
  refine After.ret (by kernel_rfl) ?_
  have sE37 := E37.size
  refine S.one (by kernel_rfl) (S.new 3 [.map none] 78 (fun b => pT b) (by kernel_rfl) (by kernel_rfl) (fun b => by kernel_rfl) (fun b6 w6 E6 B6 e6 z6 => ?_))
  have sE6 := E6.size
  refine S.one (by kernel_rfl) (S.new 4 [iV 0] 3 (fun b => pT b) (by kernel_rfl) (by kernel_rfl) (fun b => by kernel_rfl) (fun b7 w7 E7 B7 e7 z7 => ?_))
  have sE7 := E7.size
  have B8 := B6.ext0 E7
  refine S.one (by kernel_rfl) (S.store 0 [.map (some m)] [.map (some m)] B8 (by kernel_rfl) (by kernel_rfl) (by kernel_rfl) (by kernel_rfl) (by kernel_rfl) (fun w9 E9 B9 z9 => ?_))
  have sE9 := E9.size
  have B10 := B7.extT E9 B8 (by decide)
  refine S.one (by kernel_rfl) (S.store 0 [iV 80] [iV 80] B10 (by kernel_rfl) (by kernel_rfl) (by kernel_rfl) (by kernel_rfl) (by kernel_rfl) (fun w11 E11 B11 z11 => ?_))
  have sE11 := E11.size
  refine S.regEnd (by kernel_rfl) (S.seq (S.region (S.one (by kernel_rfl) (S.new 5 [.nilFunc] 80 (fun b => pT b) (by kernel_rfl) (by kernel_rfl) (fun b => by kernel_rfl) (fun b12 w12 E12 B12 e12 z12 => ?_)))))
  have sE12 := E12.size
  refine S.regEnd (by kernel_rfl) (S.seq (S.region (S.run 1 [] [0, 5, 13] (rs := []) (κ' := [(0, .slice p.a p.xs.length p.cap), (5, pT b12), (13, .func (.func 38) #[] #[pT b6, pT b7, pT b12])]) (by kernel_rfl) (by kernel_rfl) rfl ?_)))
  refine S.one (by kernel_rfl) (S.store 0 [.func (.func 38) #[] #[pT b6, pT b7, pT b12]] [.func (.func 38) #[] #[pT b6, pT b7, pT b12]] B12 (by kernel_rfl) (by kernel_rfl) (by kernel_rfl) (by kernel_rfl) (by kernel_rfl) (fun w13 E13 B13 z13 => ?_))
  have sE13 := E13.size
  refine S.regEnd (by kernel_rfl) (S.seq (S.region (S.run 2 [] [14, 15] (rs := []) (κ' := [(14, .slice p.a p.xs.length p.cap), (15, .func (.func 41) #[] #[pT b12])]) (by kernel_rfl) (by kernel_rfl) rfl ?_)))
  have B15 := B9.extT E11 B10 (by decide)
  have B16 := B15.ext0 E12
  have B17 := B16.extT E13 B12 (by decide)
  have O18 := hm.ext0 E6
  have O19 := O18.ext0 E7
  have O20 := O19.extB E9 B8 rfl
  have O21 := O20.extB E11 B10 rfl
  have O22 := O21.ext0 E12
  have O23 := O22.extB E13 B12 rfl
  have B24 := B11.ext0 E12
  have B25 := B24.extT E13 B12 (by decide)
  refine S.one (by kernel_rfl) ?_
  have T26 := hp.pres (.of0 E37)
  have T27 := T26.pres (.of0 E6)
  have T28 := T27.pres (.of0 E7)
  have T29 := T28.pres (.ofS E9 (by omega))
  have T30 := T29.pres (.ofS E11 (by omega))
  have T31 := T30.pres (.of0 E12)
  have T32 := T31.pres (.ofS E13 (by omega))
  refine S.call (dst := some 16) (f := 39) (args := #[.slice p.a p.xs.length p.cap, .func (.func 41) #[] #[pT b12]]) (by kernel_rfl) (by kernel_rfl) ((fine_roots (b := ((p.xs.length : Nat) : Int)) (left := 80) T32 ⟨B17, O23, B25, B13⟩ (by omega) (by omega) (by omega)).mono ?_)
  rintro _ w14 (⟨rfl, E, l', hB, g1, g2, g3⟩ | ⟨i, hi, rfl, E, l', hB, g3⟩)
  ·skip
   refine After.ret (by kernel_rfl) ?_
   have sE := E.size
   refine S.run 2 [] [2] (rs := []) (κ' := [(2, .bool true)]) (by kernel_rfl) (by kernel_rfl) rfl ?_
   exact S.regEnd (by kernel_rfl) (S.ret1 (v := .bool true) rfl (by kernel_rfl) ⟨((((((E37.trans E6).trans E7).thenS E9 (by omega)).thenS E11 (by omega)).trans E12).thenS E13 (by omega)).thenS E (by omega), by rw [fineS, g3, List.drop_length]; simp only [*]; rfl⟩)
  ·skip
   refine After.ret (by kernel_rfl) ?_
   have sE := E.size
   refine S.run 2 [] [2] (rs := []) (κ' := [(2, .bool false)]) (by kernel_rfl) (by kernel_rfl) rfl ?_
   exact S.regEnd (by kernel_rfl) (S.ret1 (v := .bool false) rfl (by kernel_rfl) ⟨((((((E37.trans E6).trans E7).thenS E9 (by omega)).thenS E11 (by omega)).trans E12).thenS E13 (by omega)).thenS E (by omega), by rw [fineS, g3]; simp only [Bool.and_false]⟩)

end Go.Proofs.Ytmgakpnejbembaa
