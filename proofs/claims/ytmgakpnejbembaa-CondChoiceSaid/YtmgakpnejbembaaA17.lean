/-
  CondChoice, a part of the proof (printed by a program of the prover): what functions of the given program compute, each under the conditions that its theorem names.
-/
import Derived.Test.YtmgakpnejbembaaA16
import Derived.Test.YtmgakpnejbembaaA14
namespace Go.Proofs.Ytmgakpnejbembaa
open Go Go.Proofs.Ytmgakpnejbembaa.L

/-- A run that has ended, in memory. -/
def RunDone (n₀ rb md : Nat) (p : LP) (w w' : World) (r : RunR) : Prop := Xt n₀ [56, 43] w w' ∧ ∃ ea ec les ka kn kc,
  Blk w' rb [.int .i64 r.fin, .int .i64 r.val, .slice ea les.length ec, .int .i64 ((r.fuel : Nat) : Int), .slice p.a p.xs.length p.cap, .slice ka kn kc, .map (some md)] 56 ∧
  OwnR n₀ 43 5 w' ea les.length ec (les.flatMap evCs) ∧ EvsOk w'.heap.size w' les ∧ r.evs = les.map LE.ev
theorem Run.done {n₀ rb md : Nat} {p : LP} {w0 w w' : World} {σ : RSt} {ea : Option Addr} {ec : Nat} {les : List LE} {ka : Option Addr} {kc : Nat} (h : Run n₀ rb md p w σ ea ec les ka kc) (X : Xt n₀ [56, 43] w0 w) (E : Ext (· = rb) w w') {fin val : Int}
    (hB : Blk w' rb [.int .i64 fin, .int .i64 val, .slice ea les.length ec, .int .i64 ((σ.fuel : Nat) : Int), .slice p.a p.xs.length p.cap, .slice ka σ.picks.length kc, .map (some md)] 56) : RunDone n₀ rb md p w0 w' ⟨fin, val, σ.evs, σ.fuel⟩ := by
  have k : Keeps [43, 3] w w' := .ofS E h.blk rfl
  exact ⟨X.trans (Xt.ofS E h.blk (by decide) h.rb0), ea, ec, les, ka, _, kc, hB, h.own.pres fun _ => k.pres rfl, (h.evs.pres (k.pres rfl)).mono E.size, h.eq⟩
theorem drive_len (p : List X) (hand : Int) (picks : List Int) (fu : Nat) : (driveS p hand picks fu).evs.length ≤ 8 * fu := by
  have h := fin_eval p fu (p.getD 0 default) ⟨hand, [], []⟩ ⟨fu, [], picks⟩
  unfold driveS
  obtain ⟨rr, hr⟩ : ∃ r, evalS p fu (p.getD 0 default) ⟨hand, [], []⟩ ⟨fu, [], picks⟩ = r := ⟨_, rfl⟩
  rw [hr] at h ⊢
  obtain ⟨o, σ⟩ := rr
  cases o <;> simp only [Fin, runOf, List.length_nil] at h ⊢ <;> omega
theorem wf_of (b : Int) : ∀ (x : X) (depth left : Int), (walkS b x depth left).1 = true → WfX b x := by
  apply Tr.rec (motive_1 := fun x => ∀ (depth left : Int), (walkS b x depth left).1 = true → WfX b x)
    (motive_2 := fun l => ∀ (depth left : Int), (walkS.go b l depth left).1 = true → ∀ y, y ∈ l → WfX b y)
  · intro d a len cap kids ih depth left h
    simp only [walkS] at h
    cases hk : okX b d len depth left with
    | false => rw [hk] at h; simp at h
    | true =>
      rw [hk] at h
      have hl := ih _ _ h
      unfold okX at hk
      simp only [Bool.not_eq_true', Bool.or_eq_false_iff, Bool.not_eq_false', Bool.and_eq_true, decide_eq_true_eq, bne_eq_false_iff_eq] at hk
      exact .mk d a len cap kids hk.1.1.2 hk.1.2 hk.2.1 hk.2.2 hl
  · intro depth left _ y hy; simp at hy
  · intro x r h1 h2 depth left h y hy
    simp only [walkS.go] at h
    cases hw : (walkS b x depth left).1 with
    | false => rw [hw] at h; simp at h
    | true =>
      rw [hw] at h
      rcases List.mem_cons.1 hy with rfl | hy
      · exact h1 _ _ hw
      · exact h2 _ _ h y hy
theorem wf_fine {p : List X} (h : fineS p = true) : (∀ y, y ∈ p → WfX p.length y) ∧ 1 ≤ p.length ∧ p.length ≤ 6 := by
  unfold fineS at h
  simp only [Bool.and_eq_true, decide_eq_true_eq] at h
  have key : ∀ (l : List X) (d left : Int), (walkS.go p.length l d left).1 = true → ∀ y, y ∈ l → WfX p.length y := by
    intro l
    induction l with
    | nil => intro _ _ _ y hy; simp at hy
    | cons x r ih =>
      intro d left h y hy
      simp only [walkS.go] at h
      cases hw : (walkS p.length x d left).1 with
      | false => rw [hw] at h; simp at h
      | true =>
        rw [hw] at h
        rcases List.mem_cons.1 hy with rfl | hy
        · exact wf_of _ _ _ _ hw
        · exact ih _ _ h y hy
  exact ⟨key p 1 80 h.2, by omega, by omega⟩
/-- A run's result, where it lies. -/
structure LRun where
  fin : Int
  val : Int
  a : Option Addr
  cap : Nat
  les : List LE
  fuel : Int
def LRun.cs (r : LRun) : List Value := [.int .i64 r.fin, .int .i64 r.val, .slice r.a r.les.length r.cap, .int .i64 r.fuel]
def LRun.ok (m : Nat) (w : World) (r : LRun) : Prop := Row m 43 5 evCs w r.a r.les ∧ EvsOk m w r.les ∧ (r.les.length ≤ 100000 ∧ r.les.length ≤ r.cap)
def LRun.is (r : LRun) (s : RunR) : Prop := r.fin = s.fin ∧ r.val = s.val ∧ r.les.map LE.ev = s.evs ∧ r.fuel = ((s.fuel : Nat) : Int)
theorem LRun.ok.pres {m : Nat} {w w' : World} {r : LRun} (h : r.ok m w) (k : Pres m 43 w w') (k' : Pres m 3 w w') : r.ok m w' := ⟨h.1.pres k, h.2.1.pres k', h.2.2⟩
theorem LRun.ok.mono {n m : Nat} {w : World} {r : LRun} (h : r.ok n w) (k : n ≤ m) : r.ok m w := ⟨h.1.mono k, h.2.1.mono k, h.2.2⟩
def okD (p : List X) (hand : Int) (picks : List Int) (fuel : Int) : Bool := fineS p && (decide ((-1000000000 : Int) ≤ hand) && decide (hand ≤ (1000000000 : Int))) && (decide ((0 : Int) ≤ fuel) && decide (fuel ≤ (300 : Int))) && decide (picks.length ≤ 40) && picks.all fun q => decide (0 ≤ q)
def DriveP (p : List X) (hand : Int) (picks : List Int) (fuel : Int) (w : World) : Ending → World → Prop := fun e w' => Ext E0 w w' ∧
  ((okD p hand picks fuel = true ∧ ∃ r : LRun, e = .returned (.tuple #[.agg r.cs.toArray, .int .i64 0]) ∧ r.ok w'.heap.size w' ∧ r.is (driveS p hand picks fuel.toNat)) ∨
   (okD p hand picks fuel = false ∧ e = .returned (.tuple #[.agg #[.int .i64 0, .int .i64 0, .slice none 0 0, .int .i64 0], .int .i64 2])))

theorem does_spec (w : World) :
    Calls Try.prog 20 #[] w (fun e w' => Ext E0 w w' ∧ ∃ m, e = .returned (.map (some m)) ∧ ObjAt w' m doesO) := by
 refine calls_of_S (n := 3) Try.func20 rfl rfl (by kernel_rfl) ?_
 refine S.seq (S.region (S.run 1 [] [] (rs := []) (κ' := []) (by kernel_rfl) (by kernel_rfl) rfl ?_))
 refine S.regEnd (by kernel_rfl) (S.seq (S.region (S.one (by kernel_rfl) (S.newO 1 (.map #[] 0) (fun b => .map (some b)) (by kernel_rfl) (by kernel_rfl) (fun b => by kernel_rfl) (fun b1 w1 E1 O1 e1 z1 => ?_)))))
 have sE1 := E1.size
 refine S.one (by kernel_rfl) (S.setO (o' := (.map #[{ key := iV 1, val := .func (.func 43) #[] #[], born := 0 }] 1)) O1 rfl (by kernel_rfl) (by kernel_rfl) (fun w2 E2 O2 z2 => ?_))
 have sE2 := E2.size
 refine S.one (by kernel_rfl) (S.setO (o' := (.map #[{ key := iV 1, val := .func (.func 43) #[] #[], born := 0 }, { key := iV 2, val := .func (.func 44) #[] #[], born := 1 }] 2)) O2 rfl (by kernel_rfl) (by kernel_rfl) (fun w3 E3 O3 z3 => ?_))
 have sE3 := E3.size
 refine S.one (by kernel_rfl) (S.setO (o' := (.map #[{ key := iV 1, val := .func (.func 43) #[] #[], born := 0 }, { key := iV 2, val := .func (.func 44) #[] #[], born := 1 }, { key := iV 3, val := .func (.func 45) #[] #[], born := 2 }] 3)) O3 rfl (by kernel_rfl) (by kernel_rfl) (fun w4 E4 O4 z4 => ?_))
 have sE4 := E4.size
 refine S.one (by kernel_rfl) (S.setO (o' := (.map #[{ key := iV 1, val := .func (.func 43) #[] #[], born := 0 }, { key := iV 2, val := .func (.func 44) #[] #[], born := 1 }, { key := iV 3, val := .func (.func 45) #[] #[], born := 2 }, { key := iV 4, val := .func (.func 46) #[] #[], born := 3 }] 4)) O4 rfl (by kernel_rfl) (by kernel_rfl) (fun w5 E5 O5 z5 => ?_))
 have sE5 := E5.size
 refine S.one (by kernel_rfl) (S.setO (o' := (.map #[{ key := iV 1, val := .func (.func 43) #[] #[], born := 0 }, { key := iV 2, val := .func (.func 44) #[] #[], born := 1 }, { key := iV 3, val := .func (.func 45) #[] #[], born := 2 }, { key := iV 4, val := .func (.func 46) #[] #[], born := 3 }, { key := iV 5, val := .func (.func 47) #[] #[], born := 4 }] 5)) O5 rfl (by kernel_rfl) (by kernel_rfl) (fun w6 E6 O6 z6 => ?_))
 have sE6 := E6.size
 refine S.one (by kernel_rfl) (S.setO (o' := (.map #[{ key := iV 1, val := .func (.func 43) #[] #[], born := 0 }, { key := iV 2, val := .func (.func 44) #[] #[], born := 1 }, { key := iV 3, val := .func (.func 45) #[] #[], born := 2 }, { key := iV 4, val := .func (.func 46) #[] #[], born := 3 }, { key := iV 5, val := .func (.func 47) #[] #[], born := 4 }, { key := iV 6, val := .func (.func 48) #[] #[], born := 5 }] 6)) O6 rfl (by kernel_rfl) (by kernel_rfl) (fun w7 E7 O7 z7 => ?_))
 have sE7 := E7.size
 refine S.one (by kernel_rfl) (S.setO (o' := (.map #[{ key := iV 1, val := .func (.func 43) #[] #[], born := 0 }, { key := iV 2, val := .func (.func 44) #[] #[], born := 1 }, { key := iV 3, val := .func (.func 45) #[] #[], born := 2 }, { key := iV 4, val := .func (.func 46) #[] #[], born := 3 }, { key := iV 5, val := .func (.func 47) #[] #[], born := 4 }, { key := iV 6, val := .func (.func 48) #[] #[], born := 5 }, { key := iV 7, val := .func (.func 49) #[] #[], born := 6 }] 7)) O7 rfl (by kernel_rfl) (by kernel_rfl) (fun w8 E8 O8 z8 => ?_))
 have sE8 := E8.size
 refine S.one (by kernel_rfl) (S.setO (o' := (.map #[{ key := iV 1, val := .func (.func 43) #[] #[], born := 0 }, { key := iV 2, val := .func (.func 44) #[] #[], born := 1 }, { key := iV 3, val := .func (.func 45) #[] #[], born := 2 }, { key := iV 4, val := .func (.func 46) #[] #[], born := 3 }, { key := iV 5, val := .func (.func 47) #[] #[], born := 4 }, { key := iV 6, val := .func (.func 48) #[] #[], born := 5 }, { key := iV 7, val := .func (.func 49) #[] #[], born := 6 }, { key := iV 8, val := .func (.func 50) #[] #[], born := 7 }] 8)) O8 rfl (by kernel_rfl) (by kernel_rfl) (fun w9 E9 O9 z9 => ?_))
 have sE9 := E9.size
 refine S.one (by kernel_rfl) (S.setO (o' := (.map #[{ key := iV 1, val := .func (.func 43) #[] #[], born := 0 }, { key := iV 2, val := .func (.func 44) #[] #[], born := 1 }, { key := iV 3, val := .func (.func 45) #[] #[], born := 2 }, { key := iV 4, val := .func (.func 46) #[] #[], born := 3 }, { key := iV 5, val := .func (.func 47) #[] #[], born := 4 }, { key := iV 6, val := .func (.func 48) #[] #[], born := 5 }, { key := iV 7, val := .func (.func 49) #[] #[], born := 6 }, { key := iV 8, val := .func (.func 50) #[] #[], born := 7 }, { key := iV 9, val := .func (.func 51) #[] #[], born := 8 }] 9)) O9 rfl (by kernel_rfl) (by kernel_rfl) (fun w10 E10 O10 z10 => ?_))
 have sE10 := E10.size
 refine S.one (by kernel_rfl) (S.setO (o' := (.map #[{ key := iV 1, val := .func (.func 43) #[] #[], born := 0 }, { key := iV 2, val := .func (.func 44) #[] #[], born := 1 }, { key := iV 3, val := .func (.func 45) #[] #[], born := 2 }, { key := iV 4, val := .func (.func 46) #[] #[], born := 3 }, { key := iV 5, val := .func (.func 47) #[] #[], born := 4 }, { key := iV 6, val := .func (.func 48) #[] #[], born := 5 }, { key := iV 7, val := .func (.func 49) #[] #[], born := 6 }, { key := iV 8, val := .func (.func 50) #[] #[], born := 7 }, { key := iV 9, val := .func (.func 51) #[] #[], born := 8 }, { key := iV 10, val := .func (.func 52) #[] #[], born := 9 }] 10)) O10 rfl (by kernel_rfl) (by kernel_rfl) (fun w11 E11 O11 z11 => ?_))
 have sE11 := E11.size
 refine S.one (by kernel_rfl) (S.setO (o' := (.map #[{ key := iV 1, val := .func (.func 43) #[] #[], born := 0 }, { key := iV 2, val := .func (.func 44) #[] #[], born := 1 }, { key := iV 3, val := .func (.func 45) #[] #[], born := 2 }, { key := iV 4, val := .func (.func 46) #[] #[], born := 3 }, { key := iV 5, val := .func (.func 47) #[] #[], born := 4 }, { key := iV 6, val := .func (.func 48) #[] #[], born := 5 }, { key := iV 7, val := .func (.func 49) #[] #[], born := 6 }, { key := iV 8, val := .func (.func 50) #[] #[], born := 7 }, { key := iV 9, val := .func (.func 51) #[] #[], born := 8 }, { key := iV 10, val := .func (.func 52) #[] #[], born := 9 }, { key := iV 11, val := .func (.func 53) #[] #[], born := 10 }] 11)) O11 rfl (by kernel_rfl) (by kernel_rfl) (fun w12 E12 O12 z12 => ?_))
 have sE12 := E12.size
 refine S.one (by kernel_rfl) (S.setO (o' := (.map #[{ key := iV 1, val := .func (.func 43) #[] #[], born := 0 }, { key := iV 2, val := .func (.func 44) #[] #[], born := 1 }, { key := iV 3, val := .func (.func 45) #[] #[], born := 2 }, { key := iV 4, val := .func (.func 46) #[] #[], born := 3 }, { key := iV 5, val := .func (.func 47) #[] #[], born := 4 }, { key := iV 6, val := .func (.func 48) #[] #[], born := 5 }, { key := iV 7, val := .func (.func 49) #[] #[], born := 6 }, { key := iV 8, val := .func (.func 50) #[] #[], born := 7 }, { key := iV 9, val := .func (.func 51) #[] #[], born := 8 }, { key := iV 10, val := .func (.func 52) #[] #[], born := 9 }, { key := iV 11, val := .func (.func 53) #[] #[], born := 10 }, { key := iV 12, val := .func (.func 54) #[] #[], born := 11 }] 12)) O12 rfl (by kernel_rfl) (by kernel_rfl) (fun w13 E13 O13 z13 => ?_))
 have sE13 := E13.size
 refine S.one (by kernel_rfl) (S.setO (o' := (.map #[{ key := iV 1, val := .func (.func 43) #[] #[], born := 0 }, { key := iV 2, val := .func (.func 44) #[] #[], born := 1 }, { key := iV 3, val := .func (.func 45) #[] #[], born := 2 }, { key := iV 4, val := .func (.func 46) #[] #[], born := 3 }, { key := iV 5, val := .func (.func 47) #[] #[], born := 4 }, { key := iV 6, val := .func (.func 48) #[] #[], born := 5 }, { key := iV 7, val := .func (.func 49) #[] #[], born := 6 }, { key := iV 8, val := .func (.func 50) #[] #[], born := 7 }, { key := iV 9, val := .func (.func 51) #[] #[], born := 8 }, { key := iV 10, val := .func (.func 52) #[] #[], born := 9 }, { key := iV 11, val := .func (.func 53) #[] #[], born := 10 }, { key := iV 12, val := .func (.func 54) #[] #[], born := 11 }, { key := iV 13, val := .func (.func 55) #[] #[], born := 12 }] 13)) O13 rfl (by kernel_rfl) (by kernel_rfl) (fun w14 E14 O14 z14 => ?_))
 have sE14 := E14.size
 refine S.one (by kernel_rfl) (S.setO (o' := (.map #[{ key := iV 1, val := .func (.func 43) #[] #[], born := 0 }, { key := iV 2, val := .func (.func 44) #[] #[], born := 1 }, { key := iV 3, val := .func (.func 45) #[] #[], born := 2 }, { key := iV 4, val := .func (.func 46) #[] #[], born := 3 }, { key := iV 5, val := .func (.func 47) #[] #[], born := 4 }, { key := iV 6, val := .func (.func 48) #[] #[], born := 5 }, { key := iV 7, val := .func (.func 49) #[] #[], born := 6 }, { key := iV 8, val := .func (.func 50) #[] #[], born := 7 }, { key := iV 9, val := .func (.func 51) #[] #[], born := 8 }, { key := iV 10, val := .func (.func 52) #[] #[], born := 9 }, { key := iV 11, val := .func (.func 53) #[] #[], born := 10 }, { key := iV 12, val := .func (.func 54) #[] #[], born := 11 }, { key := iV 13, val := .func (.func 55) #[] #[], born := 12 }, { key := iV 14, val := .func (.func 56) #[] #[], born := 13 }] 14)) O14 rfl (by kernel_rfl) (by kernel_rfl) (fun w15 E15 O15 z15 => ?_))
 have sE15 := E15.size
 refine S.one (by kernel_rfl) (S.setO (o' := (.map #[{ key := iV 1, val := .func (.func 43) #[] #[], born := 0 }, { key := iV 2, val := .func (.func 44) #[] #[], born := 1 }, { key := iV 3, val := .func (.func 45) #[] #[], born := 2 }, { key := iV 4, val := .func (.func 46) #[] #[], born := 3 }, { key := iV 5, val := .func (.func 47) #[] #[], born := 4 }, { key := iV 6, val := .func (.func 48) #[] #[], born := 5 }, { key := iV 7, val := .func (.func 49) #[] #[], born := 6 }, { key := iV 8, val := .func (.func 50) #[] #[], born := 7 }, { key := iV 9, val := .func (.func 51) #[] #[], born := 8 }, { key := iV 10, val := .func (.func 52) #[] #[], born := 9 }, { key := iV 11, val := .func (.func 53) #[] #[], born := 10 }, { key := iV 12, val := .func (.func 54) #[] #[], born := 11 }, { key := iV 13, val := .func (.func 55) #[] #[], born := 12 }, { key := iV 14, val := .func (.func 56) #[] #[], born := 13 }, { key := iV 15, val := .func (.func 57) #[] #[], born := 14 }] 15)) O15 rfl (by kernel_rfl) (by kernel_rfl) (fun w16 E16 O16 z16 => ?_))
 have sE16 := E16.size
 refine S.run 2 [] [0] (rs := []) (κ' := [(0, .map (some b1))]) (by kernel_rfl) (by kernel_rfl) rfl ?_
 exact S.regEnd (by kernel_rfl) (S.ret1 (v := .map (some b1)) rfl (by kernel_rfl) ⟨((((((((((((((E1.thenS E2 (by omega)).thenS E3 (by omega)).thenS E4 (by omega)).thenS E5 (by omega)).thenS E6 (by omega)).thenS E7 (by omega)).thenS E8 (by omega)).thenS E9 (by omega)).thenS E10 (by omega)).thenS E11 (by omega)).thenS E12 (by omega)).thenS E13 (by omega)).thenS E14 (by omega)).thenS E15 (by omega)).thenS E16 (by omega), b1, rfl, O16⟩)

theorem end_nil (bt : Nat) (w : World) (R : Ending → FrameMode → World → Prop) (h : R (.returned (.tuple #[])) .returning w) : CallsDIn (FW none) 0 Try.prog 58 #[.pointer (some ⟨bt, 0, none⟩)] .returning w R := by
 refine callsD_recover (n := 16) (fn := Try.f58) (d := 4) .returning rfl rfl rfl (by kernel_rfl) (by kernel_rfl) rfl rfl rfl rfl ?_
 refine S.regEnd (by kernel_rfl) (S.block (S.seq (S.region (S.run 1 [] [0, 4, 6] (rs := []) (κ' := [(0, pT bt), (4, .nilIface), (6, .bool true)]) (by kernel_rfl) (by kernel_rfl) rfl ?_))))
 refine S.regEnd (by kernel_rfl) (S.yes (by kernel_rfl) (S.region (S.run 1 [] [] (rs := []) (κ' := []) (by kernel_rfl) (by kernel_rfl) rfl ?_)))
 exact S.regEnd (by kernel_rfl) (S.out (S.fin0 rfl h))

theorem end_stop (bt rb : Nat) (c e0 v0 fu : Int) (ea pa ka : Option Addr) (en ec pn pc kn kc md : Nat) (rest : List PanicEntry) (w : World) (R : Ending → FrameMode → World → Prop) (hB : Blk w bt [.pointer (some ⟨rb, 0, none⟩)] 52) (hr : Blk w rb [iV e0, iV v0, .slice ea en ec, iV fu, .slice pa pn pc, .slice ka kn kc, .map (some md)] 56) (h : ∀ w', Ext (· = rb) w w' → Blk w' rb [iV c, iV v0, .slice ea en ec, iV fu, .slice pa pn pc, .slice ka kn kc, .map (some md)] 56 → R (.returned (.tuple #[])) (.panicking ({ v := .iface 90 (.agg #[iV c]), recovered := true } :: rest)) w') : CallsDIn (FW none) 0 Try.prog 58 #[.pointer (some ⟨bt, 0, none⟩)] (.panicking ({ v := .iface 90 (.agg #[iV c]), recovered := false } :: rest)) w R := by
 refine callsD_recover (n := 16) (fn := Try.f58) (d := 4) (.panicking ({ v := .iface 90 (.agg #[iV c]), recovered := false } :: rest)) rfl rfl rfl (by kernel_rfl) (by kernel_rfl) rfl rfl rfl rfl ?_
 have hlt := hr.lt
 refine S.regEnd (by kernel_rfl) (S.block (S.seq (S.region (S.run 1 [] [0, 4, 6] (rs := []) (κ' := [(0, pT bt), (4, .iface 90 (.agg #[iV c])), (6, .bool false)]) (by kernel_rfl) (by kernel_rfl) rfl ?_))))
 refine S.regEnd (by kernel_rfl) (S.no (by kernel_rfl) (S.seq (S.region (S.run 3 [] [0, 4, 8, 9] (rs := []) (κ' := [(0, pT bt), (4, .iface 90 (.agg #[iV c])), (8, .bool true), (9, .agg #[iV c])]) (by kernel_rfl) (by kernel_rfl) rfl ?_))))
 refine S.regEnd (by kernel_rfl) (S.yes (by kernel_rfl) (S.seq (S.region (S.one (by kernel_rfl) (S.new 2 [iV 0] 90 (fun b => pT b) (by kernel_rfl) (by kernel_rfl) (fun b => by kernel_rfl) (fun b1 w1 E1 B1 e1 z1 => ?_))))))
 have sE1 := E1.size
 refine S.one (by kernel_rfl) (S.store 0 [iV c] [iV c] B1 (by kernel_rfl) (by kernel_rfl) (by kernel_rfl) (by kernel_rfl) (by kernel_rfl) (fun w2 E2 B2 z2 => ?_))
 have sE2 := E2.size
 refine S.regEnd (by kernel_rfl) (S.region ?_)
 have B3 := hB.ext0 E1
 have B4 := B3.extT E2 B1 (by decide)
 refine S.run 6 [.v (pT rb), .v (iV c)] [12, 15] (rs := [.load ⟨bt, 0, none⟩ (pT rb), .load ⟨b1, 0, none⟩ (iV c)]) (κ' := [(12, iV c), (15, pT rb)]) (by kernel_rfl) (by kernel_rfl) (.load (B4.cell 0 rfl) (.load (B2.cell 0 rfl) .nil)) ?_
 have B5 := hr.ext0 E1
 have B6 := B5.extT E2 B1 (by decide)
 refine S.one (by kernel_rfl) (S.store 0 [iV c] [iV c, iV v0, .slice ea en ec, iV fu, .slice pa pn pc, .slice ka kn kc, .map (some md)] B6 (by kernel_rfl) (by kernel_rfl) (by kernel_rfl) (by kernel_rfl) (by kernel_rfl) (fun w7 E7 B7 z7 => ?_))
 have sE7 := E7.size
 exact S.regEnd (by kernel_rfl) (S.out (S.fin0 rfl (h _ (((Ext.of0 E1).thenN E2 (by omega)).trans E7) B7)))

theorem runs_spec (p : LP) (hpw : ∀ y, y ∈ p.xs → WfX p.xs.length y) (n₀ rb md : Nat) (w : World) (fu : Nat) (picks : List Int) (hand : Int) (hR : RunE n₀ rb md p w ⟨fu, [], picks⟩ []) (hne : 0 < p.xs.length) (hrg : Rg hand) (hfu : fu ≤ 300) :
    Calls Try.prog 21 #[pT rb, iV hand] w (fun e w' => e = .returned (.tuple #[]) ∧ RunDone n₀ rb md p w w' (driveS p.xs hand picks fu)) := by
 refine calls_of_SM (n := 25) Try.func21 rfl rfl (by kernel_rfl) ?_
 obtain ⟨ea, ec, ka, kc, hR0⟩ := hR; have hn0 := hR0.n0; have hrb0 := hR0.rb0; have hrblt := hR0.blk.lt; have hR : RunE n₀ rb md p w ⟨fu, [], picks⟩ [] := ⟨ea, ec, ka, kc, hR0⟩
 have hS : ScOk p.xs.length n₀ 900 5000 w hand [] [] ⟨fu, [], picks⟩ := ⟨trivial, trivial, fun z hz => by simp at hz, hrg, by show 0 + fu ≤ 900; omega, by show 0 + fu ≤ 900; omega, by show 0 + 8 * fu ≤ 5000; omega⟩
 refine S.seq (S.region (S.one (by kernel_rfl) (S.new 2 [pT rb] 52 (fun b => pT b) (by kernel_rfl) (by kernel_rfl) (fun b => by kernel_rfl) (fun b1 w1 E1 B1 e1 z1 => ?_))))
 have sE1 := E1.size
 refine S.regEnd (by kernel_rfl) (S.seq (S.region (S.run 1 [] [1, 2, 5] (rs := []) (κ' := [(1, iV hand), (2, pT b1), (5, .func (.func 58) #[] #[pT b1])]) (by kernel_rfl) (by kernel_rfl) rfl ?_)))
 refine S.one (by kernel_rfl) (S.defer (dst := none) (d := { target := .fn (.func 58) #[pT b1], args := #[] }) rfl (by kernel_rfl) rfl ?_)
 refine S.regEnd (by kernel_rfl) (S.seq (S.drawN 11 #[false, false, false, false, false, false, false, false, false, false, false] 9 (fun u u' => Ext E0 u u') (fun u u' => Xt n₀ [56, 43] u u') (by kernel_rfl) (by kernel_rfl) (by kernel_rfl) (fun w2 E2 z2 => ?_)))
 have sE2 := E2.size
 have B3 := B1.ext0 E2
 refine S.dreads dq_panicOk [0] 10 [.v (pT rb)] [1, 2, 6] (rs := [.load ⟨b1, 0, none⟩ (pT rb)]) (κ' := [(1, iV hand), (2, pT b1), (6, pT rb)]) (l' := #[true, false, false, false, false, false, false, false, false, false, false]) (by kernel_rfl) (by kernel_rfl) (by kernel_rfl) (fun w' hw => hw.elim (fun hw => (.load ((B3.ext0 hw).cell 0 rfl) .nil)) (fun hw => (.load ((B3.xt hw (by decide)).cell 0 rfl) .nil))) ?_
 refine S.dreads dq_panicOk [1] 9 [.v (pT rb)] [1, 2, 6, 7] (rs := [.load ⟨b1, 0, none⟩ (pT rb)]) (κ' := [(1, iV hand), (2, pT b1), (6, pT rb), (7, pT rb)]) (l' := #[true, true, false, false, false, false, false, false, false, false, false]) (by kernel_rfl) (by kernel_rfl) (by kernel_rfl) (fun w' hw => hw.elim (fun hw => (.load ((B3.ext0 hw).cell 0 rfl) .nil)) (fun hw => (.load ((B3.xt hw (by decide)).cell 0 rfl) .nil))) ?_
 refine S.dreads dq_panicOk [2, 3, 7, 8] 5 [] [2, 6, 9, 14] (rs := []) (κ' := [(2, pT b1), (6, pT rb), (9, .pointer (some ⟨rb, 4, none⟩)), (14, .agg #[iV hand, .pointer none, .pointer none])]) (l' := #[true, true, true, true, false, false, false, true, true, false, false]) (by kernel_rfl) (by kernel_rfl) (by kernel_rfl) (fun _ _ => rfl) ?_
 have B4 := hR0.blk.ext0 E1
 have B5 := B4.ext0 E2
 refine S.dreads1 dq_panicOk [4] 4 [5, 6, 9] [.v (.slice p.a p.xs.length p.cap)] [2, 6, 10, 14] (rs := [.load ⟨rb, 4, none⟩ (.slice p.a p.xs.length p.cap)]) (κ' := [(2, pT b1), (6, pT rb), (10, .slice p.a p.xs.length p.cap), (14, .agg #[iV hand, .pointer none, .pointer none])]) (l' := #[true, true, true, true, true, false, false, true, true, false, false]) (by kernel_rfl) (by kernel_rfl) (by kernel_rfl) (by kernel_rfl) (fun w' hw => (.load ((B5.ext0 hw).cell 4 rfl) .nil)) ?_
 have R6 := hR0.prog.1.pres (.of0 E1)
 have R7 := R6.pres (.of0 E2)
 obtain ⟨x8, b8, o8, hx8, h8, H8⟩ := R7.get 0 (by omega)
 have T9 := hR0.prog.pres (.of0 E1)
 have T10 := T9.pres (.of0 E2)
 have K8 := T10.2.2 _ (List.mem_of_getElem? hx8)
 have W8 := hpw _ (List.mem_of_getElem? hx8)
 have hget := getD_eq (d := default) hx8
 refine S.dlaw dq_panicOk 5 11 3 (v := .pointer (some ⟨b8, o8 + 0 * 3, none⟩)) (l' := #[true, true, true, true, true, true, false, true, true, false, false]) (by kernel_rfl) (by kernel_rfl) (by kernel_rfl) (by kernel_rfl) (fun w' hw => lawRun (s := Instr.indexAt 22 (.slice p.a p.xs.length p.cap) (.int .i64 ((0 : Nat) : Int))) (by kernel_rfl) (run_idx (e := 60) 0 h8 (by kernel_rfl) (by kernel_rfl) (by omega))) ?_
 refine S.dreads dq_panicOk [6] 2 [.v (iV x8.d.1), .v (iV x8.d.2), .v (.slice x8.a x8.len x8.cap)] [2, 6, 12, 14] (rs := [.load ⟨b8, o8 + 0 * 3, none⟩ (iV x8.d.1), .load ⟨b8, o8 + 0 * 3 + 1, none⟩ (iV x8.d.2), .load ⟨b8, o8 + 0 * 3 + 2, none⟩ (.slice x8.a x8.len x8.cap)]) (κ' := [(2, pT b1), (6, pT rb), (12, .agg #[iV x8.d.1, iV x8.d.2, .slice x8.a x8.len x8.cap]), (14, .agg #[iV hand, .pointer none, .pointer none])]) (l' := #[true, true, true, true, true, true, true, true, true, false, false]) (by kernel_rfl) (by kernel_rfl) (by kernel_rfl) (fun w' hw => hw.elim (fun hw => (.load ((H8.pres (.of0 hw)).cell0 rfl) (.load ((H8.pres (.of0 hw)).cell 1 rfl) (.load ((H8.pres (.of0 hw)).cell 2 rfl) .nil)))) (fun hw => (.load ((H8.pres (.ofXn hw (by omega))).cell0 rfl) (.load ((H8.pres (.ofXn hw (by omega))).cell 1 rfl) (.load ((H8.pres (.ofXn hw (by omega))).cell 2 rfl) .nil))))) ?_
 refine S.dnext (j := 9) (l' := #[true, true, true, true, true, true, true, true, true, true, false]) (by kernel_rfl) (by kernel_rfl) (sw1 (by kernel_rfl) (Ext.refl _)) ?_
 have B12 := B1.ext0 E2
 have N13 := hS.keeps (.of0 E1)
 have N14 := N13.keeps (.of0 E2)
 refine S.call (dst := some 15) (f := 59) (args := #[pT rb, .agg #[iV x8.d.1, iV x8.d.2, .slice x8.a x8.len x8.cap], .agg #[iV hand, .pointer none, .pointer none]]) (by kernel_rfl) (by kernel_rfl) ((eval_all p hpw fu n₀ rb md _ ⟨fu, [], picks⟩ [] x8 hand [] [] (hR.ext0 (E1.trans E2)) K8 W8 N14 (Nat.le_refl _)).mono ?_)
 rintro e11 w11 ⟨ho, hP⟩
 have PP := RunP.pre0 (E1.trans E2) hP; have X := hP.1
 obtain ⟨rr, hr⟩ : ∃ r, evalS p.xs fu x8 (scOf hand [] []) ⟨fu, [], picks⟩ = r := ⟨_, rfl⟩
 rw [hr] at ho PP
 rcases rr with ⟨o, σ2⟩
 have hdr : driveS p.xs hand picks fu = runOf (o, σ2) := by unfold driveS; rw [hget]; exact congrArg runOf hr
 obtain ⟨X2, new, ⟨ea2, ec2, ka2, kc2, hR2⟩, -⟩ := PP
 simp only [List.nil_append] at hR2
 have hB2 := B12.xt X (by decide)
 rw [hdr]
 cases o with
 | val v =>
  obtain ⟨rfl, hv⟩ := ho
  refine After.ret (by kernel_rfl) ?_
  have sX := X.size
  refine S.dreads2 dq_panicOk [10] 0 [] [2, 4] (rs := []) (κ' := [(2, pT b1), (4, iV v)]) (l' := #[true, true, true, true, true, true, true, true, true, true, true]) (by kernel_rfl) (by kernel_rfl) (by kernel_rfl) (by kernel_rfl) (fun w' hw => rfl) ?_
  refine S.dend (by kernel_rfl) (sw2 (by kernel_rfl) X) ?_
  refine S.drawN 11 #[false, false, false, false, false, false, false, false, false, false, false] 6 (fun u u' => Ext E0 u u') (fun u u' => Xt n₀ [56] u u') (by kernel_rfl) (by kernel_rfl) (by kernel_rfl) (fun w15 E15 z15 => ?_)
  have sE15 := E15.size
  have B16 := B12.xt X (by decide)
  have B17 := B16.ext0 E15
  refine S.dreads dq_panicOk [0] 10 [.v (pT rb)] [2, 4, 16] (rs := [.load ⟨b1, 0, none⟩ (pT rb)]) (κ' := [(2, pT b1), (4, iV v), (16, pT rb)]) (l' := #[true, false, false, false, false, false, false, false, false, false, false]) (by kernel_rfl) (by kernel_rfl) (by kernel_rfl) (fun w' hw => hw.elim (fun hw => (.load ((B17.ext0 hw).cell 0 rfl) .nil)) (fun hw => (.load ((B17.xt hw (by decide)).cell 0 rfl) .nil))) ?_
  refine S.dreads dq_panicOk [1] 9 [.v (pT rb)] [4, 16, 17] (rs := [.load ⟨b1, 0, none⟩ (pT rb)]) (κ' := [(4, iV v), (16, pT rb), (17, pT rb)]) (l' := #[true, true, false, false, false, false, false, false, false, false, false]) (by kernel_rfl) (by kernel_rfl) (by kernel_rfl) (fun w' hw => hw.elim (fun hw => (.load ((B17.ext0 hw).cell 0 rfl) .nil)) (fun hw => (.load ((B17.xt hw (by decide)).cell 0 rfl) .nil))) ?_
  refine S.dreads dq_panicOk [2, 3, 4, 5] 5 [] [17, 18, 21] (rs := []) (κ' := [(17, pT rb), (18, iV v), (21, pT rb)]) (l' := #[true, true, true, true, true, true, false, false, false, false, false]) (by kernel_rfl) (by kernel_rfl) (by kernel_rfl) (fun _ _ => rfl) ?_
  refine S.dnext (j := 6) (l' := #[true, true, true, true, true, true, true, false, false, false, false]) (by kernel_rfl) (by kernel_rfl) (sw1 (by kernel_rfl) (Ext.refl _)) ?_
  have B18 := hR2.blk.ext0 E15
  refine S.store 0 [iV 1] [iV 1, iV 0, .slice ea2 new.length ec2, iV ((σ2.fuel : Nat) : Int), .slice p.a p.xs.length p.cap, .slice ka2 σ2.picks.length kc2, .map (some md)] B18 (by kernel_rfl) (by kernel_rfl) (by kernel_rfl) (by kernel_rfl) (by kernel_rfl) (fun w19 E19 B19 z19 => ?_)
  have sE19 := E19.size
  refine S.dreads2 dq_panicOk [7, 8, 9] 1 [] [18, 24] (rs := []) (κ' := [(18, iV v), (24, .pointer (some ⟨rb, 1, none⟩))]) (l' := #[true, true, true, true, true, true, true, true, true, true, false]) (by kernel_rfl) (by kernel_rfl) (by kernel_rfl) (by kernel_rfl) (fun w' hw => rfl) ?_
  refine S.dnext (j := 10) (l' := #[true, true, true, true, true, true, true, true, true, true, true]) (by kernel_rfl) (by kernel_rfl) (sw2 (by kernel_rfl) (Xt.ofS E19 B18 (by decide) (by omega))) ?_
  refine S.store 1 [iV v] [iV 1, iV v, .slice ea2 new.length ec2, iV ((σ2.fuel : Nat) : Int), .slice p.a p.xs.length p.cap, .slice ka2 σ2.picks.length kc2, .map (some md)] B19 (by kernel_rfl) (by kernel_rfl) (by kernel_rfl) (by kernel_rfl) (by kernel_rfl) (fun w20 E20 B20 z20 => ?_)
  have sE20 := E20.size
  refine S.dend (by kernel_rfl) (sw2 (by kernel_rfl) ((Xt.ofS E19 B18 (by decide) (by omega)).trans (Xt.ofS E20 B19 (by decide) (by omega)))) ?_
  refine S.fin fun a hs hh hd => ?_
  show LeavesInM (FW none) 0 _ _ a.tmps _ a.defers .returning _
  rw [hd]
  exact leaves_call (by simp) (by kernel_rfl) (end_nil b1 _ _ (leaves_ret (results_none rfl _ _ _) ⟨rfl, hR2.done X2 (((Ext.of0 E15).trans E19).trans E20) B20⟩))
 | leave d v => exact absurd ho (by rintro ⟨_, _, _, _, h1, _⟩; simp at h1)
 | stop c =>
  obtain ⟨rest, h2, rfl⟩ := ho
  refine fun a hs hh hd => ⟨.inl rfl, panicB hd (leaves_call (by simp) (by kernel_rfl) (end_stop b1 rb c 0 0 _ _ _ _ _ _ _ _ _ _ md rest _ _ hB2 hR2.blk fun w' E' B' => ?_))⟩
  show LeavesInM _ _ _ _ _ _ _ (settle _) w'
  rw [settle_rec h2]
  exact leaves_ret (results_none rfl _ _ _) ⟨rfl, hR2.done X2 E' B'⟩

end Go.Proofs.Ytmgakpnejbembaa
