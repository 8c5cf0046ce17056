/-
  CondChoice: what every walks, in plain words: it ends, and comes to all that a block may signal.
-/
import Derived.Test.YtmgakpnejbembaaA22
namespace Go.Proofs.Ytmgakpnejbembaa
open Go Go.Proofs.Ytmgakpnejbembaa.L

/-- How many nodes. -/
def szX : X → Nat
  | .mk _ _ _ _ k => 1 + szL k
  where szL : List X → Nat
  | [] => 0
  | x :: r => szX x + szL r
theorem szX_eq (x : X) : szX x = 1 + szX.szL x.kids := by cases x; simp only [szX, Tr.kids]
theorem szX_mem : ∀ {l : List X} {x : X}, x ∈ l → szX x ≤ szX.szL l
  | [], _, h => by simp at h
  | a :: r, x, h => by
    rcases List.mem_cons.1 h with rfl | h
    · simp only [szX.szL]; omega
    · have := szX_mem h; simp only [szX.szL]; omega
theorem walk_sz (b : Int) : ∀ (x : X) (depth left : Int), 0 ≤ left → (walkS b x depth left).1 = true → (walkS b x depth left).2 = left - szX x ∧ 0 ≤ (walkS b x depth left).2 := by
  apply Tr.rec (motive_1 := fun x => ∀ (depth left : Int), 0 ≤ left → (walkS b x depth left).1 = true → (walkS b x depth left).2 = left - szX x ∧ 0 ≤ (walkS b x depth left).2)
    (motive_2 := fun l => ∀ (depth left : Int), 0 ≤ left → (walkS.go b l depth left).1 = true → (walkS.go b l depth left).2 = left - szX.szL l ∧ 0 ≤ (walkS.go b l depth left).2)
  · intro d a len cap kids ih depth left h0 h
    simp only [walkS] at h ⊢
    cases hk : okX b d len depth left with
    | false => rw [hk] at h; simp at h
    | true =>
      rw [hk] at h
      simp only [cond_true] at h ⊢
      have h1 : 0 ≤ left - 1 := by unfold okX at hk; simp at hk; omega
      have := ih (depth + 1) (left - 1) h1 h
      refine ⟨?_, this.2⟩
      rw [this.1]; simp only [szX]; omega
  · intro depth left h0 _; simp only [walkS.go, szX.szL]; exact ⟨by omega, h0⟩
  · intro x r h1 h2 depth left h0 h
    simp only [walkS.go] at h ⊢
    cases hw : (walkS b x depth left).1 with
    | false => rw [hw] at h; simp at h
    | true =>
      rw [hw] at h
      simp only [cond_true] at h ⊢
      have g1 := h1 depth left h0 hw
      have g2 := h2 depth _ g1.2 h
      refine ⟨?_, g2.2⟩
      rw [g2.1, g1.1]; simp only [szX.szL]; omega
theorem go_sz (b : Int) : ∀ (l : List X) (depth left : Int), 0 ≤ left → (walkS.go b l depth left).1 = true → (walkS.go b l depth left).2 = left - szX.szL l ∧ 0 ≤ (walkS.go b l depth left).2
  | [], depth, left, h0, _ => by simp only [walkS.go, szX.szL]; exact ⟨by omega, h0⟩
  | x :: r, depth, left, h0, h => by
    simp only [walkS.go] at h ⊢
    cases hw : (walkS b x depth left).1 with
    | false => rw [hw] at h; simp at h
    | true =>
      rw [hw] at h
      simp only [cond_true] at h ⊢
      have g1 := walk_sz b x depth left h0 hw
      have g2 := go_sz b r depth _ g1.2 h
      refine ⟨?_, g2.2⟩
      rw [g2.1, g1.1]; simp only [szX.szL]; omega
theorem fine_sz {p : List X} (h : fineS p = true) : szX.szL p ≤ 80 := by
  unfold fineS at h
  simp only [Bool.and_eq_true] at h
  have := go_sz p.length p 1 80 (by omega) h.2
  omega
/-- The nodes of the blocks that have not been met. -/
def wt : List X → List Bool → Nat
  | x :: p, b :: m => (if b = false then szX x else 0) + wt p m
  | _, _ => 0
theorem wt_set : ∀ {p : List X} {m : List Bool} {i : Nat}, i < p.length → i < m.length → m.getD i true = false → wt p (m.set i true) + szX (p.getD i default) = wt p m
  | [], _, _, h, _, _ => by simp at h
  | _ :: _, [], _, _, h, _ => by simp at h
  | x :: p, b :: m, 0, _, _, h => by
    simp at h
    subst h
    simp [wt]; omega
  | x :: p, b :: m, i + 1, h1, h2, h => by
    have := wt_set (p := p) (m := m) (i := i) (by simpa using h1) (by simpa using h2) (by simpa using h)
    simp only [List.set_cons_succ, wt, List.getD_cons_succ]; omega
theorem wt_le : ∀ (p : List X) (m : List Bool), wt p m ≤ szX.szL p
  | [], _ => by simp [wt]
  | x :: p, [] => by simp [wt]
  | x :: p, b :: m => by
    have := wt_le p m
    simp only [wt, szX.szL]
    split <;> omega
theorem visitL_total {p : List X} {K : Nat} (IH : ∀ x m, WfX p.length x → m.length = 6 → szX x + wt p m ≤ K → ∃ V m', visit p K x m = some (V, m') ∧ V.length + wt p m' ≤ szX x + wt p m ∧ m'.length = 6 ∧ wt p m' ≤ wt p m) :
    ∀ (l : List X) (m : List Bool), (∀ y, y ∈ l → WfX p.length y) → m.length = 6 → szX.szL l + wt p m ≤ K → ∃ V m', visitL (visit p K) l m = some (V, m') ∧ V.length + wt p m' ≤ szX.szL l + wt p m ∧ m'.length = 6 ∧ wt p m' ≤ wt p m
  | [], m, _, hm, _ => ⟨[], m, rfl, by simp [szX.szL], hm, Nat.le_refl _⟩
  | y :: r, m, hw, hm, hk => by
    simp only [szX.szL] at hk ⊢
    obtain ⟨V1, m1, h1, h2, h3, h4⟩ := IH y m (hw y (List.mem_cons_self ..)) hm (by omega)
    obtain ⟨V2, m2, g1, g2, g3, g4⟩ := visitL_total IH r m1 (fun z hz => hw z (List.mem_cons_of_mem _ hz)) h3 (by omega)
    exact ⟨V1 ++ V2, m2, by simp [visitL, h1, g1], by rw [List.length_append]; omega, g3, by omega⟩
theorem visit_total {p : List X} (hp : ∀ y, y ∈ p → WfX p.length y) (h6 : p.length ≤ 6) : ∀ (K : Nat) (x : X) (m : List Bool), WfX p.length x → m.length = 6 → szX x + wt p m ≤ K →
    ∃ V m', visit p K x m = some (V, m') ∧ V.length + wt p m' ≤ szX x + wt p m ∧ m'.length = 6 ∧ wt p m' ≤ wt p m
  | 0, x, m, _, _, h => by rw [szX_eq] at h; omega
  | K + 1, x, m, hw, hm, h => by
    rw [szX_eq] at h ⊢
    obtain ⟨V1, m1, h1, h2, h3, h4⟩ := visitL_total (visit_total hp h6 K) x.kids m (fun y hy => hw.kid hy) hm (by omega)
    by_cases hc : x.d.1 = 7 ∧ m1.getD x.d.2.toNat true = false
    · have hlo := hw.lo
      have hhi := hw.hi
      rw [hc.1] at hlo hhi
      have hlo : (0 : Int) ≤ x.d.2 := hlo
      have hhi : x.d.2 ≤ ((p.length : Nat) : Int) - 1 := hhi
      have hi : x.d.2.toNat < p.length := by omega
      have hs := wt_set hi (by omega) hc.2
      have hmem : p.getD x.d.2.toNat default ∈ p := by
        rw [List.getD_eq_getElem?_getD, List.getElem?_eq_getElem hi]
        exact List.getElem_mem hi
      obtain ⟨V2, m2, g1, g2, g3, g4⟩ := visit_total hp h6 K (p.getD x.d.2.toNat default) (m1.set x.d.2.toNat true) (hp _ hmem) (by rw [List.length_set]; exact h3) (by omega)
      exact ⟨x :: (V1 ++ V2), m2, by simp only [visit, h1, Option.bind_some]; rw [if_pos hc, g1]; rfl, by rw [List.length_cons, List.length_append]; omega, g3, by omega⟩
    · exact ⟨x :: (V1 ++ []), m1, by simp only [visit, h1, Option.bind_some]; rw [if_neg hc], by rw [List.length_cons, List.append_nil]; omega, h3, h4⟩
theorem vis_fine {p : List X} (h : fineS p = true) : ∀ y, y ∈ p → ∃ V m', visit p 160 y (List.replicate 6 false) = some (V, m') ∧ V.length ≤ 1000 := by
  intro y hy
  obtain ⟨hp, h1, h6⟩ := wf_fine h
  have hs := fine_sz h
  have hw := wt_le p (List.replicate 6 false)
  have hy' := szX_mem hy
  obtain ⟨V, m', g1, g2, -⟩ := visit_total hp h6 160 y (List.replicate 6 false) (hp y hy) rfl (by omega)
  exact ⟨V, m', g1, by omega⟩

/-! ### What is met stays met; what is met has been walked -/
theorem set_true {m : List Bool} {i j : Nat} (h : m.getD j true = true) : (m.set i true).getD j true = true := by
  simp only [List.getD_eq_getElem?_getD, List.getElem?_set] at h ⊢
  split
  · split <;> rfl
  · exact h
theorem set_here {m : List Bool} {i : Nat} : (m.set i true).getD i true = true := by
  simp only [List.getD_eq_getElem?_getD, List.getElem?_set]
  simp only [reduceIte]
  split <;> rfl
theorem visitL_mono {p : List X} {K : Nat} (IH : ∀ x m V m', visit p K x m = some (V, m') → ∀ i, m.getD i true = true → m'.getD i true = true) :
    ∀ (l : List X) (m : List Bool) (V : List X) (m' : List Bool), visitL (visit p K) l m = some (V, m') → ∀ i, m.getD i true = true → m'.getD i true = true
  | [], m, V, m', h, i, hi => by simp only [visitL, Option.some.injEq, Prod.mk.injEq] at h; rw [← h.2]; exact hi
  | y :: r, m, V, m', h, i, hi => by
    obtain ⟨V1, m1, V2, h1, h2, -⟩ := visitL_cons h
    exact visitL_mono IH r m1 V2 m' h2 i (IH y m V1 m1 h1 i hi)
theorem visit_mono {p : List X} : ∀ (K : Nat) (x : X) (m : List Bool) (V : List X) (m' : List Bool), visit p K x m = some (V, m') → ∀ i, m.getD i true = true → m'.getD i true = true
  | 0, x, m, V, m', h, _, _ => by simp [visit] at h
  | K + 1, x, m, V, m', h, i, hi => by
    obtain ⟨V1, m1, V2, hL, -, hc⟩ := visit_succ h
    have h1 := visitL_mono (visit_mono K) x.kids m V1 m1 hL i hi
    rcases hc with ⟨-, -, hv⟩ | ⟨-, -, rfl⟩
    · exact visit_mono K _ _ _ _ hv i (set_true h1)
    · exact h1
theorem errl_append (V W : List X) : errl (V ++ W) = errl V ++ errl W := by simp [errl]
section
variable {p : List X} {R S : Int → Prop}
def CloL (p : List X) (R S : Int → Prop) (m m' : List Bool) : Prop := ∀ i, m'.getD i true = true → m.getD i true = true ∨ NodeOk R S (p.getD i default)
theorem visitL_clo {K : Nat} (IH : ∀ x m V m', visit p K x m = some (V, m') → (∀ j : Int, m'.getD j.toNat true = true → R j) → (∀ n, n ∈ errl V → S n) → NodeOk R S x ∧ CloL p R S m m') :
    ∀ (l : List X) (m : List Bool) (V : List X) (m' : List Bool), visitL (visit p K) l m = some (V, m') → (∀ j : Int, m'.getD j.toNat true = true → R j) → (∀ n, n ∈ errl V → S n) → (∀ y, y ∈ l → NodeOk R S y) ∧ CloL p R S m m'
  | [], m, V, m', h, _, _ => by
    simp only [visitL, Option.some.injEq, Prod.mk.injEq] at h
    exact ⟨fun y hy => by simp at hy, fun i hi => .inl (by rw [h.2]; exact hi)⟩
  | y :: r, m, V, m', h, hR, hS => by
    obtain ⟨V1, m1, V2, h1, h2, rfl⟩ := visitL_cons h
    rw [errl_append] at hS
    have hm := visitL_mono (visit_mono K) r m1 V2 m' h2
    have g1 := IH y m V1 m1 h1 (fun j hj => hR j (hm _ hj)) (fun n hn => hS n (List.mem_append_left _ hn))
    have g2 := visitL_clo IH r m1 V2 m' h2 hR (fun n hn => hS n (List.mem_append_right _ hn))
    refine ⟨fun z hz => ?_, fun i hi => ?_⟩
    · rcases List.mem_cons.1 hz with rfl | hz
      · exact g1.1
      · exact g2.1 z hz
    · rcases g2.2 i hi with h | h
      · exact g1.2 i h
      · exact .inr h
theorem visit_clo : ∀ (K : Nat) (x : X) (m : List Bool) (V : List X) (m' : List Bool), visit p K x m = some (V, m') → (∀ j : Int, m'.getD j.toNat true = true → R j) → (∀ n, n ∈ errl V → S n) → NodeOk R S x ∧ CloL p R S m m'
  | 0, x, m, V, m', h, _, _ => by simp [visit] at h
  | K + 1, x, m, V, m', h, hR, hS => by
    obtain ⟨V1, m1, V2, hL, rfl, hc⟩ := visit_succ h
    have hx : x.d.1 = 10 → S x.d.2 := fun he => hS _ (by rw [errl_hit he]; exact List.mem_cons_self ..)
    have hV : ∀ n, n ∈ errl (V1 ++ V2) → S n := fun n hn => hS n (by
      by_cases he : x.d.1 = 10
      · rw [errl_hit he]; exact List.mem_cons_of_mem _ hn
      · rw [errl_miss he]; exact hn)
    rw [errl_append] at hV
    have mkx : (x.d.1 = 7 → R x.d.2) → (∀ y, y ∈ x.kids → NodeOk R S y) → NodeOk R S x := fun h7 hk => by
      cases x with
      | mk d a len cap kids => exact .mk d a len cap kids h7 hx hk
    rcases hc with ⟨h7, hmet, hv⟩ | ⟨hno, rfl, rfl⟩
    · have hm := visit_mono K _ _ _ _ hv
      have g1 := visitL_clo (visit_clo K) x.kids m V1 m1 hL (fun j hj => hR j (hm _ (set_true hj))) (fun n hn => hV n (List.mem_append_left _ hn))
      have g2 := visit_clo K _ _ V2 m' hv hR (fun n hn => hV n (List.mem_append_right _ hn))
      refine ⟨mkx (fun _ => hR _ (hm _ set_here)) g1.1, fun i hi => ?_⟩
      rcases g2.2 i hi with h | h
      · by_cases hij : i = x.d.2.toNat
        · subst hij; exact .inr g2.1
        · refine g1.2 i ?_
          simp only [List.getD_eq_getElem?_getD, List.getElem?_set] at h ⊢
          rw [if_neg (fun e => hij e.symm)] at h
          exact h
      · exact .inr h
    · have g1 := visitL_clo (visit_clo K) x.kids m V1 m' hL hR (fun n hn => hV n (List.mem_append_left _ hn))
      refine ⟨mkx (fun h7 => hR _ ?_) g1.1, g1.2⟩
      cases hb : m'.getD x.d.2.toNat true with
      | true => rfl
      | false => exact absurd ⟨h7, hb⟩ hno
end
theorem mem_compact {zs : List Int} {n : Int} (h : n ∈ zs) : n ∈ Lib.compact zs := by
  obtain ⟨j, hj, hjn⟩ := List.getElem_of_mem h
  obtain ⟨i, ⟨hi, hin⟩, hmin⟩ := least (T := fun j => ∃ h : j < zs.length, zs[j] = n) ⟨j, hj, hjn⟩
  unfold Lib.compact Lib.compactUpTo
  rw [List.mem_map]
  refine ⟨i, List.mem_filter.2 ⟨List.mem_range.2 hi, ?_⟩, by simp [hi, hin]⟩
  unfold Lib.keeps
  refine decide_eq_true ?_
  by_cases h0 : i = 0
  · exact .inl h0
  · right
    intro he
    have h1 : i - 1 < zs.length := by omega
    have e1 : zs.toArray[i]! = zs[i] := by simp [hi]
    have e2 : zs.toArray[i - 1]! = zs[i - 1] := by simp [h1]
    rw [e1, e2, hin] at he
    have := hmin (i - 1) ⟨h1, he.symm⟩
    omega
/-- The law, in plain words. -/
theorem choice_pure {p : List X} (hf : fineS p = true) (hand : Int) (ks : List Int) (fuel : Nat) :
    ((driveS p hand [] fuel).fin ≠ 2 ∧ driveS p hand ks fuel = driveS p hand [] fuel) ∨
    ((driveS p hand [] fuel).fin = 2 ∧ (∃ y, y ∈ (driveS p hand [] fuel).evs ∧ y.deed = 2 ∧ y.n ∈ errS p 160 (p.getD 0 default)) ∧
      (driveS p hand ks fuel = driveS p hand [] fuel ∨ ∃ q qs e more y, ks = q :: qs ∧ (driveS p hand ks fuel).evs = (driveS p hand [] fuel).evs ++ e :: more ∧ e.deed = 4 ∧ 0 < e.r.length ∧ e.r.getD (q % e.r.length).toNat 0 = e.n ∧
        y ∈ (driveS p hand [] fuel).evs ∧ y.deed = 2 ∧ y.n ∈ errS p 160 (p.getD 0 default) ∧ y.val = e.val ∧ y.h = e.h ∧ y.r = e.r)) := by
  obtain ⟨hw, h1, h6⟩ := wf_fine hf
  have hmem : p.getD 0 default ∈ p := by
    rw [List.getD_eq_getElem?_getD, List.getElem?_eq_getElem (by omega)]
    exact List.getElem_mem (by omega)
  obtain ⟨V, m', hv, -⟩ := vis_fine hf _ hmem
  have hS : ∀ n, n ∈ errl V → n ∈ errS p 160 (p.getD 0 default) := fun n hn => by
    rw [errS_eq hv]; exact mem_compact (List.mem_mergeSort.2 hn)
  have hc := visit_clo (R := fun j => m'.getD j.toNat true = true ∨ j = 0) (S := fun n => n ∈ errS p 160 (p.getD 0 default)) 160 _ _ V m' hv (fun j hj => .inl hj) hS
  refine drive_law (R := fun j => m'.getD j.toNat true = true ∨ j = 0) (S := fun n => n ∈ errS p 160 (p.getD 0 default)) (fun i hi => ?_) (.inr rfl) hand ks fuel
  rcases hi with hi | rfl
  · rcases hc.2 _ hi with h | h
    · by_cases h7 : i.toNat < 6
      · exfalso
        have : (List.replicate 6 false).getD i.toNat true = false := by
          rw [List.getD_eq_getElem?_getD, List.getElem?_replicate, if_pos h7]; rfl
        rw [this] at h; cases h
      · have hd : p.getD i.toNat default = default := by rw [List.getD_eq_getElem?_getD, List.getElem?_eq_none (by omega)]; rfl
        rw [hd]
        exact NodeOk.default
    · exact h
  · exact hc.1
end Go.Proofs.Ytmgakpnejbembaa
