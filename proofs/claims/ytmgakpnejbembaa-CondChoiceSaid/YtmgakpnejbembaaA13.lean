/-
  CondChoice, a part of the proof (printed by a program of the prover): what functions of the given program compute, each under the conditions that its theorem names.
-/
import Derived.Test.YtmgakpnejbembaaA12
import Derived.LaidEqlPtr
namespace Go.Proofs.Ytmgakpnejbembaa
open Go Go.Proofs.Ytmgakpnejbembaa.L

theorem neq_of_eql {x y : Option Addr} {b : Bool} {w : World} (h : (binOp .eql 92 (.pointer x) (.pointer y)).run Try.prog w = .ok (.bool b) w) : (binOp .neq 92 (.pointer x) (.pointer y)).run Try.prog w = .ok (.bool (!b)) w := by
  simp only [binOp, Sem.run_bind] at h ⊢
  cases hr : (Op.equal 92 (.pointer x) (.pointer y)).run Try.prog w with
  | ok c w' =>
    rw [hr] at h
    simp at h
    simp [h.1, h.2]
  | halt c w' => rw [hr] at h; simp at h
theorem run_neq_same (a : Addr) (w : World) : (binOp .neq 92 (.pointer (some a)) (.pointer (some a))).run Try.prog w = .ok (.bool false) w := by
  obtain ⟨j, hj, _⟩ := Option.map_eq_some_iff.1 (show (Try.prog.info? 117).map (·.size) = some 2 by kernel_rfl)
  exact neq_of_eql (run_eql_ptr_same (P := Try.prog) w a (by kernel_rfl) hj)
theorem run_neq_other {a b : Nat} {ca cb : List Value} {w : World} (hne : a ≠ b) (ha : Blk w a ca 117) (hb : Blk w b cb 117) : (binOp .neq 92 (.pointer (some ⟨a, 0, none⟩)) (.pointer (some ⟨b, 0, none⟩))).run Try.prog w = .ok (.bool true) w := by
  obtain ⟨j, hj, hs⟩ := Option.map_eq_some_iff.1 (show (Try.prog.info? 117).map (·.size) = some 2 by kernel_rfl)
  exact neq_of_eql (run_eql_ptr_other (P := Try.prog) w (a := ⟨a, 0, none⟩) (b := ⟨b, 0, none⟩) (by kernel_rfl) hj (by omega) (by intro e; exact hne (by injection e)) ha hb)

theorem RC.mem {n : Nat} {w : World} : ∀ {l : List RR} {h : RR}, RC n w l → h ∈ l → ∃ q, Blk w h.1 [.pointer q, .int .i64 h.2] 117
  | [], _, _, h => by simp at h
  | a :: r, h, hc, hx => by
    rcases List.mem_cons.1 hx with rfl | hx
    · exact ⟨_, hc.1⟩
    · exact RC.mem hc.2.2 hx
def OutO (rl : List RR) : Out (Int × Int × Bool) → Ending → Prop
  | .val t, e => e = .returned (.tuple #[.int .i64 t.1, .int .i64 t.2.1, .bool t.2.2]) ∧ Rg t.1 ∧ Rg t.2.1
  | .leave d v, e => OutE rl (.leave d v) e
  | .stop c, e => OutE rl (.stop c) e
def PostO (n₀ rb md : Nat) (p : LP) (w : World) (les : List LE) (rl : List RR) (r : Res (Int × Int × Bool)) : Ending → World → Prop := fun e w' => OutO rl r.1 e ∧ RunP n₀ rb md p w w' les r.2
/-- Of a chain with one more on top: which element stands at a depth. -/
theorem rev_top {rl : List RR} {h a : RR} {d : Nat} (hd : (h :: rl).reverse[d]? = some a) : (d = rl.length ∧ a = h) ∨ (d ≠ rl.length ∧ rl.reverse[d]? = some a ∧ a ∈ rl) := by
  rw [List.reverse_cons] at hd
  by_cases hl : d < rl.reverse.length
  · rw [List.getElem?_append_left hl] at hd
    exact .inr ⟨by simp at hl; omega, hd, List.mem_reverse.1 (List.mem_of_getElem? hd)⟩
  · rw [List.getElem?_append_right (by omega)] at hd
    have : d - rl.reverse.length = 0 := by
      rcases Nat.eq_zero_or_pos (d - rl.reverse.length) with h0 | h0
      · exact h0
      · rw [List.getElem?_eq_none (by show 1 ≤ _; omega)] at hd; cases hd
    rw [this] at hd
    simp at hd hl
    exact .inl ⟨by simp at this; omega, hd.symm⟩

theorem offered_spec (p : LP) (k : Nat) (IH : EvalC p k) (hpw : ∀ y, y ∈ p.xs → WfX p.xs.length y) (n₀ rb md : Nat) (w : World) (σ : RSt) (les : List LE) (x : X) (hand : Int) (hl : List H) (rl : List RR) (hR : RunE n₀ rb md p w σ les) (hx : XOk n₀ w x) (hwf : WfX p.xs.length x) (hS : ScOk p.xs.length n₀ 899 4992 w hand hl rl σ) (hk : σ.fuel ≤ k) (hlen : 1 ≤ x.len) :
    Calls Try.prog 75 #[pT rb, .agg #[iV x.d.1, iV x.d.2, .slice x.a x.len x.cap], .agg #[iV hand, .pointer (hp hl), .pointer (rp rl)]] w (PostO n₀ rb md p w les rl (offeredS (evalS p.xs k) x (scOf hand hl rl) σ)) := by
 refine calls_of_S (n := 42) Try.func75 rfl rfl (by kernel_rfl) ?_
 have hev0 := hS.ev; have hh0 := hS.h1; have hr0 := hS.r1; have hrg := hS.rg; have P0 := RunP.refl hR; have hn0 := P0.n0
 have hkl := hx.len
 refine S.seq (S.region (S.one (by kernel_rfl) (S.new 3 [pT rb] 52 (fun b => pT b) (by kernel_rfl) (by kernel_rfl) (fun b => by kernel_rfl) (fun b1 w1 E1 B1 e1 z1 => ?_))))
 have sE1 := E1.size
 refine S.one (by kernel_rfl) (S.new 4 [iV x.d.1, iV x.d.2, .slice x.a x.len x.cap] 60 (fun b => pT b) (by kernel_rfl) (by kernel_rfl) (fun b => by kernel_rfl) (fun b2 w2 E2 B2 e2 z2 => ?_))
 have sE2 := E2.size
 refine S.one (by kernel_rfl) (S.new 5 [iV hand, .pointer (hp hl), .pointer (rp rl)] 94 (fun b => pT b) (by kernel_rfl) (by kernel_rfl) (fun b => by kernel_rfl) (fun b3 w3 E3 B3 e3 z3 => ?_))
 have sE3 := E3.size
 refine S.run 3 [] [3, 4, 5] (rs := []) (κ' := [(3, pT b1), (4, pT b2), (5, pT b3)]) (by kernel_rfl) (by kernel_rfl) rfl ?_
 refine S.regEnd (by kernel_rfl) (S.seq (S.region ?_))
 have B4 := B2.ext0 E3
 refine S.run 5 [.v (.pointer (rp rl)), .v (iV x.d.2)] [3, 4, 5, 14] (rs := [.load ⟨b3, 2, none⟩ (.pointer (rp rl)), .load ⟨b2, 1, none⟩ (iV x.d.2)]) (κ' := [(3, pT b1), (4, pT b2), (5, pT b3), (14, .agg #[.pointer (rp rl), iV x.d.2])]) (by kernel_rfl) (by kernel_rfl) (.load (B3.cell 2 rfl) (.load (B4.cell 1 rfl) .nil)) ?_
 refine S.one (by kernel_rfl) (S.new 15 [.pointer (rp rl), iV x.d.2] 117 (fun b => pT b) (by kernel_rfl) (by kernel_rfl) (fun b => by kernel_rfl) (fun b5 w5 E5 B5 e5 z5 => ?_))
 have sE5 := E5.size
 refine S.run 1 [] [3, 4, 5, 15, 16] (rs := []) (κ' := [(3, pT b1), (4, pT b2), (5, pT b3), (15, pT b5), (16, .pointer (some ⟨b3, 2, none⟩))]) (by kernel_rfl) (by kernel_rfl) rfl ?_
 have B6 := B3.ext0 E5
 refine S.one (by kernel_rfl) (S.store 2 [pT b5] [iV hand, .pointer (hp hl), pT b5] B6 (by kernel_rfl) (by kernel_rfl) (by kernel_rfl) (by kernel_rfl) (by kernel_rfl) (fun w7 E7 B7 z7 => ?_))
 have sE7 := E7.size
 refine S.regEnd (by kernel_rfl) (S.seq (S.region (S.run 1 [] [5, 18] (rs := []) (κ' := [(5, pT b3), (18, .func (.func 92) #[] #[pT b1, pT b2, pT b3])]) (by kernel_rfl) (by kernel_rfl) rfl ?_)))
 have N8 := hS.keeps (.of0 E1)
 have N9 := N8.keeps (.of0 E2)
 have N10 := N9.keeps (.of0 E3)
 have N11 := N10.keeps (.of0 E5)
 have N12 := N11.keeps (.ofS E7 B6 (by decide) (by omega))
 have B13 := B5.extT E7 B6 (by decide)
 have P15 := P0.std (.of0 E1) (P0.1.trans (.of0 E1))
 have P16 := P15.std (.of0 E2) (P15.1.trans (.of0 E2))
 have P17 := P16.std (.of0 E3) (P16.1.trans (.of0 E3))
 have P18 := P17.std (.of0 E5) (P17.1.trans (.of0 E5))
 have P19 := P18.std (.ofS E7 B6 (by decide) (by omega)) (P18.1.ofNew E7 (by rintro _ rfl; omega))
 obtain ⟨les14, hR14, back14⟩ := P19.open
 have B20 := B1.ext0 E2
 have B21 := B20.ext0 E3
 have B22 := B21.ext0 E5
 have B23 := B22.extT E7 B6 (by decide)
 have B24 := B4.ext0 E5
 have B25 := B24.extT E7 B6 (by decide)
 have T26 := hx.pres (.of0 E1)
 have T27 := T26.pres (.of0 E2)
 have T28 := T27.pres (.of0 E3)
 have T29 := T28.pres (.of0 E5)
 have T30 := T29.pres (.ofS E7 (by omega))
 have hS14 : ScOk p.xs.length n₀ 900 5000 w7 hand hl ((b5, x.d.2) :: rl) σ := (((hS.mono (Nat.le_refl _) (show 4992 ≤ 5000 by omega)).consR ((N12).mono (Nat.le_refl _) (show 4992 ≤ 5000 by omega)) (by omega) B13) : ScOk _ _ 900 5000 _ _ _ _ _)
 have hdo14 : ∀ w1, Ext E0 w7 w1 → CallsV Try.prog (callSem (.func (.func 92) #[] #[pT b1, pT b2, pT b3]) #[]) w1 (Post n₀ rb md p w1 les14 ((b5, x.d.2) :: rl) (evalS p.xs k (kid x 0) (scOf hand hl ((b5, x.d.2) :: rl)) σ)) := fun w1 E => callSem_func (fn := Try.f92) (by kernel_rfl) (offered1_spec p k IH hpw n₀ rb md w1 σ les14 x hand hl ((b5, x.d.2) :: rl) (hR14.ext0 E) (T30.pres (.of0 E)) hwf (hS14.keeps (.of0 E)) (by omega) b1 b2 b3 (B23.ext0 E) (B25.ext0 E) (B7.ext0 E) (by omega))
 refine S.one (by kernel_rfl) (S.call (dst := some 19) (f := 76) (args := #[.func (.func 92) #[] #[pT b1, pT b2, pT b3]]) (by kernel_rfl) (by kernel_rfl) ((held_spec n₀ rb md p _ les14 ((b5, x.d.2) :: rl) _ _ (by omega) hdo14).mono ?_))
 rintro e14 w14 ⟨hP, hm⟩
 have PP := back14 _ _ hP; have X14 := hP.1
 rcases hr : evalS p.xs k (kid x 0) (scOf hand hl ((b5, x.d.2) :: rl)) σ with ⟨o, σ2⟩
 rw [hr] at PP hm
 have PQ : RunP n₀ rb md p w w14 les σ2 := PP
 clear PP
 have hr' : evalS p.xs k (kid x 0) ⟨(scOf hand hl rl).hand, (scOf hand hl rl).hs, x.d.2 :: (scOf hand hl rl).rs⟩ σ = (o, σ2) := hr
 cases o with
 | val v =>
  obtain ⟨rfl, hv⟩ := hm
  refine After.ret (by kernel_rfl) ?_
  have sX14 := X14.size
  refine S.run 5 [] [5, 6, 9] (rs := []) (κ' := [(5, pT b3), (6, iV v), (9, .pointer none)]) (by kernel_rfl) (by kernel_rfl) rfl ?_
  refine S.regEnd (by kernel_rfl) (S.seq (S.block (S.seq (S.region (S.run 3 [] [5, 6, 9, 22] (rs := []) (κ' := [(5, pT b3), (6, iV v), (9, .pointer none), (22, .bool true)]) (by kernel_rfl) (by kernel_rfl) rfl ?_)))))
  refine S.regEnd (by kernel_rfl) (S.yes (by kernel_rfl) (S.seq (S.region (S.run 4 [] [6, 7, 8] (rs := []) (κ' := [(6, iV v), (7, iV 0), (8, .bool false)]) (by kernel_rfl) (by kernel_rfl) rfl ?_))))
  refine S.regEnd (by kernel_rfl) ?_
  have hs : (offeredS (evalS p.xs k) x (scOf hand hl rl) σ : Res (Int × Int × Bool)) = (.val (v, 0, false), σ2) := by simp only [offeredS, hr']
  rw [hs]
  exact S.ret3 (v := iV v) (x := iV 0) (y := .bool false) rfl (by kernel_rfl) (by kernel_rfl) (by kernel_rfl) (⟨⟨rfl, hv, by show Rg 0; unfold Rg; omega⟩, PQ⟩)
 | leave d v =>
  obtain ⟨hv, bq, m, b', h1, rfl, hB', hb'⟩ := hm
  refine After.ret (by kernel_rfl) ?_
  have sX14 := X14.size
  rcases rev_top h1 with ⟨hd, he⟩ | ⟨hd, h2, hmem⟩
  ·skip
   have hbq := (Prod.mk.inj he).1.symm; subst hbq
   refine S.run 5 [] [5, 6, 9] (rs := []) (κ' := [(5, pT b3), (6, iV 0), (9, pT b')]) (by kernel_rfl) (by kernel_rfl) rfl ?_
   refine S.regEnd (by kernel_rfl) (S.seq (S.block (S.seq (S.region (S.run 3 [] [5, 6, 9, 22] (rs := []) (κ' := [(5, pT b3), (6, iV 0), (9, pT b'), (22, .bool false)]) (by kernel_rfl) (by kernel_rfl) rfl ?_)))))
   refine S.regEnd (by kernel_rfl) (S.no (by kernel_rfl) (S.seq (S.drawN 8 #[false, false, false, false, false, false, false, false] 8 (fun u u' => Ext E0 u u') (fun u u' => Ext E0 u u') (by kernel_rfl) (by kernel_rfl) (by kernel_rfl) (fun w31 E31 z31 => ?_))))
   have sE31 := E31.size
   have B32 := hB'.ext0 E31
   have B33 := B7.xt X14 (by decide)
   have B34 := B33.ext0 E31
   refine S.dreads bodyPost_panicOk [0, 1, 2, 3, 4, 5] 2 [.v (pT b5), .v (pT b5)] [9, 30, 32] (rs := [.load ⟨b', 0, none⟩ (pT b5), .load ⟨b3, 2, none⟩ (pT b5)]) (κ' := [(9, pT b'), (30, pT b5), (32, pT b5)]) (l' := #[true, true, true, true, true, true, false, false]) (by kernel_rfl) (by kernel_rfl) (by kernel_rfl) (fun w' hw => have hw := hw.elim id id; (.load ((B32.ext0 hw).cell 0 rfl) (.load ((B34.ext0 hw).cell 2 rfl) .nil))) ?_
   refine S.dlaw bodyPost_panicOk 6 33 1 (v := .bool false) (l' := #[true, true, true, true, true, true, true, false]) (by kernel_rfl) (by kernel_rfl) (by kernel_rfl) (by kernel_rfl) (fun w' hw => lawRun (s := (binOp .neq 92 (pT b5) (pT b5))) (by kernel_rfl) (by rw [run_neq_same])) ?_
   refine S.dreads bodyPost_panicOk [7] 0 [] [9, 26] (rs := []) (κ' := [(9, pT b'), (26, .bool false)]) (l' := #[true, true, true, true, true, true, true, true]) (by kernel_rfl) (by kernel_rfl) (by kernel_rfl) (fun _ _ => rfl) ?_
   refine S.dend (by kernel_rfl) (sw1 (by kernel_rfl) (Ext.refl _)) ?_
   refine S.no (by kernel_rfl) (S.skip (S.out (S.seq (S.drawN 7 #[false, false, false, false, false, false, false] 7 (fun u u' => Ext E0 u u') (fun u u' => Ext E0 u u') (by kernel_rfl) (by kernel_rfl) (by kernel_rfl) (fun w35 E35 z35 => ?_)))))
   have sE35 := E35.size
   have B36 := hB'.ext0 E31
   have B37 := B36.ext0 E35
   refine S.dreads bodyPost_panicOk [0, 1, 2, 3, 4, 5, 6] 0 [.v (iV v)] [6, 7, 8] (rs := [.load ⟨b', 1, none⟩ (iV v)]) (κ' := [(6, iV 0), (7, iV v), (8, .bool true)]) (l' := #[true, true, true, true, true, true, true]) (by kernel_rfl) (by kernel_rfl) (by kernel_rfl) (fun w' hw => have hw := hw.elim id id; (.load ((B37.ext0 hw).cell 1 rfl) .nil)) ?_
   refine S.dend (by kernel_rfl) (sw1 (by kernel_rfl) (Ext.refl _)) ?_
   have P38 := PQ.std (.of0 E31) (PQ.1.trans (.of0 E31))
   have P39 := P38.std (.of0 E35) (P38.1.trans (.of0 E35))
   have hs : (offeredS (evalS p.xs k) x (scOf hand hl rl) σ : Res (Int × Int × Bool)) = (.val (0, v, true), σ2) := by simp only [offeredS, hr']; rw [if_pos (by simpa [scOf] using hd)]
   rw [hs]
   exact S.ret3 (v := iV 0) (x := iV v) (y := .bool true) rfl (by kernel_rfl) (by kernel_rfl) (by kernel_rfl) (⟨⟨rfl, by show Rg 0; unfold Rg; omega, hv⟩, P39⟩)
  ·skip
   refine S.run 5 [] [5, 6, 9] (rs := []) (κ' := [(5, pT b3), (6, iV 0), (9, pT b')]) (by kernel_rfl) (by kernel_rfl) rfl ?_
   refine S.regEnd (by kernel_rfl) (S.seq (S.block (S.seq (S.region (S.run 3 [] [5, 6, 9, 22] (rs := []) (κ' := [(5, pT b3), (6, iV 0), (9, pT b'), (22, .bool false)]) (by kernel_rfl) (by kernel_rfl) rfl ?_)))))
   refine S.regEnd (by kernel_rfl) (S.no (by kernel_rfl) (S.seq (S.drawN 8 #[false, false, false, false, false, false, false, false] 8 (fun u u' => Ext E0 u u') (fun u u' => Ext E0 u u') (by kernel_rfl) (by kernel_rfl) (by kernel_rfl) (fun w40 E40 z40 => ?_))))
   have sE40 := E40.size
   have B41 := hB'.ext0 E40
   have B42 := B7.xt X14 (by decide)
   have B43 := B42.ext0 E40
   refine S.dreads bodyPost_panicOk [0, 1, 2, 3, 4, 5] 2 [.v (pT bq), .v (pT b5)] [9, 30, 32] (rs := [.load ⟨b', 0, none⟩ (pT bq), .load ⟨b3, 2, none⟩ (pT b5)]) (κ' := [(9, pT b'), (30, pT bq), (32, pT b5)]) (l' := #[true, true, true, true, true, true, false, false]) (by kernel_rfl) (by kernel_rfl) (by kernel_rfl) (fun w' hw => have hw := hw.elim id id; (.load ((B41.ext0 hw).cell 0 rfl) (.load ((B43.ext0 hw).cell 2 rfl) .nil))) ?_
   have N44 := N12.keeps (.ofX X14 (by decide) (by omega))
   have N45 := N44.keeps (.of0 E40)
   have B46 := B13.xt X14 (by decide)
   have B47 := B46.ext0 E40
   obtain ⟨q9, hB9⟩ := RC.mem (N45).rc hmem; have hlt9 := RC.lt hS.rc _ hmem; have hB8 := B47
   refine S.dlaw bodyPost_panicOk 6 33 1 (v := .bool true) (l' := #[true, true, true, true, true, true, true, false]) (by kernel_rfl) (by kernel_rfl) (by kernel_rfl) (by kernel_rfl) (fun w' hw => lawRun (s := (binOp .neq 92 (pT bq) (pT b5))) (by kernel_rfl) (by have hw := hw.elim id id; rw [run_neq_other (by omega) (hB9.ext0 hw) (hB8.ext0 hw)])) ?_
   refine S.dreads bodyPost_panicOk [7] 0 [] [9, 26] (rs := []) (κ' := [(9, pT b'), (26, .bool true)]) (l' := #[true, true, true, true, true, true, true, true]) (by kernel_rfl) (by kernel_rfl) (by kernel_rfl) (fun _ _ => rfl) ?_
   refine S.dend (by kernel_rfl) (sw1 (by kernel_rfl) (Ext.refl _)) ?_
   refine S.yes (by kernel_rfl) (S.region ?_)
   have B48 := hB'.ext0 E40
   refine S.run 4 [.v (pT bq), .v (iV v)] [9, 37] (rs := [.load ⟨b', 0, none⟩ (pT bq), .load ⟨b', 1, none⟩ (iV v)]) (κ' := [(9, pT b'), (37, .iface 123 (.agg #[pT bq, iV v]))]) (by kernel_rfl) (by kernel_rfl) (.load (B48.cell 0 rfl) (.load (B48.cell 1 rfl) .nil)) ?_
   refine S.one (by kernel_rfl) (S.panics (dst := none) (v := .iface 123 (.agg #[pT bq, iV v])) (by kernel_rfl) (by kernel_rfl) ?_)
   have hs : (offeredS (evalS p.xs k) x (scOf hand hl rl) σ : Res (Int × Int × Bool)) = (.leave d v, σ2) := by simp only [offeredS, hr']; rw [if_neg (by simpa [scOf] using hd)]
   have P49 := PQ.std (.of0 E40) (PQ.1.trans (.of0 E40))
   exact fun _ _ _ hd => ⟨hd, by rw [hs]; exact ⟨⟨hv, bq, m, [], h2, fun e he => by simp at he, rfl⟩, P49⟩⟩
 | stop c =>
  obtain ⟨rest, h2, rfl⟩ := hm
  have hs : (offeredS (evalS p.xs k) x (scOf hand hl rl) σ : Res (Int × Int × Bool)) = (.stop c, σ2) := by simp only [offeredS, hr']
  exact fun _ _ _ hd => ⟨hd, by rw [hs]; exact ⟨⟨rest, h2, rfl⟩, PQ⟩⟩

end Go.Proofs.Ytmgakpnejbembaa
