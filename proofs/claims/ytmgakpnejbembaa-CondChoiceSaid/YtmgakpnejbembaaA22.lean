/-
  CondChoice, a part of the proof (printed by a program of the prover): what functions of the given program compute, each under the conditions that its theorem names.
-/
import Derived.Test.YtmgakpnejbembaaA21
namespace Go.Proofs.Ytmgakpnejbembaa
open Go Go.Proofs.Ytmgakpnejbembaa.L

/-- The errors among these nodes. -/
def errl (V : List X) : List Int := (V.filter fun y => y.d.1 == 10).map (·.d.2)
def errS (p : List X) (K : Nat) (x : X) : List Int := Lib.compact ((((visit p K x (List.replicate 6 false)).map fun a => errl a.1).getD []).mergeSort fun a b => decide (a ≤ b))
theorem errS_eq {p : List X} {K : Nat} {x : X} {V : List X} {m' : List Bool} (h : visit p K x (List.replicate 6 false) = some (V, m')) : errS p K x = Lib.compact ((errl V).mergeSort fun a b => decide (a ≤ b)) := by
  unfold errS; rw [h]; rfl
theorem errl_hit {y : X} {r : List X} (h : y.d.1 = 10) : errl (y :: r) = y.d.2 :: errl r := by simp [errl, h]
theorem errl_miss {y : X} {r : List X} (h : y.d.1 ≠ 10) : errl (y :: r) = errl r := by simp [errl, h]
theorem errl_len (V : List X) : (errl V).length ≤ V.length := by unfold errl; rw [List.length_map]; exact List.length_filter_le _ _
def lsCs (s : LS) : List Value := [.slice s.a s.xs.length s.cap]
def RowsOk (n : Nat) (w : World) (l : List LS) : Prop := ∀ s, s ∈ l → s.ok n w
theorem RowsOk.pres {n : Nat} {w w' : World} {l : List LS} (h : RowsOk n w l) (k : Pres n 3 w w') : RowsOk n w' l := fun s hs => (h s hs).pres k
theorem RowsOk.mono {n m : Nat} {w : World} {l : List LS} (h : RowsOk n w l) (k : n ≤ m) : RowsOk m w l := fun s hs => (h s hs).mono k
theorem RowsOk.snoc {n m : Nat} {w : World} {l : List LS} {s : LS} (h : RowsOk n w l) (hs : s.ok m w) (k : n ≤ m) : RowsOk m w (l ++ [s]) := fun t ht => by
  rcases List.mem_append.1 ht with h1 | h1
  · exact (h t h1).mono k
  · rw [List.mem_singleton.1 h1]; exact hs
theorem take_snoc {p : List X} {i : Nat} {x : X} (h : p[i]? = some x) : p.take (i + 1) = p.take i ++ [x] := by
  rw [List.take_add_one, h]; rfl
def ErrP (p : List X) (K : Nat) (w : World) : Ending → World → Prop := fun e w' => Ext E0 w w' ∧
  ((fineS p = true ∧ ∃ (rows : List LS) (oa : Option Addr) (oc : Nat), e = .returned (.tuple #[.slice oa rows.length oc, .int .i64 0]) ∧ Row w'.heap.size 23 1 lsCs w' oa rows ∧ RowsOk w'.heap.size w' rows ∧ rows.map LS.xs = p.map (errS p K)) ∨
   (fineS p = false ∧ e = .returned (.tuple #[.slice none 0 0, .int .i64 2])))

theorem Errors_spec (p : LP) (n K : Nat) (w : World) (hok : p.ok n w) (hn : n ≤ w.heap.size) (hvis : fineS p.xs = true → ∀ y, y ∈ p.xs → ∃ V m', visit p.xs K y (List.replicate 6 false) = some (V, m') ∧ V.length ≤ 1000) :
    Calls Try.prog 6 #[.slice p.a p.xs.length p.cap] w (ErrP p.xs K w) := by
 refine calls_of_SM (n := 39) Try.func6 rfl rfl (by kernel_rfl) ?_
 refine S.seq (S.region (S.run 2 [] [0] (rs := []) (κ' := [(0, .slice p.a p.xs.length p.cap)]) (by kernel_rfl) (by kernel_rfl) rfl ?_))
 refine S.regEnd (by kernel_rfl) (S.seq (S.seq (S.region (S.run 1 [] [0, 9] (rs := []) (κ' := [(0, .slice p.a p.xs.length p.cap), (9, .slice p.a p.xs.length p.cap)]) (by kernel_rfl) (by kernel_rfl) rfl ?_))))
 refine S.one (by kernel_rfl) (S.call (dst := some 10) (f := 15) (args := #[.slice p.a p.xs.length p.cap]) (by kernel_rfl) (by kernel_rfl) ((fine_spec _ p _ hok (by omega)).mono ?_))
 rintro _ w1 ⟨E1, rfl⟩
 refine After.ret (by kernel_rfl) ?_
 have sE1 := E1.size
 refine S.run 1 [] [0, 11] (rs := []) (κ' := [(0, .slice p.a p.xs.length p.cap), (11, .bool (!(fineS p.xs)))]) (by kernel_rfl) (by kernel_rfl) rfl ?_
 refine S.regEnd (by kernel_rfl) (S.both 11 (!(fineS p.xs)) (by kernel_rfl) (fun c2 => ?_) (fun c2 => ?_))
 ·skip
  have c3 : (fineS p.xs) = false := notT c2
  have hfine := c3
  refine S.yes (by kernel_rfl) (S.seq (S.region (S.run 2 [] [2, 3] (rs := []) (κ' := [(2, .slice none 0 0), (3, iV 2)]) (by kernel_rfl) (by kernel_rfl) rfl ?_)))
  exact S.regEnd (by kernel_rfl) (S.retM (ms := []) List.nodup_nil (fun d h => by simp at h) (A := []) (rs := []) (v := .tuple #[.slice none 0 0, .int .i64 2]) (fun _ => by kernel_rfl) (fun w9 E9 z9 => ⟨rfl, (E1).thenM E9 (Marks.nil w.heap.size 0 _) (by omega), .inr ⟨hfine, rfl⟩⟩))
 ·skip
  have c5 : (fineS p.xs) = true := notF c2
  have hfine := c5
  refine S.no (by kernel_rfl) (S.skip (S.seq (S.region (S.run 1 [] [0, 4] (rs := []) (κ' := [(0, .slice p.a p.xs.length p.cap), (4, .slice none 0 0)]) (by kernel_rfl) (by kernel_rfl) rfl ?_))))
  refine S.regEnd (by kernel_rfl) (S.seq (S.seq (S.region (S.run 3 [] [0, 4, 12, 13, 14] (rs := []) (κ' := [(0, .slice p.a p.xs.length p.cap), (4, .slice none 0 0), (12, .slice p.a p.xs.length p.cap), (13, iV ((p.xs.length : Nat) : Int)), (14, iV 0)]) (by kernel_rfl) (by kernel_rfl) rfl ?_))))
  refine S.regEnd (by kernel_rfl) (S.block ?_)
  obtain ⟨hpw, hp1, hp6⟩ := wf_fine hfine
  refine S.weaken (ks := [0, 4, 12, 13, 14]) (S.loopD (fun m κ ds wj => ∃ (i : Nat) (rows : List LS) (oa : Option Addr) (oc : Nat) (ms : List Nat), i ≤ p.xs.length ∧ m = p.xs.length - i ∧ κ = [(0, .slice p.a p.xs.length p.cap), (4, .slice oa i oc), (12, .slice p.a p.xs.length p.cap), (13, iV ((p.xs.length : Nat) : Int)), (14, iV ((i : Nat) : Int))] ∧ ds = ms.map L.mark ∧ Marks w.heap.size wj.heap.size wj ms ∧ Ext E0 w1 wj ∧ OwnR w1.heap.size 23 1 wj oa i oc (rows.flatMap lsCs) ∧ RowsOk wj.heap.size wj rows ∧ rows.map LS.xs = (p.xs.take i).map (errS p.xs K)) ⟨0, [], none, 0, [], Nat.zero_le _, rfl, by kernel_rfl, rfl, Marks.nil _ _ _, Ext.refl _, OwnR.nil _ _ _ _, (fun s hs => by simp at hs), rfl⟩ ?_)
  rintro _ _ _ w7 ⟨i7, rows, oa, oc, ms, hi, rfl, rfl, rfl, hM, E7, hO, hrok, hrs⟩
  have sE7 := E7.size
  refine S.seq (S.region (S.run 1 [] [0, 4, 12, 13, 14, 15] (rs := []) (κ' := [(0, .slice p.a p.xs.length p.cap), (4, .slice oa i7 oc), (12, .slice p.a p.xs.length p.cap), (13, iV ((p.xs.length : Nat) : Int)), (14, iV ((i7 : Nat) : Int)), (15, .bool (decide (((i7 : Nat) : Int) < ((p.xs.length : Nat) : Int))))]) (by kernel_rfl) (by kernel_rfl) rfl ?_))
  refine S.regEnd (by kernel_rfl) (S.seq (S.both 15 (decide (((i7 : Nat) : Int) < ((p.xs.length : Nat) : Int))) (by kernel_rfl) (fun c8 => ?_) (fun c8 => ?_)))
  ·skip
   have p9 : ((i7 : Nat) : Int) < ((p.xs.length : Nat) : Int) := of_decide_eq_true c8
   refine S.yes (by kernel_rfl) (S.skip (S.seq (S.block (S.seq (S.region ?_)))))
   have R10 := hok.1.pres (.of0 E1)
   have R11 := R10.pres (.of0 E7)
   obtain ⟨x12, b12, o12, hx12, h12, H12⟩ := R11.get i7 (by omega)
   have T13 := hok.pres (.of0 E1)
   have T14 := T13.pres (.of0 E7)
   have K12 := T14.2.2 _ (List.mem_of_getElem? hx12)
   have W12 := hpw _ (List.mem_of_getElem? hx12)
   obtain ⟨V, m', hv, hVl⟩ := hvis hfine _ (List.mem_of_getElem? hx12)
   refine S.one (by kernel_rfl) (S.law 16 (v := .pointer (some ⟨b12, o12 + i7 * 3, none⟩)) (Instr.indexAt 22 (.slice p.a p.xs.length p.cap) (.int .i64 ((i7 : Nat) : Int))) (by kernel_rfl) (by kernel_rfl) (by kernel_rfl) (run_idx (e := 60) i7 h12 (by kernel_rfl) (by kernel_rfl) (by omega)) ?_)
   refine S.run 1 [.v (iV x12.d.1), .v (iV x12.d.2), .v (.slice x12.a x12.len x12.cap)] [0, 4, 12, 13, 14, 17] (rs := [.load ⟨b12, o12 + i7 * 3, none⟩ (iV x12.d.1), .load ⟨b12, o12 + i7 * 3 + 1, none⟩ (iV x12.d.2), .load ⟨b12, o12 + i7 * 3 + 2, none⟩ (.slice x12.a x12.len x12.cap)]) (κ' := [(0, .slice p.a p.xs.length p.cap), (4, .slice oa i7 oc), (12, .slice p.a p.xs.length p.cap), (13, iV ((p.xs.length : Nat) : Int)), (14, iV ((i7 : Nat) : Int)), (17, .agg #[iV x12.d.1, iV x12.d.2, .slice x12.a x12.len x12.cap])]) (by kernel_rfl) (by kernel_rfl) (.load (H12.cell0 rfl) (.load (H12.cell 1 rfl) (.load (H12.cell 2 rfl) .nil))) ?_
   refine S.one (by kernel_rfl) (S.new 6 [iV 0, iV 0, .slice none 0 0] 60 (fun b => pT b) (by kernel_rfl) (by kernel_rfl) (fun b => by kernel_rfl) (fun b15 w15 E15 B15 e15 z15 => ?_))
   have sE15 := E15.size
   refine S.one (by kernel_rfl) (S.store 0 [iV x12.d.1, iV x12.d.2, .slice x12.a x12.len x12.cap] [iV x12.d.1, iV x12.d.2, .slice x12.a x12.len x12.cap] B15 (by kernel_rfl) (by kernel_rfl) (by kernel_rfl) (by kernel_rfl) (by kernel_rfl) (fun w16 E16 B16 z16 => ?_))
   have sE16 := E16.size
   refine S.regEnd (by kernel_rfl) (S.seq (S.region (S.one (by kernel_rfl) (S.new 7 [.slice none 0 0] 23 (fun b => pT b) (by kernel_rfl) (by kernel_rfl) (fun b => by kernel_rfl) (fun b17 w17 E17 B17 e17 z17 => ?_)))))
   have sE17 := E17.size
   refine S.regEnd (by kernel_rfl) (S.seq (S.seq (S.region ?_)))
   have B18 := B16.ext0 E17
   refine S.run 2 [.v (iV x12.d.1), .v (iV x12.d.2), .v (.slice x12.a x12.len x12.cap)] [0, 4, 7, 12, 13, 14, 18, 19] (rs := [.load ⟨b15, 0, none⟩ (iV x12.d.1), .load ⟨b15, 1, none⟩ (iV x12.d.2), .load ⟨b15, 2, none⟩ (.slice x12.a x12.len x12.cap)]) (κ' := [(0, .slice p.a p.xs.length p.cap), (4, .slice oa i7 oc), (7, pT b17), (12, .slice p.a p.xs.length p.cap), (13, iV ((p.xs.length : Nat) : Int)), (14, iV ((i7 : Nat) : Int)), (18, .slice p.a p.xs.length p.cap), (19, .agg #[iV x12.d.1, iV x12.d.2, .slice x12.a x12.len x12.cap])]) (by kernel_rfl) (by kernel_rfl) (.load (B18.cell 0 rfl) (.load (B18.cell 1 rfl) (.load (B18.cell 2 rfl) .nil))) ?_
   refine S.one (by kernel_rfl) (S.call (dst := some 20) (f := 22) (args := #[.slice p.a p.xs.length p.cap, .agg #[iV x12.d.1, iV x12.d.2, .slice x12.a x12.len x12.cap]]) (by kernel_rfl) (by kernel_rfl) ((every_spec p x12 _).mono ?_))
   rintro _ w19 ⟨E19, b19, c19, eb19, ec19, hB19, hC19, rfl⟩
   refine After.ret (by kernel_rfl) ?_
   have sE19 := E19.size
   refine S.regEnd (by kernel_rfl) (S.block (S.weaken (ks := [0, 4, 7, 12, 13, 14, 20]) (S.range (gf := 60) (lb := #[.pointer (some ⟨b19, 0, none⟩), .pointer (some ⟨c19, 0, none⟩)]) rfl (by kernel_rfl) (fun l => by kernel_rfl) (fun d20 l20 w20 r20 E20 ed20 el20 z20 hD20 hL20 hst20 hpe20 hn20 hk20 hpar20 hass20 hbod20 => ?_))))
   rw [show (#[.func (.yield l20) #[] #[]] ++ #[.pointer (some ⟨b19, 0, none⟩), .pointer (some ⟨c19, 0, none⟩)] : Array Value) = #[.func (.yield l20) #[] #[], .pointer (some ⟨b19, 0, none⟩), .pointer (some ⟨c19, 0, none⟩)] from by kernel_rfl]
   have sE20 := E20.size
   have B21 := hB19.ext0 E20
   have B22 := hC19.ext0 E20
   have T23 := T14.pres (.of0 E15)
   have T24 := T23.pres (.ofS E16 (by omega))
   have T25 := T24.pres (.of0 E17)
   have T26 := T25.pres (.of0 E19)
   have T27 := T26.pres (.of0 E20)
   have T28 := K12.pres (.of0 E15)
   have T29 := T28.pres (.ofS E16 (by omega))
   have T30 := T29.pres (.of0 E17)
   have T31 := T30.pres (.of0 E19)
   have T32 := T31.pres (.of0 E20)
   have B33 := B17.ext0 E19
   have B34 := B33.ext0 E20
   refine every_iter p hpw hp6 n w20.heap.size b19 c19 l20 (fun (r' : List X) wj => ∃ es, ∃ la, ∃ lc, Xt w7.heap.size [23, 3] w19 wj ∧ LoopAt wj l20 r20 ∧ ObjAt wj d20 (.deferred (some [])) ∧ errl V = es ++ errl r' ∧ Blk wj b17 [.slice la es.length lc] 23 ∧ OwnR w7.heap.size 3 1 wj la es.length lc (es.flatMap intCs)) (fun wj => False) ?_ ?_ x12 K V _ _ _ hv B21 B22 T27 T32 W12 ⟨by omega, Nat.le_refl _⟩ ⟨[], none, 0, (Xt.of0 E20), hL20.obj, hD20, rfl, B34, OwnR.nil _ _ _ _⟩ ?_ ?_
   ·skip
    rintro r' wa20 wb ⟨es, la, lc, Ej20, hLj20, hDj20, i20_0, i20_1, i20_2⟩ hEx
    have sEj20 := Ej20.size
    have shEx := hEx.size
    have O35 := hLj20.obj.xt hEx rfl
    have O36 := hDj20.xt hEx rfl
    have B37 := i20_1.xt hEx (by decide)
    have U38 := i20_2.pres (fun _ => .ofX hEx (by decide))
    exact ⟨es, la, lc, Ej20.thenY hEx (by omega), O35, O36, i20_0, B37, U38⟩
   ·skip
    rintro y9 r' wa20 ⟨es, la, lc, Ej20, hLj20, hDj20, i20_0, i20_1, i20_2⟩
    have sEj20 := Ej20.size
    change CallsV Try.prog (callSem _ #[.agg #[iV y9.d.1, iV y9.d.2, .slice y9.a y9.len y9.cap]]) _ _
    refine S.roundW (κ := [(0, .slice p.a p.xs.length p.cap), (4, .slice oa i7 oc), (7, pT b17), (12, .slice p.a p.xs.length p.cap), (13, iV ((p.xs.length : Nat) : Int)), (14, iV ((i7 : Nat) : Int)), (20, .func (.func 60) #[] #[pT b19, pT c19])]) (fun κ₁ wj => ∃ b9, κ₁ = [(0, .slice p.a p.xs.length p.cap), (4, .slice oa i7 oc), (7, pT b17), (8, pT b9), (12, .slice p.a p.xs.length p.cap), (13, iV ((p.xs.length : Nat) : Int)), (14, iV ((i7 : Nat) : Int))] ∧ Ext E0 wa20 wj ∧ Blk wj b9 [iV y9.d.1, iV y9.d.2, .slice y9.a y9.len y9.cap] 60) hLj20 hst20 (.inr (fun _ _ h => by rcases h with ⟨h, _⟩ | ⟨h, _⟩ <;> cases h)) hn20 hk20 hpar20 hass20 hbod20 rfl (by kernel_rfl) ?_ ?_ ?_
    ·skip
     refine S.region (S.one (by kernel_rfl) (S.new 8 [iV 0, iV 0, .slice none 0 0] 60 (fun b => pT b) (by kernel_rfl) (by kernel_rfl) (fun b => by kernel_rfl) (fun b39 w39 E39 B39 e39 z39 => ?_)))
     have sE39 := E39.size
     refine S.one (by kernel_rfl) (S.store 0 [iV y9.d.1, iV y9.d.2, .slice y9.a y9.len y9.cap] [iV y9.d.1, iV y9.d.2, .slice y9.a y9.len y9.cap] B39 (by kernel_rfl) (by kernel_rfl) (by kernel_rfl) (by kernel_rfl) (by kernel_rfl) (fun w40 E40 B40 z40 => ?_))
     have sE40 := E40.size
     exact S.regEnd (by kernel_rfl) (S.stop (fun _ hs hh hd => ⟨_, ⟨b39, by kernel_rfl, E39.thenS E40 (by omega), B40⟩, hs, hh.keep [0, 4, 7, 8, 12, 13, 14], hd⟩))
    · rintro _ wc ⟨b9, rfl, E9, B9⟩
      exact ObjAt.ext0 hLj20.obj E9
    ·skip
     rintro _ wc w41 ⟨b9, rfl, E9, B9⟩ E41 z41 hL41
     have sE9 := E9.size
     have O42 := hLj20.obj.ext0 E9
     have sE41 := E41.size
     have hlen := congrArg List.length i20_0
     have hln2 := errl_len V; rw [List.length_append] at hlen
     refine S.block (S.seq (S.region ?_))
     have B43 := B9.extO E41 O42 rfl
     refine S.run 3 [.v (iV y9.d.1)] [7, 8, 24] (rs := [.load ⟨b9, 0, none⟩ (iV y9.d.1)]) (κ' := [(7, pT b17), (8, pT b9), (24, .bool (y9.d.1 == 10))]) (by kernel_rfl) (by kernel_rfl) (.load (B43.cell 0 rfl) .nil) ?_
     refine S.regEnd (by kernel_rfl) (S.both 24 (y9.d.1 == 10) (by kernel_rfl) (fun c44 => ?_) (fun c44 => ?_))
     ·skip
      have p45 : y9.d.1 = 10 := by simpa using c44
      refine S.yes (by kernel_rfl) (S.region ?_)
      have B46 := i20_1.ext0 E9
      have B47 := B46.extO E41 O42 rfl
      refine S.run 3 [.v (.slice la es.length lc), .v (iV y9.d.2)] [7, 25, 27] (rs := [.load ⟨b17, 0, none⟩ (.slice la es.length lc), .load ⟨b9, 1, none⟩ (iV y9.d.2)]) (κ' := [(7, pT b17), (25, .slice la es.length lc), (27, iV y9.d.2)]) (by kernel_rfl) (by kernel_rfl) (.load (B47.cell 0 rfl) (.load (B43.cell 1 rfl) .nil)) ?_
      refine S.one (by kernel_rfl) (S.new 28 [iV y9.d.2] 3 (fun b => .slice (some ⟨b, 0, none⟩) 1 1) (by kernel_rfl) (by kernel_rfl) (fun b => by kernel_rfl) (fun b48 w48 E48 B48 e48 z48 => ?_))
      have sE48 := E48.size
      have U49 := i20_2.pres (fun _ => .of0 E9)
      have U50 := U49.pres (fun _ => .ofO E41 O42 rfl)
      have U51 := U50.pres (fun _ => .of0 E48)
      refine S.one (by kernel_rfl) (S.append 29 (t := 23) (ty := 23) (e := 3) (base := w7.heap.size) (size := 1) (bytes := 8) (m := es.length) (m' := 1) (c := 1) U51 B48 (by kernel_rfl) (by kernel_rfl) (by kernel_rfl) (by kernel_rfl) (by kernel_rfl) (by kernel_rfl) (by omega) (by omega) (by omega) (fun a52 c52 w52 E52 U52 => ?_))
      have sE52 := E52.size
      have B53 := B47.ext0 E48
      have B54 := B53.xt E52 (by decide)
      refine S.one (by kernel_rfl) (S.store 0 [.slice a52 (es.length + 1) c52] [.slice a52 (es.length + 1) c52] B54 (by kernel_rfl) (by kernel_rfl) (by kernel_rfl) (by kernel_rfl) (by kernel_rfl) (fun w55 E55 B55 z55 => ?_))
      have sE55 := E55.size
      refine S.regEnd (by kernel_rfl) (S.out ?_)
      have O56 := hL41.obj.ext0 E48
      have O57 := O56.xt E52 rfl
      have O58 := O57.extB E55 B54 rfl
      refine S.fin (fun _ _ _ _ => round_go hst20 hpe20 O58 (fun w59 E59 z59 hL59 => ?_))
      have sE59 := E59.size
      have O60 := hDj20.ext0 E9
      have O61 := O60.extS E41 (by omega)
      have O62 := O61.ext0 E48
      have O63 := O62.xt E52 rfl
      have O64 := O63.extB E55 B54 rfl
      have O65 := O64.extS E59 (by omega)
      have B66 := B55.extO E59 O58 rfl
      have U67 := U52.pres (fun _ => .ofE E55 B54 (by decide))
      have U68 := U67.pres (fun _ => .ofO E59 O58 rfl)
      exact .inl ⟨rfl, ⟨(es ++ [y9.d.2]), a52, c52, (((((Ej20.trans (Xt.of0 E9)).ofO E41 (by omega)).trans (Xt.of0 E48)).trans (E52.mono (by omega) (by decide))).trans (Xt.ofS E55 B54 (by decide) (by omega))).ofO E59 (by omega), hL59.obj, O65, (by rw [i20_0, errl_hit p45]; simp), (by rw [List.length_append]; exact B66), (by rw [List.length_append]; exact OwnR.snoc U68)⟩, (((((Kp.of0 E9).trans (Kp.ofO E41 O42 rfl (by omega))).trans (Kp.of0 E48)).trans (Kp.ofX E52 rfl (by omega))).trans (Kp.ofS E55 B54 rfl (by omega))).trans (Kp.ofO E59 O58 rfl (by omega))⟩
     ·skip
      have p69 : y9.d.1 ≠ 10 := by simpa using c44
      refine S.no (by kernel_rfl) (S.skip (S.out (S.fin (fun _ _ _ _ => round_go hst20 hpe20 hL41.obj (fun w70 E70 z70 hL70 => ?_)))))
      have sE70 := E70.size
      have O71 := hDj20.ext0 E9
      have O72 := O71.extS E41 (by omega)
      have O73 := O72.extS E70 (by omega)
      have B74 := i20_1.ext0 E9
      have B75 := B74.extO E41 O42 rfl
      have B76 := B75.extO E70 hL41.obj rfl
      have U77 := i20_2.pres (fun _ => .of0 E9)
      have U78 := U77.pres (fun _ => .ofO E41 O42 rfl)
      have U79 := U78.pres (fun _ => .ofO E70 hL41.obj rfl)
      exact .inl ⟨rfl, ⟨es, la, lc, ((Ej20.trans (Xt.of0 E9)).ofO E41 (by omega)).ofO E70 (by omega), hL70.obj, O73, (by rw [i20_0, errl_miss p69]), B76, U79⟩, ((Kp.of0 E9).trans (Kp.ofO E41 O42 rfl (by omega))).trans (Kp.ofO E70 hL41.obj rfl (by omega))⟩
   ·skip
    rintro wa20 ⟨es, la, lc, Ej20, hLj20, hDj20, i20_0, i20_1, i20_2⟩
    have sEj20 := Ej20.size
    refine after_go hLj20 hst20 hpe20 (fun w80 E80 z80 => ?_)
    have sE80 := E80.size
    refine S.out (S.seq (S.region ?_))
    have B81 := i20_1.extO E80 hLj20.obj rfl
    refine S.run 1 [.v (.slice la es.length lc)] [0, 4, 7, 12, 13, 14, 30] (rs := [.load ⟨b17, 0, none⟩ (.slice la es.length lc)]) (κ' := [(0, .slice p.a p.xs.length p.cap), (4, .slice oa i7 oc), (7, pT b17), (12, .slice p.a p.xs.length p.cap), (13, iV ((p.xs.length : Nat) : Int)), (14, iV ((i7 : Nat) : Int)), (30, .slice la es.length lc)]) (by kernel_rfl) (by kernel_rfl) (.load (B81.cell 0 rfl) .nil) ?_
    have U83 := i20_2.pres (fun _ => .ofO E80 hLj20.obj rfl)
    have hel : errl V = es := by rw [i20_0]; simp [errl]
    have hln := errl_len V; rw [hel] at hln
    refine S.one (by kernel_rfl) (S.call (dst := some 31) (f := 23) (args := #[.slice la es.length lc]) (by kernel_rfl) (by kernel_rfl) ((sort_own U83 (by omega)).mono ?_))
    rintro _ w82 ⟨rfl, X82, hS82⟩
    refine After.ret (by kernel_rfl) ?_
    have sX82 := X82.size
    have hsl : (es.mergeSort fun x y => decide (x ≤ y)).length = es.length := List.length_mergeSort _
    refine S.regEnd (by kernel_rfl) (S.region ?_)
    have B84 := B81.xt X82 (by decide)
    refine S.run 2 [.v (.slice la es.length lc)] [0, 12, 13, 14, 32, 33] (rs := [.load ⟨b17, 0, none⟩ (.slice la es.length lc)]) (κ' := [(0, .slice p.a p.xs.length p.cap), (12, .slice p.a p.xs.length p.cap), (13, iV ((p.xs.length : Nat) : Int)), (14, iV ((i7 : Nat) : Int)), (32, .slice oa i7 oc), (33, .slice la es.length lc)]) (by kernel_rfl) (by kernel_rfl) (.load (B84.cell 0 rfl) .nil) ?_
    refine S.one (by kernel_rfl) (S.call (dst := some 34) (f := 24) (args := #[.slice la es.length lc]) (by kernel_rfl) (by kernel_rfl) (((by have hc9 := compact_own (zs := (es.mergeSort fun x y => decide (x ≤ y))) (by rw [hsl]; exact hS82) (by omega); rw [hsl] at hc9; exact hc9) : Calls Try.prog 24 #[.slice la es.length lc] w82 (fun e w' => e = .returned (.slice la (Lib.compact (es.mergeSort fun x y => decide (x ≤ y))).length lc) ∧ Xt (w7.heap.size) [3] w82 w' ∧ OwnR (w7.heap.size) 3 1 w' la (Lib.compact (es.mergeSort fun x y => decide (x ≤ y))).length lc ((Lib.compact (es.mergeSort fun x y => decide (x ≤ y))).flatMap intCs))).mono ?_))
    rintro _ w85 ⟨rfl, X85, hC85⟩
    refine After.ret (by kernel_rfl) ?_
    have sX85 := X85.size
    have hcl := Lib.compact_length_le (es.mergeSort fun x y => decide (x ≤ y))
    obtain ⟨s9, hs9⟩ : ∃ s : LS, s = ⟨la, lc, Lib.compact (es.mergeSort fun x y => decide (x ≤ y))⟩ := ⟨_, rfl⟩
    have hs9ok : s9.ok w85.heap.size w85 := by subst hs9; exact ⟨OwnR.row hC85 (fun _ => rfl) (by omega), by show (Lib.compact (es.mergeSort fun x y => decide (x ≤ y))).length ≤ _; omega⟩
    refine S.one (by kernel_rfl) (S.new 35 [.slice la ((Lib.compact (es.mergeSort fun x y => decide (x ≤ y))).length) lc] 23 (fun b => .slice (some ⟨b, 0, none⟩) 1 1) (by kernel_rfl) (by kernel_rfl) (fun b => by kernel_rfl) (fun b86 w86 E86 B86 e86 z86 => ?_))
    have sE86 := E86.size
    have U87 := hO.presN hO.lt (.of0 E15)
    have U88 := U87.presN hO.lt (.ofE E16 B15 (by decide))
    have U89 := U88.presN hO.lt (.of0 E17)
    have U90 := U89.presN hO.lt (.of0 E19)
    have U91 := U90.presN hO.lt (.ofXn Ej20 (by omega))
    have U92 := U91.presN hO.lt (.ofO E80 hLj20.obj rfl)
    have U93 := U92.presN hO.lt (.ofX X82 (by decide))
    have U94 := U93.presN hO.lt (.ofX X85 (by decide))
    have U95 := U94.presN hO.lt (.of0 E86)
    refine S.one (by kernel_rfl) (S.append 36 (t := 34) (ty := 34) (e := 23) (base := w1.heap.size) (size := 1) (bytes := 24) (m := i7) (m' := 1) (c := 1) U95 B86 (by kernel_rfl) (by kernel_rfl) (by kernel_rfl) (by kernel_rfl) (by kernel_rfl) (by kernel_rfl) (by omega) (by omega) (by omega) (fun a96 c96 w96 E96 U96 => ?_))
    have sE96 := E96.size
    have hsn : rows.flatMap lsCs ++ lsCs s9 = rows.flatMap lsCs ++ [.slice la ((Lib.compact (es.mergeSort fun x y => decide (x ≤ y))).length) lc] := by rw [hs9]; rfl
    rw [← hsn] at U96
    refine S.run 1 [] [0, 4, 12, 13, 14] (rs := []) (κ' := [(0, .slice p.a p.xs.length p.cap), (4, .slice a96 (i7 + 1) c96), (12, .slice p.a p.xs.length p.cap), (13, iV ((p.xs.length : Nat) : Int)), (14, iV ((i7 : Nat) : Int))]) (by kernel_rfl) (by kernel_rfl) rfl ?_
    refine S.regEnd (by kernel_rfl) (S.out (S.region (S.run 1 [] [0, 4, 12, 13, 14, 37] (rs := []) (κ' := [(0, .slice p.a p.xs.length p.cap), (4, .slice a96 (i7 + 1) c96), (12, .slice p.a p.xs.length p.cap), (13, iV ((p.xs.length : Nat) : Int)), (14, iV ((i7 : Nat) : Int)), (37, iV (IntKind.i64.wrap (((i7 : Nat) : Int) + 1)))]) (by kernel_rfl) (by kernel_rfl) rfl ?_)))
    refine S.subst 37 (iV (IntKind.i64.wrap (((i7 : Nat) : Int) + 1))) (iV ((i7 + 1 : Nat) : Int)) (by kernel_rfl) (congrArg (Value.int .i64) (by rw [wrap_i64 (by omega) (by omega)]; omega)) ?_
    refine S.run 1 [] [0, 4, 12, 13, 14] (rs := []) (κ' := [(0, .slice p.a p.xs.length p.cap), (4, .slice a96 (i7 + 1) c96), (12, .slice p.a p.xs.length p.cap), (13, iV ((p.xs.length : Nat) : Int)), (14, iV ((i7 + 1 : Nat) : Int))]) (by kernel_rfl) (by kernel_rfl) rfl ?_
    refine S.regEnd (by kernel_rfl) ?_
    have O97 := hDj20.extS E80 (by omega)
    have O98 := O97.xt X82 rfl
    have O99 := O98.xt X85 rfl
    have O100 := O99.ext0 E86
    have O101 := O100.xt E96 rfl
    have O102 := hM.ext0 E15
    have O103 := O102.extB E16 B15 rfl
    have O104 := O103.ext0 E17
    have O105 := O104.ext0 E19
    have O106 := O105.xt Ej20 rfl
    have O107 := O106.extS E80 (by omega)
    have O108 := O107.xt X82 rfl
    have O109 := O108.xt X85 rfl
    have O110 := O109.ext0 E86
    have O111 := O110.xt E96 rfl
    have T112 := hrok.pres (.of0 E15)
    have T113 := T112.pres (.ofE E16 B15 (by decide))
    have T114 := T113.pres (.of0 E17)
    have T115 := T114.pres (.of0 E19)
    have T116 := T115.pres (.ofXn Ej20 (by omega))
    have T117 := T116.pres (.ofO E80 hLj20.obj rfl)
    have T118 := T117.pres (.ofXn X82 (by omega))
    have T119 := T118.pres (.ofXn X85 (by omega))
    have T120 := T119.pres (.of0 E86)
    have T121 := T120.pres (.ofX E96 (by decide))
    have T122 := hs9ok.pres (.of0 E86)
    have T123 := T122.pres (.ofX E96 (by decide))
    have hrs2 : (rows ++ [s9]).map LS.xs = (p.xs.take (i7 + 1)).map (errS p.xs K) := by rw [take_snoc hx12, List.map_append, List.map_append, hrs]; simp only [List.map_cons, List.map_nil]; rw [errS_eq hv, hel, hs9]
    have hM2 : Marks w.heap.size w96.heap.size w96 (d20 :: ms) := O111.cons O101 (by omega) (O101.lt) (by omega)
    exact S.stop (fun _ hs hh hd => ⟨hs, p.xs.length - (i7 + 1), [(0, .slice p.a p.xs.length p.cap), (4, .slice a96 (i7 + 1) c96), (12, .slice p.a p.xs.length p.cap), (13, iV ((p.xs.length : Nat) : Int)), (14, iV ((i7 + 1 : Nat) : Int))], by omega, hh, i7 + 1, rows ++ [s9], a96, c96, d20 :: ms, by omega, rfl, rfl, hd, hM2, (((((((((E7.trans E15).thenS E16 (by omega)).trans E17).trans E19).thenX Ej20 (by omega)).thenS E80 (by omega)).thenX X82 (by omega)).thenX X85 (by omega)).trans E86).thenX E96 (by omega), (OwnR.snoc U96), (T121 : RowsOk _ _ _).snoc (T123.mono (by omega)) (by omega), hrs2⟩)
   · exact fun _ h => h.elim
  ·skip
   have p124 : ¬ (((i7 : Nat) : Int) < ((p.xs.length : Nat) : Int)) := of_decide_eq_false c8
   refine S.no (by kernel_rfl) (S.exit rfl (S.seq (S.region (S.run 3 [] [2, 3] (rs := []) (κ' := [(2, .slice oa i7 oc), (3, iV 0)]) (by kernel_rfl) (by kernel_rfl) rfl ?_))))
   refine S.regEnd (by kernel_rfl) ?_
   obtain rfl : i7 = p.xs.length := by omega
   rw [List.take_length] at hrs; have hrl := OwnR.len hO (fun _ => rfl) (by omega)
   exact S.retM (ms := ms) hM.nodup (hM).at_ (A := []) (rs := []) (v := .tuple #[.slice oa p.xs.length oc, .int .i64 0]) (fun _ => by kernel_rfl) (fun w9 E9 z9 => ⟨rfl, (E1.trans E7).thenM E9 hM (by omega), .inl ⟨hfine, rows, oa, oc, by rw [hrl], ((OwnR.row hO (fun _ => rfl) (by omega)).pres (.ofM E9 hM)).mono (by omega), ((hrok.mono (by omega) : RowsOk w9.heap.size _ rows)).pres (.ofM E9 hM), hrs⟩⟩)

end Go.Proofs.Ytmgakpnejbembaa
