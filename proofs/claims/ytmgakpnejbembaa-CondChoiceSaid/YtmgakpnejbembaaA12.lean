/-
  CondChoice, a part of the proof (printed by a program of the prover): what functions of the given program compute, each under the conditions that its theorem names.
-/
import Derived.Test.YtmgakpnejbembaaA11
namespace Go.Proofs.Ytmgakpnejbembaa
open Go Go.Proofs.Ytmgakpnejbembaa.L

theorem rec_nil (bt : Nat) (w : World) (R : Ending → FrameMode → World → Prop) (h : R (.returned (.tuple #[])) .returning w) : CallsDIn (FW none) 0 Try.prog 93 #[.pointer (some ⟨bt, 0, none⟩)] .returning w R := by
 refine callsD_recover (n := 10) (fn := Try.f93) (d := 4) .returning rfl rfl rfl (by kernel_rfl) (by kernel_rfl) rfl rfl rfl rfl ?_
 refine S.regEnd (by kernel_rfl) (S.block (S.seq (S.region (S.run 1 [] [0, 4, 6] (rs := []) (κ' := [(0, pT bt), (4, .nilIface), (6, .bool true)]) (by kernel_rfl) (by kernel_rfl) rfl ?_))))
 refine S.regEnd (by kernel_rfl) (S.yes (by kernel_rfl) (S.region (S.run 1 [] [] (rs := []) (κ' := []) (by kernel_rfl) (by kernel_rfl) rfl ?_)))
 exact S.regEnd (by kernel_rfl) (S.out (S.fin0 rfl h))

theorem rec_leave (bt bq : Nat) (v : Int) (rest : List PanicEntry) (w : World) (R : Ending → FrameMode → World → Prop) (old : Value) (hB : Blk w bt [old] 118) (h : ∀ b' w', Blk w' bt [.pointer (some ⟨b', 0, none⟩)] 118 → Blk w' b' [.pointer (some ⟨bq, 0, none⟩), .int .i64 v] 123 → w.heap.size ≤ b' → Ext (· = bt) w w' → R (.returned (.tuple #[])) (.panicking ({ v := .iface 123 (.agg #[pT bq, iV v]), recovered := true } :: rest)) w') : CallsDIn (FW none) 0 Try.prog 93 #[.pointer (some ⟨bt, 0, none⟩)] (.panicking ({ v := .iface 123 (.agg #[pT bq, iV v]), recovered := false } :: rest)) w R := by
 refine callsD_recover (n := 10) (fn := Try.f93) (d := 4) (.panicking ({ v := .iface 123 (.agg #[pT bq, iV v]), recovered := false } :: rest)) rfl rfl rfl (by kernel_rfl) (by kernel_rfl) rfl rfl rfl rfl ?_
 have hlt := hB.lt
 refine S.regEnd (by kernel_rfl) (S.block (S.seq (S.region (S.run 1 [] [0, 4, 6] (rs := []) (κ' := [(0, pT bt), (4, .iface 123 (.agg #[pT bq, iV v])), (6, .bool false)]) (by kernel_rfl) (by kernel_rfl) rfl ?_))))
 refine S.regEnd (by kernel_rfl) (S.no (by kernel_rfl) (S.seq (S.region (S.run 3 [] [0, 4, 8, 9] (rs := []) (κ' := [(0, pT bt), (4, .iface 123 (.agg #[pT bq, iV v])), (8, .bool true), (9, .agg #[pT bq, iV v])]) (by kernel_rfl) (by kernel_rfl) rfl ?_))))
 refine S.regEnd (by kernel_rfl) (S.yes (by kernel_rfl) (S.seq (S.region (S.one (by kernel_rfl) (S.new 2 [.pointer none, iV 0] 123 (fun b => pT b) (by kernel_rfl) (by kernel_rfl) (fun b => by kernel_rfl) (fun b1 w1 E1 B1 e1 z1 => ?_))))))
 have sE1 := E1.size
 refine S.one (by kernel_rfl) (S.store 0 [pT bq, iV v] [pT bq, iV v] B1 (by kernel_rfl) (by kernel_rfl) (by kernel_rfl) (by kernel_rfl) (by kernel_rfl) (fun w2 E2 B2 z2 => ?_))
 have sE2 := E2.size
 refine S.regEnd (by kernel_rfl) (S.region ?_)
 have B3 := hB.ext0 E1
 have B4 := B3.extT E2 B1 (by decide)
 refine S.one (by kernel_rfl) (S.store 0 [pT b1] [pT b1] B4 (by kernel_rfl) (by kernel_rfl) (by kernel_rfl) (by kernel_rfl) (by kernel_rfl) (fun w5 E5 B5 z5 => ?_))
 have sE5 := E5.size
 refine S.regEnd (by kernel_rfl) (S.out ?_)
 have B6 := B2.extT E5 B4 (by decide)
 exact S.fin0 rfl (h b1 _ B5 B6 (by omega) (((Ext.of0 E1).thenN E2 (by omega)).trans E5))

theorem rec_stop (bt : Nat) (c : Int) (rest : List PanicEntry) (w : World) (R : Ending → FrameMode → World → Prop) (h : R (.panicked [{ v := .iface 90 (.agg #[iV c]), recovered := false }]) (.panicking ({ v := .iface 90 (.agg #[iV c]), recovered := true } :: rest)) w) : CallsDIn (FW none) 0 Try.prog 93 #[.pointer (some ⟨bt, 0, none⟩)] (.panicking ({ v := .iface 90 (.agg #[iV c]), recovered := false } :: rest)) w R := by
 refine callsD_recover (n := 10) (fn := Try.f93) (d := 4) (.panicking ({ v := .iface 90 (.agg #[iV c]), recovered := false } :: rest)) rfl rfl rfl (by kernel_rfl) (by kernel_rfl) rfl rfl rfl rfl ?_
 refine S.regEnd (by kernel_rfl) (S.block (S.seq (S.region (S.run 1 [] [0, 4, 6] (rs := []) (κ' := [(0, pT bt), (4, .iface 90 (.agg #[iV c])), (6, .bool false)]) (by kernel_rfl) (by kernel_rfl) rfl ?_))))
 refine S.regEnd (by kernel_rfl) (S.no (by kernel_rfl) (S.seq (S.region (S.run 3 [] [0, 4, 8, 9] (rs := []) (κ' := [(0, pT bt), (4, .iface 90 (.agg #[iV c])), (8, .bool false), (9, .agg #[.pointer none, iV 0])]) (by kernel_rfl) (by kernel_rfl) rfl ?_))))
 refine S.regEnd (by kernel_rfl) (S.no (by kernel_rfl) (S.seq (S.region (S.run 1 [] [3] (rs := []) (κ' := [(3, .iface 90 (.agg #[iV c]))]) (by kernel_rfl) (by kernel_rfl) rfl ?_))))
 refine S.regEnd (by kernel_rfl) (S.region (S.run 1 [] [5] (rs := []) (κ' := [(5, .iface 90 (.agg #[iV c]))]) (by kernel_rfl) (by kernel_rfl) rfl ?_))
 refine S.one (by kernel_rfl) (S.panics (dst := none) (v := .iface 90 (.agg #[iV c])) (by kernel_rfl) (by kernel_rfl) ?_)
 exact fun _ _ _ hd => ⟨hd, h⟩

/-- What held hands back. -/
def HeldQ (n₀ rb md : Nat) (p : LP) (w : World) (les : List LE) (rl : List RR) (r : Res Int) : Ending → World → Prop := fun e w' => RunP n₀ rb md p w w' les r.2 ∧ match r.1 with
  | .val v => e = .returned (.tuple #[.int .i64 v, .pointer none]) ∧ Rg v
  | .leave d v => Rg v ∧ ∃ b m b', rl.reverse[d]? = some (b, m) ∧ e = .returned (.tuple #[.int .i64 0, .pointer (some ⟨b', 0, none⟩)]) ∧ Blk w' b' [.pointer (some ⟨b, 0, none⟩), .int .i64 v] 123 ∧ w.heap.size ≤ b'
  | .stop c => ∃ rest, NoGo rest ∧ e = .panicked ({ v := .iface 90 (.agg #[.int .i64 c]), recovered := false } :: rest)

theorem held_spec (n₀ rb md : Nat) (p : LP) (w : World) (les : List LE) (rl : List RR) (f : Value) (r : Res Int) (hn0 : n₀ ≤ w.heap.size) (hdo : ∀ w1, Ext E0 w w1 → CallsV Try.prog (callSem f #[]) w1 (Post n₀ rb md p w1 les rl r)) :
    Calls Try.prog 76 #[f] w (HeldQ n₀ rb md p w les rl r) := by
 refine calls_of_SB (n := 7) Try.func76 rfl rfl (by kernel_rfl) ?_
 refine S.seq (S.region (S.run 1 [] [0, 2] (rs := []) (κ' := [(0, f), (2, iV 0)]) (by kernel_rfl) (by kernel_rfl) rfl ?_))
 refine S.one (by kernel_rfl) (S.new 3 [.pointer none] 118 (fun b => pT b) (by kernel_rfl) (by kernel_rfl) (fun b => by kernel_rfl) (fun b1 w1 E1 B1 e1 z1 => ?_))
 have sE1 := E1.size
 refine S.regEnd (by kernel_rfl) (S.seq (S.region (S.run 1 [] [0, 2, 3, 4] (rs := []) (κ' := [(0, f), (2, iV 0), (3, pT b1), (4, .func (.func 93) #[] #[pT b1])]) (by kernel_rfl) (by kernel_rfl) rfl ?_)))
 refine S.one (by kernel_rfl) (S.defer (dst := none) (d := { target := .fn (.func 93) #[pT b1], args := #[] }) rfl (by kernel_rfl) rfl ?_)
 refine S.regEnd (by kernel_rfl) (S.seq (S.region (S.run 1 [] [2, 3, 5] (rs := []) (κ' := [(2, iV 0), (3, pT b1), (5, f)]) (by kernel_rfl) (by kernel_rfl) rfl ?_)))
 refine S.one (by kernel_rfl) (S.callF (dst := some 6) (y := f) (args := #[]) (by kernel_rfl) (by kernel_rfl) ((hdo _ E1).mono ?_))
 rintro e w2 ⟨ho, hP⟩
 have hPw := hP; have hP := RunP.pre0 E1 hP; have X := hP.1
 rcases r with ⟨o, σ2⟩
 cases o with
 | val v =>
  obtain ⟨rfl, hv⟩ := ho
  have hBt : Blk w2 b1 [.pointer none] 118 := (B1.xt hPw.1 (by decide))
  refine After.ret (by kernel_rfl) ?_
  refine S.run 1 [] [2, 3] (rs := []) (κ' := [(2, iV v), (3, pT b1)]) (by kernel_rfl) (by kernel_rfl) rfl ?_
  refine S.one (by kernel_rfl) (S.store 0 [.pointer none] [.pointer none] hBt (by kernel_rfl) (by kernel_rfl) (by kernel_rfl) (by kernel_rfl) (by kernel_rfl) (fun w3 E3 B3 z3 => ?_))
  have sE3 := E3.size
  exact S.regEnd (by kernel_rfl) (S.ret fun a hs hh hd => retB hd (leaves_call (by simp) (by kernel_rfl) (rec_nil b1 _ _ (leaves_ret (res_of (A := [.v (.pointer none)]) (rs := [.load ⟨b1, 0, none⟩ (.pointer none)]) (v := .tuple #[.int .i64 v, .pointer none]) (fun _ => by kernel_rfl) (.load (B3.cell 0 rfl) .nil) hh) ⟨hP.std (.ofS E3 hBt (by decide) (by omega)) (hP.1.ofNew E3 (by rintro _ rfl; omega)), rfl, hv⟩))))
 | leave d v =>
  have hBt : Blk w2 b1 [.pointer none] 118 := (B1.xt hPw.1 (by decide))
  obtain ⟨hv, bq, m, rest, h1, h2, rfl⟩ := ho
  refine fun a hs hh hd => panicB hd (leaves_call (by simp) (by kernel_rfl) (rec_leave b1 bq v rest _ _ _ hBt fun b' w' hB1 hB2 hb' E' => ?_))
  show LeavesInM _ _ _ _ _ _ _ (settle _) w'
  rw [settle_rec h2]
  exact leaves_ret (res_of (A := [.v (.pointer (some ⟨b', 0, none⟩))]) (rs := [.load ⟨b1, 0, none⟩ (.pointer (some ⟨b', 0, none⟩))]) (v := .tuple #[.int .i64 0, .pointer (some ⟨b', 0, none⟩)]) (fun _ => by kernel_rfl) (.load (hB1.cell 0 rfl) .nil) hh) ⟨hP.std (.ofS E' hBt (by decide) (by omega)) (hP.1.ofNew E' (by rintro _ rfl; omega)), hv, bq, m, b', h1, rfl, hB2, by have := hP.1.size; omega⟩
 | stop c =>
  have hBt : Blk w2 b1 [.pointer none] 118 := (B1.xt hPw.1 (by decide))
  obtain ⟨rest, h2, rfl⟩ := ho
  exact fun a hs hh hd => panicB hd (leaves_call (by simp) (by kernel_rfl) (rec_stop b1 c rest _ _ ⟨hP, _, fun e he => by rcases List.mem_cons.1 he with rfl | he; rfl; exact h2 e he, rfl⟩))

theorem offered1_spec (p : LP) (k : Nat) (IH : EvalC p k) (hpw : ∀ y, y ∈ p.xs → WfX p.xs.length y) (n₀ rb md : Nat) (w : World) (σ : RSt) (les : List LE) (x : X) (hand : Int) (hl : List H) (rl : List RR) (hR : RunE n₀ rb md p w σ les) (hx : XOk n₀ w x) (hwf : WfX p.xs.length x) (hS : ScOk p.xs.length n₀ 900 5000 w hand hl rl σ) (hk : σ.fuel ≤ k) (b3 b4 b5 : Nat) (hB3 : Blk w b3 [pT rb] 52) (hB4 : Blk w b4 [iV x.d.1, iV x.d.2, .slice x.a x.len x.cap] 60) (hB5 : Blk w b5 [iV hand, .pointer (hp hl), .pointer (rp rl)] 94) (hlen : 1 ≤ x.len) :
    Calls Try.prog 92 #[pT b3, pT b4, pT b5] w (Post n₀ rb md p w les rl (evalS p.xs k (kid x 0) (scOf hand hl rl) σ)) := by
 refine calls_of_S (n := 11) Try.func92 rfl rfl (by kernel_rfl) ?_
 have hev0 := hS.ev; have hh0 := hS.h1; have hr0 := hS.r1; have hrg := hS.rg; have P0 := RunP.refl hR; have hn0 := P0.n0
 have hkl := hx.len
 refine S.seq (S.region (S.run 1 [] [0, 1, 2] (rs := []) (κ' := [(0, pT b3), (1, pT b4), (2, pT b5)]) (by kernel_rfl) (by kernel_rfl) rfl ?_))
 refine S.regEnd (by kernel_rfl) (S.seq (S.drawN 8 #[false, false, false, false, false, false, false, false] 6 (fun u u' => Ext E0 u u') (fun u u' => Xt n₀ [56, 43] u u') (by kernel_rfl) (by kernel_rfl) (by kernel_rfl) (fun w1 E1 z1 => ?_)))
 have sE1 := E1.size
 have B2 := hB3.ext0 E1
 refine S.dreads bodyPost_panicOk [0] 7 [.v (pT rb)] [1, 2, 4] (rs := [.load ⟨b3, 0, none⟩ (pT rb)]) (κ' := [(1, pT b4), (2, pT b5), (4, pT rb)]) (l' := #[true, false, false, false, false, false, false, false]) (by kernel_rfl) (by kernel_rfl) (by kernel_rfl) (fun w' hw => hw.elim (fun hw => (.load ((B2.ext0 hw).cell 0 rfl) .nil)) (fun hw => (.load ((B2.xt hw (by decide)).cell 0 rfl) .nil))) ?_
 refine S.dreads bodyPost_panicOk [1] 6 [] [2, 4, 5] (rs := []) (κ' := [(2, pT b5), (4, pT rb), (5, .pointer (some ⟨b4, 2, none⟩))]) (l' := #[true, true, false, false, false, false, false, false]) (by kernel_rfl) (by kernel_rfl) (by kernel_rfl) (fun _ _ => rfl) ?_
 have B3 := hB4.ext0 E1
 refine S.dreads bodyPost_panicOk [2] 5 [.v (.slice x.a x.len x.cap)] [2, 4, 6] (rs := [.load ⟨b4, 2, none⟩ (.slice x.a x.len x.cap)]) (κ' := [(2, pT b5), (4, pT rb), (6, .slice x.a x.len x.cap)]) (l' := #[true, true, true, false, false, false, false, false]) (by kernel_rfl) (by kernel_rfl) (by kernel_rfl) (fun w' hw => hw.elim (fun hw => (.load ((B3.ext0 hw).cell 2 rfl) .nil)) (fun hw => (.load ((B3.xt hw (by decide)).cell 2 rfl) .nil))) ?_
 have B4 := hB5.ext0 E1
 refine S.dreads bodyPost_panicOk [5] 4 [.v (iV hand), .v (.pointer (hp hl)), .v (.pointer (rp rl))] [4, 6, 9] (rs := [.load ⟨b5, 0, none⟩ (iV hand), .load ⟨b5, 1, none⟩ (.pointer (hp hl)), .load ⟨b5, 2, none⟩ (.pointer (rp rl))]) (κ' := [(4, pT rb), (6, .slice x.a x.len x.cap), (9, .agg #[iV hand, .pointer (hp hl), .pointer (rp rl)])]) (l' := #[true, true, true, false, false, true, false, false]) (by kernel_rfl) (by kernel_rfl) (by kernel_rfl) (fun w' hw => hw.elim (fun hw => (.load ((B4.ext0 hw).cell 0 rfl) (.load ((B4.ext0 hw).cell 1 rfl) (.load ((B4.ext0 hw).cell 2 rfl) .nil)))) (fun hw => (.load ((B4.xt hw (by decide)).cell 0 rfl) (.load ((B4.xt hw (by decide)).cell 1 rfl) (.load ((B4.xt hw (by decide)).cell 2 rfl) .nil))))) ?_
 have R5 := hx.row.pres (.of0 E1)
 obtain ⟨x6, b6, o6, hx6, h6, H6⟩ := R5.get 0 (by omega)
 have T7 := hx.pres (.of0 E1)
 have K6 := T7.kid (List.mem_of_getElem? hx6)
 have W6 := hwf.kid (List.mem_of_getElem? hx6)
 have hkid6 := kid_eq hx6
 refine S.dlaw bodyPost_panicOk 3 7 3 (v := .pointer (some ⟨b6, o6 + 0 * 3, none⟩)) (l' := #[true, true, true, true, false, true, false, false]) (by kernel_rfl) (by kernel_rfl) (by kernel_rfl) (by kernel_rfl) (fun w' hw => lawRun (s := Instr.indexAt 22 (.slice x.a x.len x.cap) (.int .i64 ((0 : Nat) : Int))) (by kernel_rfl) (run_idx (e := 60) 0 h6 (by kernel_rfl) (by kernel_rfl) (by omega))) ?_
 refine S.dreads bodyPost_panicOk [4] 2 [.v (iV x6.d.1), .v (iV x6.d.2), .v (.slice x6.a x6.len x6.cap)] [4, 8, 9] (rs := [.load ⟨b6, o6 + 0 * 3, none⟩ (iV x6.d.1), .load ⟨b6, o6 + 0 * 3 + 1, none⟩ (iV x6.d.2), .load ⟨b6, o6 + 0 * 3 + 2, none⟩ (.slice x6.a x6.len x6.cap)]) (κ' := [(4, pT rb), (8, .agg #[iV x6.d.1, iV x6.d.2, .slice x6.a x6.len x6.cap]), (9, .agg #[iV hand, .pointer (hp hl), .pointer (rp rl)])]) (l' := #[true, true, true, true, true, true, false, false]) (by kernel_rfl) (by kernel_rfl) (by kernel_rfl) (fun w' hw => hw.elim (fun hw => (.load ((H6.pres (.of0 hw)).cell0 rfl) (.load ((H6.pres (.of0 hw)).cell 1 rfl) (.load ((H6.pres (.of0 hw)).cell 2 rfl) .nil)))) (fun hw => (.load ((H6.pres (.ofXn hw (by omega))).cell0 rfl) (.load ((H6.pres (.ofXn hw (by omega))).cell 1 rfl) (.load ((H6.pres (.ofXn hw (by omega))).cell 2 rfl) .nil))))) ?_
 refine S.dnext (j := 6) (l' := #[true, true, true, true, true, true, true, false]) (by kernel_rfl) (by kernel_rfl) (sw1 (by kernel_rfl) (Ext.refl _)) ?_
 have P9 := P0.std (.of0 E1) (P0.1.trans (.of0 E1))
 obtain ⟨les8, hR8, back8⟩ := P9.open
 have N10 := hS.keeps (.of0 E1)
 refine S.call (dst := some 10) (f := 59) (args := #[pT rb, .agg #[iV x6.d.1, iV x6.d.2, .slice x6.a x6.len x6.cap], .agg #[iV hand, .pointer (hp hl), .pointer (rp rl)]]) (by kernel_rfl) (by kernel_rfl) ((IH n₀ rb md _ σ les8 x6 hand hl rl hR8 K6 W6 ((N10.next (E' := 5000) hrg (by omega) (by omega)).mono (by omega) (Nat.le_refl _)) (by omega)).mono ?_)
 rintro e8 w8 ⟨ho8, hP8⟩
 have PP8 : RunP n₀ rb md p w w8 les (evalS p.xs k x6 (scOf hand hl rl) σ).2 := back8 _ _ hP8; have X8 := hP8.1; have hfin8 : Fin 0 1 σ (evalS p.xs k x6 (scOf hand hl rl) σ) := fin_eval p.xs k _ _ _; have ho8 : OutE rl (evalS p.xs k x6 (scOf hand hl rl) σ).1 e8 := ho8; have hP8 : RunP n₀ rb md p w1 w8 les8 (evalS p.xs k x6 (scOf hand hl rl) σ).2 := hP8
 rcases hr8 : evalS p.xs k x6 (scOf hand hl rl) σ with ⟨o8, σ8⟩
 rw [hr8] at ho8 PP8 hfin8 hP8
 have PQ8 : RunP n₀ rb md p w w8 les σ8 := PP8; have hq8 : OutE rl o8 e8 := ho8; have PR8 : RunP n₀ rb md p w1 w8 les8 σ8 := hP8
 clear PP8 ho8 hP8
 rcases outE_cases hq8 with ⟨v8, rfl, rfl, hv8⟩ | ⟨ch, rfl, hb8, hn8⟩
 ·skip
  have hf8 := hfin8.val
  refine After.ret (by kernel_rfl) ?_
  have sX8 := X8.size
  refine S.dreads2 bodyPost_panicOk [7] 0 [] [3] (rs := []) (κ' := [(3, iV v8)]) (l' := #[true, true, true, true, true, true, true, true]) (by kernel_rfl) (by kernel_rfl) (by kernel_rfl) (by kernel_rfl) (fun w' hw => rfl) ?_
  refine S.dend (by kernel_rfl) (sw2 (by kernel_rfl) X8) ?_
  have hs : (evalS p.xs k (kid x 0) (scOf hand hl rl) σ : Res Int) = (.val v8, σ8) := by simp only [hkid6, hr8, bnd_val, bnd_bnd]
  rw [hs]
  exact S.ret1 (v := iV v8) rfl (by kernel_rfl) (⟨⟨rfl, hv8⟩, PQ8⟩)
 ·skip
  exact fun _ _ _ hd => ⟨hd, (by have hs : (evalS p.xs k (kid x 0) (scOf hand hl rl) σ : Res Int) = (o8, σ8) := (by simp only [hkid6, hr8, hb8, bnd_val, bnd_bnd]); rw [hs]; exact ⟨hq8, PQ8⟩)⟩

theorem guard1_spec (p : LP) (k : Nat) (IH : EvalC p k) (hpw : ∀ y, y ∈ p.xs → WfX p.xs.length y) (n₀ rb md : Nat) (w : World) (σ : RSt) (les : List LE) (x : X) (hand : Int) (hl : List H) (rl : List RR) (hR : RunE n₀ rb md p w σ les) (hx : XOk n₀ w x) (hwf : WfX p.xs.length x) (hS : ScOk p.xs.length n₀ 900 5000 w hand hl rl σ) (hk : σ.fuel ≤ k) (b3 b4 b5 : Nat) (hB3 : Blk w b3 [pT rb] 52) (hB4 : Blk w b4 [iV x.d.1, iV x.d.2, .slice x.a x.len x.cap] 60) (hB5 : Blk w b5 [iV hand, .pointer (hp hl), .pointer (rp rl)] 94) (hlen : 1 ≤ x.len) :
    Calls Try.prog 77 #[pT b3, pT b4, pT b5] w (Post n₀ rb md p w les rl (evalS p.xs k (kid x 0) (scOf hand hl rl) σ)) := by
 refine calls_of_S (n := 11) Try.func77 rfl rfl (by kernel_rfl) ?_
 have hev0 := hS.ev; have hh0 := hS.h1; have hr0 := hS.r1; have hrg := hS.rg; have P0 := RunP.refl hR; have hn0 := P0.n0
 have hkl := hx.len
 refine S.seq (S.region (S.run 1 [] [0, 1, 2] (rs := []) (κ' := [(0, pT b3), (1, pT b4), (2, pT b5)]) (by kernel_rfl) (by kernel_rfl) rfl ?_))
 refine S.regEnd (by kernel_rfl) (S.seq (S.drawN 8 #[false, false, false, false, false, false, false, false] 6 (fun u u' => Ext E0 u u') (fun u u' => Xt n₀ [56, 43] u u') (by kernel_rfl) (by kernel_rfl) (by kernel_rfl) (fun w1 E1 z1 => ?_)))
 have sE1 := E1.size
 have B2 := hB3.ext0 E1
 refine S.dreads bodyPost_panicOk [0] 7 [.v (pT rb)] [1, 2, 4] (rs := [.load ⟨b3, 0, none⟩ (pT rb)]) (κ' := [(1, pT b4), (2, pT b5), (4, pT rb)]) (l' := #[true, false, false, false, false, false, false, false]) (by kernel_rfl) (by kernel_rfl) (by kernel_rfl) (fun w' hw => hw.elim (fun hw => (.load ((B2.ext0 hw).cell 0 rfl) .nil)) (fun hw => (.load ((B2.xt hw (by decide)).cell 0 rfl) .nil))) ?_
 refine S.dreads bodyPost_panicOk [1] 6 [] [2, 4, 5] (rs := []) (κ' := [(2, pT b5), (4, pT rb), (5, .pointer (some ⟨b4, 2, none⟩))]) (l' := #[true, true, false, false, false, false, false, false]) (by kernel_rfl) (by kernel_rfl) (by kernel_rfl) (fun _ _ => rfl) ?_
 have B3 := hB4.ext0 E1
 refine S.dreads bodyPost_panicOk [2] 5 [.v (.slice x.a x.len x.cap)] [2, 4, 6] (rs := [.load ⟨b4, 2, none⟩ (.slice x.a x.len x.cap)]) (κ' := [(2, pT b5), (4, pT rb), (6, .slice x.a x.len x.cap)]) (l' := #[true, true, true, false, false, false, false, false]) (by kernel_rfl) (by kernel_rfl) (by kernel_rfl) (fun w' hw => hw.elim (fun hw => (.load ((B3.ext0 hw).cell 2 rfl) .nil)) (fun hw => (.load ((B3.xt hw (by decide)).cell 2 rfl) .nil))) ?_
 have B4 := hB5.ext0 E1
 refine S.dreads bodyPost_panicOk [5] 4 [.v (iV hand), .v (.pointer (hp hl)), .v (.pointer (rp rl))] [4, 6, 9] (rs := [.load ⟨b5, 0, none⟩ (iV hand), .load ⟨b5, 1, none⟩ (.pointer (hp hl)), .load ⟨b5, 2, none⟩ (.pointer (rp rl))]) (κ' := [(4, pT rb), (6, .slice x.a x.len x.cap), (9, .agg #[iV hand, .pointer (hp hl), .pointer (rp rl)])]) (l' := #[true, true, true, false, false, true, false, false]) (by kernel_rfl) (by kernel_rfl) (by kernel_rfl) (fun w' hw => hw.elim (fun hw => (.load ((B4.ext0 hw).cell 0 rfl) (.load ((B4.ext0 hw).cell 1 rfl) (.load ((B4.ext0 hw).cell 2 rfl) .nil)))) (fun hw => (.load ((B4.xt hw (by decide)).cell 0 rfl) (.load ((B4.xt hw (by decide)).cell 1 rfl) (.load ((B4.xt hw (by decide)).cell 2 rfl) .nil))))) ?_
 have R5 := hx.row.pres (.of0 E1)
 obtain ⟨x6, b6, o6, hx6, h6, H6⟩ := R5.get 0 (by omega)
 have T7 := hx.pres (.of0 E1)
 have K6 := T7.kid (List.mem_of_getElem? hx6)
 have W6 := hwf.kid (List.mem_of_getElem? hx6)
 have hkid6 := kid_eq hx6
 refine S.dlaw bodyPost_panicOk 3 7 3 (v := .pointer (some ⟨b6, o6 + 0 * 3, none⟩)) (l' := #[true, true, true, true, false, true, false, false]) (by kernel_rfl) (by kernel_rfl) (by kernel_rfl) (by kernel_rfl) (fun w' hw => lawRun (s := Instr.indexAt 22 (.slice x.a x.len x.cap) (.int .i64 ((0 : Nat) : Int))) (by kernel_rfl) (run_idx (e := 60) 0 h6 (by kernel_rfl) (by kernel_rfl) (by omega))) ?_
 refine S.dreads bodyPost_panicOk [4] 2 [.v (iV x6.d.1), .v (iV x6.d.2), .v (.slice x6.a x6.len x6.cap)] [4, 8, 9] (rs := [.load ⟨b6, o6 + 0 * 3, none⟩ (iV x6.d.1), .load ⟨b6, o6 + 0 * 3 + 1, none⟩ (iV x6.d.2), .load ⟨b6, o6 + 0 * 3 + 2, none⟩ (.slice x6.a x6.len x6.cap)]) (κ' := [(4, pT rb), (8, .agg #[iV x6.d.1, iV x6.d.2, .slice x6.a x6.len x6.cap]), (9, .agg #[iV hand, .pointer (hp hl), .pointer (rp rl)])]) (l' := #[true, true, true, true, true, true, false, false]) (by kernel_rfl) (by kernel_rfl) (by kernel_rfl) (fun w' hw => hw.elim (fun hw => (.load ((H6.pres (.of0 hw)).cell0 rfl) (.load ((H6.pres (.of0 hw)).cell 1 rfl) (.load ((H6.pres (.of0 hw)).cell 2 rfl) .nil)))) (fun hw => (.load ((H6.pres (.ofXn hw (by omega))).cell0 rfl) (.load ((H6.pres (.ofXn hw (by omega))).cell 1 rfl) (.load ((H6.pres (.ofXn hw (by omega))).cell 2 rfl) .nil))))) ?_
 refine S.dnext (j := 6) (l' := #[true, true, true, true, true, true, true, false]) (by kernel_rfl) (by kernel_rfl) (sw1 (by kernel_rfl) (Ext.refl _)) ?_
 have P9 := P0.std (.of0 E1) (P0.1.trans (.of0 E1))
 obtain ⟨les8, hR8, back8⟩ := P9.open
 have N10 := hS.keeps (.of0 E1)
 refine S.call (dst := some 10) (f := 59) (args := #[pT rb, .agg #[iV x6.d.1, iV x6.d.2, .slice x6.a x6.len x6.cap], .agg #[iV hand, .pointer (hp hl), .pointer (rp rl)]]) (by kernel_rfl) (by kernel_rfl) ((IH n₀ rb md _ σ les8 x6 hand hl rl hR8 K6 W6 ((N10.next (E' := 5000) hrg (by omega) (by omega)).mono (by omega) (Nat.le_refl _)) (by omega)).mono ?_)
 rintro e8 w8 ⟨ho8, hP8⟩
 have PP8 : RunP n₀ rb md p w w8 les (evalS p.xs k x6 (scOf hand hl rl) σ).2 := back8 _ _ hP8; have X8 := hP8.1; have hfin8 : Fin 0 1 σ (evalS p.xs k x6 (scOf hand hl rl) σ) := fin_eval p.xs k _ _ _; have ho8 : OutE rl (evalS p.xs k x6 (scOf hand hl rl) σ).1 e8 := ho8; have hP8 : RunP n₀ rb md p w1 w8 les8 (evalS p.xs k x6 (scOf hand hl rl) σ).2 := hP8
 rcases hr8 : evalS p.xs k x6 (scOf hand hl rl) σ with ⟨o8, σ8⟩
 rw [hr8] at ho8 PP8 hfin8 hP8
 have PQ8 : RunP n₀ rb md p w w8 les σ8 := PP8; have hq8 : OutE rl o8 e8 := ho8; have PR8 : RunP n₀ rb md p w1 w8 les8 σ8 := hP8
 clear PP8 ho8 hP8
 rcases outE_cases hq8 with ⟨v8, rfl, rfl, hv8⟩ | ⟨ch, rfl, hb8, hn8⟩
 ·skip
  have hf8 := hfin8.val
  refine After.ret (by kernel_rfl) ?_
  have sX8 := X8.size
  refine S.dreads2 bodyPost_panicOk [7] 0 [] [3] (rs := []) (κ' := [(3, iV v8)]) (l' := #[true, true, true, true, true, true, true, true]) (by kernel_rfl) (by kernel_rfl) (by kernel_rfl) (by kernel_rfl) (fun w' hw => rfl) ?_
  refine S.dend (by kernel_rfl) (sw2 (by kernel_rfl) X8) ?_
  have hs : (evalS p.xs k (kid x 0) (scOf hand hl rl) σ : Res Int) = (.val v8, σ8) := by simp only [hkid6, hr8, bnd_val, bnd_bnd]
  rw [hs]
  exact S.ret1 (v := iV v8) rfl (by kernel_rfl) (⟨⟨rfl, hv8⟩, PQ8⟩)
 ·skip
  exact fun _ _ _ hd => ⟨hd, (by have hs : (evalS p.xs k (kid x 0) (scOf hand hl rl) σ : Res Int) = (o8, σ8) := (by simp only [hkid6, hr8, hb8, bnd_val, bnd_bnd]); rw [hs]; exact ⟨hq8, PQ8⟩)⟩

end Go.Proofs.Ytmgakpnejbembaa
