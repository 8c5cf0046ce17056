/-
  CondChoice, a part of the proof (printed by a program of the prover): what functions of the given program compute, each under the conditions that its theorem names.
-/
import Derived.Test.YtmgakpnejbembaaA23
namespace Go.Proofs.Ytmgakpnejbembaa
open Go Go.Proofs.Ytmgakpnejbembaa.L

/-- All rows of an expression lie from lo on. -/
inductive Ge (lo : Nat) : X → Prop
  | mk (d : Int × Int) (a : Option Addr) (len cap : Nat) (kids : List X) (ha : ∀ g, a = some g → lo ≤ g.block) (hk : ∀ y, y ∈ kids → Ge lo y) : Ge lo (.mk d a len cap kids)
theorem Ge.mono {lo lo' : Nat} {x : X} (h : Ge lo x) (k : lo' ≤ lo) : Ge lo' x := by
  induction h with
  | mk d a len cap kids ha hk ih => exact .mk d a len cap kids (fun g hg => Nat.le_trans k (ha g hg)) ih
/-- An expression of one's own. -/
def YR (lo n : Nat) (w : World) (y : X) : Prop := XOk n w y ∧ Ge lo y
theorem YR.pres {lo n : Nat} {w w' : World} {y : X} (h : YR lo n w y) (k : Pres n 0 w w') : YR lo n w' y := ⟨h.1.pres k, h.2⟩
theorem YR.ofB {lo n : Nat} {w w' : World} {y : X} {b : Nat} (h : YR lo n w y) (E : Ext (· = b) w w') (hb : b < lo) : YR lo n w' y := by
  refine ⟨?_, h.2⟩
  have h1 := h.1
  have h2 := h.2
  clear h
  induction h1 with
  | mk d a len cap kids hl hbg hd hr hk ih =>
    cases h2 with
    | mk _ _ _ _ _ ha hk2 =>
      refine .mk d a len cap kids hl hbg trivial (fun i x hx => ?_) fun x hx => ih x hx (hk2 x hx)
      obtain ⟨b1, off, h1, h2, cs, t', fr, ht, h3, h4⟩ := hr i x hx
      exact ⟨b1, off, h1, h2, cs, t', fr, ht, (E.block b1 (Array.getElem?_eq_some_iff.1 h3).1 (by intro he; have he : b1 = b := he; have h5 := ha _ h1; have h5 : lo ≤ b1 := h5; omega)).trans h3, h4⟩
/-- What Plain's closure captures. -/
structure EP (w : World) (n bp bw : Nat) (p : LP) : Prop where
  hp : Blk w bp [.slice p.a p.xs.length p.cap] 22
  hf : Blk w bw [.func (.func 64) #[] #[.pointer (some ⟨bp, 0, none⟩), .pointer (some ⟨bw, 0, none⟩)]] 99
  ok : p.ok n w
def Plain1 (p : LP) (x z : X) : Prop := ∀ (n bp bw : Nat) (w : World), EP w n bp bw p → XOk n w x → n ≤ w.heap.size →
  Calls Try.prog 64 #[.agg (xCs x).toArray, .pointer (some ⟨bp, 0, none⟩), .pointer (some ⟨bw, 0, none⟩)] w (fun e w' => Ext E0 w w' ∧ ∃ y, YR w.heap.size w'.heap.size w' y ∧ e = .returned (.agg (xCs y).toArray) ∧ eqX y z = true)
theorem YR.one {lo n : Nat} {w : World} {y : X} {ka : Option Addr} {kc : Nat} (d : Int × Int) (h : YR lo n w y) (hr : OwnR lo 60 3 w ka 1 kc (xCs y)) (hn : w.heap.size ≤ n) : YR lo n w (.mk d ka 1 kc [y]) := by
  have hr2 : OwnR lo 60 3 w ka 1 kc ([y].flatMap xCs) := by simpa using hr
  exact ⟨.mk d ka 1 kc [y] rfl (by omega) trivial ((hr2.row (fun _ => rfl) (by omega)).any.mono hn) (fun z hz => by rw [List.mem_singleton.1 hz]; exact h.1), .mk d ka 1 kc [y] hr.ge (fun z hz => by rw [List.mem_singleton.1 hz]; exact h.2)⟩
theorem YR.weak {lo lo' n n' : Nat} {w : World} {y : X} (h : YR lo n w y) (k : lo' ≤ lo) (k' : n ≤ n') : YR lo' n' w y := ⟨h.1.mono k', h.2.mono k⟩
theorem plain_handle (p : LP) (x : X) (z y0 : X) (ys : List X) (K : Nat) (V : List X) (m' : List Bool) (hop : x.d.1 = 8) (hks : x.kids = y0 :: ys) (hpw : ∀ y, y ∈ p.xs → WfX p.xs.length y) (hp6 : p.xs.length ≤ 6) (hwf : WfX p.xs.length y0) (hv : visit p.xs K y0 (List.replicate 6 false) = some (V, m')) (hno : V.any (sigs x.d.2) = false) (IH : Plain1 p y0 z) (n bp bw : Nat) (w : World) (hE : EP w n bp bw p) (hx : XOk n w x) (hn : n ≤ w.heap.size) :
    Calls Try.prog 64 #[.agg #[iV x.d.1, iV x.d.2, .slice x.a x.len x.cap], pT bp, pT bw] w (fun e w' => Ext E0 w w' ∧ ∃ y, YR w.heap.size w'.heap.size w' y ∧ e = .returned (.agg (xCs y).toArray) ∧ eqX y z = true) := by
 refine calls_of_S (n := 50) Try.func64 rfl rfl (by kernel_rfl) ?_
 have hkl := hx.len; rw [hks] at hkl; simp only [List.length_cons, List.length_nil] at hkl
 refine S.seq (S.region (S.one (by kernel_rfl) (S.new 3 [iV x.d.1, iV x.d.2, .slice x.a x.len x.cap] 60 (fun b => pT b) (by kernel_rfl) (by kernel_rfl) (fun b => by kernel_rfl) (fun b1 w1 E1 B1 e1 z1 => ?_))))
 have sE1 := E1.size
 refine S.one (by kernel_rfl) (S.new 4 [iV 0, iV 0, .slice none 0 0] 60 (fun b => pT b) (by kernel_rfl) (by kernel_rfl) (fun b => by kernel_rfl) (fun b2 w2 E2 B2 e2 z2 => ?_))
 have sE2 := E2.size
 refine S.regEnd (by kernel_rfl) (S.seq (S.seq (S.drawN 14 #[false, false, false, false, false, false, false, false, false, false, false, false, false, false] 14 (fun u u' => Ext E0 u u') (fun u u' => Ext E0 u u') (by kernel_rfl) (by kernel_rfl) (by kernel_rfl) (fun w3 E3 z3 => ?_))))
 have sE3 := E3.size
 have B4 := B1.ext0 E2
 have B5 := B4.ext0 E3
 refine S.dreads bodyPost_panicOk [0, 1, 2, 3] 10 [.v (iV x.d.1)] [1, 2, 3, 4, 11] (rs := [.load ⟨b1, 0, none⟩ (iV x.d.1)]) (κ' := [(1, pT bp), (2, pT bw), (3, pT b1), (4, pT b2), (11, .bool (x.d.1 == 8))]) (l' := #[true, true, true, true, false, false, false, false, false, false, false, false, false, false]) (by kernel_rfl) (by kernel_rfl) (by kernel_rfl) (fun w' hw => have hw := hw.elim id id; (.load ((B5.ext0 hw).cell 0 rfl) .nil)) ?_
 refine S.subst 11 (.bool (x.d.1 == 8)) (.bool true) (by kernel_rfl) (congrArg Value.bool (by simp [hop])) ?_
 have B6 := hE.hp.ext0 E1
 have B7 := B6.ext0 E2
 have B8 := B7.ext0 E3
 refine S.dreads bodyPost_panicOk [4, 5, 6, 9, 10] 5 [.v (.slice p.a p.xs.length p.cap), .v (.slice x.a x.len x.cap), .v (iV x.d.2)] [2, 3, 4, 11, 12, 14, 18] (rs := [.load ⟨bp, 0, none⟩ (.slice p.a p.xs.length p.cap), .load ⟨b1, 2, none⟩ (.slice x.a x.len x.cap), .load ⟨b1, 1, none⟩ (iV x.d.2)]) (κ' := [(2, pT bw), (3, pT b1), (4, pT b2), (11, .bool true), (12, .slice p.a p.xs.length p.cap), (14, .slice x.a x.len x.cap), (18, iV x.d.2)]) (l' := #[true, true, true, true, true, true, true, false, false, true, true, false, false, false]) (by kernel_rfl) (by kernel_rfl) (by kernel_rfl) (fun w' hw => have hw := hw.elim id id; (.load ((B8.ext0 hw).cell 0 rfl) (.load ((B5.ext0 hw).cell 2 rfl) (.load ((B5.ext0 hw).cell 1 rfl) .nil)))) ?_
 have R9 := hx.row.pres (.of0 E1)
 have R10 := R9.pres (.of0 E2)
 have R11 := R10.pres (.of0 E3)
 obtain ⟨b12, o12, h12, H12⟩ := R11 0 y0 (by rw [hks]; rfl)
 have T13 := hx.pres (.of0 E1)
 have T14 := T13.pres (.of0 E2)
 have T15 := T14.pres (.of0 E3)
 have K12 : XOk n _ y0 := T15.kid (by rw [hks]; exact List.mem_cons_self ..)
 refine S.dlaw bodyPost_panicOk 7 15 4 (v := .pointer (some ⟨b12, o12 + 0 * 3, none⟩)) (l' := #[true, true, true, true, true, true, true, true, false, true, true, false, false, false]) (by kernel_rfl) (by kernel_rfl) (by kernel_rfl) (by kernel_rfl) (fun w' hw => lawRun (s := Instr.indexAt 22 (.slice x.a x.len x.cap) (.int .i64 ((0 : Nat) : Int))) (by kernel_rfl) (run_idx (e := 60) 0 h12 (by kernel_rfl) (by kernel_rfl) (by omega))) ?_
 refine S.dreads bodyPost_panicOk [8] 3 [.v (iV y0.d.1), .v (iV y0.d.2), .v (.slice y0.a y0.len y0.cap)] [2, 3, 4, 11, 12, 16, 18] (rs := [.load ⟨b12, o12 + 0 * 3, none⟩ (iV y0.d.1), .load ⟨b12, o12 + 0 * 3 + 1, none⟩ (iV y0.d.2), .load ⟨b12, o12 + 0 * 3 + 2, none⟩ (.slice y0.a y0.len y0.cap)]) (κ' := [(2, pT bw), (3, pT b1), (4, pT b2), (11, .bool true), (12, .slice p.a p.xs.length p.cap), (16, .agg #[iV y0.d.1, iV y0.d.2, .slice y0.a y0.len y0.cap]), (18, iV x.d.2)]) (l' := #[true, true, true, true, true, true, true, true, true, true, true, false, false, false]) (by kernel_rfl) (by kernel_rfl) (by kernel_rfl) (fun w' hw => have hw := hw.elim id id; (.load ((H12.pres (.of0 hw)).cell0 rfl) (.load ((H12.pres (.of0 hw)).cell 1 rfl) (.load ((H12.pres (.of0 hw)).cell 2 rfl) .nil)))) ?_
 refine S.dnext (j := 11) (l' := #[true, true, true, true, true, true, true, true, true, true, true, true, false, false]) (by kernel_rfl) (by kernel_rfl) (sw1 (by kernel_rfl) (Ext.refl _)) ?_
 have T17 := hE.ok.pres (.of0 E1)
 have T18 := T17.pres (.of0 E2)
 have T19 := T18.pres (.of0 E3)
 refine S.call (dst := some 19) (f := 65) (args := #[.slice p.a p.xs.length p.cap, .agg #[iV y0.d.1, iV y0.d.2, .slice y0.a y0.len y0.cap], iV x.d.2]) (by kernel_rfl) (by kernel_rfl) ((raises_spec p hpw hp6 n y0 x.d.2 K V m' _ hv T19 K12 hwf (by omega)).mono ?_)
 rintro _ w16 ⟨E16, rfl⟩
 refine After.ret (by kernel_rfl) ?_
 have sE16 := E16.size
 refine S.dreads bodyPost_panicOk [12, 13] 0 [] [2, 3, 4, 21] (rs := []) (κ' := [(2, pT bw), (3, pT b1), (4, pT b2), (21, .bool (!(V.any (sigs x.d.2))))]) (l' := #[true, true, true, true, true, true, true, true, true, true, true, true, true, true]) (by kernel_rfl) (by kernel_rfl) (by kernel_rfl) (fun _ _ => rfl) ?_
 refine S.dend (by kernel_rfl) (sw1 (by kernel_rfl) E16) ?_
 refine S.subst 21 (.bool (!(V.any (sigs x.d.2)))) (.bool true) (by kernel_rfl) (congrArg Value.bool (by rw [hno]; rfl)) ?_
 refine S.yes (by kernel_rfl) (S.seq (S.drawN 7 #[false, false, false, false, false, false, false] 6 (fun u u' => Ext E0 u u') (fun u u' => Xt w.heap.size [60] u u') (by kernel_rfl) (by kernel_rfl) (by kernel_rfl) (fun w20 E20 z20 => ?_)))
 have sE20 := E20.size
 have B21 := hE.hf.ext0 E1
 have B22 := B21.ext0 E2
 have B23 := B22.ext0 E3
 have B24 := B23.ext0 E16
 have B25 := B24.ext0 E20
 refine S.dreads bodyPost_panicOk [0] 6 [.v (.func (.func 64) #[] #[pT bp, pT bw])] [3, 4, 22] (rs := [.load ⟨bw, 0, none⟩ (.func (.func 64) #[] #[pT bp, pT bw])]) (κ' := [(3, pT b1), (4, pT b2), (22, .func (.func 64) #[] #[pT bp, pT bw])]) (l' := #[true, false, false, false, false, false, false]) (by kernel_rfl) (by kernel_rfl) (by kernel_rfl) (fun w' hw => hw.elim (fun hw => (.load ((B25.ext0 hw).cell 0 rfl) .nil)) (fun hw => (.load ((B25.xt hw (by decide)).cell 0 rfl) .nil))) ?_
 refine S.dreads bodyPost_panicOk [1] 5 [] [4, 22, 23] (rs := []) (κ' := [(4, pT b2), (22, .func (.func 64) #[] #[pT bp, pT bw]), (23, .pointer (some ⟨b1, 2, none⟩))]) (l' := #[true, true, false, false, false, false, false]) (by kernel_rfl) (by kernel_rfl) (by kernel_rfl) (fun _ _ => rfl) ?_
 have B26 := B1.ext0 E2
 have B27 := B26.ext0 E3
 have B28 := B27.ext0 E16
 have B29 := B28.ext0 E20
 refine S.dreads1 bodyPost_panicOk [2] 4 [3, 4, 5, 6] [.v (.slice x.a x.len x.cap)] [4, 22, 24] (rs := [.load ⟨b1, 2, none⟩ (.slice x.a x.len x.cap)]) (κ' := [(4, pT b2), (22, .func (.func 64) #[] #[pT bp, pT bw]), (24, .slice x.a x.len x.cap)]) (l' := #[true, true, true, false, false, false, false]) (by kernel_rfl) (by kernel_rfl) (by kernel_rfl) (by kernel_rfl) (fun w' hw => (.load ((B29.ext0 hw).cell 2 rfl) .nil)) ?_
 have R30 := R11.pres (.of0 E16)
 have R31 := R30.pres (.of0 E20)
 obtain ⟨b32, o32, h32, H32⟩ := R31 0 y0 (by rw [hks]; rfl)
 have T33 := T15.pres (.of0 E16)
 have T34 := T33.pres (.of0 E20)
 have K32 : XOk n _ y0 := T34.kid (by rw [hks]; exact List.mem_cons_self ..)
 refine S.dlaw bodyPost_panicOk 3 25 3 (v := .pointer (some ⟨b32, o32 + 0 * 3, none⟩)) (l' := #[true, true, true, true, false, false, false]) (by kernel_rfl) (by kernel_rfl) (by kernel_rfl) (by kernel_rfl) (fun w' hw => lawRun (s := Instr.indexAt 22 (.slice x.a x.len x.cap) (.int .i64 ((0 : Nat) : Int))) (by kernel_rfl) (run_idx (e := 60) 0 h32 (by kernel_rfl) (by kernel_rfl) (by omega))) ?_
 refine S.dreads bodyPost_panicOk [4] 2 [.v (iV y0.d.1), .v (iV y0.d.2), .v (.slice y0.a y0.len y0.cap)] [4, 22, 26] (rs := [.load ⟨b32, o32 + 0 * 3, none⟩ (iV y0.d.1), .load ⟨b32, o32 + 0 * 3 + 1, none⟩ (iV y0.d.2), .load ⟨b32, o32 + 0 * 3 + 2, none⟩ (.slice y0.a y0.len y0.cap)]) (κ' := [(4, pT b2), (22, .func (.func 64) #[] #[pT bp, pT bw]), (26, .agg #[iV y0.d.1, iV y0.d.2, .slice y0.a y0.len y0.cap])]) (l' := #[true, true, true, true, true, false, false]) (by kernel_rfl) (by kernel_rfl) (by kernel_rfl) (fun w' hw => hw.elim (fun hw => (.load ((H32.pres (.of0 hw)).cell0 rfl) (.load ((H32.pres (.of0 hw)).cell 1 rfl) (.load ((H32.pres (.of0 hw)).cell 2 rfl) .nil)))) (fun hw => (.load ((H32.pres (.ofXn hw (by omega))).cell0 rfl) (.load ((H32.pres (.ofXn hw (by omega))).cell 1 rfl) (.load ((H32.pres (.ofXn hw (by omega))).cell 2 rfl) .nil))))) ?_
 refine S.dnext (j := 5) (l' := #[true, true, true, true, true, true, false]) (by kernel_rfl) (by kernel_rfl) (sw1 (by kernel_rfl) (Ext.refl _)) ?_
 have B36 := hE.hp.ext0 E1
 have B37 := B36.ext0 E2
 have B38 := B37.ext0 E3
 have B39 := B38.ext0 E16
 have B40 := B39.ext0 E20
 have B41 := hE.hf.ext0 E1
 have B42 := B41.ext0 E2
 have B43 := B42.ext0 E3
 have B44 := B43.ext0 E16
 have B45 := B44.ext0 E20
 have T46 := T19.pres (.of0 E16)
 have T47 := T46.pres (.of0 E20)
 refine S.call (dst := some 27) (f := 64) (args := #[.agg #[iV y0.d.1, iV y0.d.2, .slice y0.a y0.len y0.cap], pT bp, pT bw]) (by kernel_rfl) (by kernel_rfl) ((IH n bp bw _ ⟨B40, B45, T47⟩ K32 (by omega)).mono ?_)
 rintro _ w35 ⟨E35, yk, hY35, rfl, hq35⟩
 refine After.ret (by kernel_rfl) ?_
 have sE35 := E35.size
 refine S.dnext (j := 6) (l' := #[true, true, true, true, true, true, true]) (by kernel_rfl) (by kernel_rfl) (sw1 (by kernel_rfl) E35) ?_
 have B48 := B2.ext0 E3
 have B49 := B48.ext0 E16
 have B50 := B49.ext0 E20
 have B51 := B50.ext0 E35
 refine S.store 0 [iV yk.d.1, iV yk.d.2, .slice yk.a yk.len yk.cap] [iV yk.d.1, iV yk.d.2, .slice yk.a yk.len yk.cap] B51 (by kernel_rfl) (by kernel_rfl) (by kernel_rfl) (by kernel_rfl) (by kernel_rfl) (fun w52 E52 B52 z52 => ?_)
 have sE52 := E52.size
 refine S.dend (by kernel_rfl) (sw2 (by kernel_rfl) ((Xt.of0 E35).trans (Xt.ofS E52 B51 (by decide) (by omega)))) ?_
 have Y53 := hY35.ofB E52 (by omega)
 exact S.retR (A := [.v (iV yk.d.1), .v (iV yk.d.2), .v (.slice yk.a yk.len yk.cap)]) (rs := [.load ⟨b2, 0, none⟩ (iV yk.d.1), .load ⟨b2, 1, none⟩ (iV yk.d.2), .load ⟨b2, 2, none⟩ (.slice yk.a yk.len yk.cap)]) (v := .agg #[iV yk.d.1, iV yk.d.2, .slice yk.a yk.len yk.cap]) (fun _ => by kernel_rfl) (.load (B52.cell 0 rfl) (.load (B52.cell 1 rfl) (.load (B52.cell 2 rfl) .nil))) ⟨(((((E1.trans E2).trans E3).trans E16).trans E20).trans E35).thenS E52 (by omega), yk, (Y53).weak (by omega) (by omega), rfl, hq35⟩

theorem plain_leaf (p : LP) (x : X) (hop : x.d.1 ≠ 8) (hks : x.kids = []) (n bp bw : Nat) (w : World) (hE : EP w n bp bw p) (hx : XOk n w x) (hn : n ≤ w.heap.size) :
    Calls Try.prog 64 #[.agg #[iV x.d.1, iV x.d.2, .slice x.a x.len x.cap], pT bp, pT bw] w (fun e w' => Ext E0 w w' ∧ ∃ y, YR w.heap.size w'.heap.size w' y ∧ e = .returned (.agg (xCs y).toArray) ∧ eqX y (.mk x.d none 0 0 []) = true) := by
 refine calls_of_S (n := 50) Try.func64 rfl rfl (by kernel_rfl) ?_
 have hkl := hx.len; rw [hks] at hkl; simp only [List.length_cons, List.length_nil] at hkl
 refine S.seq (S.region (S.one (by kernel_rfl) (S.new 3 [iV x.d.1, iV x.d.2, .slice x.a x.len x.cap] 60 (fun b => pT b) (by kernel_rfl) (by kernel_rfl) (fun b => by kernel_rfl) (fun b1 w1 E1 B1 e1 z1 => ?_))))
 have sE1 := E1.size
 refine S.one (by kernel_rfl) (S.new 4 [iV 0, iV 0, .slice none 0 0] 60 (fun b => pT b) (by kernel_rfl) (by kernel_rfl) (fun b => by kernel_rfl) (fun b2 w2 E2 B2 e2 z2 => ?_))
 have sE2 := E2.size
 refine S.regEnd (by kernel_rfl) (S.seq (S.seq (S.drawN 14 #[false, false, false, false, false, false, false, false, false, false, false, false, false, false] 14 (fun u u' => Ext E0 u u') (fun u u' => Ext E0 u u') (by kernel_rfl) (by kernel_rfl) (by kernel_rfl) (fun w3 E3 z3 => ?_))))
 have sE3 := E3.size
 have B4 := B1.ext0 E2
 have B5 := B4.ext0 E3
 refine S.dreads bodyPost_panicOk [0, 1, 2, 3] 10 [.v (iV x.d.1)] [1, 2, 3, 4, 11] (rs := [.load ⟨b1, 0, none⟩ (iV x.d.1)]) (κ' := [(1, pT bp), (2, pT bw), (3, pT b1), (4, pT b2), (11, .bool (x.d.1 == 8))]) (l' := #[true, true, true, true, false, false, false, false, false, false, false, false, false, false]) (by kernel_rfl) (by kernel_rfl) (by kernel_rfl) (fun w' hw => have hw := hw.elim id id; (.load ((B5.ext0 hw).cell 0 rfl) .nil)) ?_
 refine S.subst 11 (.bool (x.d.1 == 8)) (.bool false) (by kernel_rfl) (congrArg Value.bool (by simp [hop])) ?_
 refine S.dreads bodyPost_panicOk [4, 5, 6, 7, 8, 9, 10, 11, 12, 13] 0 [] [2, 3, 4, 21] (rs := []) (κ' := [(2, pT bw), (3, pT b1), (4, pT b2), (21, .bool false)]) (l' := #[true, true, true, true, true, true, true, true, true, true, true, true, true, true]) (by kernel_rfl) (by kernel_rfl) (by kernel_rfl) (fun _ _ => rfl) ?_
 refine S.dend (by kernel_rfl) (sw1 (by kernel_rfl) (Ext.refl _)) ?_
 refine S.no (by kernel_rfl) (S.skip (S.seq (S.region ?_)))
 have B6 := B1.ext0 E2
 have B7 := B6.ext0 E3
 refine S.run 5 [.v (iV x.d.1), .v (iV x.d.2)] [2, 3, 4, 32] (rs := [.load ⟨b1, 0, none⟩ (iV x.d.1), .load ⟨b1, 1, none⟩ (iV x.d.2)]) (κ' := [(2, pT bw), (3, pT b1), (4, pT b2), (32, .agg #[iV x.d.1, iV x.d.2, .slice none 0 0])]) (by kernel_rfl) (by kernel_rfl) (.load (B7.cell 0 rfl) (.load (B7.cell 1 rfl) .nil)) ?_
 refine S.one (by kernel_rfl) (S.new 5 [iV 0, iV 0, .slice none 0 0] 60 (fun b => pT b) (by kernel_rfl) (by kernel_rfl) (fun b => by kernel_rfl) (fun b8 w8 E8 B8 e8 z8 => ?_))
 have sE8 := E8.size
 refine S.one (by kernel_rfl) (S.store 0 [iV x.d.1, iV x.d.2, .slice none 0 0] [iV x.d.1, iV x.d.2, .slice none 0 0] B8 (by kernel_rfl) (by kernel_rfl) (by kernel_rfl) (by kernel_rfl) (by kernel_rfl) (fun w9 E9 B9 z9 => ?_))
 have sE9 := E9.size
 refine S.regEnd (by kernel_rfl) (S.seq (S.seq (S.region ?_)))
 have B10 := B7.ext0 E8
 have B11 := B10.extS E9 (by omega)
 refine S.run 4 [.v (.slice x.a x.len x.cap)] [2, 4, 5, 34, 35, 36] (rs := [.load ⟨b1, 2, none⟩ (.slice x.a x.len x.cap)]) (κ' := [(2, pT bw), (4, pT b2), (5, pT b8), (34, .slice x.a x.len x.cap), (35, iV ((x.len : Nat) : Int)), (36, iV 0)]) (by kernel_rfl) (by kernel_rfl) (.load (B11.cell 2 rfl) .nil) ?_
 refine S.regEnd (by kernel_rfl) (S.block (S.weaken (ks := [2, 4, 5, 34, 35, 36]) (S.loop (fun m κ wj => m = 1 ∧ κ = [(2, pT bw), (4, pT b2), (5, pT b8), (34, .slice x.a x.len x.cap), (35, iV ((x.len : Nat) : Int)), (36, iV 0)] ∧ Ext E0 w9 wj) (m₀ := 1) (⟨rfl, by kernel_rfl, Ext.refl _⟩) ?_)))
 rintro m κ w12 ⟨rfl, rfl, E12⟩
 have sE12 := E12.size
 refine S.seq (S.region (S.run 1 [] [2, 4, 5, 34, 35, 36, 37] (rs := []) (κ' := [(2, pT bw), (4, pT b2), (5, pT b8), (34, .slice x.a x.len x.cap), (35, iV ((x.len : Nat) : Int)), (36, iV 0), (37, .bool (decide ((0 : Int) < ((x.len : Nat) : Int))))]) (by kernel_rfl) (by kernel_rfl) rfl ?_))
 refine S.regEnd (by kernel_rfl) (S.seq (S.subst 37 (.bool (decide ((0 : Int) < ((x.len : Nat) : Int)))) (.bool false) (by kernel_rfl) (congrArg Value.bool (decide_eq_false (by omega))) ?_))
 refine S.no (by kernel_rfl) (S.exit rfl (S.seq (S.region ?_)))
 have B13 := B9.ext0 E12
 refine S.run 1 [.v (iV x.d.1), .v (iV x.d.2), .v (.slice none 0 0)] [4, 49] (rs := [.load ⟨b8, 0, none⟩ (iV x.d.1), .load ⟨b8, 1, none⟩ (iV x.d.2), .load ⟨b8, 2, none⟩ (.slice none 0 0)]) (κ' := [(4, pT b2), (49, .agg #[iV x.d.1, iV x.d.2, .slice none 0 0])]) (by kernel_rfl) (by kernel_rfl) (.load (B13.cell 0 rfl) (.load (B13.cell 1 rfl) (.load (B13.cell 2 rfl) .nil))) ?_
 have B14 := B2.ext0 E3
 have B15 := B14.ext0 E8
 have B16 := B15.extS E9 (by omega)
 have B17 := B16.ext0 E12
 refine S.one (by kernel_rfl) (S.store 0 [iV x.d.1, iV x.d.2, .slice none 0 0] [iV x.d.1, iV x.d.2, .slice none 0 0] B17 (by kernel_rfl) (by kernel_rfl) (by kernel_rfl) (by kernel_rfl) (by kernel_rfl) (fun w18 E18 B18 z18 => ?_))
 have sE18 := E18.size
 exact S.regEnd (by kernel_rfl) (S.retR (A := [.v (iV x.d.1), .v (iV x.d.2), .v (.slice none 0 0)]) (rs := [.load ⟨b2, 0, none⟩ (iV x.d.1), .load ⟨b2, 1, none⟩ (iV x.d.2), .load ⟨b2, 2, none⟩ (.slice none 0 0)]) (v := .agg #[iV x.d.1, iV x.d.2, .slice none 0 0]) (fun _ => by kernel_rfl) (.load (B18.cell 0 rfl) (.load (B18.cell 1 rfl) (.load (B18.cell 2 rfl) .nil))) (⟨(((((E1.trans E2).trans E3).trans E8).thenS E9 (by omega)).trans E12).thenS E18 (by omega), .mk x.d none 0 0 [], ⟨XOk.nil x.d, .mk x.d none 0 0 [] (fun g hg => by cases hg) (fun y hy => by simp at hy)⟩, rfl, by rw [eqX_eq]; simp [Tr.d, Tr.kids, eqX.eqL]⟩))

theorem plain_one (p : LP) (x : X) (z y0 : X) (hop : x.d.1 ≠ 8) (hks : x.kids = [y0]) (IH : Plain1 p y0 z) (n bp bw : Nat) (w : World) (hE : EP w n bp bw p) (hx : XOk n w x) (hn : n ≤ w.heap.size) :
    Calls Try.prog 64 #[.agg #[iV x.d.1, iV x.d.2, .slice x.a x.len x.cap], pT bp, pT bw] w (fun e w' => Ext E0 w w' ∧ ∃ y, YR w.heap.size w'.heap.size w' y ∧ e = .returned (.agg (xCs y).toArray) ∧ eqX y (.mk x.d none 1 0 [z]) = true) := by
 refine calls_of_S (n := 50) Try.func64 rfl rfl (by kernel_rfl) ?_
 have hkl := hx.len; rw [hks] at hkl; simp only [List.length_cons, List.length_nil] at hkl
 refine S.seq (S.region (S.one (by kernel_rfl) (S.new 3 [iV x.d.1, iV x.d.2, .slice x.a x.len x.cap] 60 (fun b => pT b) (by kernel_rfl) (by kernel_rfl) (fun b => by kernel_rfl) (fun b1 w1 E1 B1 e1 z1 => ?_))))
 have sE1 := E1.size
 refine S.one (by kernel_rfl) (S.new 4 [iV 0, iV 0, .slice none 0 0] 60 (fun b => pT b) (by kernel_rfl) (by kernel_rfl) (fun b => by kernel_rfl) (fun b2 w2 E2 B2 e2 z2 => ?_))
 have sE2 := E2.size
 refine S.regEnd (by kernel_rfl) (S.seq (S.seq (S.drawN 14 #[false, false, false, false, false, false, false, false, false, false, false, false, false, false] 14 (fun u u' => Ext E0 u u') (fun u u' => Ext E0 u u') (by kernel_rfl) (by kernel_rfl) (by kernel_rfl) (fun w3 E3 z3 => ?_))))
 have sE3 := E3.size
 have B4 := B1.ext0 E2
 have B5 := B4.ext0 E3
 refine S.dreads bodyPost_panicOk [0, 1, 2, 3] 10 [.v (iV x.d.1)] [1, 2, 3, 4, 11] (rs := [.load ⟨b1, 0, none⟩ (iV x.d.1)]) (κ' := [(1, pT bp), (2, pT bw), (3, pT b1), (4, pT b2), (11, .bool (x.d.1 == 8))]) (l' := #[true, true, true, true, false, false, false, false, false, false, false, false, false, false]) (by kernel_rfl) (by kernel_rfl) (by kernel_rfl) (fun w' hw => have hw := hw.elim id id; (.load ((B5.ext0 hw).cell 0 rfl) .nil)) ?_
 refine S.subst 11 (.bool (x.d.1 == 8)) (.bool false) (by kernel_rfl) (congrArg Value.bool (by simp [hop])) ?_
 refine S.dreads bodyPost_panicOk [4, 5, 6, 7, 8, 9, 10, 11, 12, 13] 0 [] [2, 3, 4, 21] (rs := []) (κ' := [(2, pT bw), (3, pT b1), (4, pT b2), (21, .bool false)]) (l' := #[true, true, true, true, true, true, true, true, true, true, true, true, true, true]) (by kernel_rfl) (by kernel_rfl) (by kernel_rfl) (fun _ _ => rfl) ?_
 refine S.dend (by kernel_rfl) (sw1 (by kernel_rfl) (Ext.refl _)) ?_
 refine S.no (by kernel_rfl) (S.skip (S.seq (S.region ?_)))
 have B6 := B1.ext0 E2
 have B7 := B6.ext0 E3
 refine S.run 5 [.v (iV x.d.1), .v (iV x.d.2)] [2, 3, 4, 32] (rs := [.load ⟨b1, 0, none⟩ (iV x.d.1), .load ⟨b1, 1, none⟩ (iV x.d.2)]) (κ' := [(2, pT bw), (3, pT b1), (4, pT b2), (32, .agg #[iV x.d.1, iV x.d.2, .slice none 0 0])]) (by kernel_rfl) (by kernel_rfl) (.load (B7.cell 0 rfl) (.load (B7.cell 1 rfl) .nil)) ?_
 refine S.one (by kernel_rfl) (S.new 5 [iV 0, iV 0, .slice none 0 0] 60 (fun b => pT b) (by kernel_rfl) (by kernel_rfl) (fun b => by kernel_rfl) (fun b8 w8 E8 B8 e8 z8 => ?_))
 have sE8 := E8.size
 refine S.one (by kernel_rfl) (S.store 0 [iV x.d.1, iV x.d.2, .slice none 0 0] [iV x.d.1, iV x.d.2, .slice none 0 0] B8 (by kernel_rfl) (by kernel_rfl) (by kernel_rfl) (by kernel_rfl) (by kernel_rfl) (fun w9 E9 B9 z9 => ?_))
 have sE9 := E9.size
 refine S.regEnd (by kernel_rfl) (S.seq (S.seq (S.region ?_)))
 have B10 := B7.ext0 E8
 have B11 := B10.extS E9 (by omega)
 refine S.run 4 [.v (.slice x.a x.len x.cap)] [2, 4, 5, 34, 35, 36] (rs := [.load ⟨b1, 2, none⟩ (.slice x.a x.len x.cap)]) (κ' := [(2, pT bw), (4, pT b2), (5, pT b8), (34, .slice x.a x.len x.cap), (35, iV ((x.len : Nat) : Int)), (36, iV 0)]) (by kernel_rfl) (by kernel_rfl) (.load (B11.cell 2 rfl) .nil) ?_
 refine S.regEnd (by kernel_rfl) (S.block (S.weaken (ks := [2, 4, 5, 34, 35, 36]) (S.loop (fun m κ wj => (m = 1 ∧ κ = [(2, pT bw), (4, pT b2), (5, pT b8), (34, .slice x.a x.len x.cap), (35, iV ((x.len : Nat) : Int)), (36, iV 0)] ∧ Ext E0 w9 wj) ∨ (m = 0 ∧ κ = [(2, pT bw), (4, pT b2), (5, pT b8), (34, .slice x.a x.len x.cap), (35, iV ((x.len : Nat) : Int)), (36, iV 1)] ∧ Ext E0 w wj ∧ ∃ ka kc yk, Blk wj b8 [.int .i64 x.d.1, .int .i64 x.d.2, .slice ka 1 kc] 60 ∧ Blk wj b2 [iV 0, iV 0, .slice none 0 0] 60 ∧ OwnR w9.heap.size 60 3 wj ka 1 kc (xCs yk) ∧ YR w9.heap.size wj.heap.size wj yk ∧ eqX yk z = true ∧ w9.heap.size ≤ wj.heap.size)) (m₀ := 1) (.inl ⟨rfl, by kernel_rfl, Ext.refl _⟩) ?_)))
 rintro m κ w12 (⟨rfl, rfl, E12⟩ | ⟨rfl, rfl, E12, ka, kc, yk, hB5, hB4, hO, hY, hq, hsz⟩)
 ·skip
  have sE12 := E12.size
  refine S.seq (S.region (S.run 1 [] [2, 4, 5, 34, 35, 36, 37] (rs := []) (κ' := [(2, pT bw), (4, pT b2), (5, pT b8), (34, .slice x.a x.len x.cap), (35, iV ((x.len : Nat) : Int)), (36, iV 0), (37, .bool (decide ((0 : Int) < ((x.len : Nat) : Int))))]) (by kernel_rfl) (by kernel_rfl) rfl ?_))
  refine S.regEnd (by kernel_rfl) (S.seq (S.subst 37 (.bool (decide ((0 : Int) < ((x.len : Nat) : Int)))) (.bool true) (by kernel_rfl) (congrArg Value.bool (decide_eq_true (by omega))) ?_))
  refine S.yes (by kernel_rfl) (S.skip (S.seq (S.block (S.seq (S.region ?_)))))
  have R13 := hx.row.pres (.of0 E1)
  have R14 := R13.pres (.of0 E2)
  have R15 := R14.pres (.of0 E3)
  have R16 := R15.pres (.of0 E8)
  have R17 := R16.pres (.ofS E9 (by omega))
  have R18 := R17.pres (.of0 E12)
  obtain ⟨b19, o19, h19, H19⟩ := R18 0 y0 (by rw [hks]; rfl)
  have T20 := hx.pres (.of0 E1)
  have T21 := T20.pres (.of0 E2)
  have T22 := T21.pres (.of0 E3)
  have T23 := T22.pres (.of0 E8)
  have T24 := T23.pres (.ofS E9 (by omega))
  have T25 := T24.pres (.of0 E12)
  have K19 : XOk n _ y0 := T25.kid (by rw [hks]; exact List.mem_cons_self ..)
  refine S.one (by kernel_rfl) (S.law 38 (v := .pointer (some ⟨b19, o19 + 0 * 3, none⟩)) (Instr.indexAt 22 (.slice x.a x.len x.cap) (.int .i64 ((0 : Nat) : Int))) (by kernel_rfl) (by kernel_rfl) (by kernel_rfl) (run_idx (e := 60) 0 h19 (by kernel_rfl) (by kernel_rfl) (by omega)) ?_)
  refine S.run 1 [.v (iV y0.d.1), .v (iV y0.d.2), .v (.slice y0.a y0.len y0.cap)] [2, 4, 5, 34, 35, 36, 39] (rs := [.load ⟨b19, o19 + 0 * 3, none⟩ (iV y0.d.1), .load ⟨b19, o19 + 0 * 3 + 1, none⟩ (iV y0.d.2), .load ⟨b19, o19 + 0 * 3 + 2, none⟩ (.slice y0.a y0.len y0.cap)]) (κ' := [(2, pT bw), (4, pT b2), (5, pT b8), (34, .slice x.a x.len x.cap), (35, iV ((x.len : Nat) : Int)), (36, iV 0), (39, .agg #[iV y0.d.1, iV y0.d.2, .slice y0.a y0.len y0.cap])]) (by kernel_rfl) (by kernel_rfl) (.load (H19.cell0 rfl) (.load (H19.cell 1 rfl) (.load (H19.cell 2 rfl) .nil))) ?_
  refine S.one (by kernel_rfl) (S.new 7 [iV 0, iV 0, .slice none 0 0] 60 (fun b => pT b) (by kernel_rfl) (by kernel_rfl) (fun b => by kernel_rfl) (fun b26 w26 E26 B26 e26 z26 => ?_))
  have sE26 := E26.size
  refine S.one (by kernel_rfl) (S.store 0 [iV y0.d.1, iV y0.d.2, .slice y0.a y0.len y0.cap] [iV y0.d.1, iV y0.d.2, .slice y0.a y0.len y0.cap] B26 (by kernel_rfl) (by kernel_rfl) (by kernel_rfl) (by kernel_rfl) (by kernel_rfl) (fun w27 E27 B27 z27 => ?_))
  have sE27 := E27.size
  refine S.regEnd (by kernel_rfl) (S.drawN 9 #[false, false, false, false, false, false, false, false, false] 6 (fun u u' => Ext E0 u u') (fun u u' => Xt w.heap.size [60] u u') (by kernel_rfl) (by kernel_rfl) (by kernel_rfl) (fun w28 E28 z28 => ?_))
  have sE28 := E28.size
  refine S.dreads bodyPost_panicOk [0] 8 [] [2, 4, 5, 7, 34, 35, 36, 40] (rs := []) (κ' := [(2, pT bw), (4, pT b2), (5, pT b8), (7, pT b26), (34, .slice x.a x.len x.cap), (35, iV ((x.len : Nat) : Int)), (36, iV 0), (40, .pointer (some ⟨b8, 2, none⟩))]) (l' := #[true, false, false, false, false, false, false, false, false]) (by kernel_rfl) (by kernel_rfl) (by kernel_rfl) (fun _ _ => rfl) ?_
  have B29 := B9.ext0 E12
  have B30 := B29.ext0 E26
  have B31 := B30.extS E27 (by omega)
  have B32 := B31.ext0 E28
  refine S.dreads1 bodyPost_panicOk [1] 7 [6] [.v (.slice none 0 0)] [2, 4, 5, 7, 34, 35, 36, 41] (rs := [.load ⟨b8, 2, none⟩ (.slice none 0 0)]) (κ' := [(2, pT bw), (4, pT b2), (5, pT b8), (7, pT b26), (34, .slice x.a x.len x.cap), (35, iV ((x.len : Nat) : Int)), (36, iV 0), (41, .slice none 0 0)]) (l' := #[true, true, false, false, false, false, false, false, false]) (by kernel_rfl) (by kernel_rfl) (by kernel_rfl) (by kernel_rfl) (fun w' hw => (.load ((B32.ext0 hw).cell 2 rfl) .nil)) ?_
  have B33 := hE.hf.ext0 E1
  have B34 := B33.ext0 E2
  have B35 := B34.ext0 E3
  have B36 := B35.ext0 E8
  have B37 := B36.extT E9 B8 (by decide)
  have B38 := B37.ext0 E12
  have B39 := B38.ext0 E26
  have B40 := B39.extT E27 B26 (by decide)
  have B41 := B40.ext0 E28
  refine S.dreads bodyPost_panicOk [2] 6 [.v (.func (.func 64) #[] #[pT bp, pT bw])] [2, 4, 5, 7, 34, 35, 36, 41, 42] (rs := [.load ⟨bw, 0, none⟩ (.func (.func 64) #[] #[pT bp, pT bw])]) (κ' := [(2, pT bw), (4, pT b2), (5, pT b8), (7, pT b26), (34, .slice x.a x.len x.cap), (35, iV ((x.len : Nat) : Int)), (36, iV 0), (41, .slice none 0 0), (42, .func (.func 64) #[] #[pT bp, pT bw])]) (l' := #[true, true, true, false, false, false, false, false, false]) (by kernel_rfl) (by kernel_rfl) (by kernel_rfl) (fun w' hw => hw.elim (fun hw => (.load ((B41.ext0 hw).cell 0 rfl) .nil)) (fun hw => (.load ((B41.xt hw (by decide)).cell 0 rfl) .nil))) ?_
  have B42 := B27.ext0 E28
  refine S.dreads1 bodyPost_panicOk [3] 5 [4, 5, 6] [.v (iV y0.d.1), .v (iV y0.d.2), .v (.slice y0.a y0.len y0.cap)] [2, 4, 5, 34, 35, 36, 41, 42, 43] (rs := [.load ⟨b26, 0, none⟩ (iV y0.d.1), .load ⟨b26, 1, none⟩ (iV y0.d.2), .load ⟨b26, 2, none⟩ (.slice y0.a y0.len y0.cap)]) (κ' := [(2, pT bw), (4, pT b2), (5, pT b8), (34, .slice x.a x.len x.cap), (35, iV ((x.len : Nat) : Int)), (36, iV 0), (41, .slice none 0 0), (42, .func (.func 64) #[] #[pT bp, pT bw]), (43, .agg #[iV y0.d.1, iV y0.d.2, .slice y0.a y0.len y0.cap])]) (l' := #[true, true, true, true, false, false, false, false, false]) (by kernel_rfl) (by kernel_rfl) (by kernel_rfl) (by kernel_rfl) (fun w' hw => (.load ((B42.ext0 hw).cell 0 rfl) (.load ((B42.ext0 hw).cell 1 rfl) (.load ((B42.ext0 hw).cell 2 rfl) .nil)))) ?_
  refine S.dnext (j := 4) (l' := #[true, true, true, true, true, false, false, false, false]) (by kernel_rfl) (by kernel_rfl) (sw1 (by kernel_rfl) (Ext.refl _)) ?_
  have B44 := hE.hp.ext0 E1
  have B45 := B44.ext0 E2
  have B46 := B45.ext0 E3
  have B47 := B46.ext0 E8
  have B48 := B47.extT E9 B8 (by decide)
  have B49 := B48.ext0 E12
  have B50 := B49.ext0 E26
  have B51 := B50.extT E27 B26 (by decide)
  have B52 := B51.ext0 E28
  have B53 := hE.hf.ext0 E1
  have B54 := B53.ext0 E2
  have B55 := B54.ext0 E3
  have B56 := B55.ext0 E8
  have B57 := B56.extT E9 B8 (by decide)
  have B58 := B57.ext0 E12
  have B59 := B58.ext0 E26
  have B60 := B59.extT E27 B26 (by decide)
  have B61 := B60.ext0 E28
  have T62 := hE.ok.pres (.of0 E1)
  have T63 := T62.pres (.of0 E2)
  have T64 := T63.pres (.of0 E3)
  have T65 := T64.pres (.of0 E8)
  have T66 := T65.pres (.ofS E9 (by omega))
  have T67 := T66.pres (.of0 E12)
  have T68 := T67.pres (.of0 E26)
  have T69 := T68.pres (.ofS E27 (by omega))
  have T70 := T69.pres (.of0 E28)
  have T71 := K19.pres (.of0 E26)
  have T72 := T71.pres (.ofS E27 (by omega))
  have T73 := T72.pres (.of0 E28)
  refine S.call (dst := some 44) (f := 64) (args := #[.agg #[iV y0.d.1, iV y0.d.2, .slice y0.a y0.len y0.cap], pT bp, pT bw]) (by kernel_rfl) (by kernel_rfl) ((IH n bp bw _ ⟨B52, B61, T70⟩ T73 (by omega)).mono ?_)
  rintro _ w43 ⟨E43, yk, hY43, rfl, hq43⟩
  refine After.ret (by kernel_rfl) ?_
  have sE43 := E43.size
  refine S.dnext (j := 5) (l' := #[true, true, true, true, true, true, false, false, false]) (by kernel_rfl) (by kernel_rfl) (sw1 (by kernel_rfl) E43) ?_
  refine S.new 45 [iV yk.d.1, iV yk.d.2, .slice yk.a yk.len yk.cap] 60 (fun b => .slice (some ⟨b, 0, none⟩) 1 1) (by kernel_rfl) (by kernel_rfl) (fun b => by kernel_rfl) (fun b74 w74 E74 B74 e74 z74 => ?_)
  have sE74 := E74.size
  refine S.dnext (j := 6) (l' := #[true, true, true, true, true, true, true, false, false]) (by kernel_rfl) (by kernel_rfl) (sw1 (by kernel_rfl) (E43.trans E74)) ?_
  refine S.append 46 (t := 22) (ty := 22) (e := 60) (base := w74.heap.size) (size := 3) (bytes := 40) (m := 0) (m' := 1) (c := 1) (OwnR.nil _ _ _ _) B74 (by kernel_rfl) (by kernel_rfl) (by kernel_rfl) (by kernel_rfl) (by kernel_rfl) (by kernel_rfl) (by omega) (by omega) (by omega) (fun a75 c75 w75 E75 U75 => ?_)
  have sE75 := E75.size
  refine S.dreads2 bodyPost_panicOk [7] 1 [] [2, 4, 5, 34, 35, 36, 46, 47] (rs := []) (κ' := [(2, pT bw), (4, pT b2), (5, pT b8), (34, .slice x.a x.len x.cap), (35, iV ((x.len : Nat) : Int)), (36, iV 0), (46, .slice a75 (0 + 1) c75), (47, .pointer (some ⟨b8, 2, none⟩))]) (l' := #[true, true, true, true, true, true, true, true, false]) (by kernel_rfl) (by kernel_rfl) (by kernel_rfl) (by kernel_rfl) (fun w' hw => rfl) ?_
  refine S.dnext (j := 8) (l' := #[true, true, true, true, true, true, true, true, true]) (by kernel_rfl) (by kernel_rfl) (sw2 (by kernel_rfl) (((Xt.of0 E43).trans (Xt.of0 E74)).trans (E75.mono (by omega) (by decide)))) ?_
  have B76 := B9.ext0 E12
  have B77 := B76.ext0 E26
  have B78 := B77.extS E27 (by omega)
  have B79 := B78.ext0 E28
  have B80 := B79.ext0 E43
  have B81 := B80.ext0 E74
  have B82 := B81.xtn E75 (by omega)
  refine S.store 2 [.slice a75 (0 + 1) c75] [iV x.d.1, iV x.d.2, .slice a75 (0 + 1) c75] B82 (by kernel_rfl) (by kernel_rfl) (by kernel_rfl) (by kernel_rfl) (by kernel_rfl) (fun w83 E83 B83 z83 => ?_)
  have sE83 := E83.size
  refine S.dend (by kernel_rfl) (sw2 (by kernel_rfl) ((((Xt.of0 E43).trans (Xt.of0 E74)).trans (E75.mono (by omega) (by decide))).trans (Xt.ofS E83 B82 (by decide) (by omega)))) ?_
  refine S.out (S.region (S.run 2 [] [2, 4, 5, 34, 35, 36] (rs := []) (κ' := [(2, pT bw), (4, pT b2), (5, pT b8), (34, .slice x.a x.len x.cap), (35, iV ((x.len : Nat) : Int)), (36, iV 1)]) (by kernel_rfl) (by kernel_rfl) rfl ?_))
  refine S.regEnd (by kernel_rfl) ?_
  have B84 := B2.ext0 E3
  have B85 := B84.ext0 E8
  have B86 := B85.extS E9 (by omega)
  have B87 := B86.ext0 E12
  have B88 := B87.ext0 E26
  have B89 := B88.extS E27 (by omega)
  have B90 := B89.ext0 E28
  have B91 := B90.ext0 E43
  have B92 := B91.ext0 E74
  have B93 := B92.xtn E75 (by omega)
  have B94 := B93.extS E83 (by omega)
  have U95 := U75.ofB E83 (by omega)
  have Y96 := hY43.pres (.of0 E74)
  have Y97 := Y96.pres (.ofXn E75 (by omega))
  have Y98 := Y97.ofB E83 (by omega)
  exact S.stop (fun _ hs hh hd => ⟨hs, hd, 0, [(2, pT bw), (4, pT b2), (5, pT b8), (34, .slice x.a x.len x.cap), (35, iV ((x.len : Nat) : Int)), (36, iV 1)], by omega, hh, .inr ⟨rfl, rfl, (((((((((((E1.trans E2).trans E3).trans E8).thenS E9 (by omega)).trans E12).trans E26).thenS E27 (by omega)).trans E28).trans E43).trans E74).thenX E75 (by omega)).thenS E83 (by omega), a75, c75, yk, B83, B94, (U95).weak (by omega), (Y98).weak (by omega) (by omega), hq43, by omega⟩⟩)
 ·skip
  refine S.seq (S.region (S.run 1 [] [2, 4, 5, 34, 35, 36, 37] (rs := []) (κ' := [(2, pT bw), (4, pT b2), (5, pT b8), (34, .slice x.a x.len x.cap), (35, iV ((x.len : Nat) : Int)), (36, iV 1), (37, .bool (decide ((1 : Int) < ((x.len : Nat) : Int))))]) (by kernel_rfl) (by kernel_rfl) rfl ?_))
  refine S.regEnd (by kernel_rfl) (S.seq (S.subst 37 (.bool (decide ((1 : Int) < ((x.len : Nat) : Int)))) (.bool false) (by kernel_rfl) (congrArg Value.bool (decide_eq_false (by omega))) ?_))
  refine S.no (by kernel_rfl) (S.exit rfl (S.seq (S.region (S.run 1 [.v (iV x.d.1), .v (iV x.d.2), .v (.slice ka 1 kc)] [4, 49] (rs := [.load ⟨b8, 0, none⟩ (iV x.d.1), .load ⟨b8, 1, none⟩ (iV x.d.2), .load ⟨b8, 2, none⟩ (.slice ka 1 kc)]) (κ' := [(4, pT b2), (49, .agg #[iV x.d.1, iV x.d.2, .slice ka 1 kc])]) (by kernel_rfl) (by kernel_rfl) (.load (hB5.cell 0 rfl) (.load (hB5.cell 1 rfl) (.load (hB5.cell 2 rfl) .nil))) ?_))))
  refine S.one (by kernel_rfl) (S.store 0 [iV x.d.1, iV x.d.2, .slice ka 1 kc] [iV x.d.1, iV x.d.2, .slice ka 1 kc] hB4 (by kernel_rfl) (by kernel_rfl) (by kernel_rfl) (by kernel_rfl) (by kernel_rfl) (fun w99 E99 B99 z99 => ?_))
  have sE99 := E99.size
  refine S.regEnd (by kernel_rfl) ?_
  have Y100 := hY.ofB E99 (by omega)
  have U101 := hO.ofB E99 (by omega)
  exact S.retR (A := [.v (iV x.d.1), .v (iV x.d.2), .v (.slice ka 1 kc)]) (rs := [.load ⟨b2, 0, none⟩ (iV x.d.1), .load ⟨b2, 1, none⟩ (iV x.d.2), .load ⟨b2, 2, none⟩ (.slice ka 1 kc)]) (v := .agg #[iV x.d.1, iV x.d.2, .slice ka 1 kc]) (fun _ => by kernel_rfl) (.load (B99.cell 0 rfl) (.load (B99.cell 1 rfl) (.load (B99.cell 2 rfl) .nil))) ⟨E12.thenS E99 (by omega), .mk x.d ka 1 kc [yk], (YR.one x.d ((Y100).weak (by omega) (by omega)) ((U101).weak (by omega)) (by omega)), rfl, by rw [eqX_eq]; simp [Tr.d, Tr.kids, eqX.eqL, hq]⟩

end Go.Proofs.Ytmgakpnejbembaa
