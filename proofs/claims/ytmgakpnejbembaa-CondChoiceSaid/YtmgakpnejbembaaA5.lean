/-
  CondChoice, a part of the proof (printed by a program of the prover): what functions of the given program compute, each under the conditions that its theorem names.
-/
import Derived.Test.YtmgakpnejbembaaA4
namespace Go.Proofs.Ytmgakpnejbembaa
open Go Go.Proofs.Ytmgakpnejbembaa.L

/-- A handler: its block, what it handles, its body. -/
abbrev H := Nat × Int × X
abbrev RR := Nat × Int
def hp : List H → Option Addr
  | [] => none
  | h :: _ => some ⟨h.1, 0, none⟩
def rp : List RR → Option Addr
  | [] => none
  | h :: _ => some ⟨h.1, 0, none⟩
def HC (n : Nat) (w : World) : List H → Prop
  | [] => True
  | h :: r => Blk w h.1 [.pointer (hp r), .int .i64 h.2.1, .int .i64 h.2.2.d.1, .int .i64 h.2.2.d.2, .slice h.2.2.a h.2.2.len h.2.2.cap] 106 ∧ XOk n w h.2.2 ∧ HC n w r
def RC (n : Nat) (w : World) : List RR → Prop
  | [] => True
  | h :: r => Blk w h.1 [.pointer (rp r), .int .i64 h.2] 117 ∧ (∀ c, c ∈ r → c.1 < h.1) ∧ RC n w r
theorem HC.keeps {n : Nat} {w w' : World} (k : KeepsN n [106] w w') : ∀ {l : List H}, HC n w l → HC n w' l
  | [], _ => trivial
  | _ :: _, h => ⟨h.1.keeps k.keeps rfl, h.2.1.pres k.low.pres, HC.keeps k h.2.2⟩
theorem RC.keeps {n : Nat} {w w' : World} (k : KeepsN n [117] w w') : ∀ {l : List RR}, RC n w l → RC n w' l
  | [], _ => trivial
  | _ :: _, h => ⟨h.1.keeps k.keeps rfl, h.2.1, RC.keeps k h.2.2⟩
theorem HC.keeps' {n : Nat} {w w' : World} {l : List H} (h : HC n w l) (k : KeepsN n [106] w w') : HC n w' l := HC.keeps k h
theorem RC.keeps' {n : Nat} {w w' : World} {l : List RR} (h : RC n w l) (k : KeepsN n [117] w w') : RC n w' l := RC.keeps k h

def hStep (n bx : Nat) (J : List H → World → Prop) (R : Ending → World → Prop) (h : H) (r : List H) : Ending → World → Prop
  | .returned v, w => (v = .bool true ∧ J r w ∧ HC n w (h :: r) ∧ Blk w bx [.pointer (some ⟨h.1, 0, none⟩)] 91) ∨ (v = .bool false ∧ R (.returned (.tuple #[])) w)
  | .panicked ch, w => R (.panicked ch) w
  | .outgrown, _ => False
/-- Without a panic. -/
def hStep0 (n bx : Nat) (J : List H → World → Prop) (R : Ending → World → Prop) (h : H) (r : List H) : Ending → World → Prop
  | .returned v, w => (v = .bool true ∧ J r w ∧ HC n w (h :: r) ∧ Blk w bx [.pointer (some ⟨h.1, 0, none⟩)] 91) ∨ (v = .bool false ∧ R (.returned (.tuple #[])) w)
  | _, _ => False
theorem hStep0_le {n bx : Nat} {J : List H → World → Prop} {R : Ending → World → Prop} {h : H} {r : List H} {s : Sem Next} {w : World} (hc : CallsV Try.prog s w (hStep0 n bx J R h r)) : CallsV Try.prog s w (hStep n bx J R h r) :=
  hc.mono fun e w he => by cases e <;> first | exact he | exact he.elim

def rStep (n bx : Nat) (J : List RR → World → Prop) (R : Ending → World → Prop) (h : RR) (r : List RR) : Ending → World → Prop
  | .returned v, w => (v = .bool true ∧ J r w ∧ RC n w (h :: r) ∧ Blk w bx [.pointer (some ⟨h.1, 0, none⟩)] 92) ∨ (v = .bool false ∧ R (.returned (.tuple #[])) w)
  | .panicked ch, w => R (.panicked ch) w
  | .outgrown, _ => False
/-- Without a panic. -/
def rStep0 (n bx : Nat) (J : List RR → World → Prop) (R : Ending → World → Prop) (h : RR) (r : List RR) : Ending → World → Prop
  | .returned v, w => (v = .bool true ∧ J r w ∧ RC n w (h :: r) ∧ Blk w bx [.pointer (some ⟨h.1, 0, none⟩)] 92) ∨ (v = .bool false ∧ R (.returned (.tuple #[])) w)
  | _, _ => False
theorem rStep0_le {n bx : Nat} {J : List RR → World → Prop} {R : Ending → World → Prop} {h : RR} {r : List RR} {s : Sem Next} {w : World} (hc : CallsV Try.prog s w (rStep0 n bx J R h r)) : CallsV Try.prog s w (rStep n bx J R h r) :=
  hc.mono fun e w he => by cases e <;> first | exact he | exact he.elim

theorem handlers_iter (n bx : Nat) (y : Value) (J : List H → World → Prop) (R : Ending → World → Prop) (hl : List H) (w : World) (hB : Blk w bx [.pointer (hp hl)] 91) (hC : HC n w hl) (hnb : n ≤ bx) (hJ : J hl w)
    (hadv : ∀ r w' w'' cs, J r w' → Blk w' bx cs 91 → Ext (· = bx) w' w'' → J r w'')
    (hstep : ∀ h r w', J (h :: r) w' → HC n w' (h :: r) → Blk w' bx [.pointer (some ⟨h.1, 0, none⟩)] 91 → CallsV Try.prog (callSem y #[.pointer (some ⟨h.1, 0, none⟩)]) w' (hStep n bx J R h r))
    (hend : ∀ w', J [] w' → HC n w' [] → R (.returned (.tuple #[])) w') :
    Calls Try.prog 100 #[y, pT bx] w R := by
 refine calls_of_S (n := 14) Try.func100 rfl rfl (by kernel_rfl) ?_
 refine S.block (S.weaken (ks := [0, 1]) (S.loop (fun m κ wj => ∃ r : List H, m = r.length ∧ κ = [(0, y), (1, .pointer (some ⟨bx, 0, none⟩))] ∧ J r wj ∧ HC n wj r ∧ Blk wj bx [.pointer (hp r)] 91) ⟨hl, rfl, by kernel_rfl, hJ, hC, hB⟩ ?_))
 rintro _ _ w1 ⟨r, rfl, rfl, hJ1, hC1, hB1⟩
 rcases r with _ | ⟨h, r⟩
 ·skip
  refine S.seq (S.seq (S.region (S.run 7 [.v (.pointer none)] [0, 1, 9] (rs := [.load ⟨bx, 0, none⟩ (.pointer none)]) (κ' := [(0, y), (1, pT bx), (9, .bool false)]) (by kernel_rfl) (by kernel_rfl) (.load (hB1.cell 0 rfl) .nil) ?_)))
  exact S.regEnd (by kernel_rfl) (S.no (by kernel_rfl) (S.exit rfl (S.fin0 rfl (hend _ hJ1 hC1))))
 ·skip
  refine S.seq (S.seq (S.region (S.run 5 [.v (pT h.1), .v (pT h.1)] [0, 1, 5, 6, 7] (rs := [.load ⟨bx, 0, none⟩ (pT h.1), .load ⟨bx, 0, none⟩ (pT h.1)]) (κ' := [(0, y), (1, pT bx), (5, .bool true), (6, y), (7, pT h.1)]) (by kernel_rfl) (by kernel_rfl) (.load (hB1.cell 0 rfl) (.load (hB1.cell 0 rfl) .nil)) ?_)))
  refine S.one (by kernel_rfl) (S.callF (dst := some 8) (y := y) (args := #[pT h.1]) (by kernel_rfl) (by kernel_rfl) ((hstep h r w1 hJ1 hC1 hB1).mono ?_))
  intro e w2 he
  cases e with
  | panicked ch => exact fun _ _ _ hd => ⟨hd, he⟩
  | outgrown => exact he.elim
  | returned v =>
   rcases he with ⟨rfl, hJ2, hC2, hB2⟩ | ⟨rfl, hR⟩
   ·skip
    refine After.ret (by kernel_rfl) ?_
    refine S.run 1 [] [0, 1, 9] (rs := []) (κ' := [(0, y), (1, pT bx), (9, .bool true)]) (by kernel_rfl) (by kernel_rfl) rfl ?_
    refine S.regEnd (by kernel_rfl) (S.yes (by kernel_rfl) (S.skip (S.seq (S.block (S.skip (S.out (S.region (S.run 4 [.v (pT h.1), .v (.pointer (hp r))] [0, 1, 13] (rs := [.load ⟨bx, 0, none⟩ (pT h.1), .load ⟨h.1, 0, none⟩ (.pointer (hp r))]) (κ' := [(0, y), (1, pT bx), (13, .pointer (hp r))]) (by kernel_rfl) (by kernel_rfl) (.load (hB2.cell 0 rfl) (.load (hC2.1.cell 0 rfl) .nil)) ?_))))))))
    refine S.one (by kernel_rfl) (S.store 0 [.pointer (hp r)] [.pointer (hp r)] hB2 (by kernel_rfl) (by kernel_rfl) (by kernel_rfl) (by kernel_rfl) (by kernel_rfl) (fun w1 E1 B1 z1 => ?_))
    have sE1 := E1.size
    have E3 := E1
    have B3 := B1
    exact S.regEnd (by kernel_rfl) (S.stop (fun _ hs hh hd => ⟨hs, hd, r.length, [(0, y), (1, .pointer (some ⟨bx, 0, none⟩))], by simp, hh.keep [0, 1], r, rfl, rfl, hadv _ _ _ _ hJ2 hB2 E3, hC2.2.2.keeps' (.ofS E3 hB2 (by decide) hnb), B3⟩))
   ·skip
    refine After.ret (by kernel_rfl) ?_
    refine S.run 1 [] [0, 1, 9] (rs := []) (κ' := [(0, y), (1, pT bx), (9, .bool false)]) (by kernel_rfl) (by kernel_rfl) rfl ?_
    exact S.regEnd (by kernel_rfl) (S.no (by kernel_rfl) (S.exit rfl (S.fin0 rfl hR)))

theorem restarts_iter (n bx : Nat) (y : Value) (J : List RR → World → Prop) (R : Ending → World → Prop) (hl : List RR) (w : World) (hB : Blk w bx [.pointer (rp hl)] 92) (hC : RC n w hl) (hnb : n ≤ bx) (hJ : J hl w)
    (hadv : ∀ r w' w'' cs, J r w' → Blk w' bx cs 92 → Ext (· = bx) w' w'' → J r w'')
    (hstep : ∀ h r w', J (h :: r) w' → RC n w' (h :: r) → Blk w' bx [.pointer (some ⟨h.1, 0, none⟩)] 92 → CallsV Try.prog (callSem y #[.pointer (some ⟨h.1, 0, none⟩)]) w' (rStep n bx J R h r))
    (hend : ∀ w', J [] w' → RC n w' [] → R (.returned (.tuple #[])) w') :
    Calls Try.prog 91 #[y, pT bx] w R := by
 refine calls_of_S (n := 14) Try.func91 rfl rfl (by kernel_rfl) ?_
 refine S.block (S.weaken (ks := [0, 1]) (S.loop (fun m κ wj => ∃ r : List RR, m = r.length ∧ κ = [(0, y), (1, .pointer (some ⟨bx, 0, none⟩))] ∧ J r wj ∧ RC n wj r ∧ Blk wj bx [.pointer (rp r)] 92) ⟨hl, rfl, by kernel_rfl, hJ, hC, hB⟩ ?_))
 rintro _ _ w1 ⟨r, rfl, rfl, hJ1, hC1, hB1⟩
 rcases r with _ | ⟨h, r⟩
 ·skip
  refine S.seq (S.seq (S.region (S.run 7 [.v (.pointer none)] [0, 1, 9] (rs := [.load ⟨bx, 0, none⟩ (.pointer none)]) (κ' := [(0, y), (1, pT bx), (9, .bool false)]) (by kernel_rfl) (by kernel_rfl) (.load (hB1.cell 0 rfl) .nil) ?_)))
  exact S.regEnd (by kernel_rfl) (S.no (by kernel_rfl) (S.exit rfl (S.fin0 rfl (hend _ hJ1 hC1))))
 ·skip
  refine S.seq (S.seq (S.region (S.run 5 [.v (pT h.1), .v (pT h.1)] [0, 1, 5, 6, 7] (rs := [.load ⟨bx, 0, none⟩ (pT h.1), .load ⟨bx, 0, none⟩ (pT h.1)]) (κ' := [(0, y), (1, pT bx), (5, .bool true), (6, y), (7, pT h.1)]) (by kernel_rfl) (by kernel_rfl) (.load (hB1.cell 0 rfl) (.load (hB1.cell 0 rfl) .nil)) ?_)))
  refine S.one (by kernel_rfl) (S.callF (dst := some 8) (y := y) (args := #[pT h.1]) (by kernel_rfl) (by kernel_rfl) ((hstep h r w1 hJ1 hC1 hB1).mono ?_))
  intro e w2 he
  cases e with
  | panicked ch => exact fun _ _ _ hd => ⟨hd, he⟩
  | outgrown => exact he.elim
  | returned v =>
   rcases he with ⟨rfl, hJ2, hC2, hB2⟩ | ⟨rfl, hR⟩
   ·skip
    refine After.ret (by kernel_rfl) ?_
    refine S.run 1 [] [0, 1, 9] (rs := []) (κ' := [(0, y), (1, pT bx), (9, .bool true)]) (by kernel_rfl) (by kernel_rfl) rfl ?_
    refine S.regEnd (by kernel_rfl) (S.yes (by kernel_rfl) (S.skip (S.seq (S.block (S.skip (S.out (S.region (S.run 4 [.v (pT h.1), .v (.pointer (rp r))] [0, 1, 13] (rs := [.load ⟨bx, 0, none⟩ (pT h.1), .load ⟨h.1, 0, none⟩ (.pointer (rp r))]) (κ' := [(0, y), (1, pT bx), (13, .pointer (rp r))]) (by kernel_rfl) (by kernel_rfl) (.load (hB2.cell 0 rfl) (.load (hC2.1.cell 0 rfl) .nil)) ?_))))))))
    refine S.one (by kernel_rfl) (S.store 0 [.pointer (rp r)] [.pointer (rp r)] hB2 (by kernel_rfl) (by kernel_rfl) (by kernel_rfl) (by kernel_rfl) (by kernel_rfl) (fun w1 E1 B1 z1 => ?_))
    have sE1 := E1.size
    have E3 := E1
    have B3 := B1
    exact S.regEnd (by kernel_rfl) (S.stop (fun _ hs hh hd => ⟨hs, hd, r.length, [(0, y), (1, .pointer (some ⟨bx, 0, none⟩))], by simp, hh.keep [0, 1], r, rfl, rfl, hadv _ _ _ _ hJ2 hB2 E3, hC2.2.2.keeps' (.ofS E3 hB2 (by decide) hnb), B3⟩))
   ·skip
    refine After.ret (by kernel_rfl) ?_
    refine S.run 1 [] [0, 1, 9] (rs := []) (κ' := [(0, y), (1, pT bx), (9, .bool false)]) (by kernel_rfl) (by kernel_rfl) rfl ?_
    exact S.regEnd (by kernel_rfl) (S.no (by kernel_rfl) (S.exit rfl (S.fin0 rfl hR)))

theorem handlers_spec (hl : List H) (w : World) :
    Calls Try.prog 89 #[.pointer (hp hl)] w (fun e w' => Ext E0 w w' ∧ ∃ bx, bx = w.heap.size ∧ w'.heap.size = bx + 1 ∧ Blk w' bx [.pointer (hp hl)] 91 ∧ e = .returned (.func (.func 100) #[] #[.pointer (some ⟨bx, 0, none⟩)])) := by
 refine calls_of_S (n := 4) Try.func89 rfl rfl (by kernel_rfl) ?_
 refine S.seq (S.region (S.one (by kernel_rfl) (S.new 1 [.pointer (hp hl)] 91 (fun b => pT b) (by kernel_rfl) (by kernel_rfl) (fun b => by kernel_rfl) (fun b1 w1 E1 B1 e1 z1 => ?_))))
 have sE1 := E1.size
 refine S.run 1 [] [1] (rs := []) (κ' := [(1, pT b1)]) (by kernel_rfl) (by kernel_rfl) rfl ?_
 refine S.regEnd (by kernel_rfl) (S.seq (S.region (S.run 2 [] [2] (rs := []) (κ' := [(2, .func (.func 100) #[] #[pT b1])]) (by kernel_rfl) (by kernel_rfl) rfl ?_)))
 exact S.regEnd (by kernel_rfl) (S.ret1 (v := .func (.func 100) #[] #[pT b1]) rfl (by kernel_rfl) ⟨E1, b1, e1, by omega, B1, rfl⟩)

theorem restarts_spec (hl : List RR) (w : World) :
    Calls Try.prog 73 #[.pointer (rp hl)] w (fun e w' => Ext E0 w w' ∧ ∃ bx, bx = w.heap.size ∧ w'.heap.size = bx + 1 ∧ Blk w' bx [.pointer (rp hl)] 92 ∧ e = .returned (.func (.func 91) #[] #[.pointer (some ⟨bx, 0, none⟩)])) := by
 refine calls_of_S (n := 4) Try.func73 rfl rfl (by kernel_rfl) ?_
 refine S.seq (S.region (S.one (by kernel_rfl) (S.new 1 [.pointer (rp hl)] 92 (fun b => pT b) (by kernel_rfl) (by kernel_rfl) (fun b => by kernel_rfl) (fun b1 w1 E1 B1 e1 z1 => ?_))))
 have sE1 := E1.size
 refine S.run 1 [] [1] (rs := []) (κ' := [(1, pT b1)]) (by kernel_rfl) (by kernel_rfl) rfl ?_
 refine S.regEnd (by kernel_rfl) (S.seq (S.region (S.run 2 [] [2] (rs := []) (κ' := [(2, .func (.func 91) #[] #[pT b1])]) (by kernel_rfl) (by kernel_rfl) rfl ?_)))
 exact S.regEnd (by kernel_rfl) (S.ret1 (v := .func (.func 91) #[] #[pT b1]) rfl (by kernel_rfl) ⟨E1, b1, e1, by omega, B1, rfl⟩)

end Go.Proofs.Ytmgakpnejbembaa
