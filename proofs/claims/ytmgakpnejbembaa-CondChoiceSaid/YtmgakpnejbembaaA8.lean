/-
  CondChoice: what evaluation is asked: formed expressions, scopes and runners in memory, how a call ends.
-/
import Derived.Test.YtmgakpnejbembaaA7
namespace Go.Proofs.Ytmgakpnejbembaa
open Go Go.Proofs.Ytmgakpnejbembaa.L

/-- An expression that is formed. -/
inductive WfX (b : Int) : X → Prop
  | mk (d : Int × Int) (a : Option Addr) (len cap : Nat) (kids : List X) (h1 : (kd b d.1).isSome = true) (h2 : (len : Int) = (kn b d.1).1) (h3 : (kn b d.1).2.1 ≤ d.2) (h4 : d.2 ≤ (kn b d.1).2.2)
      (hk : ∀ y, y ∈ kids → WfX b y) : WfX b (.mk d a len cap kids)
theorem WfX.kid {b : Int} {x y : X} (h : WfX b x) (hy : y ∈ x.kids) : WfX b y := by
  cases h with
  | mk d a len cap kids h1 h2 h3 h4 hk => exact hk y hy
theorem WfX.some {b : Int} {x : X} (h : WfX b x) : (kd b x.d.1).isSome = true := by cases h; assumption
theorem WfX.len {b : Int} {x : X} (h : WfX b x) : (x.len : Int) = (kn b x.d.1).1 := by cases h; assumption
theorem WfX.lo {b : Int} {x : X} (h : WfX b x) : (kn b x.d.1).2.1 ≤ x.d.2 := by cases h; assumption
theorem WfX.hi {b : Int} {x : X} (h : WfX b x) : x.d.2 ≤ (kn b x.d.1).2.2 := by cases h; assumption

def Rg (v : Int) : Prop := -1000000000 ≤ v ∧ v ≤ 1000000000

def RunE (n₀ rb md : Nat) (p : LP) (w : World) (σ : RSt) (les : List LE) : Prop := ∃ ea ec ka kc, Run n₀ rb md p w σ ea ec les ka kc
def RunP (n₀ rb md : Nat) (p : LP) (w w' : World) (les : List LE) (σ : RSt) : Prop := Xt n₀ [56, 43] w w' ∧ ∃ new, RunE n₀ rb md p w' σ (les ++ new) ∧ ∀ e, e ∈ new → LE.ge w.heap.size e

theorem Run.std {n₀ rb md : Nat} {p : LP} {w w' : World} {σ : RSt} {ea : Option Addr} {ec : Nat} {les : List LE} {ka : Option Addr} {kc : Nat} (h : Run n₀ rb md p w σ ea ec les ka kc) (k : Std n₀ [56, 43, 3] w w') : Run n₀ rb md p w' σ ea ec les ka kc :=
  ⟨h.blk.keeps k.keeps rfl, h.own.pres fun _ => k.keeps.pres rfl, (h.evs.pres (k.keeps.pres rfl)).mono k.size, h.eq, h.pk.pres k.low.pres, h.pkb, k.maps _ _ _ h.does, h.prog.pres k.low.pres, h.rb0, Nat.le_trans h.n0 k.size, h.pkn, h.pkc⟩
theorem RunE.std {n₀ rb md : Nat} {p : LP} {w w' : World} {σ : RSt} {les : List LE} (h : RunE n₀ rb md p w σ les) (k : Std n₀ [56, 43, 3] w w') : RunE n₀ rb md p w' σ les :=
  let ⟨ea, ec, ka, kc, h⟩ := h; ⟨ea, ec, ka, kc, h.std k⟩
theorem RunP.refl {n₀ rb md : Nat} {p : LP} {w : World} {σ : RSt} {les : List LE} (h : RunE n₀ rb md p w σ les) : RunP n₀ rb md p w w les σ := ⟨Xt.refl w, [], by simpa using h, fun e he => by simp at he⟩
theorem RunP.std {n₀ rb md : Nat} {p : LP} {w w1 w2 : World} {σ : RSt} {les : List LE} (h : RunP n₀ rb md p w w1 les σ) (k : Std n₀ [56, 43, 3] w1 w2) (hX : Xt n₀ [56, 43] w w2) : RunP n₀ rb md p w w2 les σ :=
  ⟨hX, let ⟨new, h1, h2⟩ := h.2; ⟨new, h1.std k, h2⟩⟩
theorem LE.ge.mono {N M : Nat} {e : LE} (h : e.ge M) (k : N ≤ M) : e.ge N := ⟨fun g hg => Nat.le_trans k (h.1 g hg), fun g hg => Nat.le_trans k (h.2 g hg)⟩
theorem RunE.ext0 {n₀ rb md : Nat} {p : LP} {w w' : World} {σ : RSt} {les : List LE} (h : RunE n₀ rb md p w σ les) (E : Ext E0 w w') : RunE n₀ rb md p w' σ les :=
  let ⟨ea, ec, ka, kc, h⟩ := h; ⟨ea, ec, ka, kc, h.ext0 E⟩
theorem RunP.of0 {n₀ rb md : Nat} {p : LP} {w w' : World} {σ : RSt} {les : List LE} (h : RunE n₀ rb md p w σ les) (E : Ext E0 w w') : RunP n₀ rb md p w w' les σ := ⟨.of0 E, [], by simpa using h.ext0 E, fun e he => by simp at he⟩
theorem RunP.ext0 {n₀ rb md : Nat} {p : LP} {w w1 w2 : World} {σ : RSt} {les : List LE} (h : RunP n₀ rb md p w w1 les σ) (E : Ext E0 w1 w2) : RunP n₀ rb md p w w2 les σ :=
  ⟨h.1.trans (.of0 E), let ⟨new, h1, h2⟩ := h.2; ⟨new, h1.ext0 E, h2⟩⟩
theorem RunP.pre0 {n₀ rb md : Nat} {p : LP} {w w1 w2 : World} {σ : RSt} {les : List LE} (E : Ext E0 w w1) (h : RunP n₀ rb md p w1 w2 les σ) : RunP n₀ rb md p w w2 les σ :=
  ⟨(Xt.of0 E).trans h.1, let ⟨new, h1, h2⟩ := h.2; ⟨new, h1, fun e he => (h2 e he).mono E.size⟩⟩
/-- Cells of a row that lies elsewhere. -/
theorem Row.ofB {α : Type} {n m : Nat} {e : TypeId} {sz : Nat} {cs : α → List Value} {w w' : World} {a : Option Addr} {xs : List α} {b : Nat} (h : Row n e sz cs w a xs) (E : Ext (· = b) w w') (hm : ∀ g, a = some g → m ≤ g.block) (hb : b < m) : Row n e sz cs w' a xs := by
  intro i x hx
  obtain ⟨g, off, h1, h2, cs', e', fr, ht, h3, h4⟩ := h i x hx
  have := hm _ h1
  refine ⟨g, off, h1, h2, cs', e', fr, ht, ?_, h4⟩
  rw [E.block g (Array.getElem?_eq_some_iff.1 h3).1 (by intro hg; have hg : g = b := hg; simp only at this; omega)]
  exact h3
/-- A box of an integer made ahead of a call, written behind it. -/
theorem RunP.s3 {n₀ rb md : Nat} {p : LP} {w w1 w2 w3 : World} {σ σ2 : RSt} {les : List LE} {b : Nat} {cs : List Value} (hR : RunE n₀ rb md p w σ les) (E : Ext E0 w w1) (h : RunP n₀ rb md p w1 w2 les σ2) (S : Ext (· = b) w2 w3) (hB : Blk w2 b cs 3)
    (hb : w.heap.size ≤ b) (hb' : b < w1.heap.size) : RunP n₀ rb md p w w3 les σ2 := by
  obtain ⟨_, _, _, _, hr⟩ := hR
  obtain ⟨hX, new, ⟨ea, ec, ka, kc, h1⟩, h2⟩ := h
  have hX' : Xt n₀ [56, 43] w w2 := (Xt.of0 E).trans hX
  have hn0 := hr.n0
  have k : Keeps [56, 43] w2 w3 := .ofS S hB rfl
  refine ⟨hX'.ofNew S (by rintro _ rfl; exact hb), new, ⟨ea, ec, ka, kc, h1.blk.keeps k rfl, h1.own.pres fun _ => k.pres rfl, ?_, h1.eq, h1.pk.pres (.ofS S (by omega)), h1.pkb, h1.does.extB S hB rfl, h1.prog.pres (.ofS S (by omega)), h1.rb0, Nat.le_trans h1.n0 S.size, h1.pkn, h1.pkc⟩, fun e he => (h2 e he).mono E.size⟩
  intro e he
  rcases List.mem_append.1 he with he | he
  · exact (((hr.evs.pres (.ofX hX' (by decide))).pres (.ofS S hb)).mono (Nat.le_trans hX'.size S.size)) e he
  · have g := h1.evs e (List.mem_append_right _ he)
    have gg := h2 e he
    exact ⟨⟨(Row.ofB g.1.1 S gg.1 hb').mono S.size, g.1.2⟩, ⟨(Row.ofB g.2.1 S gg.2 hb').mono S.size, g.2.2⟩⟩
theorem RunP.open {n₀ rb md : Nat} {p : LP} {w w1 : World} {σ : RSt} {les : List LE} (h : RunP n₀ rb md p w w1 les σ) :
    ∃ les1, RunE n₀ rb md p w1 σ les1 ∧ ∀ w2 σ2, RunP n₀ rb md p w1 w2 les1 σ2 → RunP n₀ rb md p w w2 les σ2 := by
  obtain ⟨hX, new, h1, h2⟩ := h
  refine ⟨les ++ new, h1, fun w2 σ2 k => ⟨hX.trans k.1, ?_⟩⟩
  obtain ⟨new2, k1, k2⟩ := k.2
  refine ⟨new ++ new2, by rw [← List.append_assoc]; exact k1, fun e he => ?_⟩
  rcases List.mem_append.1 he with he | he
  · exact h2 e he
  · exact (k2 e he).mono hX.size
theorem RunE.cell4 {n₀ rb md : Nat} {p : LP} {w : World} {σ : RSt} {les : List LE} (h : RunE n₀ rb md p w σ les) : w.cell? ⟨rb, 4, none⟩ = some (.slice p.a p.xs.length p.cap) :=
  let ⟨_, _, _, _, h⟩ := h; h.blk.cell 4 rfl
theorem RunP.cell4 {n₀ rb md : Nat} {p : LP} {w w' : World} {σ : RSt} {les : List LE} (h : RunP n₀ rb md p w w' les σ) : w'.cell? ⟨rb, 4, none⟩ = some (.slice p.a p.xs.length p.cap) :=
  let ⟨_, h1, _⟩ := h.2; h1.cell4
theorem RunP.prog {n₀ rb md : Nat} {p : LP} {w w' : World} {σ : RSt} {les : List LE} (h : RunP n₀ rb md p w w' les σ) : p.ok n₀ w' :=
  let ⟨_, ⟨_, _, _, _, h1⟩, _⟩ := h.2; h1.prog
theorem RunP.n0 {n₀ rb md : Nat} {p : LP} {w w' : World} {σ : RSt} {les : List LE} (h : RunP n₀ rb md p w w' les σ) : n₀ ≤ w'.heap.size :=
  let ⟨_, ⟨_, _, _, _, h1⟩, _⟩ := h.2; h1.n0

/-- A pick is taken. -/
theorem Run.picked {n₀ rb md : Nat} {p : LP} {w w' : World} {σ : RSt} {ea : Option Addr} {ec : Nat} {les : List LE} {ka ka' : Option Addr} {kc kc' : Nat} {q : Int} {qs : List Int} (h : Run n₀ rb md p w σ ea ec les ka kc) (E : Ext (· = rb) w w') (hq : σ.picks = q :: qs)
    (hB : Blk w' rb [.int .i64 0, .int .i64 0, .slice ea les.length ec, .int .i64 ((σ.fuel : Nat) : Int), .slice p.a p.xs.length p.cap, .slice ka' qs.length kc', .map (some md)] 56)
    (hk : Row n₀ 0 1 intCs w' ka' qs) (hc : qs.length ≤ kc') : Run n₀ rb md p w' { σ with picks := qs } ea ec les ka' kc' := by
  have hb := h.pkb
  have hn := h.pkn
  rw [hq] at hb hn
  have k : Keeps [43, 3] w w' := .ofS E h.blk rfl
  exact ⟨hB, h.own.pres fun _ => k.pres rfl, (h.evs.pres (k.pres rfl)).mono E.size, h.eq, hk, by simp at hb ⊢; omega, h.does.extB E h.blk rfl, h.prog.pres (.ofS E h.rb0), h.rb0, Nat.le_trans h.n0 E.size, fun z hz => hn z (List.mem_cons_of_mem _ hz), hc⟩
/-- A scope in memory; N bounds the chains. -/
structure ScOk (b : Int) (n₀ N E : Nat) (w : World) (hand : Int) (hl : List H) (rl : List RR) (σ : RSt) : Prop where
  hc : HC n₀ w hl
  rc : RC n₀ w rl
  wf : ∀ h, h ∈ hl → WfX b h.2.2
  rg : Rg hand
  h1 : hl.length + σ.fuel ≤ N
  r1 : rl.length + σ.fuel ≤ N
  ev : σ.evs.length + 8 * σ.fuel ≤ E
theorem ScOk.keeps {b : Int} {n₀ N E : Nat} {w w' : World} {hand : Int} {hl : List H} {rl : List RR} {σ : RSt} (h : ScOk b n₀ N E w hand hl rl σ) (k : KeepsN n₀ [106, 117] w w') : ScOk b n₀ N E w' hand hl rl σ :=
  ⟨h.hc.keeps' (k.sub rfl), h.rc.keeps' (k.sub rfl), h.wf, h.rg, h.h1, h.r1, h.ev⟩
theorem ScOk.next {b : Int} {n₀ N E E' : Nat} {w : World} {hand hand' : Int} {hl : List H} {rl : List RR} {σ σ' : RSt} (h : ScOk b n₀ N E w hand hl rl σ) (hr : Rg hand') (hf : σ'.fuel ≤ σ.fuel) (he : σ'.evs.length + 8 * σ'.fuel ≤ E') : ScOk b n₀ N E' w hand' hl rl σ' :=
  ⟨h.hc, h.rc, h.wf, hr, by have := h.h1; omega, by have := h.r1; omega, he⟩
def scOf (hand : Int) (hl : List H) (rl : List RR) : Sc := ⟨hand, hl.map (·.2), rl.map (·.2)⟩
theorem ScOk.mono {b : Int} {n₀ N M E E' : Nat} {w : World} {hand : Int} {hl : List H} {rl : List RR} {σ : RSt} (h : ScOk b n₀ N E w hand hl rl σ) (k : N ≤ M) (k' : E ≤ E') : ScOk b n₀ M E' w hand hl rl σ :=
  ⟨h.hc, h.rc, h.wf, h.rg, by have := h.h1; omega, by have := h.r1; omega, by have := h.ev; omega⟩

theorem ScOk.cons {b : Int} {n₀ N E : Nat} {w : World} {hand : Int} {hl : List H} {rl : List RR} {σ : RSt} {bh : Nat} {n : Int} {y : X} (h : ScOk b n₀ N E w hand hl rl σ)
    (hB : Blk w bh [.pointer (hp hl), .int .i64 n, .int .i64 y.d.1, .int .i64 y.d.2, .slice y.a y.len y.cap] 106) (hy : XOk n₀ w y) (hw : WfX b y) : ScOk b n₀ (N + 1) E w hand ((bh, n, y) :: hl) rl σ :=
  ⟨⟨hB, hy, h.hc⟩, h.rc, fun z hz => by
    rcases List.mem_cons.1 hz with rfl | hz
    · exact hw
    · exact h.wf z hz, h.rg, by have := h.h1; simp; omega, by have := h.r1; omega, h.ev⟩
theorem RC.lt {n : Nat} {w : World} : ∀ {l : List RR}, RC n w l → ∀ c, c ∈ l → c.1 < w.heap.size
  | [], _, c, hc => by simp at hc
  | a :: r, h, c, hc => by
    rcases List.mem_cons.1 hc with rfl | hc
    · exact h.1.lt
    · exact RC.lt h.2.2 c hc
theorem ScOk.consR {b : Int} {n₀ N E : Nat} {w w' : World} {hand : Int} {hl : List H} {rl : List RR} {σ : RSt} {br : Nat} {n : Int} (h : ScOk b n₀ N E w hand hl rl σ) (h0 : ScOk b n₀ N E w' hand hl rl σ)
    (hb : w.heap.size ≤ br) (hB : Blk w' br [.pointer (rp rl), .int .i64 n] 117) : ScOk b n₀ (N + 1) E w' hand hl ((br, n) :: rl) σ :=
  ⟨h0.hc, ⟨hB, fun c hc => Nat.lt_of_lt_of_le (RC.lt h.rc c hc) hb, h0.rc⟩, h0.wf, h0.rg, by have := h.h1; omega, by have := h.r1; simp; omega, h0.ev⟩
theorem HC.tail {n : Nat} {w : World} : ∀ {p r : List H}, HC n w (p ++ r) → HC n w r
  | [], _, h => h
  | _ :: _, _, h => HC.tail h.2.2
theorem ScOk.tail {b : Int} {n₀ N E : Nat} {w : World} {hand : Int} {hl pr r : List H} {rl : List RR} {σ : RSt} (h : ScOk b n₀ N E w hand hl rl σ) (e : hl = pr ++ r) : ScOk b n₀ N E w hand r rl σ := by
  subst e
  exact ⟨HC.tail h.hc, h.rc, fun z hz => h.wf z (List.mem_append_right _ hz), h.rg, by have := h.h1; simp at this; omega, h.r1, h.ev⟩
theorem getD_eq {α : Type} {l : List α} {i : Nat} {y d : α} (h : l[i]? = some y) : l.getD i d = y := by simp [h]

def NoGo (l : List PanicEntry) : Prop := ∀ e, e ∈ l → e.goexit = false
/-- How a call ends. -/
def OutE (rl : List RR) : Out Int → Ending → Prop
  | .val v, e => e = .returned (.int .i64 v) ∧ Rg v
  | .leave d v, e => Rg v ∧ ∃ b m rest, rl.reverse[d]? = some (b, m) ∧ NoGo rest ∧ e = .panicked ({ v := .iface 123 (.agg #[.pointer (some ⟨b, 0, none⟩), .int .i64 v]), recovered := false } :: rest)
  | .stop c, e => ∃ rest, NoGo rest ∧ e = .panicked ({ v := .iface 90 (.agg #[.int .i64 c]), recovered := false } :: rest)
def Post (n₀ rb md : Nat) (p : LP) (w : World) (les : List LE) (rl : List RR) (r : Res Int) : Ending → World → Prop := fun e w' => OutE rl r.1 e ∧ RunP n₀ rb md p w w' les r.2

/-- Evaluation, with so much fuel at most. -/
def EvalC (p : LP) (k : Nat) : Prop := ∀ (n₀ rb md : Nat) (w : World) (σ : RSt) (les : List LE) (x : X) (hand : Int) (hl : List H) (rl : List RR),
  RunE n₀ rb md p w σ les → XOk n₀ w x → WfX p.xs.length x → ScOk p.xs.length n₀ 900 5000 w hand hl rl σ → σ.fuel ≤ k →
  Calls Try.prog 59 #[.pointer (some ⟨rb, 0, none⟩), .agg (xCs x).toArray, .agg #[.int .i64 hand, .pointer (hp hl), .pointer (rp rl)]] w (Post n₀ rb md p w les rl (evalS p.xs k x (scOf hand hl rl) σ))

theorem kid_eq {x y : X} {i : Nat} (h : x.kids[i]? = some y) : kid x i = y := by simp [kid, h]
theorem Fin.val {a b : Nat} {σ σ' : RSt} {α : Type} {v : α} (h : Fin a b σ ((.val v, σ') : Res α)) : σ'.evs.length + 8 * σ'.fuel + 1 ≤ σ.evs.length + 8 * σ.fuel + a ∧ σ'.fuel + b ≤ σ.fuel := h
/-- A call's end: a value, or a panic. -/
theorem outE_cases {rl : List RR} {o : Out Int} {e : Ending} (h : OutE rl o e) : (∃ v, o = .val v ∧ e = .returned (.int .i64 v) ∧ Rg v) ∨ (∃ ch, e = .panicked ch ∧ (∀ (σ : RSt) (f : Int → RSt → Res Int), bnd (o, σ) f = (o, σ)) ∧ ∀ v, o ≠ .val v) := by
  cases o with
  | val v => exact .inl ⟨v, rfl, h.1, h.2⟩
  | leave d v => obtain ⟨_, _, _, _, _, _, h⟩ := h; exact .inr ⟨_, h, fun _ _ => rfl, fun _ h => by cases h⟩
  | stop c => obtain ⟨_, _, h⟩ := h; exact .inr ⟨_, h, fun _ _ => rfl, fun _ h => by cases h⟩
theorem bnd_bnd {α β γ : Type} {r : Res α} {f : α → RSt → Res β} {g : β → RSt → Res γ} : bnd (bnd r f) g = bnd r fun v σ => bnd (f v σ) g := by
  obtain ⟨o, σ⟩ := r
  cases o <;> rfl
theorem bnd_val {α β : Type} {v : α} {σ : RSt} {f : α → RSt → Res β} : bnd ((.val v, σ) : Res α) f = f v σ := rfl
end Go.Proofs.Ytmgakpnejbembaa
