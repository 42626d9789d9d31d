/- The parser is total: the induction on the fuel. The parser is total: the commands, one by one. The parser is total: nodes; the induction. Walks: tree.leaf. Walks: tree.Right. Walks: tree.Right, scope.may. The parser, on any tokens: the tree that it makes. -/
import Derived.Test.YtkicpjjfeekopaaGreatDoorKa05
import Derived.Test.YtkicpjjfeekopaaGreatDoorKa00
import Derived.Test.YtkicpjjfeekopaaGreatDoorKp00
import Derived.Deep.RegionHeld3
import Derived.StillTailTactics
import Derived.Deep.LoopGhost
import Derived.Deep.DeepCutAuto
import Derived.Laws.EntriesVeiled
set_option linter.unusedVariables false
set_option linter.unusedSimpArgs false
set_option linter.unusedSectionVars false
namespace Go.Proofs.YtkicpjjfeekopaaGreatDoor
/-- What the induction stands over. -/
structure Ok (toks : List Tok) : Prop where
  good : ∀ t ∈ toks, goodTok t
  len : toks.length ≤ 16384
  sum : preW toks toks.length ≤ 1099511627776
  mono : ∀ a, a ≤ toks.length → preW toks a ≤ preW toks toks.length
def MT (toks : List Tok) (f : Nat) (c : MC) (rank room : Nat) (β : Nat → Int) (pre : Nat → Prop) : Prop :=
  ∀ s : St, Room toks room s → pre (kindM toks s.1) → 30 * (toks.length - s.1) + rank ≤ f → ∃ s', runM toks f c s = some s' ∧ Eff toks (β (kindM toks s.1)) s s'
def NT (toks : List Tok) (f : Nat) (c : NC) (rank : Nat) (β : Int) (pre : Nat → Prop) : Prop :=
  ∀ a : Nat, a ≤ toks.length → pre (kindM toks a) → 30 * (toks.length - a) + rank ≤ f → ∃ r, runN toks f c a = some r ∧ EffN toks β a r
/-- The same, where the token at hand is the next one. -/
def NS (toks : List Tok) (f : Nat) (c : NC) (rank : Nat) (β : Int) (pre : Nat → Prop) : Prop :=
  ∀ a : Nat, a ≤ toks.length → pre (kindM toks a) → next toks a = a → 30 * (toks.length - a) + rank ≤ f → ∃ r, runN toks f c a = some r ∧ EffN toks β a r
theorem NT.ns {toks : List Tok} {f : Nat} {c : NC} {rank : Nat} {β : Int} {pre : Nat → Prop} (h : NT toks f c rank β pre) : NS toks f c rank β pre := fun a h1 h2 _ h3 => h a h1 h2 h3
/-- A block's body. -/
def BT (toks : List Tok) (f : Nat) (rank : Nat) : Prop :=
  ∀ a : Nat, a ≤ toks.length → kindM toks a = 22 → next toks a = a → 30 * (toks.length - a) + rank ≤ f → ∃ s', runM toks f .blockB (a, []) = some s' ∧ Eff toks (-11) (a, []) s' ∧ headK s'.2 = true
def LT (toks : List Tok) (f : Nat) (c : Tree → NC) (rank : Nat) : Prop :=
  ∀ (a0 a : Nat) (left : Tree), EffN toks (-9) a0 (a, left) → 30 * (toks.length - a) + rank ≤ f → ∃ r, runN toks f (c left) a = some r ∧ EffN toks (-9) a0 r
def FT (toks : List Tok) (f : Nat) (c : Tree → MC) (rank : Nat) (pre : Nat → Prop) : Prop :=
  ∀ (a0 a : Nat) (left : Tree), EffN toks (-9) a0 (a, left) → pre (kindM toks a) → 30 * (toks.length - a) + rank ≤ f → ∃ s', runM toks f (c left) (a, []) = some s' ∧ Eff toks (-17) (a0, []) s' ∧ a < s'.1
structure TotH (toks : List Tok) (f : Nat) : Prop where
  inner : MT toks f .inner 19 5 (fun _ => -6) (· ≠ 0)
  letB : MT toks f .letB 1 20 (fun _ => -7) (· ≠ 0)
  fnB : MT toks f .fnB 1 20 (fun _ => -7) (· ≠ 0)
  params : MT toks f .params 2 20 (fun _ => 2) (fun _ => True)
  paramsLoop : MT toks f .paramsLoop 1 5 (fun _ => 0) (fun _ => True)
  branch : MT toks f .branch 1 20 (fun _ => -7) (· ≠ 0)
  loopB : MT toks f .loopB 1 20 (fun _ => -7) (· ≠ 0)
  back : MT toks f .back 1 20 (fun _ => -7) (· ≠ 0)
  doB : MT toks f .doB 16 20 (fun _ => -7) (fun k => beginsK k = true)
  block : MT toks f .block 3 5 (fun k => if k = 22 then -10 else 1) (fun _ => True)
  blockB : BT toks f 1
  blockLoop : MT toks f .blockLoop 20 5 (fun _ => 0) (fun _ => True)
  expression : MT toks f .expression 15 5 (fun k => if beginsK k = true then -8 else 1) (fun _ => True)
  exprB : MT toks f .exprB 13 20 (fun _ => -9) (fun k => beginsK k = true)
  args : MT toks f .args 1 20 (fun _ => -10) (· ≠ 0)
  argsLoop : MT toks f .argsLoop 1 5 (fun _ => 0) (fun _ => True)
  fileB : MT toks f .fileB 21 20 (fun _ => 0) (fun _ => True)
  fileLoop : MT toks f .fileLoop 20 5 (fun _ => 0) (fun _ => True)
  wrongB : MT toks f .wrongB 1 20 (fun _ => -12) (· ≠ 0)
  unaryB : MT toks f .unaryB 1 20 (fun _ => -11) (· ≠ 0)
  groupB : MT toks f .groupB 1 20 (fun _ => -10) (· ≠ 0)
  nextB : MT toks f .nextB 1 20 (fun _ => -12) (· ≠ 0)
  binB : ∀ n, n ≤ 5 → FT toks f (.binB n) 1 (· ≠ 0)
  callB : FT toks f .callB 3 (· ≠ 0)
  statement : NS toks f .statement 18 (-6) (fun k => stmtOf k ≠ 0)
  level : ∀ n, 1 ≤ n → n ≤ 6 → NT toks f (.level n) (13 - n) (-9) (fun k => beginsK k = true)
  levelLoop : ∀ n, 1 ≤ n → n ≤ 5 → LT toks f (.levelLoop n) 3
  unary : NT toks f .unary 6 (-9) (fun k => beginsK k = true)
  callLoop : LT toks f .callLoop 5
  primary : NT toks f .primary 3 (-9) (· ≠ 0)
theorem make_tot {toks : List Tok} (K : Ok toks) {f kind rank : Nat} {body : MC} {β : Int} {pre : Nat → Prop} (hk : 52 < kind ∧ kind ≤ 68) (hb : β ≤ 5) (h : ∀ g, g < f → MT toks g body rank 20 (fun _ => β) pre) :
    NT toks f (.make kind body) (rank + 1) (β + 1) pre := by
  intro a ha hp hf
  obtain ⟨g, rfl⟩ : ∃ g, f = g + 1 := ⟨f - 1, by omega⟩
  have hl := K.len
  obtain ⟨s', h1, h2⟩ := h g (by omega) (a, []) ⟨ha, by simp only [List.length_nil]; omega⟩ hp (by simp only; omega)
  have hlen := h2.len
  have hle := h2.le
  simp only [List.length_nil] at hlen
  obtain ⟨r, h3, h4⟩ := sum_eff (kind := kind) (by omega) K.len K.sum K.mono h2 (by omega) (by omega)
  exact ⟨r, by simp only [runN, bodyN]; rw [h1]; exact h3, h4⟩
theorem make52_tot {toks : List Tok} (K : Ok toks) {f : Nat} (h : ∀ g, g < f → BT toks g 1) : NS toks f (.make 52 .blockB) 2 (-10) (· = 22) := by
  intro a ha hp hn hf
  obtain ⟨g, rfl⟩ : ∃ g, f = g + 1 := ⟨f - 1, by omega⟩
  have hl := K.len
  obtain ⟨s', h1, h2, h5⟩ := h g (by omega) a ha hp hn (by omega)
  have hlen := h2.len
  have hle := h2.le
  simp only [List.length_nil] at hlen
  obtain ⟨r, h3, h4⟩ := sum_eff (kind := 52) (by omega) K.len K.sum K.mono h2 (by omega) (fun _ => h5)
  exact ⟨r, by simp only [runN, bodyN]; rw [h1]; exact h3, h4⟩
theorem kindM_next {toks : List Tok} {a : Nat} (h : a ≤ toks.length) : kindM toks (next toks a) = kindM toks a := by
  unfold kindM; rw [next_next _ _ h]
/-- Gap, then a part. -/
theorem put_tot {toks : List Tok} (K : Ok toks) {f rank : Nat} {c : NC} {β : Int} {pre : Nat → Prop} (h : NS toks f c rank β pre) (s : St) (hr : Room toks 1 s) (hp : pre (kindM toks s.1)) (hf : 30 * (toks.length - s.1) + rank ≤ f) :
    ∃ s', putM toks (runN toks f) c s = some s' ∧ Eff toks β s s' := by
  obtain ⟨s1, g1, g2, g3⟩ := gapE K.good s hr
  have hge := g2.ge
  obtain ⟨r, n1, n2⟩ := h s1.1 g2.le (by rw [g3, kindM_next hr.1]; exact hp) (by rw [g3, next_next _ _ hr.1]) (by omega)
  have hr1 := hr.eff (m := 1) g2 (by omega)
  obtain ⟨s2, a1, a2⟩ := n2.add (by have := hr1.2; omega)
  refine ⟨s2, ?_, by have := g2.trans a2; rwa [Int.zero_add] at this⟩
  unfold putM
  rw [g1]
  simp only [Option.bind_some]
  rw [n1]
  exact a1
theorem node_tot {toks : List Tok} {f rank : Nat} {c : NC} {β : Int} {pre : Nat → Prop} (h : NT toks f c rank β pre) (s : St) (hr : Room toks 1 s) (hp : pre (kindM toks s.1)) (hf : 30 * (toks.length - s.1) + rank ≤ f) :
    ∃ s', nodeM (runN toks f) c s = some s' ∧ Eff toks β s s' := by
  obtain ⟨r, n1, n2⟩ := h s.1 hr.1 hp hf
  obtain ⟨s2, a1, a2⟩ := n2.add (by have := hr.2; omega)
  refine ⟨s2, ?_, a2⟩
  unfold nodeM
  rw [n1]
  exact a1
theorem operand_tot {toks : List Tok} (K : Ok toks) {f rank : Nat} {c : NC} {β : Int} (hb : β ≤ 1) (h : NT toks f c rank β (fun k => beginsK k = true)) (s : St) (hr : Room toks 1 s) (hf : 30 * (toks.length - s.1) + rank ≤ f) :
    ∃ s', operandM toks (runN toks f) c s = some s' ∧ Eff toks 1 s s' := by
  unfold operandM
  by_cases hk : beginsK (kindM toks s.1) = true
  · rw [if_pos hk]
    exact Eff.weak (put_tot K h.ns s hr hk hf) hb
  · rw [if_neg hk]
    exact Eff.miss 60 hr.1 (by have := hr.2; omega) (by decide)
theorem cntT_pos (t : Tree) : 1 ≤ cntT t := by cases t; simp [cntT]
theorem EffN.pos {toks : List Tok} {β : Int} {a : Nat} {r : Nat × Tree} (h : EffN toks β a r) (hb : β ≤ 0) : a < r.1 := by
  have := h.cnt
  have := cntT_pos r.2
  have := h.ge
  omega
theorem EffN.mono {toks : List Tok} {β β' : Int} {a : Nat} {r : Nat × Tree} (h : EffN toks β a r) (hb : β ≤ β') : EffN toks β' a r :=
  ⟨h.ge, h.le, h.good, h.kind, by have := h.cnt; omega, h.sum, h.lv, h.blk⟩
end Go.Proofs.YtkicpjjfeekopaaGreatDoor

namespace Go.Proofs.YtkicpjjfeekopaaGreatDoor
variable {toks : List Tok} (K : Ok toks) {f : Nat} (ih : ∀ g, g ≤ f → TotH toks g)
include K ih
theorem exprE (s : St) (hr : Room toks 5 s) (hf : 30 * (toks.length - s.1) + 15 ≤ f) : ∃ s', runM toks f .expression s = some s' ∧ Eff toks 1 s s' :=
  Eff.weak ((ih f (by omega)).expression s hr trivial hf) (by dsimp only; split <;> omega)
theorem blockE (s : St) (hr : Room toks 5 s) (hf : 30 * (toks.length - s.1) + 3 ≤ f) : ∃ s', runM toks f .block s = some s' ∧ Eff toks 1 s s' :=
  Eff.weak ((ih f (by omega)).block s hr trivial hf) (by dsimp only; split <;> omega)
theorem c_inner : MT toks (f + 1) .inner 19 5 (fun _ => -6) (· ≠ 0) := by
  intro s hr hp hf
  have hr1 : Room toks 1 s := ⟨hr.1, by have := hr.2; omega⟩
  simp only [runM, bodyM]
  by_cases hs : stmtOf (kindM toks s.1) ≠ 0
  · rw [if_pos hs]
    exact put_tot K (ih f (by omega)).statement s hr1 hs (by omega)
  · rw [if_neg hs]
    obtain ⟨s1, g1, g2, g3⟩ := gapE K.good s hr1
    have hge := g2.ge
    have hle0 := hr.1
    rw [g1]
    simp only [Option.bind_some]
    have hm := make_tot K (f := f) (kind := 68) (by omega) (by omega) (fun g hg => (ih g (by omega)).wrongB)
    obtain ⟨s2, n1, n2⟩ := node_tot hm s1 (hr.eff g2 (by omega)) (by rw [g3, kindM_next hr.1]; exact hp) (by omega)
    exact ⟨s2, n1, (g2.trans n2).mono (by omega)⟩
theorem c_letB : MT toks (f + 1) .letB 1 20 (fun _ => -7) (· ≠ 0) := by
  intro s hr hp hf
  simp only [runM, bodyM]
  refine Eff.weak (β := -12 + (1 + (1 + (1 + 1)))) ?_ (by omega)
  refine Eff.bind (nextE K.good s ⟨hr.1, by have := hr.2; omega⟩ hp) fun s1 e1 => ?_
  have r1 := hr.eff (m := 20) e1 (by omega)
  have p1 := e1.pos (by omega)
  have l1 := e1.le
  refine Eff.bind (want_eff K.good 6 (by decide) s1 ⟨r1.1, by have := r1.2; omega⟩) fun s2 e2 => ?_
  have r2 := r1.eff (m := 19) e2 (by omega)
  have p2 := e2.ge
  have l2 := e2.le
  refine Eff.bind (want_eff K.good 26 (by decide) s2 ⟨r2.1, by have := r2.2; omega⟩) fun s3 e3 => ?_
  have r3 := r2.eff (m := 18) e3 (by omega)
  have p3 := e3.ge
  have l3 := e3.le
  refine Eff.bind (exprE K ih s3 ⟨r3.1, by have := r3.2; omega⟩ (by omega)) fun s4 e4 => ?_
  have r4 := r3.eff (m := 17) e4 (by omega)
  exact want_eff K.good 25 (by decide) s4 ⟨r4.1, by have := r4.2; omega⟩
theorem c_fnB : MT toks (f + 1) .fnB 1 20 (fun _ => -7) (· ≠ 0) := by
  intro s hr hp hf
  simp only [runM, bodyM]
  refine Eff.weak (β := -12 + (1 + (0 + (3 + 1)))) ?_ (by omega)
  refine Eff.bind (nextE K.good s ⟨hr.1, by have := hr.2; omega⟩ hp) fun s1 e1 => ?_
  have r1 := hr.eff (m := 20) e1 (by omega)
  have p1 := e1.pos (by omega)
  have l1 := e1.le
  refine Eff.bind (want_eff K.good 6 (by decide) s1 ⟨r1.1, by have := r1.2; omega⟩) fun s2 e2 => ?_
  have r2 := r1.eff (m := 19) e2 (by omega)
  have p2 := e2.ge
  have l2 := e2.le
  refine Eff.bind (β := 0) (by obtain ⟨s3, g1, g2, _⟩ := gapE K.good s2 ⟨r2.1, by have := r2.2; omega⟩; exact ⟨s3, g1, g2⟩) fun s3 e3 => ?_
  have r3 := r2.eff (m := 19) e3 (by omega)
  have p3 := e3.ge
  have l3 := e3.le
  have hm := make_tot K (f := f) (kind := 55) (by omega) (by omega) (fun g hg => (ih g (by omega)).params)
  refine Eff.bind (node_tot hm s3 ⟨r3.1, by have := r3.2; omega⟩ trivial (by omega)) fun s4 e4 => ?_
  have r4 := r3.eff (m := 16) e4 (by omega)
  have p4 := e4.ge
  have l4 := e4.le
  exact blockE K ih s4 ⟨r4.1, by have := r4.2; omega⟩ (by omega)
theorem c_params : MT toks (f + 1) .params 2 20 (fun _ => 2) (fun _ => True) := by
  intro s hr hp hf
  simp only [runM, bodyM]
  refine Eff.weak (β := 1 + (0 + 1)) ?_ (by omega)
  refine Eff.bind (want_eff K.good 20 (by decide) s ⟨hr.1, by have := hr.2; omega⟩) fun s1 e1 => ?_
  have r1 := hr.eff (m := 19) e1 (by omega)
  have p1 := e1.ge
  have l1 := e1.le
  refine Eff.bind (β := 0) ?_ fun s2 e2 => want_eff K.good 21 (by decide) s2 (by have r2 := r1.eff (m := 19) e2 (by omega); exact ⟨r2.1, by have := r2.2; omega⟩)
  by_cases hk : kindM toks s1.1 = 6
  · rw [if_pos hk]
    refine Eff.weak (β := -12 + 0) ?_ (by omega)
    refine Eff.bind (nextE K.good s1 ⟨r1.1, by have := r1.2; omega⟩ (by omega)) fun s2 e2 => ?_
    have r2 := r1.eff (m := 19) e2 (by omega)
    have p2 := e2.pos (by omega)
    have l2 := e2.le
    exact (ih f (by omega)).paramsLoop s2 ⟨r2.1, by have := r2.2; omega⟩ trivial (by omega)
  · rw [if_neg hk]
    exact ⟨s1, rfl, Eff.refl r1.1⟩
theorem c_paramsLoop : MT toks (f + 1) .paramsLoop 1 5 (fun _ => 0) (fun _ => True) := by
  intro s hr hp hf
  simp only [runM, bodyM]
  by_cases hk : kindM toks s.1 = 24
  · rw [if_pos hk]
    refine Eff.weak (β := -12 + (1 + 0)) ?_ (by omega)
    refine Eff.bind (nextE K.good s ⟨hr.1, by have := hr.2; omega⟩ (by omega)) fun s1 e1 => ?_
    have r1 := hr.eff (m := 6) e1 (by omega)
    have p1 := e1.pos (by omega)
    have l1 := e1.le
    refine Eff.bind (want_eff K.good 6 (by decide) s1 ⟨r1.1, by have := r1.2; omega⟩) fun s2 e2 => ?_
    have r2 := r1.eff (m := 5) e2 (by omega)
    have p2 := e2.ge
    have l2 := e2.le
    exact (ih f (by omega)).paramsLoop s2 r2 trivial (by omega)
  · rw [if_neg hk]
    exact ⟨s, rfl, Eff.refl hr.1⟩
theorem c_branch : MT toks (f + 1) .branch 1 20 (fun _ => -7) (· ≠ 0) := by
  intro s hr hp hf
  simp only [runM, bodyM]
  refine Eff.weak (β := -12 + (1 + (1 + 0))) ?_ (by omega)
  refine Eff.bind (nextE K.good s ⟨hr.1, by have := hr.2; omega⟩ hp) fun s1 e1 => ?_
  have r1 := hr.eff (m := 20) e1 (by omega)
  have p1 := e1.pos (by omega)
  have l1 := e1.le
  refine Eff.bind (exprE K ih s1 ⟨r1.1, by have := r1.2; omega⟩ (by omega)) fun s2 e2 => ?_
  have r2 := r1.eff (m := 19) e2 (by omega)
  have p2 := e2.ge
  have l2 := e2.le
  refine Eff.bind (blockE K ih s2 ⟨r2.1, by have := r2.2; omega⟩ (by omega)) fun s3 e3 => ?_
  have r3 := r2.eff (m := 18) e3 (by omega)
  have p3 := e3.ge
  have l3 := e3.le
  by_cases hk : kindM toks s3.1 ≠ 13
  · rw [if_pos hk]
    exact ⟨s3, rfl, Eff.refl r3.1⟩
  · rw [if_neg hk]
    refine Eff.weak (β := -12 + 1) ?_ (by omega)
    refine Eff.bind (nextE K.good s3 ⟨r3.1, by have := r3.2; omega⟩ (by omega)) fun s4 e4 => ?_
    have r4 := r3.eff (m := 18) e4 (by omega)
    have p4 := e4.pos (by omega)
    have l4 := e4.le
    by_cases hk2 : kindM toks s4.1 = 12
    · rw [if_pos hk2]
      exact Eff.weak (put_tot K (ih f (by omega)).statement s4 ⟨r4.1, by have := r4.2; omega⟩ (by rw [hk2]; decide) (by omega)) (by omega)
    · rw [if_neg hk2]
      exact blockE K ih s4 ⟨r4.1, by have := r4.2; omega⟩ (by omega)
theorem c_loopB : MT toks (f + 1) .loopB 1 20 (fun _ => -7) (· ≠ 0) := by
  intro s hr hp hf
  simp only [runM, bodyM]
  refine Eff.weak (β := -12 + (1 + 1)) ?_ (by omega)
  refine Eff.bind (nextE K.good s ⟨hr.1, by have := hr.2; omega⟩ hp) fun s1 e1 => ?_
  have r1 := hr.eff (m := 20) e1 (by omega)
  have p1 := e1.pos (by omega)
  have l1 := e1.le
  refine Eff.bind (exprE K ih s1 ⟨r1.1, by have := r1.2; omega⟩ (by omega)) fun s2 e2 => ?_
  have r2 := r1.eff (m := 19) e2 (by omega)
  have p2 := e2.ge
  have l2 := e2.le
  exact blockE K ih s2 ⟨r2.1, by have := r2.2; omega⟩ (by omega)
theorem c_back : MT toks (f + 1) .back 1 20 (fun _ => -7) (· ≠ 0) := by
  intro s hr hp hf
  simp only [runM, bodyM]
  refine Eff.weak (β := -12 + (1 + 1)) ?_ (by omega)
  refine Eff.bind (nextE K.good s ⟨hr.1, by have := hr.2; omega⟩ hp) fun s1 e1 => ?_
  have r1 := hr.eff (m := 20) e1 (by omega)
  have p1 := e1.pos (by omega)
  have l1 := e1.le
  refine Eff.bind (β := 1) ?_ fun s2 e2 => want_eff K.good 25 (by decide) s2 (by have r2 := r1.eff (m := 19) e2 (by omega); exact ⟨r2.1, by have := r2.2; omega⟩)
  by_cases hk : beginsK (kindM toks s1.1) = true
  · rw [if_pos hk]
    exact exprE K ih s1 ⟨r1.1, by have := r1.2; omega⟩ (by omega)
  · rw [if_neg hk]
    exact ⟨s1, rfl, (Eff.refl r1.1).mono (by omega)⟩
theorem c_doB : MT toks (f + 1) .doB 16 20 (fun _ => -7) (fun k => beginsK k = true) := by
  intro s hr hp hf
  simp only [runM, bodyM]
  refine Eff.weak (β := -8 + (0 + 1)) ?_ (by omega)
  refine Eff.bind (Eff.weak ((ih f (by omega)).expression s ⟨hr.1, by have := hr.2; omega⟩ trivial (by omega)) (by dsimp only; rw [if_pos hp]; omega)) fun s1 e1 => ?_
  have r1 := hr.eff (m := 20) e1 (by omega)
  have p1 := e1.pos (by omega)
  have l1 := e1.le
  refine Eff.bind (β := 0) ?_ fun s2 e2 => want_eff K.good 25 (by decide) s2 (by have r2 := r1.eff (m := 19) e2 (by omega); exact ⟨r2.1, by have := r2.2; omega⟩)
  by_cases hk : kindM toks s1.1 = 26
  · rw [if_pos hk]
    refine Eff.weak (β := -12 + 1) ?_ (by omega)
    refine Eff.bind (nextE K.good s1 ⟨r1.1, by have := r1.2; omega⟩ (by omega)) fun s2 e2 => ?_
    have r2 := r1.eff (m := 19) e2 (by omega)
    have p2 := e2.pos (by omega)
    have l2 := e2.le
    exact exprE K ih s2 ⟨r2.1, by have := r2.2; omega⟩ (by omega)
  · rw [if_neg hk]
    exact ⟨s1, rfl, Eff.refl r1.1⟩
theorem c_block : MT toks (f + 1) .block 3 5 (fun k => if k = 22 then -10 else 1) (fun _ => True) := by
  intro s hr hp hf
  simp only [runM, bodyM]
  by_cases hk : kindM toks s.1 ≠ 22
  · rw [if_pos hk, if_neg hk]
    exact Eff.miss 52 hr.1 (by have := hr.2; omega) (by decide)
  · rw [if_neg hk, if_pos (by omega)]
    exact put_tot K (make52_tot K (fun g hg => (ih g (by omega)).blockB)) s ⟨hr.1, by have := hr.2; omega⟩ (by omega) (by omega)
theorem c_blockB : BT toks (f + 1) 1 := by
  intro a ha hp hn hf
  have hlen := K.len
  have hr : Room toks 20 (a, []) := ⟨ha, by simp only [List.length_nil]; omega⟩
  simp only [runM, bodyM]
  obtain ⟨s1, n1, e1, q1⟩ := next_eff K.good (a, []) ha (by simp only [List.length_nil]; omega) (by simp only; omega)
  rw [n1]
  simp only [Option.bind_some]
  have r1 := hr.eff (m := 20) e1 (by omega)
  have p1 := e1.pos (by omega)
  have l1 := e1.le
  simp only at p1
  have hb : ∃ s', ((runM toks f .blockLoop s1).bind fun s => wantM toks 23 s) = some s' ∧ Eff toks (0 + 1) s1 s' := by
    refine Eff.bind ((ih f (by omega)).blockLoop s1 ⟨r1.1, by have := r1.2; omega⟩ trivial (by omega)) fun s2 e2 => ?_
    have r2 := r1.eff (m := 19) e2 (by omega)
    exact want_eff K.good 23 (by decide) s2 ⟨r2.1, by have := r2.2; omega⟩
  obtain ⟨s', w1, w2⟩ := hb
  refine ⟨s', w1, (e1.trans w2).mono (by omega), ?_⟩
  obtain ⟨_, _, new, hnew, _⟩ := w2
  have hk : ∃ t, toks[a]? = some t ∧ t.kind = 22 := by
    unfold kindM at hp
    rw [hn] at hp
    split at hp
    · rename_i t ht; exact ⟨t, ht, hp⟩
    · omega
  obtain ⟨t, ht, hkt⟩ := hk
  simp only [List.nil_append] at q1
  rw [hn, Nat.sub_self, List.take_zero, ht] at q1
  rw [hnew, q1]
  simp [headK, leafT, Tree.kind, hkt]
theorem c_blockLoop : MT toks (f + 1) .blockLoop 20 5 (fun _ => 0) (fun _ => True) := by
  intro s hr hp hf
  simp only [runM, bodyM]
  by_cases hk : kindM toks s.1 ≠ 23 ∧ kindM toks s.1 ≠ 0
  · rw [if_pos hk]
    refine Eff.weak (β := -6 + 0) ?_ (by omega)
    refine Eff.bind ((ih f (by omega)).inner s ⟨hr.1, by have := hr.2; omega⟩ hk.2 (by omega)) fun s1 e1 => ?_
    have r1 := hr.eff (m := 5) e1 (by omega)
    have p1 := e1.pos (by omega)
    have l1 := e1.le
    exact (ih f (by omega)).blockLoop s1 r1 trivial (by omega)
  · rw [if_neg hk]
    exact ⟨s, rfl, Eff.refl hr.1⟩
theorem c_expression : MT toks (f + 1) .expression 15 5 (fun k => if beginsK k = true then -8 else 1) (fun _ => True) := by
  intro s hr hp hf
  simp only [runM, bodyM]
  by_cases hk : beginsK (kindM toks s.1) = true
  · rw [if_pos hk, if_pos hk]
    exact put_tot K (make_tot K (f := f) (kind := 60) (by omega) (by omega) (fun g hg => (ih g (by omega)).exprB)).ns s ⟨hr.1, by have := hr.2; omega⟩ hk (by omega)
  · rw [if_neg hk, if_neg hk]
    exact Eff.miss 60 hr.1 (by have := hr.2; omega) (by decide)
theorem c_exprB : MT toks (f + 1) .exprB 13 20 (fun _ => -9) (fun k => beginsK k = true) := by
  intro s hr hp hf
  simp only [runM, bodyM]
  exact node_tot ((ih f (by omega)).level 1 (by omega) (by omega)) s ⟨hr.1, by have := hr.2; omega⟩ hp (by omega)
theorem c_args : MT toks (f + 1) .args 1 20 (fun _ => -10) (· ≠ 0) := by
  intro s hr hp hf
  simp only [runM, bodyM]
  refine Eff.weak (β := -12 + (1 + 1)) ?_ (by omega)
  refine Eff.bind (nextE K.good s ⟨hr.1, by have := hr.2; omega⟩ hp) fun s1 e1 => ?_
  have r1 := hr.eff (m := 20) e1 (by omega)
  have p1 := e1.pos (by omega)
  have l1 := e1.le
  refine Eff.bind (β := 1) ?_ fun s2 e2 => want_eff K.good 21 (by decide) s2 (by have r2 := r1.eff (m := 19) e2 (by omega); exact ⟨r2.1, by have := r2.2; omega⟩)
  by_cases hk : beginsK (kindM toks s1.1) = true
  · rw [if_pos hk]
    refine Eff.weak (β := 1 + 0) ?_ (by omega)
    refine Eff.bind (exprE K ih s1 ⟨r1.1, by have := r1.2; omega⟩ (by omega)) fun s2 e2 => ?_
    have r2 := r1.eff (m := 19) e2 (by omega)
    have p2 := e2.ge
    have l2 := e2.le
    exact (ih f (by omega)).argsLoop s2 ⟨r2.1, by have := r2.2; omega⟩ trivial (by omega)
  · rw [if_neg hk]
    exact ⟨s1, rfl, (Eff.refl r1.1).mono (by omega)⟩
theorem c_argsLoop : MT toks (f + 1) .argsLoop 1 5 (fun _ => 0) (fun _ => True) := by
  intro s hr hp hf
  simp only [runM, bodyM]
  by_cases hk : kindM toks s.1 = 24
  · rw [if_pos hk]
    refine Eff.weak (β := -12 + (1 + 0)) ?_ (by omega)
    refine Eff.bind (nextE K.good s ⟨hr.1, by have := hr.2; omega⟩ (by omega)) fun s1 e1 => ?_
    have r1 := hr.eff (m := 6) e1 (by omega)
    have p1 := e1.pos (by omega)
    have l1 := e1.le
    refine Eff.bind (exprE K ih s1 ⟨r1.1, by have := r1.2; omega⟩ (by omega)) fun s2 e2 => ?_
    have r2 := r1.eff (m := 5) e2 (by omega)
    have p2 := e2.ge
    have l2 := e2.le
    exact (ih f (by omega)).argsLoop s2 r2 trivial (by omega)
  · rw [if_neg hk]
    exact ⟨s, rfl, Eff.refl hr.1⟩
theorem c_fileB : MT toks (f + 1) .fileB 21 20 (fun _ => 0) (fun _ => True) := by
  intro s hr hp hf
  simp only [runM, bodyM]
  refine Eff.weak (β := 0 + 0) ?_ (by omega)
  refine Eff.bind ((ih f (by omega)).fileLoop s ⟨hr.1, by have := hr.2; omega⟩ trivial (by omega)) fun s1 e1 => ?_
  have r1 := hr.eff (m := 20) e1 (by omega)
  obtain ⟨s2, g1, g2, _⟩ := gapE K.good s1 ⟨r1.1, by have := r1.2; omega⟩
  exact ⟨s2, g1, g2⟩
theorem c_fileLoop : MT toks (f + 1) .fileLoop 20 5 (fun _ => 0) (fun _ => True) := by
  intro s hr hp hf
  simp only [runM, bodyM]
  by_cases hk : kindM toks s.1 ≠ 0
  · rw [if_pos hk]
    refine Eff.weak (β := -6 + 0) ?_ (by omega)
    refine Eff.bind ((ih f (by omega)).inner s ⟨hr.1, by have := hr.2; omega⟩ hk (by omega)) fun s1 e1 => ?_
    have r1 := hr.eff (m := 5) e1 (by omega)
    have p1 := e1.pos (by omega)
    have l1 := e1.le
    exact (ih f (by omega)).fileLoop s1 r1 trivial (by omega)
  · rw [if_neg hk]
    exact ⟨s, rfl, Eff.refl hr.1⟩
theorem c_wrongB : MT toks (f + 1) .wrongB 1 20 (fun _ => -12) (· ≠ 0) := by
  intro s hr hp hf
  simp only [runM, bodyM]
  refine Eff.weak (β := -12 + 0) ?_ (by omega)
  refine Eff.bind (nextE K.good s ⟨hr.1, by have := hr.2; omega⟩ hp) fun s1 e1 => ?_
  have r1 := hr.eff (m := 20) e1 (by omega)
  have p1 := e1.pos (by omega)
  have l1 := e1.le
  by_cases hk : kindM toks s.1 = 23 ∨ kindM toks s.1 = 25 ∨ kindM toks s1.1 = 0 ∨ kindM toks s1.1 = 23 ∨ stmtOf (kindM toks s1.1) ≠ 0
  · rw [if_pos hk]
    exact ⟨s1, rfl, Eff.refl r1.1⟩
  · rw [if_neg hk]
    exact Eff.weak ((ih f (by omega)).wrongB s1 r1 (fun h => hk (.inr (.inr (.inl h)))) (by omega)) (by dsimp only; omega)
theorem c_unaryB : MT toks (f + 1) .unaryB 1 20 (fun _ => -11) (· ≠ 0) := by
  intro s hr hp hf
  simp only [runM, bodyM]
  refine Eff.weak (β := -12 + 1) ?_ (by omega)
  refine Eff.bind (nextE K.good s ⟨hr.1, by have := hr.2; omega⟩ hp) fun s1 e1 => ?_
  have r1 := hr.eff (m := 20) e1 (by omega)
  have p1 := e1.pos (by omega)
  have l1 := e1.le
  exact operand_tot K (by omega) (ih f (by omega)).unary s1 ⟨r1.1, by have := r1.2; omega⟩ (by omega)
theorem c_groupB : MT toks (f + 1) .groupB 1 20 (fun _ => -10) (· ≠ 0) := by
  intro s hr hp hf
  simp only [runM, bodyM]
  refine Eff.weak (β := -12 + (1 + 1)) ?_ (by omega)
  refine Eff.bind (nextE K.good s ⟨hr.1, by have := hr.2; omega⟩ hp) fun s1 e1 => ?_
  have r1 := hr.eff (m := 20) e1 (by omega)
  have p1 := e1.pos (by omega)
  have l1 := e1.le
  refine Eff.bind (exprE K ih s1 ⟨r1.1, by have := r1.2; omega⟩ (by omega)) fun s2 e2 => ?_
  have r2 := r1.eff (m := 19) e2 (by omega)
  exact want_eff K.good 21 (by decide) s2 ⟨r2.1, by have := r2.2; omega⟩
theorem c_nextB : MT toks (f + 1) .nextB 1 20 (fun _ => -12) (· ≠ 0) := by
  intro s hr hp hf
  simp only [runM, bodyM]
  exact nextE K.good s ⟨hr.1, by have := hr.2; omega⟩ hp
end Go.Proofs.YtkicpjjfeekopaaGreatDoor

namespace Go.Proofs.YtkicpjjfeekopaaGreatDoor
section
variable {toks : List Tok} (K : Ok toks) {f : Nat} (ih : ∀ g, g ≤ f → TotH toks g)
include K ih
theorem c_binB (n : Nat) (hn : n ≤ 5) : FT toks (f + 1) (.binB n) 1 (· ≠ 0) := by
  intro a0 a left hl hp hf
  have hlen := K.len
  have ha : a ≤ toks.length := hl.le
  simp only [runM, bodyM]
  unfold addM
  rw [if_pos (by simp only [List.length_nil]; omega)]
  simp only [Option.bind_some, List.nil_append]
  have hr : Room toks 20 (a, [left]) := ⟨ha, by simp only [List.length_singleton]; omega⟩
  obtain ⟨s0, h0, e0⟩ := EffN.add (s := (a0, [])) hl (by simp)
  have : s0 = (a, [left]) := by
    unfold addM at h0
    rw [if_pos (by simp)] at h0
    simpa using h0.symm
  subst this
  have hb : ∃ s', ((nextM toks (a, [left])).bind fun s => operandM toks (runN toks f) (.level (n + 1)) s) = some s' ∧ Eff toks (-12 + 1) (a, [left]) s' := by
    refine Eff.bind (nextE K.good _ ⟨hr.1, by have := hr.2; omega⟩ hp) fun s1 e1 => ?_
    have r1 := hr.eff (m := 20) e1 (by omega)
    have p1 := e1.pos (by omega)
    have l1 := e1.le
    simp only at p1
    exact operand_tot K (by omega) ((ih f (by omega)).level (n + 1) (by omega) (by omega)) s1 ⟨r1.1, by have := r1.2; omega⟩ (by omega)
  obtain ⟨s', w1, w2⟩ := hb
  exact ⟨s', w1, (e0.trans w2).mono (by omega), w2.pos (by omega)⟩
theorem c_callB : FT toks (f + 1) .callB 3 (· ≠ 0) := by
  intro a0 a left hl hp hf
  have hlen := K.len
  have ha : a ≤ toks.length := hl.le
  simp only [runM, bodyM]
  unfold addM
  rw [if_pos (by simp only [List.length_nil]; omega)]
  simp only [Option.bind_some, List.nil_append]
  have hr : Room toks 20 (a, [left]) := ⟨ha, by simp only [List.length_singleton]; omega⟩
  obtain ⟨s0, h0, e0⟩ := EffN.add (s := (a0, [])) hl (by simp)
  have : s0 = (a, [left]) := by
    unfold addM at h0
    rw [if_pos (by simp)] at h0
    simpa using h0.symm
  subst this
  obtain ⟨s1, g1, g2, g3⟩ := gapE K.good (a, [left]) ⟨hr.1, by have := hr.2; omega⟩
  have hge := g2.ge
  simp only at hge g3
  have r1 := hr.eff (m := 20) g2 (by omega)
  have hm := make_tot K (f := f) (kind := 64) (by omega) (by omega) (fun g hg => (ih g (by omega)).args)
  obtain ⟨s2, n1, n2⟩ := node_tot hm s1 ⟨r1.1, by have := r1.2; omega⟩ (by rw [g3, kindM_next ha]; exact hp) (by omega)
  refine ⟨s2, by rw [g1]; exact n1, ((e0.trans g2).trans n2).mono (by omega), ?_⟩
  have := n2.pos (by omega)
  omega
theorem block_node (a : Nat) (ha : a ≤ toks.length) (hk : kindM toks a = 22) (hn : next toks a = a) (hf : 30 * (toks.length - a) + 3 ≤ f) : ∃ r, runM toks f .block (a, []) = some (r.1, [r.2]) ∧ EffN toks (-10) a r := by
  obtain ⟨g, rfl⟩ : ∃ g, f = g + 1 := ⟨f - 1, by omega⟩
  obtain ⟨r, h1, h2⟩ := make52_tot K (f := g) (fun g hg => (ih g (by omega)).blockB) a ha hk hn (by omega)
  refine ⟨r, ?_, h2⟩
  simp only [runM, bodyM]
  rw [if_neg (by omega)]
  unfold putM gapM
  simp only [hn, Nat.sub_self, List.length_nil, Nat.add_zero, List.take_zero, List.map_nil, List.append_nil]
  rw [if_pos (by omega)]
  simp only [Option.bind_some, h1]
  unfold addM
  rw [if_pos (by simp)]
  simp
omit K ih in
theorem stmt_cases (k : Nat) (h : stmtOf k ≠ 0) : (stmtOf k = 52 ∧ k = 22) ∨ (stmtOf k = 53 ∧ stmtBody (stmtOf k) = .letB) ∨ (stmtOf k = 54 ∧ stmtBody (stmtOf k) = .fnB) ∨ (stmtOf k = 56 ∧ stmtBody (stmtOf k) = .branch) ∨ (stmtOf k = 57 ∧ stmtBody (stmtOf k) = .loopB) ∨ (stmtOf k = 58 ∧ stmtBody (stmtOf k) = .back) ∨ (stmtOf k = 59 ∧ stmtBody (stmtOf k) = .doB ∧ beginsK k = true) := by
  have hk : k = 10 ∨ k = 11 ∨ k = 12 ∨ k = 14 ∨ k = 15 ∨ k = 22 ∨ k = 6 ∨ k = 7 ∨ k = 8 ∨ k = 16 ∨ k = 17 ∨ k = 20 ∨ k = 34 ∨ k = 38 := by
    unfold stmtOf at h
    repeat' split at h
    all_goals omega
  clear h
  rcases hk with rfl | rfl | rfl | rfl | rfl | rfl | rfl | rfl | rfl | rfl | rfl | rfl | rfl | rfl <;> simp [stmtOf, stmtBody, beginsK]
theorem c_statement : NS toks (f + 1) .statement 18 (-6) (fun k => stmtOf k ≠ 0) := by
  intro a ha hp hn hf
  have h0 : kindM toks a ≠ 0 := by
    intro h
    apply hp
    rw [h]
    rfl
  simp only [runN, bodyN]
  rcases stmt_cases _ hp with ⟨h1, h2⟩ | ⟨h1, h2⟩ | ⟨h1, h2⟩ | ⟨h1, h2⟩ | ⟨h1, h2⟩ | ⟨h1, h2⟩ | ⟨h1, h2, h3⟩
  · rw [if_pos h1]
    obtain ⟨r, w1, w2⟩ := block_node K ih a ha h2 hn (by omega)
    exact ⟨r, by rw [w1]; rfl, w2.mono (by omega)⟩
  · rw [if_neg (by omega), if_neg (by omega), h2, h1]
    exact make_tot K (kind := 53) (by omega) (by omega) (fun g hg => (ih g (by omega)).letB) a ha h0 (by omega)
  · rw [if_neg (by omega), if_neg (by omega), h2, h1]
    exact make_tot K (kind := 54) (by omega) (by omega) (fun g hg => (ih g (by omega)).fnB) a ha h0 (by omega)
  · rw [if_neg (by omega), if_neg (by omega), h2, h1]
    exact make_tot K (kind := 56) (by omega) (by omega) (fun g hg => (ih g (by omega)).branch) a ha h0 (by omega)
  · rw [if_neg (by omega), if_neg (by omega), h2, h1]
    exact make_tot K (kind := 57) (by omega) (by omega) (fun g hg => (ih g (by omega)).loopB) a ha h0 (by omega)
  · rw [if_neg (by omega), if_neg (by omega), h2, h1]
    exact make_tot K (kind := 58) (by omega) (by omega) (fun g hg => (ih g (by omega)).back) a ha h0 (by omega)
  · rw [if_neg (by omega), if_neg (by omega), h2, h1]
    exact make_tot K (kind := 59) (by omega) (by omega) (fun g hg => (ih g (by omega)).doB) a ha h3 (by omega)
theorem c_level (n : Nat) (h1 : 1 ≤ n) (h6 : n ≤ 6) : NT toks (f + 1) (.level n) (13 - n) (-9) (fun k => beginsK k = true) := by
  intro a ha hp hf
  simp only [runN, bodyN]
  by_cases h5 : 5 < n
  · rw [if_pos h5]
    exact (ih f (by omega)).unary a ha hp (by omega)
  · rw [if_neg h5]
    obtain ⟨r, w1, w2⟩ := (ih f (by omega)).level (n + 1) (by omega) (by omega) a ha hp (by omega)
    have hpos := w2.pos (by omega)
    have hle := w2.le
    obtain ⟨r', v1, v2⟩ := (ih f (by omega)).levelLoop n h1 (by omega) a r.1 r.2 w2 (by omega)
    exact ⟨r', by rw [w1]; exact v1, v2⟩
theorem c_levelLoop (n : Nat) (h1 : 1 ≤ n) (h5 : n ≤ 5) : LT toks (f + 1) (.levelLoop n) 3 := by
  intro a0 a left hl hf
  have ha : a ≤ toks.length := hl.le
  simp only [runN, bodyN]
  by_cases hk : levelOf (kindM toks a) = n
  · rw [if_pos hk]
    obtain ⟨g, rfl⟩ : ∃ g, f = g + 1 := ⟨f - 1, by omega⟩
    have hp : kindM toks a ≠ 0 := by
      intro h
      rw [h] at hk
      have : levelOf 0 = 0 := by decide
      omega
    have hlen := K.len
    obtain ⟨s', w1, w2, w3⟩ := (ih g (by omega)).binB n h5 a0 a left hl hp (by omega)
    have hl' := w2.len
    have hle := w2.le
    simp only [List.length_nil] at hl'
    obtain ⟨r, v1, v2⟩ := sum_eff (kind := 61) (by omega) K.len K.sum K.mono w2 (by omega) (by omega)
    have hr1 : r.1 = s'.1 := by
      unfold sumM at v1
      split at v1
      · simp only [Option.some.injEq] at v1; rw [← v1]
      · cases v1
    obtain ⟨r', u1, u2⟩ := (ih (g + 1) (by omega)).levelLoop n h1 h5 a0 r.1 r.2 (v2.mono (by omega)) (by omega)
    refine ⟨r', ?_, u2⟩
    simp only [runN, bodyN]
    rw [w1]
    simp only [Option.bind_some]
    rw [v1]
    exact u1
  · rw [if_neg hk]
    exact ⟨(a, left), rfl, hl⟩
theorem c_unary : NT toks (f + 1) .unary 6 (-9) (fun k => beginsK k = true) := by
  intro a ha hp hf
  have h0 : kindM toks a ≠ 0 := by
    intro h
    rw [h] at hp
    exact absurd hp (by decide)
  simp only [runN, bodyN]
  by_cases hk : kindM toks a = 34 ∨ kindM toks a = 38
  · rw [if_pos hk]
    obtain ⟨r, w1, w2⟩ := make_tot K (f := f) (kind := 62) (by omega) (by omega) (fun g hg => (ih g (by omega)).unaryB) a ha h0 (by omega)
    exact ⟨r, w1, w2.mono (by omega)⟩
  · rw [if_neg hk]
    obtain ⟨r, w1, w2⟩ := (ih f (by omega)).primary a ha h0 (by omega)
    have hpos := w2.pos (by omega)
    have hle := w2.le
    obtain ⟨r', v1, v2⟩ := (ih f (by omega)).callLoop a r.1 r.2 w2 (by omega)
    exact ⟨r', by rw [w1]; exact v1, v2⟩
theorem c_callLoop : LT toks (f + 1) .callLoop 5 := by
  intro a0 a left hl hf
  have ha : a ≤ toks.length := hl.le
  simp only [runN, bodyN]
  by_cases hk : kindM toks a = 20
  · rw [if_pos hk]
    obtain ⟨g, rfl⟩ : ∃ g, f = g + 1 := ⟨f - 1, by omega⟩
    have hlen := K.len
    obtain ⟨s', w1, w2, w3⟩ := (ih g (by omega)).callB a0 a left hl (by omega) (by omega)
    have hl' := w2.len
    have hle := w2.le
    simp only [List.length_nil] at hl'
    obtain ⟨r, v1, v2⟩ := sum_eff (kind := 63) (by omega) K.len K.sum K.mono w2 (by omega) (by omega)
    have hr1 : r.1 = s'.1 := by
      unfold sumM at v1
      split at v1
      · simp only [Option.some.injEq] at v1; rw [← v1]
      · cases v1
    obtain ⟨r', u1, u2⟩ := (ih (g + 1) (by omega)).callLoop a0 r.1 r.2 (v2.mono (by omega)) (by omega)
    refine ⟨r', ?_, u2⟩
    simp only [runN, bodyN]
    rw [w1]
    simp only [Option.bind_some]
    rw [v1]
    exact u1
  · rw [if_neg hk]
    exact ⟨(a, left), rfl, hl⟩
theorem c_primary : NT toks (f + 1) .primary 3 (-9) (· ≠ 0) := by
  intro a ha hp hf
  simp only [runN, bodyN]
  by_cases h6 : kindM toks a = 6
  · rw [if_pos h6]
    obtain ⟨r, w1, w2⟩ := make_tot K (f := f) (kind := 66) (by omega) (by omega) (fun g hg => (ih g (by omega)).nextB) a ha hp (by omega)
    exact ⟨r, w1, w2.mono (by omega)⟩
  · rw [if_neg h6]
    by_cases h20 : kindM toks a = 20
    · rw [if_pos h20]
      obtain ⟨r, w1, w2⟩ := make_tot K (f := f) (kind := 65) (by omega) (by omega) (fun g hg => (ih g (by omega)).groupB) a ha hp (by omega)
      exact ⟨r, w1, w2.mono (by omega)⟩
    · rw [if_neg h20]
      obtain ⟨r, w1, w2⟩ := make_tot K (f := f) (kind := 67) (by omega) (by omega) (fun g hg => (ih g (by omega)).nextB) a ha hp (by omega)
      exact ⟨r, w1, w2.mono (by omega)⟩
end
theorem tot_zero (toks : List Tok) : TotH toks 0 := by
  constructor
  all_goals first
    | (intro s hr hp hf; omega)
    | (intro a ha hp hn hf; omega)
    | (intro n h1 h2 a ha hp hf; omega)
    | (intro n h1 h2 a0 a left hl hf; omega)
    | (intro n h1 a0 a left hl hp hf; omega)
    | (intro a0 a left hl hp hf; omega)
    | (intro a0 a left hl hf; omega)
theorem tot_all {toks : List Tok} (K : Ok toks) : ∀ f, ∀ g, g ≤ f → TotH toks g
  | 0, g, h => by obtain rfl : g = 0 := by omega
                  exact tot_zero toks
  | f + 1, g, h => by
    have ih := tot_all K f
    rcases Nat.lt_or_ge g (f + 1) with h1 | h1
    · exact ih g (by omega)
    · obtain rfl : g = f + 1 := by omega
      exact ⟨c_inner K ih, c_letB K ih, c_fnB K ih, c_params K ih, c_paramsLoop K ih, c_branch K ih, c_loopB K ih, c_back K ih, c_doB K ih, c_block K ih, c_blockB K ih, c_blockLoop K ih, c_expression K ih, c_exprB K ih, c_args K ih, c_argsLoop K ih, c_fileB K ih, c_fileLoop K ih, c_wrongB K ih, c_unaryB K ih, c_groupB K ih, c_nextB K ih, c_binB K ih, c_callB K ih, c_statement K ih, c_level K ih, c_levelLoop K ih, c_unary K ih, c_callLoop K ih, c_primary K ih⟩
end Go.Proofs.YtkicpjjfeekopaaGreatDoor

namespace Go.Proofs.YtkicpjjfeekopaaGreatDoor
open Go.RowKit
set_option maxHeartbeats 1000000 in
theorem leafTok_any (k wd : Nat) (a : Option Addr) (c : Nat) (w : World) (h1 : tokenK k = true) (h2 : 1 ≤ wd) (h3 : wd ≤ 1099511627776) :
    Calls Tryz.prog 93 #[.agg #[.int .u8 k, .int .u8 0, .int .i64 wd, .slice a 0 c]] w fun e w' => e = .returned (.bool true) ∧ Fr (fun _ => False) w w' := by
  have hk : k < 50 := by unfold tokenK at h1; simp only [decide_eq_true_eq] at h1; omega
  have hk50 : ((k : Int) == 50) = false := by simp; omega
  have HT := Lib.hid h1
  clear h1
  go_enter Tryz.func93, Tryz.ntmps93
  go_wp2_with (go_at_call 125; refine (ttoken_any _ _).mono ?_; rintro e w1 ⟨rfl, rfl⟩; rw [HT.out])
  go_ret
  exact ⟨rfl, (Fr.refl _ _).alloc _⟩
set_option maxHeartbeats 1000000 in
theorem leafMiss_any (wt : Nat) (a : Option Addr) (c : Nat) (w : World) (h1 : countsK wt = true ∨ wt = 60 ∨ wt = 52) :
    Calls Tryz.prog 93 #[.agg #[.int .u8 50, .int .u8 wt, .int .i64 0, .slice a 0 c]] w fun e w' => e = .returned (.bool true) ∧ Fr (fun _ => False) w w' := by
  by_cases hc : countsK wt = true
  · have HC := Lib.hid hc
    clear hc h1
    go_enter Tryz.func93, Tryz.ntmps93
    go_wp2_with (go_at_call 124; refine (counts_any _ _).mono ?_; rintro e w1 ⟨rfl, hf1⟩; rw [HC.out]; have hb1 := hf1.blk (blkNew _ _) (fun h => h); have c0 := blkCell hb1 0; have c1 := blkCell hb1 1; have c2 := blkCell hb1 2; have c3 := blkCell hb1 3)
    go_ret
    exact ⟨rfl, ((Fr.refl _ _).alloc _).trans hf1⟩
  · have hc' : countsK wt = false := by simpa using hc
    have HC := Lib.hid hc'
    have h2 : wt = 60 ∨ wt = 52 := h1.resolve_left hc
    clear hc hc' h1
    rcases h2 with rfl | rfl
    all_goals
      go_enter Tryz.func93, Tryz.ntmps93
      go_wp2_with (go_at_call 124; refine (counts_any _ _).mono ?_; rintro e w1 ⟨rfl, hf1⟩; rw [HC.out]; have hb1 := hf1.blk (blkNew _ _) (fun h => h); have c0 := blkCell hb1 0; have c1 := blkCell hb1 1; have c2 := blkCell hb1 2; have c3 := blkCell hb1 3)
      go_ret
      exact ⟨rfl, ((Fr.refl _ _).alloc _).trans hf1⟩
end Go.Proofs.YtkicpjjfeekopaaGreatDoor

namespace Go.Proofs.YtkicpjjfeekopaaGreatDoor
open Go.RowKit
theorem rsumW_succ (ts : List Tree) (i : Nat) (t : Tree) (h : ts[i]? = some t) : sumW (ts.take (i + 1)) = sumW (ts.take i) + t.width := by
  obtain ⟨hlt, he⟩ := List.getElem?_eq_some_iff.1 h
  rw [List.take_succ_eq_append_getElem hlt, sumW_append, he]
  simp [sumW]
theorem rcntL_succ (ts : List Tree) (i : Nat) (t : Tree) (h : ts[i]? = some t) : cntL (ts.take (i + 1)) = cntL (ts.take i) + cntT t := by
  obtain ⟨hlt, he⟩ := List.getElem?_eq_some_iff.1 h
  rw [List.take_succ_eq_append_getElem hlt, cntL_append, he]
  simp [cntL]
theorem rcntL_le (ts : List Tree) (i : Nat) : cntL (ts.take i) ≤ cntL ts := by
  have := cntL_append (ts.take i) (ts.drop i)
  rw [List.take_append_drop] at this
  omega
theorem rsumW_le (ts : List Tree) (i : Nat) : sumW (ts.take i) ≤ sumW ts := by
  have := sumW_append (ts.take i) (ts.drop i)
  rw [List.take_append_drop] at this
  omega
theorem mem_facts (ts : List Tree) (t : Tree) (h : t ∈ ts) : (goodL ts = true → goodT t = true) ∧ (blkL ts = true → blkT t = true) ∧ depT t ≤ depL ts ∧ cntT t ≤ cntL ts := by
  induction ts with
  | nil => cases h
  | cons x ts ih =>
    simp only [goodL, blkL, depL, cntL, Bool.and_eq_true]
    rcases List.mem_cons.1 h with rfl | h
    · exact ⟨fun h => h.1, fun h => h.1, by omega, by omega⟩
    · obtain ⟨a, b, c, d⟩ := ih h
      exact ⟨fun h => a h.2, fun h => b h.2, by omega, by omega⟩
theorem kidCells {w : World} {P : Nat → Prop} {ts : List Tree} {xs : List Value} {v : Value} {i : Nat} {t : Tree} (ho : w.ownsRow 0 27 4 v ts.length xs) (hr : RepL w P ts xs) (hi : ts[i]? = some t) :
    ∃ g c c0 c1 c2 c3, v = .slice (some ⟨g, 0, none⟩) ts.length c ∧ ts.length ≤ c ∧ RepT w P t [c0, c1, c2, c3] ∧ w.cell? ⟨g, i * 4, none⟩ = some c0 ∧ w.cell? ⟨g, i * 4 + 1, none⟩ = some c1 ∧ w.cell? ⟨g, i * 4 + 2, none⟩ = some c2 ∧ w.cell? ⟨g, i * 4 + 3, none⟩ = some c3 := by
  obtain ⟨hlt, _⟩ := List.getElem?_eq_some_iff.1 hi
  obtain ⟨cs, ht, hc⟩ := hr.get hi
  have hlen := hr.len
  have h4 := ht.len
  match cs, h4 with
  | [c0, c1, c2, c3], _ =>
    obtain ⟨g, c, hv, hc', a0⟩ := ownAt ho (i * 4) (by omega)
    obtain ⟨g1, _, hv1, _, a1⟩ := ownAt ho (i * 4 + 1) (by omega)
    obtain ⟨g2, _, hv2, _, a2⟩ := ownAt ho (i * 4 + 2) (by omega)
    obtain ⟨g3, _, hv3, _, a3⟩ := ownAt ho (i * 4 + 3) (by omega)
    rw [hv] at hv1 hv2 hv3
    injection hv1 with e1 _ _; injection hv2 with e2 _ _; injection hv3 with e3 _ _
    simp at e1 e2 e3
    subst e1; subst e2; subst e3
    have k0 := hc 0 (by omega); have k1 := hc 1 (by omega); have k2 := hc 2 (by omega); have k3 := hc 3 (by omega)
    exact ⟨_, c, c0, c1, c2, c3, hv, hc', ht, by rw [a0]; simpa using k0, by rw [a1]; simpa using k1, by rw [a2]; simpa using k2, by rw [a3]; simpa using k3⟩
/-- The boxes that the walk goes by: the count, and the function itself. -/
structure RBox (cb mb : Nat) (c : Nat) (w : World) : Prop where
  cnt : w.heap[cb]? = some (.cells #[.int .i64 c] 3 (0, 0))
  may : w.heap[mb]? = some (.cells #[.func (.func 92) #[] #[.pointer (some ⟨cb, 0, none⟩), .pointer (some ⟨mb, 0, none⟩)]] 179 (0, 0))
theorem RBox.fr {cb mb c : Nat} {w w' : World} (h : RBox cb mb c w) (hf : Fr (fun _ => False) w w') : RBox cb mb c w' := ⟨hf.blk h.cnt (fun h => h), hf.blk h.may (fun h => h)⟩
theorem RepT.frC {w w' : World} {cb c : Nat} {P : Nat → Prop} {t : Tree} {cs : List Value} (h : RepT w P t cs) (hc : w.heap[cb]? = some (.cells #[.int .i64 c] 3 (0, 0))) (hf : Fr (fun k => k = cb) w w') : RepT w' P t cs := by
  refine RepT.mono (P := fun k => P k ∧ k ≠ cb) (fun k hk _ _ => hk.1) _ _ ?_
  refine RepT.fr (S := fun k => k = cb) (RepT.mono (fun k hk _ hc' => ⟨hk, ?_⟩) _ _ h) hf (fun k hk _ => hk.2)
  obtain ⟨cur, hcur⟩ := hc'
  exact blkNe hcur hc (by decide)
theorem RepL.frC {w w' : World} {cb c : Nat} {P : Nat → Prop} {t : List Tree} {cs : List Value} (h : RepL w P t cs) (hc : w.heap[cb]? = some (.cells #[.int .i64 c] 3 (0, 0))) (hf : Fr (fun k => k = cb) w w') : RepL w' P t cs := by
  refine RepL.mono (P := fun k => P k ∧ k ≠ cb) (fun k hk _ _ => hk.1) _ _ ?_
  refine RepL.fr (S := fun k => k = cb) (RepL.mono (fun k hk _ hc' => ⟨hk, ?_⟩) _ _ h) hf (fun k hk _ => hk.2)
  obtain ⟨cur, hcur⟩ := hc'
  exact blkNe hcur hc (by decide)
def RightSaid (cb mb : Nat) (t : Tree) : Prop :=
  ∀ (cs : List Value) (P : Nat → Prop) (at_ c : Nat) (w : World), RepT w P t cs → (t.kind = 51 → at_ ≤ 1) → c + cntT t ≤ 1048576 → at_ + depT t ≤ 65537 → RBox cb mb c w →
    Calls Tryz.prog 92 #[.agg cs.toArray, .int .i64 at_, .pointer (some ⟨cb, 0, none⟩), .pointer (some ⟨mb, 0, none⟩)] w fun e w' => e = .returned (.bool true) ∧ RBox cb mb (c + cntT t) w' ∧ Fr (fun k => k = cb) w w'
theorem RBox.set {cb mb c : Nat} {w : World} (h : RBox cb mb c w) (d : Nat) : RBox cb mb d (w.setCell ⟨cb, 0, none⟩ (.int .i64 d)) := by
  have hne : mb ≠ cb := blkNe h.may h.cnt (by decide)
  exact ⟨blkSet h.cnt 0 _, (Below.heap_setCell _ _ _ _ hne).trans h.may⟩
theorem goodT_le50 {k wt wd : Nat} {sub : List Tree} (hg : goodT (.node k wt wd sub) = true) (hk : k ≤ 50) : sub = [] ∧ ((k = 50 ∧ wd = 0 ∧ (countsK wt = true ∨ wt = 60 ∨ wt = 52)) ∨ (k < 50 ∧ wt = 0 ∧ tokenK k = true ∧ 1 ≤ wd ∧ wd ≤ 1099511627776)) := by
  unfold goodT at hg
  by_cases h50 : k = 50
  · rw [if_pos h50] at hg
    simp only [Bool.and_eq_true, Bool.or_eq_true, decide_eq_true_eq, List.isEmpty_iff] at hg
    exact ⟨hg.1.2, .inl ⟨h50, hg.1.1, by rcases hg.2 with (h | h) | h <;> simp [h]⟩⟩
  · rw [if_neg h50, if_pos (by omega)] at hg
    simp only [Bool.and_eq_true, decide_eq_true_eq, List.isEmpty_iff] at hg
    exact ⟨hg.2, .inr ⟨by omega, hg.1.2, hg.1.1.1.1, hg.1.1.1.2, hg.1.1.2⟩⟩
theorem leaf93_any {k wt wd : Nat} {a : Option Addr} {c : Nat} {w : World} (hg : goodT (.node k wt wd []) = true) (hk : k ≤ 50) :
    Calls Tryz.prog 93 #[.agg #[.int .u8 k, .int .u8 wt, .int .i64 wd, .slice a 0 c]] w fun e w' => e = .returned (.bool true) ∧ Fr (fun _ => False) w w' := by
  obtain ⟨_, ⟨rfl, rfl, h⟩ | ⟨_, rfl, h1, h2, h3⟩⟩ := goodT_le50 hg hk
  · exact leafMiss_any wt a c w h
  · exact leafTok_any k wd a c w h1 h2 h3
set_option maxRecDepth 100000 in
set_option maxHeartbeats 2000000 in
theorem right_leaf (cb mb : Nat) (k wt wd : Nat) (hg : goodT (.node k wt wd []) = true) (hk : k ≤ 50) : RightSaid cb mb (.node k wt wd []) := by
  intro cs P at_ c w hr _ hc hd hb
  simp only [RepT] at hr
  obtain ⟨v, xs, rfl, ho, _, _⟩ := hr
  obtain ⟨a, cp, rfl, _, _⟩ := ownShape ho
  simp only [cntT, cntL, depT, depL, List.length_nil] at hc hd ⊢
  have hcb := blkCell hb.cnt 0
  have hcf := blkFree hb.cnt 0
  have hl := blkLt hb.cnt
  have HB := Lib.hid hb
  have HG := Lib.hid hg
  have hc1 : c + 1 ≤ 1048576 := by omega
  have hd1 : at_ ≤ 65536 := by omega
  have hk1 : k ≤ 50 := hk
  have HK := Lib.hid hk
  clear hb hg ho hc hd hk
  go_enter Tryz.func92, Tryz.ntmps92
  go_upto_region 2 with (fail)
  obtain ⟨d, hd⟩ : ∃ d : Nat, (c : Int) + 1 = d := ⟨c + 1, by omega⟩
  rw [hd]
  have hd2 : d ≤ 1048576 := by omega
  have HD := Lib.hid hd
  clear hd hc1
  go_wp2_with fail
  refine (leaf93_any HG.out HK.out).mono ?_
  rintro e w1 ⟨rfl, hf1⟩
  go_wp2_with fail
  go_ret
  have e1 : d = c + 1 := by have := HD.out; omega
  have f0 : Fr (fun k => k = cb) w (w.setCell ⟨cb, 0, none⟩ (.int .i64 d)) := Fr.setCell (S := fun k => k = cb) (Fr.refl _ _) (p := ⟨cb, 0, none⟩) (fun _ => rfl) _
  have f1 : Fr (fun _ => False) (w.setCell ⟨cb, 0, none⟩ (.int .i64 d)) w1 := ((Fr.refl _ _).alloc _).trans hf1
  refine ⟨rfl, ?_, f0.trans (f1.mono (fun _ _ h => h.elim))⟩
  rw [show c + (1 + 0) = d from by omega]
  exact (HB.out.set d).fr f1
/-- What a round of the loop over the kids stands in. -/
def RRel (cb mb c : Nat) (kids : List Tree) (w : World) (x s : Value) (wr : World) : Prop :=
  ∃ i : Nat, i ≤ kids.length ∧ x = .int .i64 i ∧ s = .int .i64 (sumW (kids.take i) : Nat) ∧ RBox cb mb (c + 1 + cntL (kids.take i)) wr ∧ Fr (fun k => k = cb) w wr
set_option maxRecDepth 100000 in
set_option maxHeartbeats 4000000 in
theorem right_inner (cb mb : Nat) (k wd : Nat) (kids : List Tree) (hk : 50 < k) (hk2 : k ≤ 68) (hs : sumW kids = wd) (hwd : wd ≤ 1099511627776) (hn : ∀ t ∈ kids, t.kind ≠ 51) (hrec : ∀ t ∈ kids, RightSaid cb mb t) : RightSaid cb mb (.node k 0 wd kids) := by
  intro cs P at_ c w hr h51 hc hd hb
  simp only [RepT] at hr
  obtain ⟨v, xs, rfl, ho, hp, hl⟩ := hr
  obtain ⟨a, cp, rfl, hcp, _⟩ := ownShape ho
  simp only [cntT, depT, Tree.kind] at hc hd h51 ⊢
  have hcb := blkCell hb.cnt 0
  have hcf := blkFree hb.cnt 0
  have hlt := blkLt hb.cnt
  have HB := Lib.hid hb
  have HO := Lib.hid ho
  have HL := Lib.hid hl
  have hlen := cntL_ge kids
  obtain ⟨len, hln⟩ : ∃ len, len = kids.length := ⟨_, rfl⟩
  have hlen2 : len ≤ 1048576 := by omega
  have hcp2 : len ≤ cp := by omega
  have HLN := Lib.hid hln
  rw [← hln]
  have hc1 : c + 1 ≤ 1048576 := by omega
  have hd1 : at_ ≤ 65536 := by omega
  have HC := Lib.hid hc; have HDD := Lib.hid hd; have HS := Lib.hid hs; have HREC := Lib.hid hrec; have HN := Lib.hid hn; have H51 := Lib.hid h51
  clear hb ho hl hp hc hd hs hrec hn h51 hlen hln hcp
  have hdec : ∃ b : Bool, ((k : Int) == 51) = b ∧ (b = true → at_ ≤ 1) := by
    refine ⟨_, rfl, fun h => H51.out ?_⟩
    have h' : (k : Int) = 51 := by simpa using h
    omega
  obtain ⟨b51, hb51, hat⟩ := hdec
  cases b51
  all_goals
    try (have hat1 : at_ ≤ 1 := hat rfl)
    clear hat
    go_enter Tryz.func92, Tryz.ntmps92
    go_upto_region 2 with (fail)
    obtain ⟨d, hd⟩ : ∃ d : Nat, (c : Int) + 1 = d := ⟨c + 1, by omega⟩
    rw [hd]
    have hd2 : d ≤ 1048576 := by omega
    have HD := Lib.hid hd
    clear hd hc1
    go_wp2_with fail
    have q1 : decide ((1048576 : Int) < (d : Int)) = false := by simp; omega
    have q2 : decide ((65536 : Int) < (at_ : Int)) = false := by simp; omega
    have q3 : decide ((68 : Int) < (k : Int)) = false := by simp; omega
    have q4 : decide ((k : Int) ≤ 50) = false := by simp; omega
    try (have q5 : decide ((1 : Int) < (at_ : Int)) = false := by simp; omega)
    try simp only [q5]
    simp only [q1, q2, q3, q4, hb51, Bool.or_false, Bool.false_or]
    have e1 : d = c + 1 := by have := HD.out; omega
    have E1 := Lib.hid e1
    have f0 : Fr (fun k => k = cb) w (w.setCell ⟨cb, 0, none⟩ (.int .i64 d)) := Fr.setCell (S := fun k => k = cb) (Fr.refl _ _) (p := ⟨cb, 0, none⟩) (fun _ => rfl) _
    have fA : Fr (fun k => k = cb) w ((w.setCell ⟨cb, 0, none⟩ (.int .i64 d)).alloc (.cells #[.int .u8 k, .int .u8 0, .int .i64 wd, .slice a len cp] 27)) := f0.alloc _
    have bA : RBox cb mb d ((w.setCell ⟨cb, 0, none⟩ (.int .i64 d)).alloc (.cells #[.int .u8 k, .int .u8 0, .int .i64 wd, .slice a len cp] 27)) := (HB.out.set d).fr ((Fr.refl _ _).alloc _)
    have nA : ((w.setCell ⟨cb, 0, none⟩ (.int .i64 d)).alloc (.cells #[.int .u8 k, .int .u8 0, .int .i64 wd, .slice a len cp] 27)).heap[w.heap.size]? = some (.cells #[.int .u8 k, .int .u8 0, .int .i64 wd, .slice a len cp] 27 (0, 0)) := by simpa using blkNew (w.setCell ⟨cb, 0, none⟩ (.int .i64 d)) (.cells #[.int .u8 k, .int .u8 0, .int .i64 wd, .slice a len cp] 27)
    generalize ((w.setCell ⟨cb, 0, none⟩ (.int .i64 d)).alloc (.cells #[.int .u8 k, .int .u8 0, .int .i64 wd, .slice a len cp] 27)) = wA at *
    have r0 : RRel cb mb c kids wA (.int .i64 0) (.int .i64 0) wA := ⟨0, Nat.zero_le _, rfl, by simp [sumW], by simpa [cntL, e1] using bA, Fr.refl _ _⟩
    clear q1 q2 q3 q4 hb51 e1 hcb hcf f0 bA
    try clear q5
    go_loopw [43, 7] (fun x s wr => RRel cb mb c kids wA x s wr) (fun x _ _ => len - (intOf x).toNat)
    case atStart => exact r0
    case round =>
      obtain ⟨i, hi, rfl, rfl, hB, hF⟩ := hrel
      have hi' : i ≤ len := by rw [HLN.out]; exact hi
      by_cases hlt : i < len
      · obtain ⟨t, ht⟩ : ∃ t, kids[i]? = some t := ⟨_, List.getElem?_eq_getElem (by rw [← HLN.out]; exact hlt)⟩
        have hF' := fA.trans hF
        have ho := HO.out
        have hcnt := HB.out.cnt
        obtain ⟨g, cp', k0, k1, k2, k3, hv, _, hrt, g0, g1, g2, g3⟩ := kidCells (w := wr) (ownMove ho (fun k hk hl => hF'.block k hl (by
          obtain ⟨cur, hcur⟩ := ownBlk ho hk
          exact blkNe hcur hcnt (by decide)))) (RepL.frC HL.out hcnt hF') ht
        injection hv with hv _ hcc
        subst hv
        subst hcc
        have gm := blkCell hB.may 0
        have lm := blkLt hB.may
        have mem := List.mem_of_getElem? ht
        have hrt' := hrt
        obtain ⟨tk, twt, twd, tks⟩ := t
        simp only [RepT] at hrt'
        obtain ⟨v', xs', hcs, hv'o, _, _⟩ := hrt'
        obtain ⟨a', c', rfl, _, _⟩ := ownShape hv'o
        injection hcs with e0 hcs; injection hcs with e1 hcs; injection hcs with e2 hcs; injection hcs with e3 _
        subst e0; subst e1; subst e2; subst e3
        have hsum := rsumW_succ kids i _ ht
        have hle := rsumW_le kids (i + 1)
        have hcs := rcntL_succ kids i _ ht
        have hcl := rcntL_le kids (i + 1)
        have hm := (mem_facts kids _ mem).2.2.1
        obtain ⟨W, hW⟩ : ∃ W, W = sumW (kids.take i) := ⟨_, rfl⟩
        rw [← hW] at hsum
        rw [← hW]
        simp only [Tree.width] at hsum
        have hWb : W + twd ≤ 1099511627776 := by have := HS.out; omega
        have HW := Lib.hid hW; have HSUM := Lib.hid hsum; have HCS := Lib.hid hcs; have HCL := Lib.hid hcl; have HM := Lib.hid hm
        have HRT := Lib.hid hrt; have HBR := Lib.hid hB; have HT := Lib.hid ht; have HFF := Lib.hid hF; have MEM := Lib.hid mem
        clear hW hsum hcs hcl hm hle hrt hB ht hF hF' ho hcnt mem hv'o
        go_wp2_with fail
        have hal : Fr (fun _ => False) wr (wr.alloc (.cells #[.int .u8 tk, .int .u8 twt, .int .i64 twd, .slice a' tks.length c'] 27)) := (Fr.refl _ _).alloc _
        have hbx := blkNew wr (.cells #[.int .u8 tk, .int .u8 twt, .int .i64 twd, .slice a' tks.length c'] 27)
        rw [show ((at_ : Int) + 1) = ((at_ + 1 : Nat) : Int) from by omega]
        refine (HREC.out _ MEM.out _ P (at_ + 1) (c + 1 + cntL (kids.take i)) _ (HRT.out.fr hal (fun _ _ _ h => h)) (fun h => absurd h (HN.out _ MEM.out)) (by have := HC.out; have := HCS.out; have := HCL.out; omega) (by have := HDD.out; have := HM.out; omega) (HBR.out.fr hal)).mono ?_
        rintro e w2 ⟨rfl, hB2, hf2⟩
        have hne : wr.heap.size ≠ cb := by have := blkLt HBR.out.cnt; omega
        have hbx2 := Fr.blk hf2 hbx hne
        have b2 := blkCell hbx2 2
        have HB2 := Lib.hid hB2
        have HF2 := Lib.hid ((HFF.out.trans (hal.mono (fun _ _ h => h.elim))).trans hf2)
        clear hB2 hf2 hal hbx hbx2 hne
        go_wp2_with fail
        go_roundw
        case rel =>
          refine ⟨i + 1, by have := HLN.out; omega, by go_num, ?_, ?_, HF2.out⟩
          · rw [HSUM.out]; go_num
          · rw [HCS.out, ← Nat.add_assoc]; exact HB2.out
        case measure => simp [intOf]; omega
      · obtain rfl : i = len := by omega
        have hF' := fA.trans hF
        have n2 := Fr.blk hF nA (by have := blkLt HB.out.cnt; omega)
        have b2 := blkCell n2 2
        have eS : sumW (kids.take i) = wd := by rw [HLN.out, List.take_length]; exact HS.out
        have eC : cntL (kids.take i) = cntL kids := by rw [HLN.out, List.take_length]
        rw [eS]
        rw [eC] at hB
        have HBR := Lib.hid hB; have HFR := Lib.hid hF'
        clear eS eC hB hF hF' n2
        have q6 : decide ((wd : Int) ≤ 1099511627776) = true := by simp; omega
        go_wp2_with fail
        go_ret
        exact ⟨rfl, by rw [← Nat.add_assoc]; exact HBR.out, HFR.out⟩
theorem right_all (cb mb : Nat) : ∀ (n : Nat) (t : Tree), cntT t ≤ n → goodT t = true → blkL t.kids = true → RightSaid cb mb t
  | 0, t, h, _, _ => by cases t; simp only [cntT] at h; omega
  | n + 1, .node k wt wd kids, h, hg, hb => by
    simp only [Tree.kids] at hb
    by_cases hk : k ≤ 50
    · obtain ⟨rfl, _⟩ := goodT_le50 hg hk
      exact right_leaf cb mb k wt wd hg hk
    · have hg' := hg
      unfold goodT at hg'
      rw [if_neg (by omega), if_neg (by omega)] at hg'
      simp only [Bool.and_eq_true, decide_eq_true_eq] at hg'
      obtain ⟨⟨⟨⟨h1, h2⟩, h3⟩, h4⟩, h5⟩ := hg'
      subst h2
      simp only [cntT] at h
      refine right_inner cb mb k wd kids (by omega) h1 h3 h4 (fun t ht => ?_) (fun t ht => ?_)
      · have := (mem_facts kids t ht).2.1 hb
        cases t
        unfold blkT at this
        simp only [Bool.and_eq_true, decide_eq_true_eq] at this
        exact this.1.1
      · obtain ⟨a, b, _, d⟩ := mem_facts kids t ht
        refine right_all cb mb n t (by omega) (a h5) ?_
        have := b hb
        cases t
        unfold blkT at this
        simp only [Bool.and_eq_true] at this
        exact this.2
end Go.Proofs.YtkicpjjfeekopaaGreatDoor

namespace Go.Proofs.YtkicpjjfeekopaaGreatDoor
open Go.RowKit
/-- What tree.Right asks. -/
structure RightT (t : Tree) : Prop where
  good : goodT t = true
  blk : blkL t.kids = true
  cnt : cntT t ≤ 1048576
  dep : depT t ≤ 65536
set_option maxHeartbeats 1000000 in
theorem right_any (t : Tree) (cs : List Value) (P : Nat → Prop) (w : World) (hr : RepT w P t cs) (h : RightT t) :
    Calls Tryz.prog 57 #[.agg cs.toArray] w fun e w' => e = .returned (.bool true) ∧ Fr (fun _ => False) w w' := by
  have HR := Lib.hid hr
  obtain ⟨k, wt, wd, kids⟩ := t
  simp only [RepT] at hr
  obtain ⟨v, xs, rfl, ho, _, _⟩ := hr
  obtain ⟨a, cp, rfl, _, _⟩ := ownShape ho
  clear ho
  have H := Lib.hid h
  clear h
  have hmf : ∀ (fn : Fn) (first cap : Array Value) (w : World), (Instr.makeFunc fn first cap).run Tryz.prog w = .ok (.func fn first cap) w := fun _ _ _ _ => rfl
  go_enter Tryz.func57, Tryz.ntmps57
  go_wp2_with fail
  refine (right_all (w.heap.size + 1) (w.heap.size + 1 + 1) _ ⟨k, wt, wd, kids⟩ (Nat.le_refl _) H.out.good H.out.blk [.int .u8 k, .int .u8 wt, .int .i64 wd, .slice a kids.length cp] P 1 0 _ ?_ (fun _ => Nat.le_refl _) (by have := H.out.cnt; omega) (by have := H.out.dep; omega) ?_).mono ?_
  · exact HR.out.fr ((((Fr.refl (fun _ => False) w).alloc _).alloc _).alloc _) (fun _ _ _ h => h)
  · exact ⟨blkAlloc (by simpa using blkNew (w.alloc _) _) _, by simpa using blkNew ((w.alloc _).alloc _) _⟩
  rintro e w2 ⟨rfl, _, hf⟩
  go_wp2_with fail
  go_ret
  exact ⟨rfl, ((((Fr.refl (fun _ => False) w).alloc _).alloc _).alloc _).trans' hf (fun i hi e => by have : i = w.heap.size + 1 := e; omega)⟩
/-- What is asked of the tree of a text. -/
structure TextT (n : Nat) (t : Tree) : Prop where
  right : RightT t
  file : t.kind = 51
  width : t.width = n
set_option maxHeartbeats 1000000 in
theorem may_any (s : ByteArray) (t : Tree) (cs : List Value) (P : Nat → Prop) (w : World) (hr : RepT w P t cs) (h : TextT s.size t) (hs : s.size < 100000) :
    Calls Tryz.prog 52 #[.string s, .agg cs.toArray] w fun e w' => e = .returned (.bool true) ∧ Fr (fun _ => False) w w' := by
  have HR := Lib.hid hr
  obtain ⟨k, wt, wd, kids⟩ := t
  simp only [RepT] at hr
  obtain ⟨v, xs, rfl, ho, _, _⟩ := hr
  obtain ⟨a, cp, rfl, _, _⟩ := ownShape ho
  clear ho
  have hk : k = 51 := h.file
  have hw : wd = s.size := h.width
  subst hk
  have H := Lib.hid h
  clear h
  have q : ((wd : Int) == (s.size : Int)) = true := by simp [hw]
  clear hw
  go_enter Tryz.func52, Tryz.ntmps52
  go_wp2_with fail
  refine (right_any ⟨51, wt, wd, kids⟩ [.int .u8 51, .int .u8 wt, .int .i64 wd, .slice a kids.length cp] P _ (HR.out.fr ((Fr.refl (fun _ => False) w).alloc _) (fun _ _ _ h => h)) H.out.right).mono ?_
  rintro e w1 ⟨rfl, hf1⟩
  go_wp2_with fail
  go_ret
  exact ⟨rfl, ((Fr.refl (fun _ => False) w).alloc _).trans hf1⟩
end Go.Proofs.YtkicpjjfeekopaaGreatDoor

namespace Go.Proofs.YtkicpjjfeekopaaGreatDoor
mutual
theorem dep_cnt : ∀ t : Tree, depT t ≤ cntT t
  | .node _ _ _ kids => by simp only [depT, cntT]; have := depL_cnt kids; omega
theorem depL_cnt : ∀ l : List Tree, depL l ≤ cntL l
  | [] => Nat.le_refl _
  | t :: ts => by simp only [depL, cntL]; have := dep_cnt t; have := depL_cnt ts; omega
end
theorem fileLoop_end {toks : List Tok} : ∀ (f : Nat) (s s' : St), runM toks f .fileLoop s = some s' → kindM toks s'.1 = 0
  | 0, s, s', h => by simp [runM] at h
  | f + 1, s, s', h => by
    simp only [runM, bodyM] at h
    by_cases hk : kindM toks s.1 ≠ 0
    · rw [if_pos hk] at h
      obtain ⟨s1, _, h2⟩ := Option.bind_eq_some_iff.1 h
      exact fileLoop_end f s1 s' h2
    · rw [if_neg hk] at h
      injection h with h
      rw [← h]
      omega
theorem file_tot {toks : List Tok} (K : Ok toks) : ∃ r, fileM toks (30 * toks.length + 23) = some r ∧ r.2.kind = 51 ∧ goodT r.2 = true ∧ blkL r.2.kids = true ∧ cntT r.2 ≤ 13 * toks.length + 1 ∧ lvT r.2 = kw toks ∧ r.2.width = preW toks toks.length := by
  have hlen := K.len
  obtain ⟨g, hgf⟩ : ∃ g, g = 30 * toks.length + 21 := ⟨_, rfl⟩
  obtain ⟨s', h1, h2⟩ := (tot_all K (g + 1) (g + 1) (Nat.le_refl _)).fileB (0, []) ⟨Nat.zero_le _, by simp; omega⟩ trivial (by simp; omega)
  have hend : s'.1 = toks.length := by
    have h3 := h1
    simp only [runM, bodyM] at h3
    obtain ⟨s1, g1, g2⟩ := Option.bind_eq_some_iff.1 h3
    have hk := fileLoop_end _ _ _ g1
    unfold gapM at g2
    split at g2
    · injection g2 with g2
      have hle := h2.le
      rw [← g2] at hle ⊢
      simp only at hle ⊢
      unfold kindM at hk
      split at hk
      · rename_i t ht
        have := (K.good t (List.mem_of_getElem? ht)).1
        rw [hk] at this
        exact absurd this (by decide)
      · rename_i ht
        have := List.getElem?_eq_none_iff.1 ht
        omega
    · cases g2
  obtain ⟨new, hn, hg, hk, hc, hw, hl, hb⟩ := h2.new
  simp only [List.nil_append] at hn
  have hsum : sumW s'.2 = preW toks toks.length := by
    rw [hn]; rw [hend] at hw; simpa [preW] using hw
  have hS := K.sum
  have hcn : cntL s'.2 ≤ 13 * toks.length := by rw [hn]; rw [hend] at hc; simp only at hc; omega
  have hgeq := cntL_ge s'.2
  refine ⟨(s'.1, .node 51 0 (sumW s'.2) s'.2), ?_, rfl, ?_, by rw [hn]; exact hb, ?_, ?_, hsum⟩
  · rw [show 30 * toks.length + 23 = g + 1 + 1 from by omega]
    unfold fileM
    rw [runN]
    simp only [bodyN]
    rw [h1]
    simp only [Option.bind_some]
    unfold sumM
    rw [if_pos ⟨by omega, by omega⟩]
  · unfold goodT
    rw [if_neg (by omega), if_neg (by omega)]
    simp only [Bool.and_eq_true, decide_eq_true_eq]
    exact ⟨⟨⟨⟨by omega, trivial⟩, trivial⟩, by omega⟩, by rw [hn]; exact hg⟩
  · simp only [cntT]; omega
  · rw [lvT, if_neg (by omega), if_neg (by omega), hn]
    rw [hend] at hl
    simpa [kw] using hl
/-- What is asked of the tree of a text, as the parser makes it. -/
theorem file_text {toks : List Tok} (K : Ok toks) (hl : toks.length ≤ 5000) {n : Nat} (hn : preW toks toks.length = n) : ∃ r, fileM toks (30 * toks.length + 23) = some r ∧ TextT n r.2 ∧ cntT r.2 ≤ 13 * toks.length + 1 ∧ lvT r.2 = kw toks := by
  obtain ⟨r, h1, h2, h3, h4, h5, h6, h7⟩ := file_tot K
  exact ⟨r, h1, ⟨⟨h3, h4, by omega, by have := dep_cnt r.2; omega⟩, h2, h7.trans hn⟩, h5, h6⟩
end Go.Proofs.YtkicpjjfeekopaaGreatDoor
