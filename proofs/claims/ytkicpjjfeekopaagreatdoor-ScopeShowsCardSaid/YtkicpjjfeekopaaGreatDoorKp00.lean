/- Plain data: tokens and syntax trees. Plain words of the grammar and of tokens' kinds. Syntax trees: what is asked of them, and what is counted. -/
import Derived.WalkKit
set_option linter.unusedVariables false
set_option linter.unusedSimpArgs false
set_option linter.unusedSectionVars false
namespace Go.Proofs.YtkicpjjfeekopaaGreatDoor

/-- A token: its kind, its width, its look. -/
structure Tok where
  kind : Nat
  width : Nat
  look : Nat
  deriving DecidableEq, Repr

/-- A syntax tree. -/
inductive Tree where
  | node (kind want width : Nat) (kids : List Tree)

namespace Tree
def kind : Tree → Nat | .node k _ _ _ => k
def want : Tree → Nat | .node _ k _ _ => k
def width : Tree → Nat | .node _ _ k _ => k
def kids : Tree → List Tree | .node _ _ _ k => k
theorem eta (t : Tree) : t = .node t.kind t.want t.width t.kids := by cases t; rfl
end Tree
/-- A leaf. -/
def leafT (t : Tok) : Tree := .node t.kind 0 t.width []
def missT (want : Nat) : Tree := .node 50 want 0 []
def sumW : List Tree → Nat
  | [] => 0
  | t :: ts => t.width + sumW ts
theorem sumW_append (a b : List Tree) : sumW (a ++ b) = sumW a + sumW b := by
  induction a with
  | nil => simp [sumW]
  | cons x xs ih => simp [sumW, ih]; omega
end Go.Proofs.YtkicpjjfeekopaaGreatDoor

namespace Go.Proofs.YtkicpjjfeekopaaGreatDoor

/-- Which statement begins with a kind. -/
def stmtOf (k : Nat) : Nat :=
  if k = 10 then 53 else if k = 11 then 54 else if k = 12 then 56 else if k = 14 then 57 else if k = 15 then 58 else if k = 22 then 52
  else if k = 6 ∨ k = 7 ∨ k = 8 ∨ k = 16 ∨ k = 17 ∨ k = 20 ∨ k = 34 ∨ k = 38 then 59 else 0
/-- An operator's level. -/
def levelOf (k : Nat) : Nat :=
  if k = 40 then 1 else if k = 39 then 2 else if k = 33 ∨ k = 34 then 4 else if k = 35 ∨ k = 36 ∨ k = 37 then 5 else if 27 ≤ k ∧ k ≤ 32 then 3 else 0
/-- Is it a token's kind? -/
def tokenK (k : Nat) : Bool := decide (1 ≤ k ∧ k ≤ 17 ∨ 20 ≤ k ∧ k ≤ 40)
/-- Does a kind count? -/
def countsK (k : Nat) : Bool := decide (6 ≤ k ∧ k ≤ 17 ∧ k ≠ 9 ∨ 20 ≤ k ∧ k ≤ 40)
/-- May an expression begin with it? -/
def beginsK (k : Nat) : Bool := decide (k = 6 ∨ k = 7 ∨ k = 8 ∨ k = 16 ∨ k = 17 ∨ k = 20 ∨ k = 34 ∨ k = 38)

/-- The first place from i on whose token counts; the list's end, if there is none. -/
def nextGo : List Tok → Nat → Nat
  | [], i => i
  | t :: ts, i => if countsK t.kind then i else nextGo ts (i + 1)
def next (l : List Tok) (i : Nat) : Nat := nextGo (l.drop i) i
theorem next_end (l : List Tok) : next l l.length = l.length := by simp [next, nextGo]
theorem next_step (l : List Tok) (i : Nat) (h : i < l.length) : next l i = if countsK (l[i]'h).kind then i else next l (i + 1) := by
  unfold next
  rw [List.drop_eq_getElem_cons h, nextGo]
theorem next_ge (l : List Tok) (i : Nat) (h : i ≤ l.length) : i ≤ next l i ∧ next l i ≤ l.length := by
  obtain ⟨d, hd⟩ : ∃ d, l.length - i = d := ⟨_, rfl⟩
  induction d generalizing i with
  | zero => obtain rfl : i = l.length := by omega
            rw [next_end]; omega
  | succ d ih =>
    rw [next_step l i (by omega)]
    split
    · omega
    · have := ih (i + 1) (by omega) (by omega); omega
theorem next_counts (l : List Tok) (i : Nat) (h : i ≤ l.length) : ∀ hn : next l i < l.length, countsK (l[next l i]'hn).kind = true := by
  obtain ⟨d, hd⟩ : ∃ d, l.length - i = d := ⟨_, rfl⟩
  induction d generalizing i with
  | zero => obtain rfl : i = l.length := by omega
            intro hn; rw [next_end] at hn; omega
  | succ d ih =>
    have hs := next_step l i (by omega)
    split at hs
    · intro hn
      simp only [hs]; assumption
    · intro hn
      simp only [hs]
      exact ih (i + 1) (by omega) (by omega) _
/-- What lies between counts not. -/
theorem next_gap (l : List Tok) (i : Nat) (h : i ≤ l.length) : ∀ j, i ≤ j → j < next l i → ∀ hj : j < l.length, countsK (l[j]'hj).kind = false := by
  obtain ⟨d, hd⟩ : ∃ d, l.length - i = d := ⟨_, rfl⟩
  induction d generalizing i with
  | zero => obtain rfl : i = l.length := by omega
            intro j h1 h2; rw [next_end] at h2; omega
  | succ d ih =>
    have hs := next_step l i (by omega)
    split at hs
    · intro j h1 h2; omega
    · intro j h1 h2 hj
      rcases Nat.lt_or_ge i j with h3 | h3
      · exact ih (i + 1) (by omega) (by omega) j (by omega) (by omega) hj
      · obtain rfl : j = i := by omega
        exact Bool.eq_false_iff.2 (by assumption)
theorem next_next (l : List Tok) (i : Nat) (h : i ≤ l.length) : next l (next l i) = next l i := by
  have hg := next_ge l i h
  rcases Nat.lt_or_ge (next l i) l.length with hn | hn
  · rw [next_step l (next l i) hn, if_pos (next_counts l i h hn)]
  · have : next l i = l.length := by omega
    rw [this, next_end]
/-- Between a place and the next one that counts the next one is the same. -/
theorem next_mid (l : List Tok) (i j : Nat) (h : i ≤ j) (hj : j ≤ next l i) (hl : i ≤ l.length) : next l j = next l i := by
  obtain ⟨d, hd⟩ : ∃ d, j - i = d := ⟨_, rfl⟩
  induction d generalizing i with
  | zero => obtain rfl : i = j := by omega
            rfl
  | succ d ih =>
    have hg := next_ge l i hl
    have hlt : i < l.length := by omega
    have hs := next_step l i hlt
    split at hs
    · omega
    · rw [hs]; exact ih (i + 1) (by omega) (by omega) (by omega) (by omega)
end Go.Proofs.YtkicpjjfeekopaaGreatDoor

namespace Go.Proofs.YtkicpjjfeekopaaGreatDoor
mutual
/-- A tree as tree.Right would have it (but for how many nodes, how deep). -/
def goodT : Tree → Bool
  | .node kind want width kids =>
    if kind = 50 then decide (width = 0) && kids.isEmpty && (countsK want || decide (want = 60) || decide (want = 52))
    else if kind < 50 then tokenK kind && decide (1 ≤ width) && decide (width ≤ 1099511627776) && decide (want = 0) && kids.isEmpty
    else decide (kind ≤ 68) && decide (want = 0) && decide (sumW kids = width) && decide (width ≤ 1099511627776) && goodL kids
def goodL : List Tree → Bool
  | [] => true
  | t :: ts => goodT t && goodL ts
end
mutual
def cntT : Tree → Nat
  | .node _ _ _ kids => 1 + cntL kids
def cntL : List Tree → Nat
  | [] => 0
  | t :: ts => cntT t + cntL ts
end
mutual
def depT : Tree → Nat
  | .node _ _ _ kids => 1 + depL kids
def depL : List Tree → Nat
  | [] => 0
  | t :: ts => max (depT t) (depL ts)
end
mutual
/-- The leaves of a tree that are tokens. -/
def lvT : Tree → List (Nat × Nat)
  | .node kind _ width kids => if kind = 50 then [] else if kind < 50 then [(kind, width)] else lvL kids
def lvL : List Tree → List (Nat × Nat)
  | [] => []
  | t :: ts => lvT t ++ lvL ts
end
/-- Does a list begin with a brace? -/
def headK (kids : List Tree) : Bool := match kids with | t :: _ => decide (t.kind = 22) | [] => false
mutual
/-- Each block begins with a brace; no file is a part. -/
def blkT : Tree → Bool
  | .node kind _ _ kids => (decide (kind ≠ 51) && (decide (kind ≠ 52) || headK kids)) && blkL kids
def blkL : List Tree → Bool
  | [] => true
  | t :: ts => blkT t && blkL ts
end
def kw (l : List Tok) : List (Nat × Nat) := l.map fun t => (t.kind, t.width)
theorem kw_append (a b : List Tok) : kw (a ++ b) = kw a ++ kw b := List.map_append ..
theorem lvL_append (a b : List Tree) : lvL (a ++ b) = lvL a ++ lvL b := by
  induction a with
  | nil => simp [lvL]
  | cons x a ih => simp [lvL, ih]
theorem blkL_append (a b : List Tree) : blkL (a ++ b) = (blkL a && blkL b) := by
  induction a with
  | nil => simp [blkL]
  | cons x a ih => simp [blkL, ih, Bool.and_assoc]
theorem goodL_append (a b : List Tree) : goodL (a ++ b) = (goodL a && goodL b) := by
  induction a with
  | nil => simp [goodL]
  | cons x a ih => simp [goodL, ih, Bool.and_assoc]
theorem cntL_append (a b : List Tree) : cntL (a ++ b) = cntL a + cntL b := by
  induction a with
  | nil => simp [cntL]
  | cons x a ih => simp [cntL, ih, Nat.add_assoc]
theorem depL_append (a b : List Tree) : depL (a ++ b) = max (depL a) (depL b) := by
  induction a with
  | nil => simp [depL]
  | cons x a ih => simp [depL, ih, Nat.max_assoc]
theorem cntL_ge (a : List Tree) : a.length ≤ cntL a := by
  induction a with
  | nil => simp
  | cons x a ih => cases x; simp [cntL, cntT]; omega
end Go.Proofs.YtkicpjjfeekopaaGreatDoor
