/- Words for the walks: what turns between two worlds, a block known whole, a row of several cells. How tokens and trees lie in memory. Walks: the grammar's small functions, kinds of tokens. The parser, as a plain function with a bound on its calls (fuel): what it does to the place and to the kids so far. The parser's state in memory: the parser, a node in the making; what a call on them may turn. Words for the walks: one operation whose run is known; whole arrays and structs that are built, stored, loaded. Walks: the grammar's tables; Begins of an expression. Walks: the parser's small calls. -/
import Derived.Test.YtkicpjjfeekopaaGreatDoorProg
import Derived.WalkKit
import Derived.Deep.QuietTactic
import Derived.BigQuiet
import Derived.Lib.Hide
import Derived.OneCell
import Derived.Maps.AppendAt
import Derived.Test.YtkicpjjfeekopaaGreatDoorKp00
import Derived.KernelRfl
import Derived.WalkSmall
set_option linter.unusedVariables false
set_option linter.unusedSimpArgs false
set_option linter.unusedSectionVars false
namespace Go.Proofs.YtkicpjjfeekopaaGreatDoor
open Go.RowKit

/-- Only the blocks of S, and new ones, may have turned. -/
structure Fr (S : Nat → Prop) (w w' : World) : Prop where
  os : w'.os = w.os
  tape : w'.tape = w.tape
  output : w'.output = w.output
  size : w.heap.size ≤ w'.heap.size
  block : ∀ k, k < w.heap.size → ¬ S k → w'.heap[k]? = w.heap[k]?

theorem Fr.refl (S : Nat → Prop) (w : World) : Fr S w w := ⟨rfl, rfl, rfl, Nat.le_refl _, fun _ _ _ => rfl⟩
theorem Fr.trans {S : Nat → Prop} {a b c : World} (h : Fr S a b) (k : Fr S b c) : Fr S a c :=
  ⟨k.os.trans h.os, k.tape.trans h.tape, k.output.trans h.output, Nat.le_trans h.size k.size, fun i hi hs => (k.block i (Nat.lt_of_lt_of_le hi h.size) hs).trans (h.block i hi hs)⟩
theorem Fr.trans' {S S' : Nat → Prop} {a b c : World} (h : Fr S a b) (k : Fr S' b c) (hs : ∀ i, i < a.heap.size → S' i → S i) : Fr S a c :=
  ⟨k.os.trans h.os, k.tape.trans h.tape, k.output.trans h.output, Nat.le_trans h.size k.size, fun i hi hn => (k.block i (Nat.lt_of_lt_of_le hi h.size) (fun h' => hn (hs i hi h'))).trans (h.block i hi hn)⟩
theorem Fr.mono {S S' : Nat → Prop} {a b : World} (h : Fr S a b) (hs : ∀ i, i < a.heap.size → S i → S' i) : Fr S' a b :=
  ⟨h.os, h.tape, h.output, h.size, fun i hi hn => h.block i hi (fun h' => hn (hs i hi h'))⟩
theorem Fr.alloc {S : Nat → Prop} {a b : World} (h : Fr S a b) (o : Obj) : Fr S a (b.alloc o) :=
  h.trans ⟨rfl, rfl, rfl, by simp, fun k hk _ => Below.heap_alloc _ _ _ hk⟩
theorem Fr.drew {S : Nat → Prop} {a b : World} (h : Fr S a b) : Fr S a b.drew := ⟨h.os, h.tape, h.output, h.size, h.block⟩
theorem Fr.drewN {S : Nat → Prop} {a b : World} (h : Fr S a b) (n : Nat) : Fr S a (b.drewN n) := h.trans ⟨rfl, rfl, rfl, Nat.le_refl _, fun _ _ _ => rfl⟩
theorem Fr.setCell {S : Nat → Prop} {a b : World} (h : Fr S a b) {p : Addr} (hp : p.block < a.heap.size → S p.block) (u : Value) : Fr S a (b.setCell p u) :=
  h.trans' (S' := fun k => k = p.block) ⟨rfl, rfl, rfl, by simp, fun k _ hn => Below.heap_setCell _ _ _ _ hn⟩ (fun i hi e => by subst e; exact hp hi)
theorem Fr.of_below {S : Nat → Prop} {w w' : World} (h : Below w.heap.size w w') : Fr S w w' := ⟨h.os, h.tape, h.output, h.size, fun k hk _ => h.block k hk⟩
theorem Fr.of_grown {S : Nat → Prop} {w w' : World} {row : Option Nat} (h : w.grownBy w' row) (hr : ∀ k, row = some k → S k) : Fr S w w' :=
  ⟨h.os, h.tape, h.output, h.size, fun k hk hn => h.block k hk (fun e => hn (hr k e.symm))⟩
theorem Fr.below {w w' : World} (h : Fr (fun _ => False) w w') : Below w.heap.size w w' := ⟨h.os, h.tape, h.output, h.size, fun k hk => h.block k hk (fun h => h)⟩

/-- A block of cells known whole. -/
theorem blkLt {w : World} {b : Nat} {o : Obj} (h : w.heap[b]? = some o) : b < w.heap.size := (Array.getElem?_eq_some_iff.1 h).1
theorem blkCell {w : World} {b : Nat} {cs : Array Value} {t : TypeId} {fr : Nat × Nat} (h : w.heap[b]? = some (.cells cs t fr)) (j : Nat) : w.cell? ⟨b, j, none⟩ = cs[j]? := by simp [World.cell?, h]
theorem blkCellAt {w : World} {b : Nat} {cs : Array Value} {t : TypeId} {fr : Nat × Nat} (h : w.heap[b]? = some (.cells cs t fr)) (j : Nat) (v : Value) (hv : cs[j]? = some v) : w.cell? ⟨b, j, none⟩ = some v := (blkCell h j).trans hv
theorem blkFree {w : World} {b : Nat} {cs : Array Value} {t : TypeId} (h : w.heap[b]? = some (.cells cs t (0, 0))) (j : Nat) : w.frozen? ⟨b, j, none⟩ = false := by simp [World.frozen?, h]
theorem blkNew (w : World) (o : Obj) : (w.alloc o).heap[w.heap.size]? = some o := heap_alloc_new w o
theorem blkAlloc {w : World} {b : Nat} {x : Obj} (h : w.heap[b]? = some x) (o : Obj) : (w.alloc o).heap[b]? = some x := (Below.heap_alloc w o b (blkLt h)).trans h
theorem blkFar {w : World} {b : Nat} {x : Obj} (h : w.heap[b]? = some x) {p : Addr} (hp : b ≠ p.block) (u : Value) : (w.setCell p u).heap[b]? = some x := (Below.heap_setCell w p u b hp).trans h
theorem blkSet {w : World} {b : Nat} {cs : Array Value} {t : TypeId} {fr : Nat × Nat} (h : w.heap[b]? = some (.cells cs t fr)) (j : Nat) (u : Value) : (w.setCell ⟨b, j, none⟩ u).heap[b]? = some (.cells (cs.setIfInBounds j u) t fr) := by
  simp [World.setCell, Array.getElem?_modify, h]
theorem blkNe {w : World} {b b' : Nat} {cs cs' : Array Value} {t t' : TypeId} {fr fr' : Nat × Nat} (h : w.heap[b]? = some (.cells cs t fr)) (h' : w.heap[b']? = some (.cells cs' t' fr')) (ht : t ≠ t') : b ≠ b' := by
  rintro rfl
  rw [h] at h'
  injection h' with h'
  injection h' with _ h' _
  exact ht h'
theorem Fr.blk {S : Nat → Prop} {w w' : World} (h : Fr S w w') {b : Nat} {o : Obj} (hb : w.heap[b]? = some o) (hs : ¬ S b) : w'.heap[b]? = some o := (h.block b (blkLt hb) hs).trans hb

/-- A row that lives on. -/
theorem ownMove {w w' : World} {base : Nat} {e : TypeId} {size n : Nat} {v : Value} {xs : List Value} (h : w.ownsRow base e size v n xs) (hm : ∀ k, v.ownBlock = some k → k < w.heap.size → w'.heap[k]? = w.heap[k]?) : w'.ownsRow base e size v n xs := by
  obtain ⟨h1, h2⟩ := h
  refine ⟨h1, ?_⟩
  rcases h2 with h2 | ⟨g, cap, cur, rfl, hg, hh, r⟩
  · exact .inl h2
  · exact .inr ⟨g, cap, cur, rfl, hg, (hm g (by simp [Value.ownBlock]) (blkLt hh)).trans hh, r⟩
theorem ownBlk {w : World} {base : Nat} {e : TypeId} {size n : Nat} {v : Value} {xs : List Value} (h : w.ownsRow base e size v n xs) {k : Nat} (hk : v.ownBlock = some k) : ∃ cur, w.heap[k]? = some (.cells cur e (0, 0)) := by
  rcases h.2 with ⟨rfl, _⟩ | ⟨g, cap, cur, rfl, hg, hh, r⟩
  · simp [Value.ownBlock] at hk
  · have : g = k := by simpa [Value.ownBlock] using hk
    subst this
    exact ⟨cur, hh⟩
theorem ownLower {w : World} {base base' : Nat} {e : TypeId} {size n : Nat} {v : Value} {xs : List Value} (h : w.ownsRow base e size v n xs) (hb : base' ≤ base) : w.ownsRow base' e size v n xs := by
  obtain ⟨h1, h2⟩ := h
  refine ⟨h1, ?_⟩
  rcases h2 with h2 | ⟨g, cap, cur, hv, hg, r⟩
  · exact .inl h2
  · exact .inr ⟨g, cap, cur, hv, Nat.le_trans hb hg, r⟩
theorem ownShape {w : World} {base : Nat} {e : TypeId} {size n : Nat} {v : Value} {xs : List Value} (h : w.ownsRow base e size v n xs) : ∃ a c, v = .slice a n c ∧ n ≤ c ∧ (0 < n → ∃ g, a = some ⟨g, 0, none⟩) := by
  rcases h.2 with ⟨rfl, rfl⟩ | ⟨g, cap, cur, rfl, _, _, hc, _⟩
  · exact ⟨none, 0, rfl, Nat.le_refl _, fun h => absurd h (by omega)⟩
  · exact ⟨_, cap, rfl, hc, fun _ => ⟨g, rfl⟩⟩
/-- A cell of a row. -/
theorem ownAt {w : World} {base : Nat} {e : TypeId} {size n : Nat} {v : Value} {xs : List Value} (h : w.ownsRow base e size v n xs) (j : Nat) (hj : j < xs.length) :
    ∃ g c, v = .slice (some ⟨g, 0, none⟩) n c ∧ n ≤ c ∧ w.cell? ⟨g, j, none⟩ = xs[j]? := by
  rcases h.2 with ⟨rfl, rfl⟩ | ⟨g, cap, cur, rfl, hb, hh, hc, hm, hs, ht⟩
  · have := h.1; omega
  · refine ⟨g, cap, rfl, hc, ?_⟩
    rw [blkCell hh, ← ht]
    have := h.1
    rw [List.getElem?_take_of_lt (by omega)]
    simp

end Go.Proofs.YtkicpjjfeekopaaGreatDoor

namespace Go.Proofs.YtkicpjjfeekopaaGreatDoor
open Go.RowKit

def tokCells (t : Tok) : List Value := [.int .u8 t.kind, .int .i64 t.width, .int .i64 t.look]
def toksCells : List Tok → List Value
  | [] => []
  | t :: ts => tokCells t ++ toksCells ts
theorem toksCells_length (l : List Tok) : (toksCells l).length = l.length * 3 := by
  induction l with
  | nil => rfl
  | cons t l ih => simp [toksCells, tokCells, ih]; omega
theorem toksCells_append (a b : List Tok) : toksCells (a ++ b) = toksCells a ++ toksCells b := by
  induction a with
  | nil => rfl
  | cons t l ih => simp [toksCells, ih]
theorem toksCells_get (l : List Tok) (i : Nat) (t : Tok) (h : l[i]? = some t) (j : Nat) (hj : j < 3) : (toksCells l)[i * 3 + j]? = (tokCells t)[j]? := by
  induction l generalizing i with
  | nil => simp at h
  | cons x l ih =>
    cases i with
    | zero =>
      simp at h; subst h
      simp only [toksCells, Nat.zero_mul, Nat.zero_add]
      rw [List.getElem?_append_left (by simp [tokCells]; omega)]
    | succ i =>
      simp only [toksCells]
      rw [List.getElem?_append_right (by simp [tokCells]; omega)]
      have : (i + 1) * 3 + j - (tokCells x).length = i * 3 + j := by simp [tokCells]; omega
      rw [this]
      exact ih i (by simpa using h)

/-- A row of tokens. -/
def TokRow (w : World) (v : Value) (l : List Tok) : Prop := w.ownsRow 0 33 3 v l.length (toksCells l)
theorem TokRow.move {w w' : World} {v : Value} {l : List Tok} (h : TokRow w v l) (hm : ∀ k, v.ownBlock = some k → k < w.heap.size → w'.heap[k]? = w.heap[k]?) : TokRow w' v l := ownMove h hm
theorem TokRow.shape {w : World} {v : Value} {l : List Tok} (h : TokRow w v l) : ∃ a c, v = .slice a l.length c ∧ l.length ≤ c := by
  obtain ⟨a, c, h1, h2, _⟩ := ownShape h
  exact ⟨a, c, h1, h2⟩
theorem TokRow.at_ {w : World} {v : Value} {l : List Tok} (h : TokRow w v l) (i : Nat) (t : Tok) (hi : l[i]? = some t) :
    ∃ g c, v = .slice (some ⟨g, 0, none⟩) l.length c ∧ l.length ≤ c ∧ w.cell? ⟨g, i * 3, none⟩ = some (.int .u8 t.kind) ∧ w.cell? ⟨g, i * 3 + 1, none⟩ = some (.int .i64 t.width) ∧ w.cell? ⟨g, i * 3 + 2, none⟩ = some (.int .i64 t.look) := by
  have hl : i < l.length := (List.getElem?_eq_some_iff.1 hi).1
  have hlen := toksCells_length l
  obtain ⟨g, c, hv, hc, h0⟩ := ownAt h (i * 3) (by omega)
  obtain ⟨g1, c1, hv1, _, h1⟩ := ownAt h (i * 3 + 1) (by omega)
  obtain ⟨g2, c2, hv2, _, h2⟩ := ownAt h (i * 3 + 2) (by omega)
  rw [hv] at hv1 hv2
  injection hv1 with e1 _ _
  injection hv2 with e2 _ _
  simp at e1 e2
  subst e1; subst e2
  have k0 := toksCells_get l i t hi 0 (by omega)
  have k1 := toksCells_get l i t hi 1 (by omega)
  have k2 := toksCells_get l i t hi 2 (by omega)
  refine ⟨_, c, hv, hc, ?_, ?_, ?_⟩
  · rw [h0]; simpa [tokCells] using k0
  · rw [h1]; simpa [tokCells] using k1
  · rw [h2]; simpa [tokCells] using k2

theorem TokRow.get {w : World} {a : Option Addr} {n c : Nat} {l : List Tok} (h : TokRow w (.slice a n c) l) (i : Nat) (t : Tok) (hi : l[i]? = some t) :
    ∃ g, a = some ⟨g, 0, none⟩ ∧ w.cell? ⟨g, i * 3, none⟩ = some (.int .u8 t.kind) ∧ w.cell? ⟨g, i * 3 + 1, none⟩ = some (.int .i64 t.width) ∧ w.cell? ⟨g, i * 3 + 2, none⟩ = some (.int .i64 t.look) := by
  obtain ⟨g, c', he, _, h0, h1, h2⟩ := h.at_ i t hi
  injection he with e1 e2 e3
  exact ⟨g, e1, h0, h1, h2⟩

/-! Trees: P: where the rows may lie. -/
mutual
def RepT (w : World) (P : Nat → Prop) : Tree → List Value → Prop
  | .node k wt wd kids, cs => ∃ v xs, cs = [.int .u8 k, .int .u8 wt, .int .i64 wd, v] ∧ w.ownsRow 0 27 4 v kids.length xs ∧ (∀ g, v.ownBlock = some g → P g) ∧ RepL w P kids xs
def RepL (w : World) (P : Nat → Prop) : List Tree → List Value → Prop
  | [], xs => xs = []
  | t :: ts, xs => ∃ c rest, xs = c ++ rest ∧ RepT w P t c ∧ RepL w P ts rest
end
mutual
theorem RepT.move {w w' : World} {P : Nat → Prop} (hm : ∀ k, P k → k < w.heap.size → w'.heap[k]? = w.heap[k]?) : ∀ (t : Tree) (cs : List Value), RepT w P t cs → RepT w' P t cs
  | .node k wt wd kids, cs, h => by
    simp only [RepT] at h ⊢
    obtain ⟨v, xs, hc, ho, hp, hl⟩ := h
    exact ⟨v, xs, hc, ownMove ho (fun k hk => hm k (hp k hk)), hp, RepL.move hm kids xs hl⟩
theorem RepL.move {w w' : World} {P : Nat → Prop} (hm : ∀ k, P k → k < w.heap.size → w'.heap[k]? = w.heap[k]?) : ∀ (ts : List Tree) (xs : List Value), RepL w P ts xs → RepL w' P ts xs
  | [], xs, h => by simpa [RepL] using h
  | t :: ts, xs, h => by
    simp only [RepL] at h ⊢
    obtain ⟨c, rest, hx, ht, hl⟩ := h
    exact ⟨c, rest, hx, RepT.move hm t c ht, RepL.move hm ts rest hl⟩
end
mutual
theorem RepT.mono {w : World} {P P' : Nat → Prop} (hm : ∀ k, P k → k < w.heap.size → (∃ cur, w.heap[k]? = some (.cells cur 27 (0, 0))) → P' k) : ∀ (t : Tree) (cs : List Value), RepT w P t cs → RepT w P' t cs
  | .node k wt wd kids, cs, h => by
    simp only [RepT] at h ⊢
    obtain ⟨v, xs, hc, ho, hp, hl⟩ := h
    refine ⟨v, xs, hc, ho, fun g hg => ?_, RepL.mono hm kids xs hl⟩
    obtain ⟨cur, hcur⟩ := ownBlk ho hg
    exact hm g (hp g hg) (blkLt hcur) ⟨cur, hcur⟩
theorem RepL.mono {w : World} {P P' : Nat → Prop} (hm : ∀ k, P k → k < w.heap.size → (∃ cur, w.heap[k]? = some (.cells cur 27 (0, 0))) → P' k) : ∀ (ts : List Tree) (xs : List Value), RepL w P ts xs → RepL w P' ts xs
  | [], xs, h => by simpa [RepL] using h
  | t :: ts, xs, h => by
    simp only [RepL] at h ⊢
    obtain ⟨c, rest, hx, ht, hl⟩ := h
    exact ⟨c, rest, hx, RepT.mono hm t c ht, RepL.mono hm ts rest hl⟩
end
theorem RepT.len {w : World} {P : Nat → Prop} {t : Tree} {cs : List Value} (h : RepT w P t cs) : cs.length = 4 := by
  cases t
  simp only [RepT] at h
  obtain ⟨v, xs, hc, _⟩ := h
  rw [hc]; rfl
theorem RepL.len {w : World} {P : Nat → Prop} : ∀ {ts : List Tree} {xs : List Value}, RepL w P ts xs → xs.length = ts.length * 4
  | [], xs, h => by simp only [RepL] at h; simp [h]
  | t :: ts, xs, h => by
    simp only [RepL] at h
    obtain ⟨c, rest, hx, ht, hl⟩ := h
    rw [hx, List.length_append, ht.len, hl.len]; simp; omega
theorem RepL.snoc {w : World} {P : Nat → Prop} : ∀ {ts : List Tree} {xs : List Value} {t : Tree} {c : List Value}, RepL w P ts xs → RepT w P t c → RepL w P (ts ++ [t]) (xs ++ c)
  | [], xs, t, c, h, ht => by
    simp only [RepL] at h
    subst h
    simp only [List.nil_append, RepL]
    exact ⟨c, [], by simp, ht, rfl⟩
  | x :: ts, xs, t, c, h, ht => by
    simp only [RepL] at h
    obtain ⟨c0, rest, hx, h0, hl⟩ := h
    simp only [List.cons_append, RepL]
    exact ⟨c0, rest ++ c, by simp [hx], h0, RepL.snoc hl ht⟩
/-- The i-th kid's cells. -/
theorem RepL.get {w : World} {P : Nat → Prop} : ∀ {ts : List Tree} {xs : List Value} {i : Nat} {t : Tree}, RepL w P ts xs → ts[i]? = some t → ∃ c, RepT w P t c ∧ ∀ j, j < 4 → xs[i * 4 + j]? = c[j]?
  | [], xs, i, t, h, hi => by simp at hi
  | x :: ts, xs, i, t, h, hi => by
    simp only [RepL] at h
    obtain ⟨c0, rest, hx, h0, hl⟩ := h
    cases i with
    | zero =>
      simp at hi; subst hi
      refine ⟨c0, h0, fun j hj => ?_⟩
      rw [hx, List.getElem?_append_left (by rw [h0.len]; omega)]; simp
    | succ i =>
      obtain ⟨c, hc, hcc⟩ := RepL.get hl (by simpa using hi)
      refine ⟨c, hc, fun j hj => ?_⟩
      rw [hx, List.getElem?_append_right (by rw [h0.len]; omega), h0.len, ← hcc j hj]
      congr 1; omega
/-- A tree that nobody turns. -/
theorem RepT.fr {S : Nat → Prop} {w w' : World} {P : Nat → Prop} {t : Tree} {cs : List Value} (h : RepT w P t cs) (hf : Fr S w w') (hs : ∀ k, P k → k < w.heap.size → ¬ S k) : RepT w' P t cs :=
  RepT.move (fun k hk hl => hf.block k hl (hs k hk hl)) t cs h
theorem RepL.fr {S : Nat → Prop} {w w' : World} {P : Nat → Prop} {t : List Tree} {cs : List Value} (h : RepL w P t cs) (hf : Fr S w w') (hs : ∀ k, P k → k < w.heap.size → ¬ S k) : RepL w' P t cs :=
  RepL.move (fun k hk hl => hf.block k hl (hs k hk hl)) t cs h
end Go.Proofs.YtkicpjjfeekopaaGreatDoor

namespace Go.Proofs.YtkicpjjfeekopaaGreatDoor
open Go.RowKit

theorem retInt {k : IntKind} {a b : Int} (h : a = b) : Ending.returned (.int k a) = .returned (.int k b) := by rw [h]
theorem retBool {a b : Bool} (h : a = b) : Ending.returned (.bool a) = .returned (.bool b) := by rw [h]

set_option maxHeartbeats 1000000 in
theorem statement_any (k : Nat) (w : World) : Calls Tryz.prog 142 #[.int .u8 k] w fun e w' => e = .returned (.int .u8 (stmtOf k : Nat)) ∧ w = w' := by
  go_enter Tryz.func142, Tryz.ntmps142
  go_wp2
  all_goals (go_ret; refine ⟨retInt ?_, rfl⟩)
  all_goals (simp only [beq_iff_eq, beq_eq_false_iff_ne, ne_eq] at *; unfold stmtOf; (repeat' split) <;> omega)

set_option maxHeartbeats 1000000 in
theorem level_any (k : Nat) (w : World) : Calls Tryz.prog 186 #[.int .u8 k] w fun e w' => e = .returned (.int .i64 (levelOf k : Nat)) ∧ w = w' := by
  go_enter Tryz.func186, Tryz.ntmps186
  go_wp2
  all_goals (go_ret; refine ⟨retInt ?_, rfl⟩)
  all_goals (simp only [beq_iff_eq, beq_eq_false_iff_ne, ne_eq] at *; unfold levelOf; (repeat' split) <;> omega)

set_option maxHeartbeats 1000000 in
theorem ptoken_any (k : Nat) (w : World) : Calls Tryz.prog 82 #[.int .u8 k] w fun e w' => e = .returned (.bool (tokenK k)) ∧ w = w' := by
  go_enter Tryz.func82, Tryz.ntmps82
  go_wp2
  all_goals (go_ret; refine ⟨retBool ?_, rfl⟩)
  all_goals (unfold tokenK; rw [Bool.eq_iff_iff]; simp only [decide_eq_true_eq, Bool.or_eq_true, Bool.and_eq_true, Bool.false_eq_true, true_iff, false_iff, eq_self_iff_true]; omega)

set_option maxHeartbeats 1000000 in
theorem ttoken_any (k : Nat) (w : World) : Calls Tryz.prog 125 #[.int .u8 k] w fun e w' => e = .returned (.bool (tokenK k)) ∧ w = w' := by
  go_enter Tryz.func125, Tryz.ntmps125
  go_wp2
  all_goals (go_ret; refine ⟨retBool ?_, rfl⟩)
  all_goals (unfold tokenK; rw [Bool.eq_iff_iff]; simp only [decide_eq_true_eq, Bool.or_eq_true, Bool.and_eq_true, Bool.false_eq_true, true_iff, false_iff, eq_self_iff_true]; omega)

/-- slices.Index over the seven trivia, in a block of the call's own. -/
def trivL : List Int := [0, 1, 2, 3, 4, 5, 9]
set_option maxHeartbeats 1000000 in
theorem index_triv (k : Nat) (g : Nat) (w : World) (hb : w.heap[g]? = some (.cells #[.int .u8 0, .int .u8 1, .int .u8 2, .int .u8 3, .int .u8 4, .int .u8 5, .int .u8 9] 229 (0, 0))) :
    Calls Tryz.prog 163 #[.slice (some ⟨g, 0, none⟩) 7 7, .int .u8 k] w fun e w' => (∃ r : Int, e = .returned (.int .i64 r) ∧ (0 ≤ r ↔ (k : Int) ∈ trivL)) ∧ w = w' := by
  have c : ∀ i : Nat, i < 7 → w.cell? ⟨g, i, none⟩ = some (.int .u8 (trivL.getD i 0)) := by
    intro i hi
    rw [blkCell hb]
    match i, hi with
    | 0, _ | 1, _ | 2, _ | 3, _ | 4, _ | 5, _ | 6, _ => rfl
  clear hb
  go_enter Tryz.func163, Tryz.ntmps163
  go_wp2
  go_loop [5, 8] (fun _ i => ∃ n : Nat, n ≤ 7 ∧ i = .int .i64 n ∧ ∀ j, j < n → trivL.getD j 0 ≠ k) (fun _ i => 7 - (intOf i).toNat)
  case atStart => exact ⟨0, by omega, rfl, fun j h => absurd h (by omega)⟩
  case round =>
    obtain ⟨n, hn, rfl, hall⟩ := hrel
    have H := Lib.hid hall
    clear hall
    by_cases hlt : n < 7
    · have hc := c n hlt
      clear c
      go_wp2
      · go_ret
        have he : (k : Int) = trivL[n]?.getD 0 := by first | assumption | (simp only [beq_iff_eq] at *; assumption)
        refine ⟨⟨n, rfl, fun _ => ?_, fun _ => by omega⟩, rfl⟩
        rw [he]
        have : n < trivL.length := hlt
        rw [List.getElem?_eq_getElem this]
        exact List.getElem_mem _
      · go_round
        case rel => 
          refine ⟨n + 1, by omega, by go_num, fun j hj => ?_⟩
          rcases Nat.lt_or_ge j n with h | h
          · exact H.out j h
          · obtain rfl : j = n := by omega
            simp only [List.getD_eq_getElem?_getD]
            simp only [beq_eq_false_iff_ne] at *
            exact fun h => by simp_all
        case measure => simp [intOf]; omega
    · obtain rfl : n = 7 := by omega
      clear c
      go_wp2
      go_ret
      refine ⟨⟨-1, rfl, fun h => absurd h (by omega), fun h => ?_⟩, rfl⟩
      exfalso
      have h0 := H.out 0 (by omega); have h1 := H.out 1 (by omega); have h2 := H.out 2 (by omega); have h3 := H.out 3 (by omega)
      have h4 := H.out 4 (by omega); have h5 := H.out 5 (by omega); have h6 := H.out 6 (by omega)
      simp [trivL] at *
      omega

theorem contains_triv (k : Nat) (g : Nat) (w : World) (hb : w.heap[g]? = some (.cells #[.int .u8 0, .int .u8 1, .int .u8 2, .int .u8 3, .int .u8 4, .int .u8 5, .int .u8 9] 229 (0, 0))) :
    Calls Tryz.prog 148 #[.slice (some ⟨g, 0, none⟩) 7 7, .int .u8 k] w fun e w' => e = .returned (.bool (decide ((k : Int) ∈ trivL))) ∧ w = w' := by
  have H := Lib.hid hb
  clear hb
  go_enter Tryz.func148, Tryz.ntmps148
  go_wp2_with (go_at_call 163; refine (index_triv k g _ H.out).mono ?_; rintro e w' ⟨⟨r, rfl, hr⟩, rfl⟩; have Hr := Lib.hid hr; clear hr)
  go_ret
  refine ⟨retBool ?_, rfl⟩
  rw [Bool.eq_iff_iff]
  simp only [decide_eq_true_eq]
  exact Hr.out

theorem trivia_any (w : World) : Calls Tryz.prog 147 #[] w fun e w' => e = .returned (.agg #[.int .u8 0, .int .u8 1, .int .u8 2, .int .u8 3, .int .u8 4, .int .u8 5, .int .u8 9]) ∧ Fr (fun _ => False) w w' := by
  go_enter Tryz.func147, Tryz.ntmps147
  go_wp2
  exact bodyPost_ret (v := .agg #[.int .u8 0, .int .u8 1, .int .u8 2, .int .u8 3, .int .u8 4, .int .u8 5, .int .u8 9]) (by simp [results, Tryz.results147, go_sem]) rfl ⟨rfl, (Fr.refl _ _).alloc _⟩

theorem mem_triv (k : Nat) : (k : Int) ∈ trivL ↔ (k ≤ 5 ∨ k = 9) := by
  simp [trivL]; omega

set_option maxHeartbeats 1000000 in
theorem counts_any (k : Nat) (w : World) : Calls Tryz.prog 124 #[.int .u8 k] w fun e w' => e = .returned (.bool (countsK k)) ∧ Fr (fun _ => False) w w' := by
  have key : (k : Int) ∈ trivL ↔ (k ≤ 5 ∨ k = 9) := mem_triv k
  have K := Lib.hid key
  clear key
  by_cases h1 : k ≤ 40
  · by_cases h2 : k ≤ 17
    · go_enter Tryz.func124, Tryz.ntmps124
      go_wp2_with fail
      refine (trivia_any _).mono ?_
      rintro e w1 ⟨rfl, hf⟩
      go_wp2_with fail
      refine (contains_triv k _ _ (by exact blkNew _ _)).mono ?_
      rintro e w2 ⟨rfl, rfl⟩
      go_wp2
      go_ret
      exact ⟨retBool (by rw [Bool.eq_iff_iff]; unfold countsK; simp [K.out]; omega), hf.alloc _⟩
    · by_cases h3 : 20 ≤ k
      · go_enter Tryz.func124, Tryz.ntmps124
        go_wp2_with fail
        refine (trivia_any _).mono ?_
        rintro e w1 ⟨rfl, hf⟩
        go_wp2_with fail
        refine (contains_triv k _ _ (by exact blkNew _ _)).mono ?_
        rintro e w2 ⟨rfl, rfl⟩
        go_wp2
        go_ret
        exact ⟨retBool (by rw [Bool.eq_iff_iff]; unfold countsK; simp [K.out]; omega), hf.alloc _⟩
      · go_enter Tryz.func124, Tryz.ntmps124
        go_wp2_with fail
        refine (trivia_any _).mono ?_
        rintro e w1 ⟨rfl, hf⟩
        go_wp2
        go_ret
        exact ⟨retBool (by unfold countsK; simp; omega), hf.alloc _⟩
  · go_enter Tryz.func124, Tryz.ntmps124
    go_wp2_with fail
    refine (trivia_any _).mono ?_
    rintro e w1 ⟨rfl, hf⟩
    go_wp2
    go_ret
    exact ⟨retBool (by unfold countsK; simp; omega), hf.alloc _⟩
def NextRel (l : List Tok) (i : Nat) (w : World) (x : Value) (wr : World) : Prop :=
  ∃ j : Nat, j ≤ l.length ∧ x = .int .i64 j ∧ next l j = next l i ∧ Fr (fun _ => False) w wr
set_option maxHeartbeats 1000000 in
theorem next_any (v : Value) (l : List Tok) (i : Nat) (w : World) (hi : i ≤ l.length) (hl : l.length ≤ 1000000000) (H : TokRow w v l) :
    Calls Tryz.prog 113 #[v, .int .i64 i] w fun e w' => e = .returned (.int .i64 (next l i : Nat)) ∧ Fr (fun _ => False) w w' := by
  obtain ⟨a, c, rfl, hc⟩ := H.shape
  go_enter Tryz.func113, Tryz.ntmps113
  go_wp2_with fail
  go_loopw [5] (fun x wr => NextRel l i w x wr) (fun x _ => l.length - (intOf x).toNat)
  case atStart => exact ⟨i, hi, rfl, rfl, Fr.refl _ _⟩
  case round =>
    obtain ⟨j, hj, rfl, hn, hf⟩ := hrel
    have Hn := Lib.hid hn
    clear hn
    by_cases hlt : j < l.length
    · have Hw := H.move (w' := wr) (fun k _ hk => hf.block k hk (fun h => h))
      obtain ⟨g, rfl, h0, _, _⟩ := Hw.get j l[j] (List.getElem?_eq_getElem hlt)
      have Hs := Lib.hid (next_step l j hlt)
      go_wp2_with fail
      refine (counts_any _ _).mono ?_
      rintro e w1 ⟨rfl, hf1⟩
      cases hk : countsK l[j].kind with
      | true =>
        have Hk := Lib.hid hk
        clear hk
        go_wp2
        go_ret
        exact ⟨retInt (by rw [← Hn.out, Hs.out, if_pos Hk.out]), hf.trans hf1⟩
      | false =>
        have Hk := Lib.hid hk
        clear hk
        go_wp2
        go_roundw
        case rel => exact ⟨j + 1, by omega, by go_num, by rw [← Hn.out, Hs.out, if_neg (by rw [Hk.out]; simp)], hf.trans hf1⟩
        case measure => simp [intOf]; omega
    · obtain rfl : j = l.length := by omega
      go_wp2
      go_ret
      exact ⟨retInt (by rw [← Hn.out, next_end]), hf⟩
end Go.Proofs.YtkicpjjfeekopaaGreatDoor

namespace Go.Proofs.YtkicpjjfeekopaaGreatDoor

/-- The place, and the kids so far. -/
abbrev St := Nat × List Tree
def kindM (toks : List Tok) (at_ : Nat) : Nat := match toks[next toks at_]? with | some t => t.kind | none => 0
def addM (s : St) (t : Tree) : Option St := if s.2.length < 1000000 then some (s.1, s.2 ++ [t]) else none
def gapM (toks : List Tok) (s : St) : Option St :=
  if s.2.length + (next toks s.1 - s.1) ≤ 1000000 then some (next toks s.1, s.2 ++ ((toks.drop s.1).take (next toks s.1 - s.1)).map leafT) else none
def nextM (toks : List Tok) (s : St) : Option St :=
  (gapM toks s).bind fun s1 => match toks[s1.1]? with | some t => (addM s1 (leafT t)).map fun s2 => (s1.1 + 1, s2.2) | none => none
def wantM (toks : List Tok) (k : Nat) (s : St) : Option St := if kindM toks s.1 = k then nextM toks s else addM s (missT k)
def sumM (kind : Nat) (s : St) : Option (Nat × Tree) := if sumW s.2 ≤ 4611686018427387904 ∧ s.2.length ≤ 1000000 then some (s.1, .node kind 0 (sumW s.2) s.2) else none

/-- What is done to a node in the making. -/
inductive MC where
  | inner | letB | fnB | params | paramsLoop | branch | loopB | back | doB | block | blockB | blockLoop | expression | exprB | args | argsLoop
  | fileB | fileLoop | wrongB | unaryB | groupB | nextB
  | binB (n : Nat) (first : Tree) | callB (first : Tree)
/-- What answers a node. -/
inductive NC where
  | statement | level (n : Nat) | levelLoop (n : Nat) (left : Tree) | unary | callLoop (left : Tree) | primary | make (kind : Nat) (body : MC)

section
variable (toks : List Tok) (M : MC → St → Option St) (N : NC → Nat → Option (Nat × Tree))
/-- Gap, then a part's node. -/
def putM (c : NC) (s : St) : Option St :=
  (gapM toks s).bind fun s1 => (N c s1.1).bind fun r => addM (r.1, s1.2) r.2
/-- A node without a gap ahead. -/
def nodeM (c : NC) (s : St) : Option St := (N c s.1).bind fun r => addM (r.1, s.2) r.2
def operandM (c : NC) (s : St) : Option St := if beginsK (kindM toks s.1) then putM toks N c s else addM s (missT 60)
/-- What a statement's kind has done. -/
def stmtBody (k : Nat) : MC := if k = 53 then .letB else if k = 54 then .fnB else if k = 56 then .branch else if k = 57 then .loopB else if k = 58 then .back else .doB
def bodyM : MC → St → Option St
  | .inner, s => if stmtOf (kindM toks s.1) ≠ 0 then putM toks N .statement s else (gapM toks s).bind fun s1 => nodeM N (.make 68 .wrongB) s1
  | .letB, s => (nextM toks s).bind fun s => (wantM toks 6 s).bind fun s => (wantM toks 26 s).bind fun s => (M .expression s).bind fun s => wantM toks 25 s
  | .fnB, s => (nextM toks s).bind fun s => (wantM toks 6 s).bind fun s => (gapM toks s).bind fun s => (nodeM N (.make 55 .params) s).bind fun s => M .block s
  | .params, s => (wantM toks 20 s).bind fun s => (if kindM toks s.1 = 6 then (nextM toks s).bind fun s => M .paramsLoop s else some s).bind fun s => wantM toks 21 s
  | .paramsLoop, s => if kindM toks s.1 = 24 then (nextM toks s).bind fun s => (wantM toks 6 s).bind fun s => M .paramsLoop s else some s
  | .branch, s => (nextM toks s).bind fun s => (M .expression s).bind fun s => (M .block s).bind fun s =>
      if kindM toks s.1 ≠ 13 then some s else (nextM toks s).bind fun s => if kindM toks s.1 = 12 then putM toks N .statement s else M .block s
  | .loopB, s => (nextM toks s).bind fun s => (M .expression s).bind fun s => M .block s
  | .back, s => (nextM toks s).bind fun s => (if beginsK (kindM toks s.1) then M .expression s else some s).bind fun s => wantM toks 25 s
  | .doB, s => (M .expression s).bind fun s => (if kindM toks s.1 = 26 then (nextM toks s).bind fun s => M .expression s else some s).bind fun s => wantM toks 25 s
  | .block, s => if kindM toks s.1 ≠ 22 then addM s (missT 52) else putM toks N (.make 52 .blockB) s
  | .blockB, s => (nextM toks s).bind fun s => (M .blockLoop s).bind fun s => wantM toks 23 s
  | .blockLoop, s => if kindM toks s.1 ≠ 23 ∧ kindM toks s.1 ≠ 0 then (M .inner s).bind fun s => M .blockLoop s else some s
  | .expression, s => if beginsK (kindM toks s.1) then putM toks N (.make 60 .exprB) s else addM s (missT 60)
  | .exprB, s => nodeM N (.level 1) s
  | .args, s => (nextM toks s).bind fun s => (if beginsK (kindM toks s.1) then (M .expression s).bind fun s => M .argsLoop s else some s).bind fun s => wantM toks 21 s
  | .argsLoop, s => if kindM toks s.1 = 24 then (nextM toks s).bind fun s => (M .expression s).bind fun s => M .argsLoop s else some s
  | .fileB, s => (M .fileLoop s).bind fun s => gapM toks s
  | .fileLoop, s => if kindM toks s.1 ≠ 0 then (M .inner s).bind fun s => M .fileLoop s else some s
  | .wrongB, s => (nextM toks s).bind fun s1 =>
      if kindM toks s.1 = 23 ∨ kindM toks s.1 = 25 ∨ kindM toks s1.1 = 0 ∨ kindM toks s1.1 = 23 ∨ stmtOf (kindM toks s1.1) ≠ 0 then some s1 else M .wrongB s1
  | .unaryB, s => (nextM toks s).bind fun s => operandM toks N .unary s
  | .groupB, s => (nextM toks s).bind fun s => (M .expression s).bind fun s => wantM toks 21 s
  | .nextB, s => nextM toks s
  | .binB n first, s => (addM s first).bind fun s => (nextM toks s).bind fun s => operandM toks N (.level (n + 1)) s
  | .callB first, s => (addM s first).bind fun s => (gapM toks s).bind fun s => nodeM N (.make 64 .args) s
def bodyN : NC → Nat → Option (Nat × Tree)
  | .statement, a => if stmtOf (kindM toks a) = 52 then (M .block (a, [])).bind fun s => match s.2[0]? with | some t => some (s.1, t) | none => none
      else if stmtOf (kindM toks a) = 0 then none else N (.make (stmtOf (kindM toks a)) (stmtBody (stmtOf (kindM toks a)))) a
  | .level n, a => if 5 < n then N .unary a else (N (.level (n + 1)) a).bind fun r => N (.levelLoop n r.2) r.1
  | .levelLoop n left, a => if levelOf (kindM toks a) = n then (N (.make 61 (.binB n left)) a).bind fun r => N (.levelLoop n r.2) r.1 else some (a, left)
  | .unary, a => if kindM toks a = 34 ∨ kindM toks a = 38 then N (.make 62 .unaryB) a else (N .primary a).bind fun r => N (.callLoop r.2) r.1
  | .callLoop left, a => if kindM toks a = 20 then (N (.make 63 (.callB left)) a).bind fun r => N (.callLoop r.2) r.1 else some (a, left)
  | .primary, a => if kindM toks a = 6 then N (.make 66 .nextB) a else if kindM toks a = 20 then N (.make 65 .groupB) a else N (.make 67 .nextB) a
  | .make kind body, a => (M body (a, [])).bind fun s => sumM kind s
end
mutual
def runM (toks : List Tok) : Nat → MC → St → Option St
  | 0, _, _ => none
  | f + 1, c, s => bodyM toks (runM toks f) (runN toks f) c s
def runN (toks : List Tok) : Nat → NC → Nat → Option (Nat × Tree)
  | 0, _, _ => none
  | f + 1, c, a => bodyN toks (runM toks f) (runN toks f) c a
end
/-- The whole. -/
def fileM (toks : List Tok) (f : Nat) : Option (Nat × Tree) := runN toks f (.make 51 .fileB) 0
end Go.Proofs.YtkicpjjfeekopaaGreatDoor

namespace Go.Proofs.YtkicpjjfeekopaaGreatDoor
open Go.RowKit

/-- What a parser stands over. -/
structure Ctx where
  bp : Nat
  tv : Value
  toks : List Tok
def Ctx.ok (T : Ctx) : Prop := T.toks.length ≤ 16384 ∧ ∀ t ∈ T.toks, t.kind < 256 ∧ t.width ≤ 67108864
def PS (T : Ctx) (w : World) (at_ : Nat) : Prop :=
  T.ok ∧ w.heap[T.bp]? = some (.cells #[T.tv, .int .i64 at_, .int .i64 (next T.toks at_ : Nat), .func (.func 83) #[] #[]] 167 (0, 0)) ∧ TokRow w T.tv T.toks ∧ at_ ≤ T.toks.length
def MK (T : Ctx) (w : World) (bm : Nat) (base : Nat → Prop) (kind : Nat) (ts : List Tree) : Prop :=
  ∃ v xs, w.heap[bm]? = some (.cells #[.int .u8 kind, .int .u8 0, .int .i64 0, v, .pointer (some ⟨T.bp, 0, none⟩)] 225 (0, 0)) ∧ w.ownsRow 0 27 4 v ts.length xs ∧
    RepL w (fun k => base k ∧ some k ≠ v.ownBlock) ts xs ∧ (∀ g, v.ownBlock = some g → base g)
def SS (T : Ctx) (w : World) (bm : Nat) (base : Nat → Prop) (kind : Nat) (s : St) : Prop := PS T w s.1 ∧ MK T w bm base kind s.2

/-- Every new block will do. -/
def NewB (B : Nat → Prop) (w : World) : Prop := ∀ k, w.heap.size ≤ k → B k
theorem NewB.mono {B : Nat → Prop} {w w' : World} (h : NewB B w) (hs : w.heap.size ≤ w'.heap.size) : NewB B w' := fun k hk => h k (Nat.le_trans hs hk)
def rowOf (w : World) (bm : Nat) : Option Nat := match w.cell? ⟨bm, 3, none⟩ with | some v => v.ownBlock | none => none
/-- Only the parser has turned, of what was there. -/
def FrP (T : Ctx) (w w' : World) : Prop := Fr (fun k => k = T.bp) w w'
/-- Only the parser, the node in the making and its row have turned. -/
def FrM (T : Ctx) (bm : Nat) (w w' : World) : Prop :=
  Fr (fun k => k = T.bp ∨ k = bm ∨ rowOf w bm = some k) w w' ∧ (rowOf w' bm = rowOf w bm ∨ ∃ b, rowOf w' bm = some b ∧ w.heap.size ≤ b)
theorem FrM.refl (T : Ctx) (bm : Nat) (w : World) : FrM T bm w w := ⟨Fr.refl _ _, .inl rfl⟩
theorem FrM.trans {T : Ctx} {bm : Nat} {a b c : World} (h : FrM T bm a b) (k : FrM T bm b c) : FrM T bm a c := by
  refine ⟨h.1.trans' k.1 (fun i hi hs => ?_), ?_⟩
  · rcases hs with hs | hs | hs
    · exact .inl hs
    · exact .inr (.inl hs)
    · rcases h.2 with h2 | ⟨b', h2, h3⟩
      · rw [h2] at hs; exact .inr (.inr hs)
      · rw [h2] at hs; injection hs with hs; omega
  · rcases k.2 with k2 | ⟨b', k2, k3⟩
    · rcases h.2 with h2 | ⟨b', h2, h3⟩
      · exact .inl (k2.trans h2)
      · exact .inr ⟨b', k2.trans h2, h3⟩
    · exact .inr ⟨b', k2, Nat.le_trans h.1.size k3⟩
/-- A call that turns the parser alone. -/
theorem FrM.ofP {T : Ctx} {bm : Nat} {w w' : World} {o : Obj} (h : FrP T w w') (hb : w.heap[bm]? = some o) (hne : bm ≠ T.bp) : FrM T bm w w' := by
  refine ⟨h.mono (fun i _ e => .inl e), .inl ?_⟩
  unfold rowOf
  rw [World.cell?_of_block (w := w) (a := ⟨bm, 3, none⟩) (h.block bm (blkLt hb) hne)]
theorem FrM.of0 {T : Ctx} {bm : Nat} {w w' : World} {o : Obj} (h : Fr (fun _ => False) w w') (hb : w.heap[bm]? = some o) : FrM T bm w w' := by
  refine ⟨h.mono (fun i _ e => e.elim), .inl ?_⟩
  unfold rowOf
  rw [World.cell?_of_block (w := w) (a := ⟨bm, 3, none⟩) (h.block bm (blkLt hb) (fun h => h))]
theorem FrP.of0 {T : Ctx} {w w' : World} (h : Fr (fun _ => False) w w') : FrP T w w' := h.mono (fun i _ e => e.elim)
theorem FrP.trans {T : Ctx} {a b c : World} (h : FrP T a b) (k : FrP T b c) : FrP T a c := Fr.trans h k

section
variable {T : Ctx} {w w' : World} {bm kind at_ : Nat} {base : Nat → Prop} {ts : List Tree} {s : St}
theorem PS.len (h : PS T w at_) : T.toks.length ≤ 16384 := h.1.1
theorem PS.le (h : PS T w at_) : at_ ≤ T.toks.length := h.2.2.2
theorem PS.next_le (h : PS T w at_) : at_ ≤ next T.toks at_ ∧ next T.toks at_ ≤ T.toks.length := next_ge _ _ h.le
theorem PS.blk (h : PS T w at_) : w.heap[T.bp]? = some (.cells #[T.tv, .int .i64 at_, .int .i64 (next T.toks at_ : Nat), .func (.func 83) #[] #[]] 167 (0, 0)) := h.2.1
theorem PS.row (h : PS T w at_) : TokRow w T.tv T.toks := h.2.2.1
theorem PS.c0 (h : PS T w at_) : w.cell? ⟨T.bp, 0, none⟩ = some T.tv := blkCell h.blk 0
theorem PS.c1 (h : PS T w at_) : w.cell? ⟨T.bp, 1, none⟩ = some (.int .i64 at_) := blkCell h.blk 1
theorem PS.c2 (h : PS T w at_) : w.cell? ⟨T.bp, 2, none⟩ = some (.int .i64 (next T.toks at_ : Nat)) := blkCell h.blk 2
theorem PS.c3 (h : PS T w at_) : w.cell? ⟨T.bp, 3, none⟩ = some (.func (.func 83) #[] #[]) := blkCell h.blk 3
theorem PS.fz (h : PS T w at_) (j : Nat) : w.frozen? ⟨T.bp, j, none⟩ = false := blkFree h.blk j
theorem PS.kind_lt (h : PS T w at_) : kindM T.toks at_ < 256 := by
  unfold kindM
  split
  · rename_i t ht
    exact (h.1.2 t (List.mem_of_getElem? ht)).1
  · omega
theorem MK.blk (h : MK T w bm base kind ts) : ∃ v, w.heap[bm]? = some (.cells #[.int .u8 kind, .int .u8 0, .int .i64 0, v, .pointer (some ⟨T.bp, 0, none⟩)] 225 (0, 0)) := by
  obtain ⟨v, xs, h, _⟩ := h; exact ⟨v, h⟩
theorem MK.c4 (h : MK T w bm base kind ts) : w.cell? ⟨bm, 4, none⟩ = some (.pointer (some ⟨T.bp, 0, none⟩)) := by
  obtain ⟨v, hv⟩ := h.blk; exact blkCell hv 4
theorem SS.c4 (h : SS T w bm base kind s) : w.cell? ⟨bm, 4, none⟩ = some (.pointer (some ⟨T.bp, 0, none⟩)) := h.2.c4
theorem SS.ne (h : SS T w bm base kind s) : bm ≠ T.bp := by
  obtain ⟨v, hv⟩ := h.2.blk
  exact blkNe hv h.1.blk (by decide)
/-- A box of another kind lives on. -/
theorem FrM.keep (h : FrM T bm w w') (hS : SS T w bm base kind s) {k : Nat} {cs : Array Value} {t : TypeId} {fr : Nat × Nat} (hb : w.heap[k]? = some (.cells cs t fr)) (ht : t ≠ 27 ∧ t ≠ 225 ∧ t ≠ 167) : w'.heap[k]? = some (.cells cs t fr) := by
  obtain ⟨v, xs, h1, h2, h3, h4⟩ := hS.2
  refine h.1.blk hb ?_
  rintro (e | e | e)
  · subst e
    have := hS.1.blk
    rw [hb] at this
    injection this with this
    injection this with _ this _
    exact ht.2.2 this
  · subst e
    rw [hb] at h1
    injection h1 with h1
    injection h1 with _ h1 _
    exact ht.2.1 h1
  · have hr : rowOf w bm = v.ownBlock := by unfold rowOf; rw [blkCell h1 3]; rfl
    rw [hr] at e
    obtain ⟨cur, hc⟩ := ownBlk h2 e
    rw [hb] at hc
    injection hc with hc
    injection hc with _ hc _
    exact ht.1 hc
theorem FrP.keep (h : FrP T w w') (hS : PS T w at_) {k : Nat} {cs : Array Value} {t : TypeId} {fr : Nat × Nat} (hb : w.heap[k]? = some (.cells cs t fr)) (ht : t ≠ 167) : w'.heap[k]? = some (.cells cs t fr) :=
  Fr.blk h hb (fun e => by
    subst e
    have := hS.blk
    rw [hb] at this
    injection this with this
    injection this with _ this _
    exact ht this)
theorem PS.move0 (h : PS T w at_) (hf : Fr (fun _ => False) w w') : PS T w' at_ :=
  ⟨h.1, hf.blk h.blk (fun h => h), h.row.move (fun k _ hl => hf.block k hl (fun h => h)), h.le⟩
theorem MK.move0 (h : MK T w bm base kind ts) (hf : Fr (fun _ => False) w w') : MK T w' bm base kind ts := by
  obtain ⟨v, xs, h1, h2, h3, h4⟩ := h
  exact ⟨v, xs, hf.blk h1 (fun h => h), ownMove h2 (fun k _ hl => hf.block k hl (fun h => h)), h3.fr hf (fun _ _ _ h => h), h4⟩
theorem SS.move0 (h : SS T w bm base kind s) (hf : Fr (fun _ => False) w w') : SS T w' bm base kind s := ⟨h.1.move0 hf, h.2.move0 hf⟩
/-- The node in the making lives on where the parser alone turns. -/
theorem MK.moveP (h : MK T w bm base kind ts) (hP : PS T w at_) (hf : FrP T w w') : MK T w' bm base kind ts := by
  obtain ⟨v, xs, h1, h2, h3, h4⟩ := h
  have hb := hP.blk
  refine ⟨v, xs, Fr.blk hf h1 (blkNe h1 hb (by decide)), ownMove h2 (fun k hk hl => hf.block k hl ?_), ?_, h4⟩
  · obtain ⟨cur, hc⟩ := ownBlk h2 hk
    exact blkNe hc hb (by decide)
  · refine RepL.mono (w := w') (P := fun k => (base k ∧ some k ≠ v.ownBlock) ∧ k ≠ T.bp) (fun k hk _ _ => hk.1) _ _ ?_
    refine RepL.fr (S := fun k => k = T.bp) (RepL.mono (fun k hk _ hc => ⟨hk, ?_⟩) _ _ h3) hf (fun k hk _ e => hk.2 e)
    obtain ⟨cur, hc⟩ := hc
    exact blkNe hc hb (by decide)
end
end Go.Proofs.YtkicpjjfeekopaaGreatDoor

namespace Go.Proofs.YtkicpjjfeekopaaGreatDoor
open Go.RowKit

section
variable {P : Program} {ops : Array Oper} {rest : List Oper} {o : Oper} {a : Act} {w w' : World} {Q : Exit → Act → World → Prop}
theorem stepVal {v : Value} (hg : o.guard = none) (hrun : (execOp a.eval o).run P w = .ok (.value v) w') (h : wpList P ops Q rest (a.put o.dst v) w') : wpList P ops Q (o :: rest) a w :=
  wpList_plain hg fun K hK => by
    unfold Oper.wp
    rw [hrun]
    exact hK _ _ h
theorem stepSkip (hg : o.guard = none) (hrun : (execOp a.eval o).run P w = .ok .skip w') (h : wpList P ops Q rest (a.put o.dst undef) w') : wpList P ops Q (o :: rest) a w :=
  wpList_plain hg fun K hK => by
    unfold Oper.wp
    rw [hrun]
    exact hK _ _ h

theorem stepStoreWhole (hg : o.guard = none) (ty : TypeId) (x y : Operand) (ho : o.op = .store ty x y) (g : Nat) (hx : a.eval x = .pointer (some ⟨g, 0, none⟩)) (cs vs : Array Value) (e : TypeId)
    (hb : w.heap[g]? = some (.cells cs e (0, 0))) (hy : a.eval y = .agg vs) (hsz : vs.size = cs.size) (hi : (P.info? ty).map (·.size) = some vs.size) (h1 : ∀ v ∈ vs.toList, v.oneCell' = true)
    (h : ∀ w', w'.heap[g]? = some (.cells vs e (0, 0)) → Fr (fun k => k = g) w w' → wpList P ops Q rest (a.put o.dst undef) w') : wpList P ops Q (o :: rest) a w := by
  obtain ⟨i, hi1, hi2⟩ := Option.map_eq_some_iff.1 hi
  have hst := run_storeCells_at P g 0 e vs.toList 0 cs w hb (by simp [hsz]) h1
  have hcs : (cs.toList.take (0 + 0) ++ vs.toList ++ cs.toList.drop (0 + 0 + vs.toList.length)).toArray = vs := by
    have : cs.toList.drop (0 + 0 + vs.toList.length) = [] := List.drop_eq_nil_of_le (by simp [hsz])
    rw [this]; simp
  rw [hcs] at hst
  refine stepSkip (w' := w.setRow g vs) hg ?_ (h _ (setRow_heap w g cs vs e (0, 0) hb) ⟨rfl, rfl, rfl, by simp [World.setRow], fun k hk hn => ?_⟩)
  · unfold execOp
    simp only [ho, hx, hy]
    simp [Instr.storeAt, Instr.sureAddr, storeVar, sizeOf, typeInfo, hi1, hi2, Value.cells, hst]
  · simp [World.setRow, Array.getElem?_modify, Ne.symm hn]

/-- An array that is built of constants: its run is reckoned by the kernel. -/
theorem stepBuildArr (hg : o.guard = none) (t : TypeId) (parts : Array (Nat × Operand)) (ho : o.op = .build t parts) (n e size : Nat) (hu : P.underlying t = some (.array n e)) (z : Value)
    (hz : (P.info? t).map (·.zero) = some (some z)) (hs : (P.info? e).map (·.size) = some size) (F : Array Value)
    (hf : Instr.fill (fun i => some (i * size, size)) z.cells (parts.toList.map fun p => (p.1, a.eval p.2)) = some F)
    (h : wpList P ops Q rest (a.put o.dst (.agg F)) w) : wpList P ops Q (o :: rest) a w := by
  obtain ⟨i, hi1, hi2⟩ := Option.map_eq_some_iff.1 hz
  obtain ⟨j, hj1, hj2⟩ := Option.map_eq_some_iff.1 hs
  refine stepVal hg ?_ h
  unfold execOp
  simp only [ho]
  simp [Instr.build, zeroValue, typeInfo, hi1, hi2, run_underlying hu, sizeOf, hj1, hj2]
  rw [hf]
  rfl

def zsOf (z : Value) (n : Nat) : Array Value := (Array.range n).map ((if n = 0 then #[] else z.cells)[· % (if n = 0 then #[] else z.cells).size]!)
theorem stepBuildSlice (hg : o.guard = none) (t : TypeId) (len : Nat) (parts : Array (Nat × Operand)) (ho : o.op = .buildSlice t len parts) (e size : Nat) (hu : P.underlying t = some (.slice e)) (z : Value)
    (hz : (P.info? e).map (fun i => (i.zero, i.size)) = some (some z, size)) (hl : len * size ≤ 16777216) (F : Array Value)
    (hf : Instr.fill (fun i => some (i * size, size)) (zsOf z (len * size)) (parts.toList.map fun p => (p.1, a.eval p.2)) = some F)
    (h : wpList P ops Q rest (a.put o.dst (.slice (some ⟨w.heap.size, 0, none⟩) len len)) (w.alloc (.cells F e))) : wpList P ops Q (o :: rest) a w := by
  obtain ⟨i, hi1, hi2⟩ := Option.map_eq_some_iff.1 hz
  simp only [Prod.mk.injEq] at hi2
  obtain ⟨hi2, hi3⟩ := hi2
  refine stepVal hg ?_ h
  unfold execOp
  simp only [ho]
  have hn : ¬ 16777216 < len * size := by omega
  by_cases h0 : len * size = 0
  · simp only [zsOf, if_pos h0] at hf
    simp [Instr.buildSlice, run_underlying hu, sizeOf, typeInfo, hi1, hi3, h0]
    have er : Array.range 0 = #[] := rfl
    simp only [h0, er, Array.map_empty] at hf ⊢
    rw [hf]
    simp [newRow]
  · simp only [zsOf, if_neg h0] at hf
    simp [Instr.buildSlice, run_underlying hu, sizeOf, typeInfo, zeroValue, hi1, hi2, hi3, h0, hn]
    rw [hf]
    simp [newRow]

theorem stepAlloc (hg : o.guard = none) (t : TypeId) (ho : o.op = .alloc t) (z : Value) (hz : (P.info? t).map (·.zero) = some (some z))
    (h : wpList P ops Q rest (a.put o.dst (.pointer (some ⟨w.heap.size, 0, none⟩))) (w.alloc (.cells z.cells t))) : wpList P ops Q (o :: rest) a w := by
  obtain ⟨i, hi1, hi2⟩ := Option.map_eq_some_iff.1 hz
  refine stepVal hg ?_ h
  unfold execOp
  simp only [ho]
  simp [Instr.alloc, zeroValue, typeInfo, hi1, hi2, newVar, newRow]

theorem stepBuildChk (chk : Array Value → Bool) (hg : o.guard = none) (t : TypeId) (parts : Array (Nat × Operand)) (ho : o.op = .build t parts) (n e size : Nat) (hu : P.underlying t = some (.array n e)) (z : Value)
    (hz : (P.info? t).map (·.zero) = some (some z)) (hs : (P.info? e).map (·.size) = some size)
    (hf : (Instr.fill (fun i => some (i * size, size)) z.cells (parts.toList.map fun p => (p.1, a.eval p.2))).map chk = some true)
    (h : ∀ F : Array Value, chk F = true → wpList P ops Q rest (a.put o.dst (.agg F)) w) : wpList P ops Q (o :: rest) a w := by
  obtain ⟨F, hF, hc⟩ := Option.map_eq_some_iff.1 hf
  exact stepBuildArr hg t parts ho n e size hu z hz hs F hF (h F hc)

/-- A new block, its number and the world behind it as variables. -/
theorem stepBoxAbs (hg : o.guard = none) (t : TypeId) (x : Operand) (ho : o.op = .box t x) (v : Value) (hx : a.eval x = v)
    (h : ∀ (kb : Nat) (w' : World), w.heap.size ≤ kb → w'.heap[kb]? = some (.cells v.cells t (0, 0)) → Fr (fun _ => False) w w' → wpList P ops Q rest (a.put o.dst (.pointer (some ⟨kb, 0, none⟩))) w') : wpList P ops Q (o :: rest) a w := by
  refine stepVal hg ?_ (h w.heap.size (w.alloc (.cells v.cells t)) (Nat.le_refl _) (blkNew _ _) ((Fr.refl _ _).alloc _))
  unfold execOp
  simp only [ho, hx]
  simp [Instr.box, newVar, newRow]
theorem stepAllocAbs (hg : o.guard = none) (t : TypeId) (ho : o.op = .alloc t) (z : Value) (hz : (P.info? t).map (·.zero) = some (some z))
    (h : ∀ (kb : Nat) (w' : World), w.heap.size ≤ kb → w'.heap[kb]? = some (.cells z.cells t (0, 0)) → Fr (fun _ => False) w w' → wpList P ops Q rest (a.put o.dst (.pointer (some ⟨kb, 0, none⟩))) w') : wpList P ops Q (o :: rest) a w :=
  stepAlloc hg t ho z hz (h w.heap.size (w.alloc (.cells z.cells t)) (Nat.le_refl _) (blkNew _ _) ((Fr.refl _ _).alloc _))

theorem stepBuildSliceChk (chk : Array Value → Bool) (hg : o.guard = none) (t : TypeId) (len : Nat) (parts : Array (Nat × Operand)) (ho : o.op = .buildSlice t len parts) (e size : Nat) (hu : P.underlying t = some (.slice e)) (z : Value)
    (hz : (P.info? e).map (fun i => (i.zero, i.size)) = some (some z, size)) (hl : len * size ≤ 16777216)
    (hf : (Instr.fill (fun i => some (i * size, size)) (zsOf z (len * size)) (parts.toList.map fun p => (p.1, a.eval p.2))).map chk = some true)
    (h : ∀ (F : Array Value) (g : Nat) (w' : World), chk F = true → w.heap.size ≤ g → w'.heap[g]? = some (.cells F e (0, 0)) → Fr (fun _ => False) w w' → wpList P ops Q rest (a.put o.dst (.slice (some ⟨g, 0, none⟩) len len)) w') : wpList P ops Q (o :: rest) a w := by
  obtain ⟨F, hF, hc⟩ := Option.map_eq_some_iff.1 hf
  exact stepBuildSlice hg t len parts ho e size hu z hz hl F hF (h F _ _ hc (Nat.le_refl _) (blkNew _ _) ((Fr.refl _ _).alloc _))
end
end Go.Proofs.YtkicpjjfeekopaaGreatDoor

namespace Go.Proofs.YtkicpjjfeekopaaGreatDoor
open Go.RowKit

theorem Act.size_put (a : Act) (d : Option Tmp) (v : Value) : (a.put d v).tmps.size = a.tmps.size := by cases d <;> simp [Act.put]
theorem Act.defers_put (a : Act) (d : Option Tmp) (v : Value) : (a.put d v).defers = a.defers := by cases d <;> rfl
theorem Act.get_put (a : Act) (d i : Nat) (v : Value) (hd : d < a.tmps.size) : (a.put (some d) v).tmps[i]? = if i = d then some v else a.tmps[i]? := by
  simp only [Act.put, Array.getElem?_setIfInBounds]
  by_cases h : i = d
  · subst h; simp [hd]
  · simp [h, Ne.symm h]
theorem Act.eval_tmp (a : Act) (i : Nat) (v : Value) (h : a.tmps[i]? = some v) : a.eval (.tmp i) = v := by
  simp [Act.eval, Array.getD_eq_getD_getElem?, h]

def ruleParts : List Nat := [51, 101, 101, 102, 102, 102, 102, 102, 102, 102, 53, 54, 55, 103, 103, 104, 104, 56, 105, 105, 106, 106, 57, 58, 107, 107, 52, 59, 108, 108, 60, 111, 121, 121, 112, 122, 122, 113, 123, 123, 123, 123, 123, 123, 123, 114, 124, 124, 124, 115, 125, 125, 125, 125, 116, 116, 116, 117, 118, 118, 64, 109, 109, 110, 110, 119, 119, 119, 66, 67, 67, 67, 67, 65]

structure RInv (w0 : World) (a : Act) (w : World) (m : Nat) : Prop where
  size : a.tmps.size = 150
  defers : a.defers = []
  fr : Fr (fun _ => False) w0 w
  got : ∀ j, j < m → ∃ s n, a.tmps[2 * j + 2]? = some (.agg #[.int .u8 (ruleParts.getD j 0 : Nat), .slice (some ⟨s, 0, none⟩) n n])

theorem info5 : (Tryz.prog.info? 5).map (fun i => (i.zero, i.size)) = some (some (.int .u8 0), 1) := by kernel_rfl
theorem info5g : (Tryz.prog.info? 5).map (·.size) = some 1 := by kernel_rfl
theorem info55s : (Tryz.prog.info? 55).map (·.size) = some 1 := by kernel_rfl

theorem rulePair {w0 w : World} {a : Act} {m : Nat} (hI : RInv w0 a w m) {ops : Array Oper} {rest : List Oper} {Q : Exit → Act → World → Prop} {n : Nat} {parts : Array (Nat × Operand)} {p : Int} {pos1 pos2 : String} {af1 af2 : Array Edge} {d1 d2 d3 : Nat}
    (hm : 2 * m + 2 < 150) (hd1 : d1 = 2 * m + 1) (hd2 : d2 = 2 * m + 2) (hd3 : d3 = d1) (hp : (ruleParts.getD m 0 : Nat) = p) (hn : n ≤ 100)
    (hf : ∀ a : Act, (Instr.fill (fun i => some (i * 1, 1)) (zsOf (.int .u8 0) (n * 1)) (parts.toList.map fun p => (p.1, a.eval p.2))).isSome = true)
    (h : ∀ (a : Act) (w : World), RInv w0 a w (m + 1) → wpList Tryz.prog ops Q rest a w) :
    wpList Tryz.prog ops Q ({ dst := some d1, op := .buildSlice 55 n parts, type := 55, pos := pos1, after := af1, guard := none } ::
      { dst := some d2, op := .build 261 #[(0, .const (.int .u8 p)), (1, .tmp d3)], type := 261, pos := pos2, after := af2, guard := none } :: rest) a w := by
  subst hd1; subst hd2; subst hd3; subst hp
  obtain ⟨F, hF⟩ := Option.isSome_iff_exists.1 (hf a)
  refine stepBuildSlice rfl 55 n parts rfl 5 1 Tryz.underlying55 (.int .u8 0) info5 (by omega) F hF ?_
  have hs : a.tmps.size = 150 := hI.size
  have e1 : (a.put (some (2 * m + 1)) (.slice (some ⟨w.heap.size, 0, none⟩) n n)).eval (.tmp (2 * m + 1)) = .slice (some ⟨w.heap.size, 0, none⟩) n n :=
    Act.eval_tmp _ _ _ (by rw [Act.get_put _ _ _ _ (by omega), if_pos rfl])
  refine stepVal (v := .agg #[.int .u8 (ruleParts.getD m 0 : Nat), .slice (some ⟨w.heap.size, 0, none⟩) n n]) (w' := w.alloc (.cells F 5)) rfl ?_ (h _ _ ⟨?_, ?_, ?_, ?_⟩)
  · generalize a.put (some (2 * m + 1)) (.slice (some ⟨w.heap.size, 0, none⟩) n n) = a1 at e1
    have e0 : a1.eval (.const (.int .u8 (ruleParts.getD m 0 : Nat))) = .int .u8 (ruleParts.getD m 0 : Nat) := rfl
    generalize ((ruleParts.getD m 0 : Nat) : Int) = q at e0
    generalize w.alloc (.cells F 5) = w1
    generalize a1.eval = ev at e1 e0
    simp [execOp, go_sem, e1, e0]
  · rw [Act.size_put, Act.size_put, hs]
  · rw [Act.defers_put, Act.defers_put, hI.defers]
  · exact hI.fr.alloc _
  · intro j hj
    rw [Act.get_put _ _ _ _ (by rw [Act.size_put]; omega), Act.get_put _ _ _ _ (by omega)]
    by_cases hjm : j = m
    · subst hjm
      refine ⟨w.heap.size, n, ?_⟩
      rw [if_pos rfl]
    · rw [if_neg (by omega), if_neg (by omega)]
      exact hI.got j (by omega)

/-- What comes of parts of two cells each. -/
theorem fillPairs (V : Nat → Value) (ps : Nat → Int) (hV : ∀ i, i < 74 → ∃ s m, V i = .agg #[.int .u8 (ps i), .slice (some ⟨s, 0, none⟩) m m]) : ∀ (n k : Nat) (cells : Array Value), k + n ≤ 74 → cells.size = 148 → (∀ v ∈ cells.toList, v.oneCell' = true) →
    ∃ F, Instr.fill (fun i => some (i * 2, 2)) cells ((List.range' k n).map fun i => (i, V i)) = some F ∧ F.size = 148 ∧ (∀ v ∈ F.toList, v.oneCell' = true) ∧ (∀ j, j < k → F[2 * j]? = cells[2 * j]?) ∧ (∀ j, j < k → F[2 * j + 1]? = cells[2 * j + 1]?) ∧ (∀ j, k ≤ j → j < k + n → F[2 * j]? = some (.int .u8 (ps j)) ∧ ∃ s m, F[2 * j + 1]? = some (.slice (some ⟨s, 0, none⟩) m m))
  | 0, k, cells, _, hs, h1 => ⟨cells, rfl, hs, h1, fun _ _ => rfl, fun _ _ => rfl, fun j h1 h2 => absurd h2 (by omega)⟩
  | n + 1, k, cells, hk, hs, h1 => by
    obtain ⟨s, m, hv⟩ := hV k (by omega)
    obtain ⟨v, hve⟩ : ∃ v, v = Value.slice (some ⟨s, 0, none⟩) m m := ⟨_, rfl⟩
    have hv1 : v.oneCell' = true := by rw [hve]; rfl
    rw [← hve] at hv
    obtain ⟨F, hF, hFs, hF1, hFa, hFc, hFb⟩ := fillPairs V ps hV n (k + 1) ((cells.setIfInBounds (k * 2) (.int .u8 (ps k))).setIfInBounds (k * 2 + 1) v) (by omega) (by simp [hs]) (by
      intro u hu
      rw [Array.mem_toList_iff, Array.mem_iff_getElem?] at hu
      obtain ⟨j, hj⟩ := hu
      simp only [Array.getElem?_setIfInBounds] at hj
      split at hj
      · split at hj
        · injection hj with hj; rw [← hj]; exact hv1
        · cases hj
      · split at hj
        · split at hj
          · injection hj with hj; rw [← hj]; rfl
          · cases hj
        · exact h1 u (by rw [Array.mem_toList_iff, Array.mem_iff_getElem?]; exact ⟨j, hj⟩))
    refine ⟨F, ?_, hFs, hF1, fun j hj => ?_, fun j hj => ?_, fun j hj1 hj2 => ?_⟩
    · simp only [List.range'_succ, List.map_cons, Instr.fill, hv, Value.cells]
      have hne : ¬ (k * 2 + 2 > cells.size) := by omega
      simp [hs, hne]
      exact ⟨by omega, hF⟩
    · rw [hFa j (by omega)]
      simp only [Array.getElem?_setIfInBounds]
      rw [if_neg (by omega), if_neg (by omega)]
    · rw [hFc j (by omega)]
      simp only [Array.getElem?_setIfInBounds]
      rw [if_neg (by omega), if_neg (by omega)]
    · rcases Nat.lt_or_ge k j with h | h
      · exact hFb j (by omega) (by omega)
      · obtain rfl : j = k := by omega
        refine ⟨?_, s, m, ?_⟩
        · rw [hFa j (by omega)]
          simp only [Array.getElem?_setIfInBounds]
          rw [if_neg (by omega), if_pos (by omega), if_pos (by simp [hs]; omega)]
        · rw [hFc j (by omega)]
          simp only [Array.getElem?_setIfInBounds]
          rw [if_pos (by omega), if_pos (by simp [hs]; omega), hve]

theorem info261 : (Tryz.prog.info? 261).map (fun i => (i.zero, i.size)) = some (some (.agg #[.int .u8 0, .slice none 0 0]), 2) := by kernel_rfl

/-- The rules: 74 of them; which part each is of. -/
def RuleRow (w : World) (g : Nat) : Prop := ∃ F : Array Value, w.heap[g]? = some (.cells F 261 (0, 0)) ∧ F.size = 148 ∧ (∀ v ∈ F.toList, v.oneCell' = true) ∧ ∀ j, j < 74 → F[2 * j]? = some (.int .u8 (ruleParts.getD j 0 : Nat)) ∧ ∃ s m, F[2 * j + 1]? = some (.slice (some ⟨s, 0, none⟩) m m)

set_option maxHeartbeats 2000000 in
set_option maxRecDepth 100000 in
theorem rules_any (w : World) : Calls Tryz.prog 195 #[] w fun e w' => (∃ g, e = .returned (.slice (some ⟨g, 0, none⟩) 74 74) ∧ RuleRow w' g ∧ w.heap.size ≤ g) ∧ Fr (fun _ => False) w w' := by
  refine calls_of_wp Tryz.func195 rfl ?_
  refine wp_seq ?_
  refine wp_region_list ?_
  refine stepVal (v := .slice none 0 0) (w' := w) rfl rfl ?_
  refine wpList_nil ?_
  show Code.wp _ _ _ _ _
  refine wp_seq ?_
  refine wp_region_list ?_
  have hI : RInv w (Act.put { tmps := #[] ++ Array.replicate (Tryz.f195.ntmps - (#[] : Array Value).size) undef, defers := [] } (some 0) (.slice none 0 0)) w 0 :=
    ⟨by rw [Act.size_put]; rfl, rfl, Fr.refl _ _, fun j hj => absurd hj (by omega)⟩
  generalize Act.put { tmps := #[] ++ Array.replicate (Tryz.f195.ntmps - (#[] : Array Value).size) undef, defers := [] } (some 0) (.slice none 0 0) = a at hI
  iterate 74 (refine rulePair hI (by omega) rfl rfl rfl rfl (by omega) (fun a => by kernel_rfl) ?_; clear hI; intro a w1 hI)
  have hV : ∀ i, i < 74 → ∃ s m, a.eval (.tmp (2 * i + 2)) = .agg #[.int .u8 ((ruleParts.getD i 0 : Nat) : Int), .slice (some ⟨s, 0, none⟩) m m] := fun i hi => by
    obtain ⟨s, m, hv⟩ := hI.got i hi
    exact ⟨s, m, Act.eval_tmp _ _ _ hv⟩
  obtain ⟨F, hF, hFs, hF1, _, _, hFb⟩ := fillPairs (fun i => a.eval (.tmp (2 * i + 2))) (fun i => ((ruleParts.getD i 0 : Nat) : Int)) hV 74 0 (zsOf (.agg #[.int .u8 0, .slice none 0 0]) (74 * 2)) (by omega) (by kernel_rfl)
    (by
      intro v hv
      have hall : (zsOf (.agg #[.int .u8 0, .slice none 0 0]) (74 * 2)).toList.all (fun v => v.oneCell') = true := by kernel_rfl
      exact List.all_eq_true.1 hall v hv)
  refine stepBuildSlice rfl 253 74 _ rfl 261 2 Tryz.underlying253 (.agg #[.int .u8 0, .slice none 0 0]) info261 (by omega) F hF ?_
  have ev : (a.put (some 149) (.slice (some ⟨w1.heap.size, 0, none⟩) 74 74)).eval (.tmp 149) = .slice (some ⟨w1.heap.size, 0, none⟩) 74 74 :=
    Act.eval_tmp _ _ _ (by rw [Act.get_put _ _ _ _ (by rw [hI.size]; omega), if_pos rfl])
  have hsz : (a.put (some 149) (.slice (some ⟨w1.heap.size, 0, none⟩) 74 74)).tmps.size = 150 := by rw [Act.size_put, hI.size]
  have hdf : (a.put (some 149) (.slice (some ⟨w1.heap.size, 0, none⟩) 74 74)).defers = [] := by rw [Act.defers_put, hI.defers]
  show wpList _ _ _ _ (a.put (some 149) (.slice (some ⟨w1.heap.size, 0, none⟩) 74 74)) _
  generalize a.put (some 149) (.slice (some ⟨w1.heap.size, 0, none⟩) 74 74) = b at ev hsz hdf
  refine stepVal (v := .slice (some ⟨w1.heap.size, 0, none⟩) 74 74) (w' := w1.alloc (.cells F 261)) rfl ?_ ?_
  · simp only [execOp, ev]; rfl
  refine wpList_nil ?_
  refine wp_ret ?_
  have e0 : (b.put (some 0) (.slice (some ⟨w1.heap.size, 0, none⟩) 74 74)).tmps.getD 0 undef = .slice (some ⟨w1.heap.size, 0, none⟩) 74 74 := by
    rw [Array.getD_eq_getD_getElem?, Act.get_put _ _ _ _ (by omega), if_pos rfl]; rfl
  refine bodyPost_ret (v := .slice (some ⟨w1.heap.size, 0, none⟩) 74 74) ?_ (by exact hdf) ⟨⟨w1.heap.size, rfl, ⟨F, blkNew _ _, hFs, hF1, fun j hj => hFb j (by omega) (by omega)⟩, hI.fr.size⟩, hI.fr.alloc _⟩
  refine (results_tmp (fn := Tryz.f195) (t := 0) rfl _ _ _).trans ?_
  rw [e0]
def isU64 : Value → Bool | .int .u64 _ => true | _ => false
def isX : Option Value → Bool | some (.int .u64 n) => n == 292059021760 | _ => false
def chkFirst (F : Array Value) : Bool := F.size == 256 && isX F[60]? && F.toList.all isU64
def chkArr (F : Array Value) : Bool := F.size == 256 && F.toList.all isU64
theorem info255 : (Tryz.prog.info? 255).map (·.zero) = some (some (.agg (Array.replicate 256 (.int .u64 0)))) := by kernel_rfl
theorem info255s : (Tryz.prog.info? 255).map (·.size) = some 256 := by kernel_rfl
theorem info254s : (Tryz.prog.info? 254).map (·.size) = some 1 := by kernel_rfl
theorem chkArr_iff (F : Array Value) (h : chkArr F = true) : F.size = 256 ∧ ∀ v ∈ F.toList, v.oneCell' = true := by
  unfold chkArr at h
  simp only [Bool.and_eq_true, beq_iff_eq] at h
  refine ⟨h.1, fun v hv => ?_⟩
  have := List.all_eq_true.1 h.2 v hv
  unfold isU64 at this
  split at this
  · rfl
  · cases this
theorem chkFirst_iff (F : Array Value) (h : chkFirst F = true) : chkArr F = true ∧ F[60]? = some (.int .u64 292059021760) := by
  unfold chkFirst at h
  simp only [Bool.and_eq_true, beq_iff_eq] at h
  refine ⟨by unfold chkArr; simp only [Bool.and_eq_true, beq_iff_eq]; exact ⟨h.1.1, h.2⟩, ?_⟩
  have h2 := h.1.2
  unfold isX at h2
  split at h2
  · rename_i n hn
    rw [hn]
    simp only [beq_iff_eq] at h2
    rw [h2]
  · cases h2
def FRow (w : World) (g : Nat) (F : Array Value) : Prop := w.heap[g]? = some (.cells F 255 (0, 0)) ∧ chkArr F = true
set_option maxRecDepth 100000 in
theorem follows_any (w : World) : Calls Tryz.prog 197 #[] w fun e w' => (∃ F, e = .returned (.agg F) ∧ chkArr F = true) ∧ Fr (fun _ => False) w w' := by
  go_enter Tryz.func197, Tryz.ntmps197
  refine wp_seq ?_
  refine wp_region_list ?_
  refine stepAlloc rfl 255 rfl _ info255 ?_
  refine wpList_nil ?_
  refine wp_seq (x := Code.region _ _ _) ?_
  refine wp_region_list ?_
  have hb := blkNew w (.cells (Value.agg (Array.replicate 256 (.int .u64 0))).cells 255)
  have hf : Fr (fun _ => False) w (w.alloc (.cells (Value.agg (Array.replicate 256 (.int .u64 0))).cells 255)) := (Fr.refl _ _).alloc _
  have hg : ∃ g, g = w.heap.size := ⟨_, rfl⟩
  obtain ⟨g, hg⟩ := hg
  rw [← hg] at hb ⊢
  generalize w.alloc (.cells (Value.agg (Array.replicate 256 (.int .u64 0))).cells 255) = w1 at hb hf
  refine stepBuildChk chkArr rfl 255 _ rfl 256 254 1 Tryz.underlying255 _ info255 info254s (by kernel_rfl) ?_
  intro F hF
  obtain ⟨h1, h2⟩ := chkArr_iff F hF
  refine stepStoreWhole rfl 255 (.tmp 0) (.tmp 1) rfl g rfl _ F 255 hb rfl (by rw [h1]; rfl) (by rw [info255s, h1]) h2 ?_
  intro w2 hb2 hf2
  refine wpList_nil ?_
  refine wp_ret ?_
  refine bodyPost_ret (v := .agg F) (results_cell_row (fn := Tryz.f197) (p := 0) (ty := 255) rfl _ _ g 255 F (0, 0) _ rfl hb2 Tryz.underlying255 rfl (by rw [info255s, h1])) rfl ⟨⟨F, rfl, hF⟩, hf.trans' hf2 (fun i hi e => by omega)⟩
theorem chkFirst_set (G : Array Value) (s : Nat) (n : Int) (h : chkFirst G = true) (hs : s ≠ 60) : chkFirst (G.setIfInBounds s (.int .u64 n)) = true := by
  unfold chkFirst at *
  simp only [Bool.and_eq_true, beq_iff_eq] at *
  refine ⟨⟨by simp [h.1.1], ?_⟩, ?_⟩
  · rw [Array.getElem?_setIfInBounds, if_neg (by omega)]; exact h.1.2
  · rw [List.all_eq_true] at *
    intro v hv
    rw [Array.mem_toList_iff, Array.mem_iff_getElem?] at hv
    obtain ⟨j, hj⟩ := hv
    rw [Array.getElem?_setIfInBounds] at hj
    split at hj
    · split at hj
      · injection hj with hj; rw [← hj]; rfl
      · cases hj
    · exact h.2 v (by rw [Array.mem_toList_iff, Array.mem_iff_getElem?]; exact ⟨j, hj⟩)
def FirstRel (w : World) (g : Nat) (x : Value) (wr : World) : Prop := ∃ s : Nat, 1 ≤ s ∧ s ≤ 41 ∧ x = .int .u8 s ∧ (∃ F, wr.heap[g]? = some (.cells F 255 (0, 0)) ∧ chkFirst F = true) ∧ Fr (fun _ => False) w wr
set_option maxRecDepth 100000 in
set_option maxHeartbeats 1000000 in
theorem firsts_any (w : World) : Calls Tryz.prog 196 #[] w fun e w' => (∃ F, e = .returned (.agg F) ∧ chkFirst F = true) ∧ Fr (fun _ => False) w w' := by
  go_enter Tryz.func196, Tryz.ntmps196
  refine wp_seq_k ?_
  intro K hK
  refine wp_region_list ?_
  refine stepAlloc rfl 255 rfl _ info255 ?_
  refine wpList_nil ?_
  refine hK _ _ ?_
  clear hK K
  refine wp_seq_k (x := Code.region _ _ _) ?_
  intro K hK
  refine wp_region_list ?_
  have hb := blkNew w (.cells (Value.agg (Array.replicate 256 (.int .u64 0))).cells 255)
  have hf : Fr (fun _ => False) w (w.alloc (.cells (Value.agg (Array.replicate 256 (.int .u64 0))).cells 255)) := (Fr.refl _ _).alloc _
  have hg : ∃ g, g = w.heap.size := ⟨_, rfl⟩
  obtain ⟨g, hg⟩ := hg
  have hgl : w.heap.size ≤ g := by omega
  rw [← hg] at hb ⊢
  generalize w.alloc (.cells (Value.agg (Array.replicate 256 (.int .u64 0))).cells 255) = w1 at hb hf
  clear hg
  refine stepBuildChk chkFirst rfl 255 _ rfl 256 254 1 Tryz.underlying255 _ info255 info254s (by kernel_rfl) ?_
  intro F hF
  obtain ⟨h1, h2⟩ := chkArr_iff F (chkFirst_iff F hF).1
  refine stepStoreWhole rfl 255 (.tmp 0) (.tmp 2) rfl g rfl _ F 255 hb rfl (by rw [h1]; rfl) (by rw [info255s, h1]) h2 ?_
  intro w2 hb2 hf2
  have hf3 : Fr (fun _ => False) w w2 := hf.trans' hf2 (fun i hi e => by omega)
  clear hf hf2 hb h1 h2
  refine wpList_nil ?_
  refine hK _ _ ?_
  clear hK K
  simp only [Act.put, List.setIfInBounds_toArray, List.set_cons_zero, List.set_cons_succ]
  have HB := Lib.hid hb2
  clear hb2
  go_wp2_with fail
  go_loopw [1] (fun x wr => FirstRel w g x wr) (fun x _ => 41 - (intOf x).toNat)
  case atStart => exact ⟨1, by omega, by omega, rfl, ⟨F, HB.out, hF⟩, hf3⟩
  case round =>
    obtain ⟨s, hs1, hs2, rfl, ⟨G, hG, hc⟩, hfr⟩ := hrel
    obtain ⟨h1, h2⟩ := chkArr_iff G (chkFirst_iff G hc).1
    by_cases hlt : s ≤ 40
    · have hcell : ∃ v, wr.cell? ⟨g, s, none⟩ = some v := ⟨G[s]'(by omega), by rw [blkCell hG s, Array.getElem?_eq_getElem (by omega)]⟩
      obtain ⟨v, hv⟩ := hcell
      have hfz := blkFree hG s
      have HG := Lib.hid hG
      have Hc := Lib.hid hc
      clear hG hc h2
      go_wp2_with fail
      refine ⟨⟨s + 1, by omega, by omega, by go_num, ⟨_, blkSet HG.out s _, chkFirst_set G s _ Hc.out (by omega)⟩, hfr.setCell (fun h => by simp at h; omega) _⟩, by simp [intOf]; omega⟩
    · obtain rfl : s = 41 := by omega
      have HG := Lib.hid hG
      have Hc := Lib.hid hc
      have H1 := Lib.hid h1
      have H2 := Lib.hid h2
      clear hG hc h1 h2
      have q1 : (Tryz.prog.info? 255).map (·.size) = some G.size := by rw [info255s, H1.out]
      go_wp2_with (first | (refine wpList_load_row rfl 255 (.tmp 0) rfl g rfl 255 G (0, 0) _ HG.out Tryz.underlying255 rfl q1 ?_) | (refine stepStoreWhole rfl 255 (.tmp 0) (.tmp 11) rfl g rfl G G 255 HG.out rfl rfl q1 H2.out ?_; intro w4 hb4 hf4; have HB4 := Lib.hid hb4; clear hb4))
      exact bodyPost_ret (v := .agg G) (results_cell_row (fn := Tryz.f196) (p := 0) (ty := 255) rfl _ _ g 255 G (0, 0) _ rfl HB4.out Tryz.underlying255 rfl q1) rfl ⟨⟨G, rfl, Hc.out⟩, hfr.trans' hf4 (fun i hi e => by omega)⟩
def putC (cells : Array Value) (off : Nat) (vs : Array Value) : Array Value := vs.zipIdx.foldl (fun cs x => cs.setIfInBounds (off + x.2) x.1) cells
theorem foldPut (l : List Value) : ∀ (n off : Nat) (cells : Array Value), ((l.zipIdx n).foldl (fun cs x => cs.setIfInBounds (off + x.2) x.1) cells).size = cells.size ∧
    ∀ j, j < cells.size → ((l.zipIdx n).foldl (fun cs x => cs.setIfInBounds (off + x.2) x.1) cells)[j]? = if off + n ≤ j ∧ j < off + n + l.length then l[j - (off + n)]? else cells[j]? := by
  induction l with
  | nil => intro n off cells; refine ⟨rfl, fun j hj => ?_⟩; rw [if_neg (by simp)]; rfl
  | cons v l ih =>
    intro n off cells
    simp only [List.zipIdx_cons, List.foldl_cons]
    obtain ⟨h1, h2⟩ := ih (n + 1) off (cells.setIfInBounds (off + n) v)
    refine ⟨by rw [h1]; simp, fun j hj => ?_⟩
    rw [h2 j (by simpa using hj)]
    by_cases hj1 : off + n ≤ j ∧ j < off + n + (v :: l).length
    · rw [if_pos hj1]
      by_cases hj2 : j = off + n
      · subst hj2
        rw [if_neg (by omega), Array.getElem?_setIfInBounds, if_pos rfl, if_pos (by omega)]
        simp
      · rw [if_pos (by simp at hj1 ⊢; omega)]
        rw [show j - (off + n) = (j - (off + (n + 1))) + 1 by omega, List.getElem?_cons_succ]
    · rw [if_neg hj1, if_neg (by simp at hj1 ⊢; omega), Array.getElem?_setIfInBounds, if_neg (by simp at hj1; omega)]
theorem putC_size (cells : Array Value) (off : Nat) (vs : Array Value) : (putC cells off vs).size = cells.size := by
  have := (foldPut vs.toList 0 off cells).1
  unfold putC
  rw [← Array.foldl_toList, Array.toList_zipIdx]
  exact this
theorem putC_get (cells : Array Value) (off : Nat) (vs : Array Value) (j : Nat) (hj : j < cells.size) : (putC cells off vs)[j]? = if off ≤ j ∧ j < off + vs.size then vs[j - off]? else cells[j]? := by
  have := (foldPut vs.toList 0 off cells).2 j hj
  unfold putC
  rw [← Array.foldl_toList, Array.toList_zipIdx, this]
  simp
theorem fillStep (place : Nat → Option (Nat × Nat)) (cells : Array Value) (i : Nat) (v : Value) (rest : List (Nat × Value)) (off size : Nat) (hp : place i = some (off, size)) (hs : v.cells.size = size) (hl : off + size ≤ cells.size) :
    Instr.fill place cells ((i, v) :: rest) = Instr.fill place (putC cells off v.cells) rest := by
  simp only [Instr.fill, hp, hs]
  rw [if_neg (by simp; omega)]
  rfl

def KOk (K : Array Value) : Prop := K.size = 1025 ∧ K[61]? = some (.int .u64 292059021760) ∧ ∀ v ∈ K.toList, v.oneCell' = true
theorem all_of {p : Value → Bool} (K : Array Value) (h : ∀ (j : Nat) v, K[j]? = some v → p v = true) : ∀ v ∈ K.toList, p v = true := fun v hv => by
  rw [Array.mem_toList_iff, Array.mem_iff_getElem?] at hv
  obtain ⟨j, hj⟩ := hv
  exact h j v hj
theorem of_all {p : Value → Bool} {K : Array Value} (h : ∀ v ∈ K.toList, p v = true) : ∀ (j : Nat) v, K[j]? = some v → p v = true := fun j v hj =>
  h v (by rw [Array.mem_toList_iff, Array.mem_iff_getElem?]; exact ⟨j, hj⟩)
theorem putC_all {p : Value → Bool} (cells : Array Value) (off : Nat) (vs : Array Value) (h1 : ∀ v ∈ cells.toList, p v = true) (h2 : ∀ v ∈ vs.toList, p v = true) : ∀ v ∈ (putC cells off vs).toList, p v = true := by
  refine all_of _ fun j v hj => ?_
  have hl : j < cells.size := by
    have := (Array.getElem?_eq_some_iff.1 hj).1
    rwa [putC_size] at this
  rw [putC_get _ _ _ _ hl] at hj
  split at hj
  · exact of_all h2 _ _ hj
  · exact of_all h1 _ _ hj

theorem stepBuild257 {ops : Array Oper} {rest : List Oper} {a : Act} {w : World} {Q : Exit → Act → World → Prop} {o : Oper} (hg : o.guard = none) (x0 x1 x2 : Operand) (ho : o.op = .build 257 #[(0, x0), (1, x1), (2, x2)])
    (sv : Value) (F L : Array Value) (h0 : a.eval x0 = sv) (hs1 : sv.cells = #[sv]) (hs2 : sv.oneCell' = true) (h1 : a.eval x1 = .agg F) (h2 : a.eval x2 = .agg L) (hF : chkFirst F = true) (hL : chkArr L = true)
    (h : ∀ K, KOk K → K[0]? = some sv → wpList Tryz.prog ops Q rest (a.put o.dst (.agg K)) w) : wpList Tryz.prog ops Q (o :: rest) a w := by
  have hz1 : ((Tryz.prog.info? 257).bind (·.zero)).map (fun z => (z.cells.size, z.cells.toList.all (·.oneCell'))) = some (1025, true) := by kernel_rfl
  obtain ⟨z, hz2, hz3⟩ := Option.map_eq_some_iff.1 hz1
  simp only [Prod.mk.injEq] at hz3
  obtain ⟨hz3, hz4⟩ := hz3
  obtain ⟨i, hi1, hi2⟩ := Option.bind_eq_some_iff.1 hz2
  obtain ⟨hA, hF60⟩ := chkFirst_iff F hF
  obtain ⟨hFs, hF1⟩ := chkArr_iff F hA
  obtain ⟨hLs, hL1⟩ := chkArr_iff L hL
  obtain ⟨i253, h253, h253'⟩ := Option.map_eq_some_iff.1 (show (Tryz.prog.info? 253).map (·.size) = some 1 by kernel_rfl)
  obtain ⟨i255, h255, h255'⟩ := Option.map_eq_some_iff.1 info255s
  obtain ⟨i216, h216, h216'⟩ := Option.map_eq_some_iff.1 (show (Tryz.prog.info? 216).map (·.size) = some 256 by kernel_rfl)
  have hK : KOk (putC (putC (putC z.cells 0 #[sv]) 1 F) 257 L) := by
    refine ⟨by simp only [putC_size]; exact hz3, ?_, ?_⟩
    · rw [putC_get _ _ _ _ (by simp only [putC_size]; omega), if_neg (by omega), putC_get _ _ _ _ (by simp only [putC_size]; omega), if_pos (by omega)]
      exact hF60
    · refine putC_all _ _ _ (putC_all _ _ _ (putC_all _ _ _ (List.all_eq_true.1 hz4) ?_) hF1) hL1
      intro v hv
      simp at hv
      rw [hv]; exact hs2
  have hK0 : (putC (putC (putC z.cells 0 #[sv]) 1 F) 257 L)[0]? = some sv := by
    rw [putC_get _ _ _ _ (by simp only [putC_size]; omega), if_neg (by omega), putC_get _ _ _ _ (by simp only [putC_size]; omega), if_neg (by omega), putC_get _ _ _ _ (by omega), if_pos (by simp)]
    rfl
  refine stepVal hg ?_ (h _ hK hK0)
  unfold execOp
  simp only [ho]
  have hf : ∀ place : Nat → Option (Nat × Nat), place 0 = some (0, 1) → place 1 = some (1, 256) → place 2 = some (257, 256) →
      Instr.fill place z.cells [(0, a.eval x0), (1, a.eval x1), (2, a.eval x2)] = some (putC (putC (putC z.cells 0 #[sv]) 1 F) 257 L) := by
    intro place p0 p1 p2
    rw [h0, h1, h2, fillStep place _ 0 sv _ 0 1 p0 (by rw [hs1]; rfl) (by omega), fillStep place _ 1 (.agg F) _ 1 256 p1 hFs (by simp only [putC_size]; omega), fillStep place _ 2 (.agg L) _ 257 256 p2 hLs (by simp only [putC_size]; omega)]
    simp only [Instr.fill, hs1]
    rfl
  simp [Instr.build, zeroValue, typeInfo, hi1, hi2, run_underlying Tryz.underlying257, sizeOf, h253, h255, h216, h253', h255', h216']
  rw [hf _ rfl rfl rfl]
  rfl

/-- The table that Begins asks: what it needs of it (whether the expression's mark is set: b). -/
def KRow (w : World) (g : Nat) (b : Bool) : Prop := ∃ K, w.heap[g]? = some (.cells K 257 (0, 0)) ∧ KOk K ∧ (b = true → K[829]? = some (.bool true))
theorem KOk.set {K : Array Value} (h : KOk K) (j : Nat) (hj : j ≠ 61) (v : Value) (hv : v.oneCell' = true) : KOk (K.setIfInBounds j v) := by
  refine ⟨by simp [h.1], by rw [Array.getElem?_setIfInBounds, if_neg hj]; exact h.2.1, all_of _ fun i u hu => ?_⟩
  rw [Array.getElem?_setIfInBounds] at hu
  split at hu
  · split at hu
    · injection hu with hu; rw [← hu]; exact hv
    · cases hu
  · exact of_all h.2.2 _ _ hu
theorem ruleParts_lt (j : Nat) (hj : j < 74) : ruleParts.getD j 0 < 256 := by
  have : ∀ x ∈ ruleParts, x < 256 := by decide
  rw [List.getD_eq_getElem?_getD, List.getElem?_eq_getElem (by simpa [ruleParts] using hj)]
  exact this _ (List.getElem_mem _)
def isU8 : Value → Bool | .int .u8 n => decide (0 ≤ n ∧ n < 256) | _ => false
def chkU8 (n : Nat) (F : Array Value) : Bool := F.size == n && F.toList.all isU8
theorem chkU8_iff {n : Nat} {F : Array Value} (h : chkU8 n F = true) : F.size = n ∧ ∀ j, j < n → ∃ p : Nat, p < 256 ∧ F[j]? = some (.int .u8 p) := by
  unfold chkU8 at h
  simp only [Bool.and_eq_true, beq_iff_eq] at h
  refine ⟨h.1, fun j hj => ?_⟩
  have hl : j < F.size := by omega
  have := List.all_eq_true.1 h.2 F[j] (by rw [Array.mem_toList_iff]; exact Array.getElem_mem _)
  unfold isU8 at this
  split at this
  · rename_i n hn
    simp only [decide_eq_true_eq] at this
    obtain ⟨p, rfl⟩ := Int.eq_ofNat_of_zero_le this.1
    exact ⟨p, by omega, by rw [Array.getElem?_eq_getElem hl, hn]⟩
  · cases this
def ReadyRel1 (w : World) (kb g : Nat) (x : Value) (wr : World) : Prop := ∃ j : Nat, j ≤ 74 ∧ x = .int .i64 j ∧ KRow wr kb (decide (30 < j)) ∧ RuleRow wr g ∧ Fr (fun _ => False) w wr ∧ kb ≠ g ∧ w.heap.size ≤ kb
def ReadyRel2 (w : World) (kb g : Nat) (x : Value) (wr : World) : Prop := ∃ j : Nat, j ≤ 15 ∧ x = .int .i64 j ∧ KRow wr kb true ∧ (∃ S, wr.heap[g]? = some (.cells S 5 (0, 0)) ∧ chkU8 15 S = true) ∧ Fr (fun _ => False) w wr ∧ kb ≠ g ∧ w.heap.size ≤ kb
set_option maxRecDepth 100000 in
set_option maxHeartbeats 1000000 in
theorem ready_any (w : World) : Calls Tryz.prog 190 #[] w fun e w' => (∃ kb, e = .returned (.pointer (some ⟨kb, 0, none⟩)) ∧ KRow w' kb true) ∧ Fr (fun _ => False) w w' := by
  go_enter Tryz.func190, Tryz.ntmps190
  go_wp2_with (first
    | (go_at_call 195; refine (rules_any _).mono ?_; rintro e w1 ⟨⟨g, rfl, hR, hg⟩, hf1⟩; have HR := Lib.hid hR; clear hR)
    | (go_at_call 196; refine (firsts_any _).mono ?_; rintro e w2 ⟨⟨F, rfl, hF⟩, hf2⟩; have HF := Lib.hid hF; clear hF)
    | (go_at_call 197; refine (follows_any _).mono ?_; rintro e w3 ⟨⟨L, rfl, hL⟩, hf3⟩; have HL := Lib.hid hL; clear hL)
    | (refine stepBuild257 rfl (.tmp 6) (.tmp 7) (.tmp 8) rfl (.slice (some ⟨g, 0, none⟩) 74 74) F L rfl rfl rfl rfl rfl HF.out HL.out ?_; intro K hK hK0; have HK := Lib.hid hK; have HK0 := Lib.hid hK0; clear hK hK0)
    | (refine stepBoxAbs rfl 257 (.tmp 9) rfl (.agg K) rfl ?_; intro kb w4 hkb hb4 hf4; have c0 := blkCellAt hb4 0 _ HK0.out; have HB4 := Lib.hid hb4; clear hb4))
  have HFr : Fr (fun _ => False) w w4 := ((hf1.trans hf2).trans hf3).trans hf4
  have HRow : RuleRow w4 g := by
    obtain ⟨R, r1, r2⟩ := HR.out
    exact ⟨R, ((hf2.trans hf3).trans hf4).blk r1 (fun h => h), r2⟩
  have HNe : kb ≠ g := by
    obtain ⟨R, r1, _⟩ := HRow
    exact blkNe HB4.out r1 (by decide)
  have HSz : w.heap.size ≤ kb := Nat.le_trans ((hf1.trans hf2).trans hf3).size hkb
  clear c0 hkb hf1 hf2 hf3 hf4 hg HR HF HL HK0
  go_loopw [16] (fun x wr => ReadyRel1 w kb g x wr) (fun x _ => 74 - (intOf x).toNat)
  case atStart => exact ⟨0, by omega, rfl, ⟨K, HB4.out, HK.out, fun h => by simp at h⟩, HRow, HFr, HNe, HSz⟩
  case round =>
    obtain ⟨j, hj, rfl, hK, hR, hf, hne, hkb⟩ := hrel
    obtain ⟨K', hK1, hK2, hK3⟩ := hK
    obtain ⟨R, hR1, hR2, hR3, hR4⟩ := hR
    by_cases hlt : j < 74
    · obtain ⟨r0, s, m, r1⟩ := hR4 j hlt
      have c1 := blkCellAt hR1 (j * 2) _ (by rw [Nat.mul_comm]; exact r0)
      have c2 := blkCellAt hR1 (j * 2 + 1) _ (by rw [Nat.mul_comm]; exact r1)
      have hp : ruleParts.getD j 0 < 256 := ruleParts_lt j hlt
      obtain ⟨p, hpe⟩ : ∃ p, p = ruleParts.getD j 0 := ⟨_, rfl⟩
      rw [← hpe] at c1 hp
      have Hpe := Lib.hid hpe
      obtain ⟨v, hv⟩ : ∃ v, wr.cell? ⟨kb, 769 + p, none⟩ = some v := ⟨K'[769 + p]'(by have := hK2.1; omega), by rw [blkCell hK1, Array.getElem?_eq_getElem]⟩
      have hfz := blkFree hK1 (769 + p)
      have Hb := Lib.hid hK1
      have Hk2 := Lib.hid hK2
      have Hk3 := Lib.hid hK3
      have Hr1 := Lib.hid hR1
      have Hr4 := Lib.hid hR4
      have Hr3 := Lib.hid hR3
      clear hK1 hK2 hK3 hR1 hR4 hR3 r0 r1 hpe
      have hkl : kb < wr.heap.size := blkLt Hb.out
      have hp0 : 0 ≤ (p : Int) ∧ (p : Int) < 256 := ⟨by omega, by omega⟩
      go_wp2_with fail
      go_region
      go_wp2_with fail
      refine ⟨⟨j + 1, by omega, by go_num, ⟨K'.setIfInBounds (769 + p) (.bool true), blkAlloc (blkSet Hb.out _ _) _, Hk2.out.set _ (by omega) _ rfl, fun h => ?_⟩, ⟨R, blkAlloc (blkFar Hr1.out (by simp; omega) _) _, hR2, Hr3.out, Hr4.out⟩, (((hf.setCell (fun h => by simp at h; omega) _).alloc _).drew), hne, hkb⟩, by simp [intOf]; omega⟩
      simp only [decide_eq_true_eq] at h
      rw [Array.getElem?_setIfInBounds]
      by_cases h60 : p = 60
      · subst h60; rw [if_pos rfl, if_pos (by rw [Hk2.out.1]; omega)]
      · rw [if_neg (by omega)]
        refine Hk3.out (by
          simp only [decide_eq_true_eq]
          rcases Nat.lt_or_ge 30 j with h1 | h1
          · exact h1
          · obtain rfl : j = 30 := by omega
            exact absurd Hpe.out h60)
    · obtain rfl : j = 74 := by omega
      have Hb := Lib.hid hK1
      have Hk2 := Lib.hid hK2
      have Hk3 := Lib.hid (hK3 (by decide))
      clear hK1 hK2 hK3 hR1 hR4 hR3 hR2 HRow HB4
      go_wp2_with (refine stepBuildSliceChk (chkU8 15) rfl 55 15 _ rfl 5 1 Tryz.underlying55 (.int .u8 0) info5 (by omega) (by kernel_rfl) ?_; intro S gs w5 hS hgs hb5 hf5; have HS := Lib.hid hS; have HB5 := Lib.hid hb5; clear hS hb5)
      go_loopw [29] (fun x wr => ReadyRel2 w kb gs x wr) (fun x _ => 15 - (intOf x).toNat)
      case atStart => exact ⟨0, by omega, rfl, ⟨K', hf5.blk Hb.out (fun h => h), Hk2.out, fun _ => Hk3.out⟩, ⟨S, HB5.out, HS.out⟩, hf.trans hf5, fun h => by subst h; have := blkLt Hb.out; omega, hkb⟩
      case round =>
        obtain ⟨i, hi, rfl, ⟨K2, hk1, hk2, hk3⟩, ⟨S2, hs1, hs2⟩, hf6, hne6, _⟩ := hrel
        by_cases hlt2 : i < 15
        · obtain ⟨p, hp, hpc⟩ := (chkU8_iff hs2).2 i hlt2
          have c1 := blkCellAt hs1 i _ hpc
          obtain ⟨v, hv⟩ : ∃ v, wr.cell? ⟨kb, 513 + p, none⟩ = some v := ⟨K2[513 + p]'(by have := hk2.1; omega), by rw [blkCell hk1, Array.getElem?_eq_getElem]⟩
          have hfz := blkFree hk1 (513 + p)
          have Hk1 := Lib.hid hk1
          have Hk22 := Lib.hid hk2
          have Hk33 := Lib.hid hk3
          have Hs1 := Lib.hid hs1
          have Hs2 := Lib.hid hs2
          clear hk1 hk2 hk3 hs1 hs2 hpc
          have hp0 : 0 ≤ (p : Int) ∧ (p : Int) < 256 := ⟨by omega, by omega⟩
          go_wp2_with fail
          refine ⟨⟨i + 1, by omega, by go_num, ⟨K2.setIfInBounds (513 + p) (.bool true), blkSet Hk1.out _ _, Hk22.out.set _ (by omega) _ rfl, fun _ => ?_⟩, ⟨S2, blkFar Hs1.out (by simpa using Ne.symm hne6) _, Hs2.out⟩, hf6.setCell (fun h => by simp at h; omega) _, hne6, hkb⟩, by simp [intOf]; omega⟩
          rw [Array.getElem?_setIfInBounds, if_neg (by omega)]
          exact Hk33.out rfl
        · obtain rfl : i = 15 := by omega
          have Hk1 := Lib.hid hk1
          clear hk1 hs1 hs2
          go_wp2_with fail
          go_ret
          exact ⟨⟨kb, rfl, K2, Hk1.out, hk2, fun _ => hk3 trivial⟩, hf6⟩

theorem begins_bits : ∀ k, k < 64 → ((292059021760 : Int) / 2 ^ k % 2 == 1) = beginsK k := by decide
set_option maxHeartbeats 1000000 in
theorem begins_any (k : Nat) (hk : k < 256) (w : World) : Calls Tryz.prog 184 #[.int .u8 60, .int .u8 k] w fun e w' => e = .returned (.bool (beginsK k)) ∧ Fr (fun _ => False) w w' := by
  go_enter Tryz.func184, Tryz.ntmps184
  go_wp2_with (go_at_call 190; refine (ready_any _).mono ?_; rintro e w1 ⟨⟨kb, rfl, K, hK1, hK2, hK3⟩, hf1⟩; have c1 := blkCellAt hK1 829 _ (hK3 rfl); have c2 := blkCellAt hK1 61 _ hK2.2.1; have HK := Lib.hid hK1; clear hK1 hK2 hK3)
  · have hk64 : k < 64 := by omega
    go_ret
    refine ⟨retBool ?_, hf1⟩
    show (bits BinOp.and IntKind.u64 (292059021760 / 2 ^ k) 1 == 1) = beginsK k
    rw [and_one_u64 _ (Int.ediv_nonneg (by omega) (Int.pow_nonneg (by omega))) (Int.le_trans (Int.ediv_le_self _ (by omega)) (by omega))]
    exact begins_bits k hk64
  · have hk64 : 64 ≤ k := by omega
    go_ret
    exact ⟨retBool (by unfold beginsK; simp; omega), hf1⟩
  · have hk0 : k = 0 := by omega
    go_ret
    exact ⟨retBool (by subst hk0; rfl), hf1⟩
end Go.Proofs.YtkicpjjfeekopaaGreatDoor

namespace Go.Proofs.YtkicpjjfeekopaaGreatDoor
open Go.RowKit
set_option maxHeartbeats 1000000 in
theorem kind_q (T : Ctx) (w : World) (at_ : Nat) (h : PS T w at_) :
    Calls Tryz.prog 116 #[.pointer (some ⟨T.bp, 0, none⟩)] w fun e w' => e = .returned (.int .u8 (kindM T.toks at_ : Nat)) ∧ ∃ m, w' = w.drewN m := by
  have hn := h.next_le
  have hl := h.len
  obtain ⟨a, c, htv, hc⟩ := h.row.shape
  have h0 := h.c0
  have h2 := h.c2
  have hrow := h.row
  rw [htv] at h0 hrow
  obtain ⟨n, hnx⟩ : ∃ n, n = next T.toks at_ := ⟨_, rfl⟩
  rw [← hnx] at h2 hn
  have hk : kindM T.toks at_ = match T.toks[n]? with | some t => t.kind | none => 0 := by rw [hnx]; rfl
  obtain ⟨bp, hbp⟩ : ∃ bp, bp = T.bp := ⟨_, rfl⟩
  rw [← hbp] at h0 h2 ⊢
  obtain ⟨len, hlen⟩ : ∃ len, len = T.toks.length := ⟨_, rfl⟩
  rw [← hlen] at h0 hn hl hrow hc
  by_cases hlt : n < len
  · obtain ⟨t, ht⟩ : ∃ t, T.toks[n]? = some t := ⟨_, List.getElem?_eq_getElem (by omega)⟩
    obtain ⟨g, rfl, t0, t1, t2⟩ := hrow.get n t ht
    have hk' : kindM T.toks at_ = t.kind := by rw [hk, ht]
    have HK := Lib.hid hk'
    have hdec : ((n : Int) == len) = false := by simp; omega
    clear hk hk' ht t1 t2 hbp hlen hnx htv hrow h
    go_enter Tryz.func116, Tryz.ntmps116
    go_wp2
    go_quiet (fail)
    go_wp2
    go_quiet (fail)
    go_wp2
    go_ret
    exact ⟨by rw [HK.out]; rfl, by first | exact ⟨_, rfl⟩ | exact ⟨_, World.drewN_drewN _ _ _⟩⟩
  · obtain rfl : n = len := by omega
    have hk' : kindM T.toks at_ = 0 := by rw [hk, List.getElem?_eq_none (by omega)]
    have HK := Lib.hid hk'
    clear hk hk' hbp hlen hnx htv hrow h
    go_enter Tryz.func116, Tryz.ntmps116
    go_wp2
    go_quiet (fail)
    go_wp2
    go_ret
    exact ⟨by rw [HK.out]; rfl, by first | exact ⟨_, rfl⟩ | exact ⟨_, World.drewN_drewN _ _ _⟩⟩

theorem kind_any (T : Ctx) (w : World) (at_ : Nat) (h : PS T w at_) :
    Calls Tryz.prog 116 #[.pointer (some ⟨T.bp, 0, none⟩)] w fun e w' => e = .returned (.int .u8 (kindM T.toks at_ : Nat)) ∧ Fr (fun _ => False) w w' :=
  (kind_q T w at_ h).mono fun _ _ ⟨h1, m, h2⟩ => ⟨h1, by rw [h2]; exact (Fr.refl _ _).drewN _⟩
set_option maxHeartbeats 1000000 in
theorem on_any (T : Ctx) (w : World) (at_ a : Nat) (h : PS T w at_) (ha : a ≤ T.toks.length) :
    Calls Tryz.prog 84 #[.pointer (some ⟨T.bp, 0, none⟩), .int .i64 a] w fun e w' => e = .returned (.tuple #[]) ∧ PS T w' a ∧ FrP T w w' := by
  have h0 := h.c0
  have hrow := h.row
  have hlen := h.len
  have H := Lib.hid h
  clear h
  go_enter Tryz.func84, Tryz.ntmps84
  go_wp2_with (go_at_call 113; refine (next_any _ T.toks a _ ha (by omega) hrow).mono ?_; rintro e w1 ⟨rfl, hf⟩; have h1 := H.out.move0 hf; have k1 := h1.c1; have k2 := h1.c2; have f1 := h1.fz 1; have f2 := h1.fz 2; have H1 := Lib.hid h1; clear h1)
  go_end0
  refine ⟨rfl, ⟨H.out.1, ?_, ?_, ha⟩, ?_⟩
  · exact blkSet (blkSet H1.out.blk 1 _) 2 _
  · refine H1.out.row.move (fun k hk hl => ?_)
    obtain ⟨cur, hc⟩ := ownBlk H1.out.row hk
    have hne : k ≠ T.bp := blkNe hc H1.out.blk (by decide)
    rw [Below.heap_setCell _ _ _ _ hne, Below.heap_setCell _ _ _ _ hne]
  · exact ((FrP.of0 hf).setCell (fun _ => rfl) _).setCell (fun _ => rfl) _

theorem pbegins_any (T : Ctx) (w : World) (at_ : Nat) (h : PS T w at_) :
    Calls Tryz.prog 180 #[.pointer (some ⟨T.bp, 0, none⟩)] w fun e w' => e = .returned (.bool (beginsK (kindM T.toks at_))) ∧ Fr (fun _ => False) w w' := by
  have hlt := h.kind_lt
  go_enter Tryz.func180, Tryz.ntmps180
  go_wp2_with (first | (go_at_call 116; refine (kind_any T _ at_ h).mono ?_; rintro e w1 ⟨rfl, hf1⟩) | (go_at_call 184; refine (begins_any _ hlt _).mono ?_; rintro e w2 ⟨rfl, hf2⟩))
  go_ret
  exact ⟨rfl, hf1.trans hf2⟩
end Go.Proofs.YtkicpjjfeekopaaGreatDoor
