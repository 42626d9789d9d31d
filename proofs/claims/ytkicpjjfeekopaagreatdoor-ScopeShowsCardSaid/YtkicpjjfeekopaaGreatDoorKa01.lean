/- A walk: a kid put into a node in the making. Walks: missing, gap, next, want. Walks: want, sum, make. What the parser's calls say, at a fuel. Walks: the parser's statements (by program). -/
import Derived.Test.YtkicpjjfeekopaaGreatDoorKa00
import Derived.Deep.AppendLies
import Derived.Deep.RegionLaw
import Derived.Deep.RegionHeld3
import Derived.StillTailTactics
import Derived.Deep.LoopGhost
set_option linter.unusedVariables false
set_option linter.unusedSimpArgs false
set_option linter.unusedSectionVars false
namespace Go.Proofs.YtkicpjjfeekopaaGreatDoor
open Go.RowKit
theorem grownCell {w w' : World} {row : Option Nat} (h : w.grownBy w' row) {b j : Nat} (hb : b < w.heap.size) (hr : some b ≠ row) : w'.cell? ⟨b, j, none⟩ = w.cell? ⟨b, j, none⟩ := World.cell?_of_block (w := w) (a := ⟨b, j, none⟩) (h.block b hb hr)
theorem grownFz {w w' : World} {row : Option Nat} (h : w.grownBy w' row) {b j : Nat} (hb : b < w.heap.size) (hr : some b ≠ row) : w'.frozen? ⟨b, j, none⟩ = w.frozen? ⟨b, j, none⟩ := World.frozen?_of_block (w := w) (a := ⟨b, j, none⟩) (h.block b hb hr)
/-- The cells of a row's last element. -/
theorem lastCells {w : World} {g n cap : Nat} {xs : List Value} {a b c d : Value} (hx : xs.length = n * 4) (h : w.ownsRow 0 27 4 (.slice (some ⟨g, 0, none⟩) (n + 1) cap) (n + 1) (xs ++ [a, b, c, d])) :
    w.cell? ⟨g, n * 4, none⟩ = some a ∧ w.cell? ⟨g, n * 4 + 1, none⟩ = some b ∧ w.cell? ⟨g, n * 4 + 2, none⟩ = some c ∧ w.cell? ⟨g, n * 4 + 3, none⟩ = some d ∧ ∀ j, w.frozen? ⟨g, j, none⟩ = false := by
  have hadd : ∀ j, (⟨g, 0, none⟩ : Addr).add j = ⟨g, j, none⟩ := fun j => by unfold Addr.add; split <;> simp_all
  have hc := h.cells (g := g) rfl
  simp only [hadd] at hc
  refine ⟨hc _ _ ?_, hc _ _ ?_, hc _ _ ?_, hc _ _ ?_, fun j => ?_⟩
  · rw [List.getElem?_append_right (by omega), hx, Nat.sub_self]; rfl
  · rw [List.getElem?_append_right (by omega), hx, Nat.add_sub_cancel_left]; rfl
  · rw [List.getElem?_append_right (by omega), hx, Nat.add_sub_cancel_left]; rfl
  · rw [List.getElem?_append_right (by omega), hx, Nat.add_sub_cancel_left]; rfl
  · obtain ⟨cur, hb⟩ := ownBlk (k := g) h rfl
    exact blkFree hb j
theorem cells4 {W : World} {b0 : Nat} {a b c d : Value} {t : TypeId} {fr : Nat × Nat} (hb : W.heap[b0]? = some (.cells #[a, b, c, d] t fr)) : ∀ j u, [a, b, c, d][j]? = some u → W.cell? ((⟨b0, 0, none⟩ : Addr).add j) = some u := by
  intro j u hj
  have hadd : (⟨b0, 0, none⟩ : Addr).add j = ⟨b0, j, none⟩ := by unfold Addr.add; split <;> simp_all
  rw [hadd, blkCell hb j]
  match j, hj with
  | 0, hj | 1, hj | 2, hj | 3, hj => simpa using hj
theorem blkNew2 (w : World) (o o' : Obj) : ((w.alloc o).alloc o').heap[w.heap.size + 1]? = some o' := by simpa using blkNew (w.alloc o) o'
theorem grownBlk {w w' : World} {row : Option Nat} (h : w.grownBy w' row) {b : Nat} {o : Obj} (hb : w.heap[b]? = some o) (hr : some b ≠ row) : w'.heap[b]? = some o := (h.block b (blkLt hb) hr).trans hb
/-- The last element of a row written. -/
def S4 (w : World) (g n : Nat) (a b c d : Value) : World := (((w.setCell ⟨g, n * 4, none⟩ a).setCell ⟨g, n * 4 + 1, none⟩ b).setCell ⟨g, n * 4 + 2, none⟩ c).setCell ⟨g, n * 4 + 3, none⟩ d
theorem S4_other (w : World) (g n : Nat) (a b c d : Value) (k : Nat) (hk : k ≠ g) : (S4 w g n a b c d).heap[k]? = w.heap[k]? := by
  unfold S4
  rw [Below.heap_setCell _ _ _ _ hk, Below.heap_setCell _ _ _ _ hk, Below.heap_setCell _ _ _ _ hk, Below.heap_setCell _ _ _ _ hk]
theorem S4_size (w : World) (g n : Nat) (a b c d : Value) : (S4 w g n a b c d).heap.size = w.heap.size := by simp [S4]
theorem S4_own {w : World} {g n cap : Nat} {xs : List Value} {a b c d z0 z1 z2 z3 : Value} (hx : xs.length = n * 4) (h : w.ownsRow 0 27 4 (.slice (some ⟨g, 0, none⟩) (n + 1) cap) (n + 1) (xs ++ [z0, z1, z2, z3])) :
    (S4 w g n a b c d).ownsRow 0 27 4 (.slice (some ⟨g, 0, none⟩) (n + 1) cap) (n + 1) (xs ++ [a, b, c, d]) := by
  have e : ∀ (l : List Value) (j : Nat) (u : Value), (xs ++ l).set (n * 4 + j) u = xs ++ l.set j u := by
    intro l j u
    rw [List.set_append_right _ _ (by omega), hx, Nat.add_sub_cancel_left]
  have h1 := (h.stored (n * 4 + 0) a).1
  rw [e] at h1
  have h2 := (h1.stored (n * 4 + 1) b).1
  rw [e] at h2
  have h3 := (h2.stored (n * 4 + 2) c).1
  rw [e] at h3
  have h4 := (h3.stored (n * 4 + 3) d).1
  rw [e] at h4
  exact h4
theorem setCell_os (w : World) (a : Addr) (v : Value) : (w.setCell a v).os = w.os := rfl
theorem setCell_tape (w : World) (a : Addr) (v : Value) : (w.setCell a v).tape = w.tape := rfl
theorem setCell_output (w : World) (a : Addr) (v : Value) : (w.setCell a v).output = w.output := rfl
theorem S4_os (w : World) (g n : Nat) (a b c d : Value) : (S4 w g n a b c d).os = w.os := by unfold S4; simp only [setCell_os]
theorem S4_tape (w : World) (g n : Nat) (a b c d : Value) : (S4 w g n a b c d).tape = w.tape := by unfold S4; simp only [setCell_tape]
theorem S4_output (w : World) (g n : Nat) (a b c d : Value) : (S4 w g n a b c d).output = w.output := by unfold S4; simp only [setCell_output]
theorem len4 (cs : List Value) (h : cs.length = 4) : ∃ c0 c1 c2 c3, cs = [c0, c1, c2, c3] := by
  match cs, h with
  | [c0, c1, c2, c3], _ => exact ⟨c0, c1, c2, c3, rfl⟩
theorem add_close (T : Ctx) (w X w2 W : World) (bm : Nat) (base : Nat → Prop) (kind : Nat) (s : St) (t : Tree) (v : Value) (xs : List Value) (c0 c1 c2 c3 : Value) (P : Nat → Prop) (a : Option Addr) (n c g cap : Nat) (zs : List Value)
    (H : SS T w bm base kind s) (H1 : w.heap[bm]? = some (.cells #[.int .u8 kind, .int .u8 0, .int .i64 0, v, .pointer (some ⟨T.bp, 0, none⟩)] 225 (0, 0))) (H2 : w.ownsRow 0 27 4 v n xs)
    (H3 : RepL w (fun k => base k ∧ some k ≠ v.ownBlock) s.2 xs) (H4 : ∀ g, v.ownBlock = some g → base g) (HT : RepT w P t [c0, c1, c2, c3]) (HP : ∀ k, P k → k < w.heap.size → base k ∧ rowOf w bm ≠ some k)
    (Hv : v = .slice a n c) (Hn : n = s.2.length) (Hzs : zs = [.int .u8 0, .int .u8 0, .int .i64 0, .slice none 0 0]) (hb : NewB base w) (hX : Fr (fun _ => False) w X)
    (HO : w2.ownsRow 0 27 4 (.slice (some ⟨g, 0, none⟩) (n + 1) cap) (n + 1) (xs ++ zs)) (HG : X.grownBy w2 (Value.slice a n c).ownBlock) (HAT : (Value.slice a n c).ownBlock = some g ∨ g = X.heap.size)
    (hgb : g ≠ bm) (hlt : g < w2.heap.size) (HBM2 : w2.heap[bm]? = some (.cells #[.int .u8 kind, .int .u8 0, .int .i64 0, v, .pointer (some ⟨T.bp, 0, none⟩)] 225 (0, 0)))
    (hW' : W = (((((w2).setCell ⟨g, n * 4, none⟩ c0).setCell ⟨g, n * 4 + 1, none⟩ c1).setCell ⟨g, n * 4 + 2, none⟩ c2).setCell ⟨g, n * 4 + 3, none⟩ c3).setCell ⟨bm, 3, none⟩ (.slice (some ⟨g, 0, none⟩) (n + 1) cap) ∨ W = ((((w2.setCell ⟨bm, 3, none⟩ (.slice (some ⟨g, 0, none⟩) (n + 1) cap)).setCell ⟨g, n * 4, none⟩ c0).setCell ⟨g, n * 4 + 1, none⟩ c1).setCell ⟨g, n * 4 + 2, none⟩ c2).setCell ⟨g, n * 4 + 3, none⟩ c3) :
    SS T W bm base kind (s.1, s.2 ++ [t]) ∧ FrM T bm w W := by
  subst Hzs
  have hx : xs.length = n * 4 := H2.1
  have hW : W = (S4 w2 g n c0 c1 c2 c3).setCell ⟨bm, 3, none⟩ (.slice (some ⟨g, 0, none⟩) (n + 1) cap) ∨ W = S4 (w2.setCell ⟨bm, 3, none⟩ (.slice (some ⟨g, 0, none⟩) (n + 1) cap)) g n c0 c1 c2 c3 := hW'
  clear hW'
  have hWo : W.ownsRow 0 27 4 (.slice (some ⟨g, 0, none⟩) (n + 1) cap) (n + 1) (xs ++ [c0, c1, c2, c3]) := by
    rcases hW with rfl | rfl
    · exact ownMove (S4_own hx HO) (fun k hk _ => Below.heap_setCell _ _ _ _ (by
        have : g = k := by simpa [Value.ownBlock] using hk
        subst this; simpa using hgb))
    · exact S4_own hx (ownMove HO (fun k hk _ => Below.heap_setCell _ _ _ _ (by
        have : g = k := by simpa [Value.ownBlock] using hk
        subst this; simpa using hgb)))
  have hWm : W.heap[bm]? = some (.cells #[.int .u8 kind, .int .u8 0, .int .i64 0, .slice (some ⟨g, 0, none⟩) (n + 1) cap, .pointer (some ⟨T.bp, 0, none⟩)] 225 (0, 0)) := by
    rcases hW with rfl | rfl
    · exact blkSet ((S4_other w2 g n c0 c1 c2 c3 bm hgb.symm).trans HBM2) 3 _
    · rw [S4_other _ g n c0 c1 c2 c3 bm hgb.symm]
      exact blkSet HBM2 3 _
  have hWk : ∀ k, k ≠ g → k ≠ bm → W.heap[k]? = w2.heap[k]? := by
    intro k h1 h2
    rcases hW with rfl | rfl
    · rw [Below.heap_setCell _ _ _ _ (by simpa using h2), S4_other _ _ _ _ _ _ _ _ h1]
    · rw [S4_other _ _ _ _ _ _ _ _ h1, Below.heap_setCell _ _ _ _ (by simpa using h2)]
  have hWs : W.heap.size = w2.heap.size := by rcases hW with rfl | rfl <;> simp [S4_size]
  have hWt : W.os = w2.os ∧ W.tape = w2.tape ∧ W.output = w2.output := by rcases hW with rfl | rfl <;> simp only [setCell_os, setCell_tape, setCell_output, S4_os, S4_tape, S4_output, and_self]
  have hrow : rowOf w bm = v.ownBlock := by unfold rowOf; rw [blkCell H1 3]; rfl
  have hrowW : rowOf W bm = some g := by unfold rowOf; rw [blkCell hWm 3]; rfl
  have hg : v.ownBlock = some g ∨ w.heap.size ≤ g := by
    rcases HAT with h | h
    · rw [Hv]; exact .inl h
    · have := hX.size; exact .inr (by omega)
  have hold : ∀ k, k < w.heap.size → k ≠ bm → v.ownBlock ≠ some k → W.heap[k]? = w.heap[k]? := by
    intro k hk h1 h2
    have hkg : k ≠ g := by
      rintro rfl
      rcases hg with h | h
      · exact h2 h
      · omega
    rw [hWk k hkg h1, HG.block k (Nat.lt_of_lt_of_le hk hX.size) (by rw [← Hv]; exact fun e => h2 e.symm), hX.block k hk (fun h => h)]
  have hpb := H.1.blk
  have hbmp : bm ≠ T.bp := blkNe H1 hpb (by decide)
  have hvp : v.ownBlock ≠ some T.bp := fun e => by
    obtain ⟨cur, hc⟩ := ownBlk H2 e
    exact blkNe hc hpb (by decide) rfl
  have hfr : FrM T bm w W := by
    refine ⟨⟨?_, ?_, ?_, ?_, ?_⟩, ?_⟩
    · rw [hWt.1, HG.os, hX.os]
    · rw [hWt.2.1, HG.tape, hX.tape]
    · rw [hWt.2.2, HG.output, hX.output]
    · rw [hWs]; exact Nat.le_trans hX.size HG.size
    · intro k hk hn
      exact hold k hk (fun e => hn (.inr (.inl e))) (fun e => hn (.inr (.inr (by rw [hrow]; exact e))))
    · rw [hrowW, hrow]
      rcases hg with h | h
      · exact .inl h.symm
      · exact .inr ⟨g, rfl, h⟩
  refine ⟨⟨⟨H.1.1, ?_, ?_, H.1.le⟩, ?_⟩, hfr⟩
  · exact (hold _ (blkLt hpb) hbmp.symm hvp).trans hpb
  · refine H.1.row.move (fun k hk hl => ?_)
    obtain ⟨cur, hc⟩ := ownBlk H.1.row hk
    exact hold k hl (blkNe hc H1 (by decide)) (fun e => by
      obtain ⟨cur', hc'⟩ := ownBlk H2 e
      exact blkNe hc hc' (by decide) rfl)
  · have hbg : base g := by
      rcases hg with h | h
      · exact H4 g h
      · exact hb g h
    refine ⟨.slice (some ⟨g, 0, none⟩) (n + 1) cap, xs ++ [c0, c1, c2, c3], hWm, ?_, ?_, fun g' hg' => ?_⟩
    · simpa [← Hn] using hWo
    · have hown : ∀ k, (base k ∧ some k ≠ v.ownBlock) ∧ k < w.heap.size ∧ k ≠ bm → base k ∧ some k ≠ (Value.slice (some ⟨g, 0, none⟩) (n + 1) cap).ownBlock := by
        intro k hk
        refine ⟨hk.1.1, fun e => ?_⟩
        have : k = g := by simpa [Value.ownBlock] using e
        subst this
        rcases hg with h | h
        · exact hk.1.2 h.symm
        · omega
      refine RepL.snoc ?_ ?_
      · refine RepL.mono (P := fun k => (base k ∧ some k ≠ v.ownBlock) ∧ k < w.heap.size ∧ k ≠ bm) (fun k hk _ _ => hown k hk) _ _ ?_
        refine RepL.move (fun k hk hl => hold k hl hk.2.2 (fun e => hk.1.2 e.symm)) _ _ (RepL.mono (fun k hk hl hc => ⟨hk, hl, ?_⟩) _ _ H3)
        obtain ⟨cur, hc⟩ := hc
        exact blkNe hc H1 (by decide)
      · refine RepT.mono (P := fun k => (base k ∧ some k ≠ v.ownBlock) ∧ k < w.heap.size ∧ k ≠ bm) (fun k hk _ _ => hown k hk) _ _ ?_
        refine RepT.move (fun k hk hl => hold k hl hk.2.2 (fun e => hk.1.2 e.symm)) _ _ (RepT.mono (fun k hk hl hc => ⟨⟨(HP k hk hl).1, fun e => (HP k hk hl).2 (by rw [hrow]; exact e.symm)⟩, hl, ?_⟩) _ _ HT)
        obtain ⟨cur, hc⟩ := hc
        exact blkNe hc H1 (by decide)
    · have : g = g' := by simpa [Value.ownBlock] using hg'
      exact this ▸ hbg
theorem info27 : (Tryz.prog.info? 27).map (fun i => (i.zero, i.size, i.bytes)) = some (some (.agg #[.int .u8 0, .int .u8 0, .int .i64 0, .slice none 0 0]), 4, 40) := by kernel_rfl
set_option maxHeartbeats 2000000 in
theorem add_any (T : Ctx) (w : World) (bm : Nat) (base : Nat → Prop) (kind : Nat) (s : St) (t : Tree) (cs : List Value) (P : Nat → Prop) (h : SS T w bm base kind s) (ht : RepT w P t cs)
    (hP : ∀ k, P k → k < w.heap.size → base k ∧ rowOf w bm ≠ some k) (hb : NewB base w) (hl : s.2.length < 1000000) :
    Calls Tryz.prog 145 #[.pointer (some ⟨bm, 0, none⟩), .agg cs.toArray] w fun e w' => e = .returned (.tuple #[]) ∧ SS T w' bm base kind (s.1, s.2 ++ [t]) ∧ FrM T bm w w' := by
  obtain ⟨v, xs, h1, h2, h3, h4⟩ := h.2
  obtain ⟨tk, twt, twd, tks⟩ := t
  have ht' := ht
  simp only [RepT] at ht'
  obtain ⟨v', xs', hcs, hv'o, _, _⟩ := ht'
  obtain ⟨a', c', rfl, _, _⟩ := ownShape hv'o
  subst hcs
  clear hv'o
  obtain ⟨i0, hi, hz0, hz1, hz2⟩ := info_parts info27
  have c3 : w.cell? ⟨bm, 3, none⟩ = some v := blkCell h1 3
  have hbm : bm < w.heap.size := blkLt h1
  have hrow : rowOf w bm = v.ownBlock := by unfold rowOf; rw [c3]
  obtain ⟨a, c, hv, hnc, _⟩ := ownShape h2
  obtain ⟨n, hn⟩ : ∃ n, n = s.2.length := ⟨_, rfl⟩
  rw [← hn] at h2 hv hl hnc
  rw [hv] at c3
  have H2 := Lib.hid h2
  have Hv := Lib.hid hv
  have Hn := Lib.hid hn
  have Hr := Lib.hid hrow
  have H := Lib.hid h
  have H1 := Lib.hid h1
  have H3 := Lib.hid h3
  have H4 := Lib.hid h4
  have HT := Lib.hid ht
  have HP := Lib.hid hP
  clear h2 hv hn hrow h h1 h3 h4 ht hP
  go_enter Tryz.func145, Tryz.ntmps145
  go_wp2_with fail
  have hbmr : some bm ≠ v.ownBlock := fun e => by
    obtain ⟨cur, hc⟩ := ownBlk H2.out e.symm
    exact blkNe H1.out hc (by decide) rfl
  have hnew : some w.heap.size ≠ v.ownBlock := fun e => by
    obtain ⟨cur, hc⟩ := ownBlk H2.out e.symm
    have := blkLt hc
    omega
  have hix : (n : Int) < (n : Int) + 1 := by omega
  have hb0 : (w.alloc (.cells #[.int .u8 tk, .int .u8 twt, .int .i64 twd, .slice a' tks.length c'] 27)).heap[w.heap.size]? = some (.cells #[.int .u8 tk, .int .u8 twt, .int .i64 twd, .slice a' tks.length c'] 27 (0, 0)) := blkNew w _
  have HB0 := Lib.hid hb0
  clear hb0
  go_region_law ((refine step_append_lies _ (by rfl) (.tmp 8) (.tmp 11) 25 (by rfl) 0 27 i0 (.agg #[.int .u8 0, .int .u8 0, .int .i64 0, .slice none 0 0]) 4 40 Tryz.underlying25 hi hz0 hz1 hz2 rfl (by decide) (.slice a n c) n xs (by simp [Act.eval, Act.put]) (by rw [← Hv.out]; exact (H2.out.alloc _).alloc _) _ 1 1 [.int .u8 0, .int .u8 0, .int .i64 0, .slice none 0 0] (by simp [Act.eval, Act.put]; rfl) rfl (by exact cells4 (blkNew2 w _ _)) (by intro u hu; simp at hu; rcases hu with rfl | rfl | rfl | rfl <;> rfl) (by decide) (by unfold maxLen; omega) (by omega) (Nat.zero_le _) _ rfl ?_; intro g cap w2 hown hg hat hlt; have hx : xs.length = n * 4 := H2.out.1; obtain ⟨r0, r1, r2, r3, rf⟩ := lastCells hx hown; have rf0 := rf (n * 4); have rf1 := rf (n * 4 + 1); have rf2 := rf (n * 4 + 2); have rf3 := rf (n * 4 + 3); have hbm2 := grownBlk hg (blkAlloc (blkAlloc H1.out _) _) (by rw [← Hv.out]; exact hbmr); have hbx2 := grownBlk hg (blkAlloc HB0.out _) (by rw [← Hv.out]; exact hnew); have hgb : g ≠ bm := blkNe (ownBlk (k := g) hown rfl).choose_spec hbm2 (by decide); have hbg := hgb.symm; have m0 := blkCellAt hbm2 3 v rfl; have m1 := blkFree hbm2 3; have x0 := blkCell hbx2 0; have x1 := blkCell hbx2 1; have x2 := blkCell hbx2 2; have x3 := blkCell hbx2 3; have HG := Lib.hid hg; have HO := Lib.hid hown; have HAT := Lib.hid hat; have HX := Lib.hid hx; have HBM2 := Lib.hid hbm2; clear hg hown hat hx hbm2 hbx2 rf))
  all_goals (go_end0; refine ⟨rfl, ?_⟩)
  all_goals first
    | (refine add_close T w _ w2 _ bm base kind s ⟨tk, twt, twd, tks⟩ v xs (.int .u8 tk) (.int .u8 twt) (.int .i64 twd) (.slice a' tks.length c') P a n c g cap _ H.out H1.out H2.out H3.out H4.out HT.out HP.out Hv.out Hn.out rfl hb ((((Fr.refl _ _).alloc _).alloc _).drew) HO.out HG.out HAT.out hgb hlt HBM2.out (.inl ?_); with_reducible rfl)
    | (refine add_close T w _ w2 _ bm base kind s ⟨tk, twt, twd, tks⟩ v xs (.int .u8 tk) (.int .u8 twt) (.int .i64 twd) (.slice a' tks.length c') P a n c g cap _ H.out H1.out H2.out H3.out H4.out HT.out HP.out Hv.out Hn.out rfl hb ((((Fr.refl _ _).alloc _).alloc _).drew) HO.out HG.out HAT.out hgb hlt HBM2.out (.inr ?_); with_reducible rfl)
end Go.Proofs.YtkicpjjfeekopaaGreatDoor

namespace Go.Proofs.YtkicpjjfeekopaaGreatDoor
open Go.RowKit
theorem SS.rowLt {T : Ctx} {w : World} {bm : Nat} {base : Nat → Prop} {kind : Nat} {s : St} (h : SS T w bm base kind s) : ∀ k, rowOf w bm = some k → k < w.heap.size ∧ base k := by
  intro k hk
  obtain ⟨v, xs, h1, h2, h3, h4⟩ := h.2
  have hrow : rowOf w bm = v.ownBlock := by unfold rowOf; rw [blkCell h1 3]; rfl
  rw [hrow] at hk
  obtain ⟨cur, hc⟩ := ownBlk h2 hk
  exact ⟨blkLt hc, h4 k hk⟩
theorem RepT.leaf (w : World) (k want wd : Nat) : RepT w (fun _ => False) (.node k want wd []) [.int .u8 k, .int .u8 want, .int .i64 wd, .slice none 0 0] := by
  simp only [RepT]
  exact ⟨_, [], rfl, World.ownsRow_nil _ _ _ _, fun g h => by simp [Value.ownBlock] at h, rfl⟩
theorem addM_some {s s' : St} {t : Tree} (h : addM s t = some s') : s.2.length < 1000000 ∧ s' = (s.1, s.2 ++ [t]) := by
  unfold addM at h
  split at h
  · injection h with h; exact ⟨by assumption, h.symm⟩
  · cases h
/-- A leaf is put in. -/
theorem addLeaf_any (T : Ctx) (w : World) (bm : Nat) (base : Nat → Prop) (kind : Nat) (s s' : St) (k want wd : Nat) (h : SS T w bm base kind s) (hb : NewB base w) (hs : addM s (.node k want wd []) = some s') :
    Calls Tryz.prog 145 #[.pointer (some ⟨bm, 0, none⟩), .agg #[.int .u8 k, .int .u8 want, .int .i64 wd, .slice none 0 0]] w fun e w' => e = .returned (.tuple #[]) ∧ SS T w' bm base kind s' ∧ FrM T bm w w' := by
  obtain ⟨hl, rfl⟩ := addM_some hs
  exact add_any T w bm base kind s _ _ _ h (RepT.leaf w k want wd) (fun k hk => hk.elim) hb hl
theorem missing_any (T : Ctx) (w : World) (bm : Nat) (base : Nat → Prop) (kind : Nat) (s s' : St) (want : Nat) (h : SS T w bm base kind s) (hb : NewB base w) (hs : addM s (missT want) = some s') :
    Calls Tryz.prog 167 #[.pointer (some ⟨bm, 0, none⟩), .int .u8 want] w fun e w' => e = .returned (.tuple #[]) ∧ SS T w' bm base kind s' ∧ FrM T bm w w' := by
  go_enter Tryz.func167, Tryz.ntmps167
  go_wp2_with (go_at_call 145; refine (addLeaf_any T _ bm base kind s s' 50 want 0 h hb hs).mono ?_; rintro e w1 ⟨rfl, h1, hf1⟩)
  go_end0
  exact ⟨rfl, h1, hf1⟩
theorem FrP.set (T : Ctx) (w : World) (j : Nat) (v : Value) : FrP T w (w.setCell ⟨T.bp, j, none⟩ v) :=
  Fr.setCell (S := fun k => k = T.bp) (Fr.refl (fun k => k = T.bp) w) (p := ⟨T.bp, j, none⟩) (fun _ => rfl) v
theorem atOf_cell {w : World} {bp n : Nat} (h : w.cell? ⟨bp, 1, none⟩ = some (.int .i64 n)) : (match w.cell? ⟨bp, 1, none⟩ with | some v => (intOf v).toNat | none => 0) = n := by rw [h]; simp [intOf]
def leavesTo (l : List Tok) (i j : Nat) : List Tree := ((l.drop i).take (j - i)).map leafT
theorem leavesTo_self (l : List Tok) (i : Nat) : leavesTo l i i = [] := by simp [leavesTo]
theorem leavesTo_succ (l : List Tok) (i j : Nat) (t : Tok) (h : i ≤ j) (ht : l[j]? = some t) : leavesTo l i (j + 1) = leavesTo l i j ++ [leafT t] := by
  unfold leavesTo
  have hl : (l.drop i)[j - i]? = some t := by rw [List.getElem?_drop, show i + (j - i) = j by omega]; exact ht
  obtain ⟨hlt, he⟩ := List.getElem?_eq_some_iff.1 hl
  rw [show j + 1 - i = (j - i) + 1 by omega, List.take_succ_eq_append_getElem hlt, he]
  simp
def atOf (w : World) (bp : Nat) : Nat := match w.cell? ⟨bp, 1, none⟩ with | some v => (intOf v).toNat | none => 0
def GapRel (T : Ctx) (w : World) (bm : Nat) (base : Nat → Prop) (kind : Nat) (s : St) (wr : World) : Prop :=
  ∃ j, s.1 ≤ j ∧ j ≤ next T.toks s.1 ∧ SS T wr bm base kind (j, s.2 ++ leavesTo T.toks s.1 j) ∧ FrM T bm w wr
theorem gapM_some {toks : List Tok} {s s' : St} (h : gapM toks s = some s') : s.2.length + (next toks s.1 - s.1) ≤ 1000000 ∧ s' = (next toks s.1, s.2 ++ leavesTo toks s.1 (next toks s.1)) := by
  unfold gapM at h
  split at h
  · injection h with h; exact ⟨by assumption, h.symm⟩
  · cases h
set_option maxHeartbeats 2000000 in
theorem gap_any (T : Ctx) (w : World) (bm : Nat) (base : Nat → Prop) (kind : Nat) (s s' : St) (h : SS T w bm base kind s) (hb : NewB base w) (hs : gapM T.toks s = some s') :
    Calls Tryz.prog 118 #[.pointer (some ⟨bm, 0, none⟩)] w fun e w' => e = .returned (.tuple #[]) ∧ SS T w' bm base kind s' ∧ FrM T bm w w' := by
  obtain ⟨hl, rfl⟩ := gapM_some hs
  have hlen := h.1.len
  have hnx := h.1.next_le
  have H := Lib.hid h
  have hr0 : GapRel T w bm base kind s w := ⟨s.1, Nat.le_refl _, hnx.1, by rw [leavesTo_self, List.append_nil]; exact h, FrM.refl _ _ _⟩
  clear h hs
  go_enter Tryz.func118, Tryz.ntmps118
  go_wp2_with fail
  go_loopw [9] (fun _ wr => GapRel T w bm base kind s wr) (fun _ wr => next T.toks s.1 - atOf wr T.bp)
  case atStart => exact hr0
  case round =>
    obtain ⟨j, hj1, hj2, hS, hF⟩ := hrel
    have c4 := hS.c4
    have p0 := hS.1.c0
    have p1 := hS.1.c1
    have p2 := hS.1.c2
    have hmid : next T.toks j = next T.toks s.1 := next_mid _ _ _ hj1 hj2 (by omega)
    rw [hmid] at p2
    obtain ⟨n, hn⟩ : ∃ n, n = next T.toks s.1 := ⟨_, rfl⟩
    rw [← hn] at p2 hj2 hl hnx
    have Hn := Lib.hid hn
    have HS := Lib.hid hS
    have Hm := Lib.hid hmid
    clear hn hS hmid
    by_cases hlt : j < n
    · obtain ⟨t, ht⟩ : ∃ t, T.toks[j]? = some t := ⟨_, List.getElem?_eq_getElem (by omega)⟩
      obtain ⟨a, c, htv, hc⟩ := HS.out.1.row.shape
      have hrow := HS.out.1.row
      rw [htv] at p0 hrow
      obtain ⟨g, rfl, t0, t1, t2⟩ := hrow.get j t ht
      have l0 := World.block_lt_of_cell? _ _ t0
      have l1 := World.block_lt_of_cell? _ _ p0
      have l2 := World.block_lt_of_cell? _ _ c4
      obtain ⟨len, hlen'⟩ : ∃ len, len = T.toks.length := ⟨_, rfl⟩
      rw [← hlen'] at p0 hnx hlen hc
      have hj0 : (0 : Int) ≤ (j : Int) := Int.natCast_nonneg _
      have hj1' : (j : Int) < (len : Int) := by omega
      have Ht := Lib.hid ht
      have Hlen' := Lib.hid hlen'
      clear ht hrow htv hlen'
      go_wp2_with fail
      go_quiet (fail)
      go_wp2_with fail
      have hq : Fr (fun _ => False) wr (wr.drewN nq) := (Fr.refl _ _).drewN _
      have c4q : (wr.drewN nq).cell? ⟨bm, 4, none⟩ = some (.pointer (some ⟨T.bp, 0, none⟩)) := c4
      have p0q : (wr.drewN nq).cell? ⟨T.bp, 0, none⟩ = some (.slice (some ⟨g, 0, none⟩) len c) := p0
      have p1q : (wr.drewN nq).cell? ⟨T.bp, 1, none⟩ = some (.int .i64 j) := p1
      have t0q : (wr.drewN nq).cell? ⟨g, j * 3, none⟩ = some (.int .u8 t.kind) := t0
      have t1q : (wr.drewN nq).cell? ⟨g, j * 3 + 1, none⟩ = some (.int .i64 t.width) := t1
      have t2q : (wr.drewN nq).cell? ⟨g, j * 3 + 2, none⟩ = some (.int .i64 t.look) := t2
      have l0q : g < (wr.drewN nq).heap.size := l0
      have l1q : T.bp < (wr.drewN nq).heap.size := l1
      have l2q : bm < (wr.drewN nq).heap.size := l2
      clear c4 p0 p1 t0 t1 t2 l0 l1 l2
      generalize wr.drewN nq = wq at *
      go_region
      have hw1 : Fr (fun _ => False) wr (wq.alloc (.cells #[.int .u8 t.kind, .int .i64 t.width, .int .i64 t.look] 33)).drew := (hq.alloc _).drew
      have hadd : addM (j, s.2 ++ leavesTo T.toks s.1 j) (.node t.kind 0 t.width []) = some (j, s.2 ++ leavesTo T.toks s.1 (j + 1)) := by
        unfold addM
        rw [if_pos (by simp [leavesTo]; omega), leavesTo_succ _ _ _ t hj1 Ht.out, List.append_assoc]
        rfl
      have Hadd := Lib.hid hadd
      clear hadd
      have hbr : NewB base wr := hb.mono hF.1.size
      go_wp2_with (go_at_call 145; refine (addLeaf_any T _ bm base kind _ _ t.kind 0 t.width (HS.out.move0 hw1) (NewB.mono hbr hw1.size) Hadd.out).mono ?_; rintro e w2 ⟨rfl, h2, hf2⟩; have c4 := h2.c4; have p1 := h2.1.c1; have f1 := h2.1.fz 1; have H2 := Lib.hid h2; clear h2)
      have hnj : next T.toks (j + 1) = next T.toks j := (next_mid _ _ _ (by omega) (by rw [Hm.out, ← Hn.out]; omega) (by rw [← Hlen'.out]; omega))
      have hP2 : FrP T w2 (w2.setCell ⟨T.bp, 1, none⟩ (.int .i64 ((j : Int) + 1))) := FrP.set T w2 1 _
      obtain ⟨vb, hvb⟩ := H2.out.2.blk
      refine ⟨⟨j + 1, by omega, by rw [← Hn.out]; omega, ⟨⟨H2.out.1.1, ?_, ?_, by show j + 1 ≤ T.toks.length; rw [← Hlen'.out]; omega⟩, H2.out.2.moveP H2.out.1 hP2⟩, (hF.trans ((FrM.of0 hw1 (HS.out.2.blk.choose_spec)).trans hf2)).trans (FrM.ofP hP2 hvb H2.out.ne)⟩, ?_⟩
      · show _ = some (Obj.cells #[T.tv, .int .i64 ((j + 1 : Nat) : Int), .int .i64 (next T.toks (j + 1) : Nat), .func (.func 83) #[] #[]] 167 (0, 0))
        rw [hnj]
        exact blkSet H2.out.1.blk 1 _
      · refine H2.out.1.row.move (fun k hk hl => ?_)
        obtain ⟨cur, hcur⟩ := ownBlk H2.out.1.row hk
        exact Below.heap_setCell _ _ _ _ (blkNe hcur H2.out.1.blk (by decide))
      · have e1 : atOf wr T.bp = j := atOf_cell HS.out.1.c1
        have e2 : atOf (w2.setCell ⟨T.bp, 1, none⟩ (.int .i64 ((j : Int) + 1))) T.bp = j + 1 := atOf_cell (n := j + 1) (blkCell (blkSet H2.out.1.blk 1 _) 1)
        rw [e1, e2, ← Hn.out]
        omega
    · obtain rfl : j = n := by omega
      go_wp2_with fail
      go_quiet (fail)
      go_wp2_with fail
      go_end0
      rw [← Hn.out]
      exact ⟨rfl, HS.out.move0 ((Fr.refl _ _).drewN _), hF.trans (FrM.of0 ((Fr.refl _ _).drewN _) (HS.out.2.blk.choose_spec))⟩
theorem nextM_some {toks : List Tok} {s s' : St} (h : nextM toks s = some s') : ∃ s1 t, gapM toks s = some s1 ∧ toks[s1.1]? = some t ∧ addM s1 (leafT t) = some (s1.1, s'.2) ∧ s'.1 = s1.1 + 1 := by
  unfold nextM at h
  obtain ⟨s1, h1, h2⟩ := Option.bind_eq_some_iff.1 h
  split at h2
  · rename_i t ht
    obtain ⟨s2, h3, h4⟩ := Option.map_eq_some_iff.1 h2
    obtain ⟨_, rfl⟩ := addM_some h3
    subst h4
    exact ⟨s1, t, h1, ht, h3, rfl⟩
  · cases h2
set_option maxHeartbeats 2000000 in
set_option maxRecDepth 100000 in
theorem take_any (T : Ctx) (w : World) (bm : Nat) (base : Nat → Prop) (kind : Nat) (s s' : St) (h : SS T w bm base kind s) (hb : NewB base w) (hs : nextM T.toks s = some s') :
    Calls Tryz.prog 162 #[.pointer (some ⟨bm, 0, none⟩)] w fun e w' => e = .returned (.tuple #[]) ∧ SS T w' bm base kind s' ∧ FrM T bm w w' := by
  obtain ⟨s1, t, hg, ht, ha, hs1⟩ := nextM_some hs
  obtain ⟨_, hs1'⟩ := gapM_some hg
  have hnx := h.1.next_le
  have hle := h.1.le
  have hn1 : next T.toks s1.1 = s1.1 := by rw [hs1']; exact next_next _ _ hle
  have hlt : s1.1 < T.toks.length := (List.getElem?_eq_some_iff.1 ht).1
  have hlen := h.1.len
  have Hg := Lib.hid hg; have Ht := Lib.hid ht; have Ha := Lib.hid ha; have Hs1 := Lib.hid hs1; have Hn1 := Lib.hid hn1
  clear hg ht ha hs1 hs1' hn1 hs hnx
  go_enter Tryz.func162, Tryz.ntmps162
  go_wp2_with (go_at_call 118; refine (gap_any T _ bm base kind s s1 h hb Hg.out).mono ?_; rintro e w1 ⟨rfl, h1, hf1⟩; have H1 := Lib.hid h1; clear h1)
  obtain ⟨a, c, htv, hc⟩ := H1.out.1.row.shape
  have hrow := H1.out.1.row
  have p0 := H1.out.1.c0
  have p2 := H1.out.1.c2
  have c4 := H1.out.c4
  rw [htv] at p0 hrow
  rw [Hn1.out] at p2
  obtain ⟨g, rfl, t0, t1, t2⟩ := hrow.get s1.1 t Ht.out
  obtain ⟨n, hn⟩ : ∃ n, n = s1.1 := ⟨_, rfl⟩
  rw [← hn] at p2 t0 t1 t2 hlt
  obtain ⟨len, hlen'⟩ : ∃ len, len = T.toks.length := ⟨_, rfl⟩
  rw [← hlen'] at p0 hlen hc hlt
  have l0 := World.block_lt_of_cell? _ _ t0
  have l1 := World.block_lt_of_cell? _ _ p0
  have l2 := World.block_lt_of_cell? _ _ c4
  have hj0 : (0 : Int) ≤ (n : Int) := Int.natCast_nonneg _
  have hj1' : (n : Int) < (len : Int) := by omega
  have Hn := Lib.hid hn
  have Hl := Lib.hid hlen'
  clear hn hlen' htv hrow
  go_wp2_with fail
  go_region
  have hw1 : Fr (fun _ => False) w1 (w1.alloc (.cells #[.int .u8 t.kind, .int .i64 t.width, .int .i64 t.look] 33)).drew := ((Fr.refl _ _).alloc _).drew
  have hb1 : NewB base w1 := hb.mono hf1.1.size
  go_wp2_with (go_at_call 145; refine (addLeaf_any T _ bm base kind _ _ t.kind 0 t.width (H1.out.move0 hw1) (NewB.mono hb1 hw1.size) Ha.out).mono ?_; rintro e w2 ⟨rfl, h2, hf2⟩; have c4' := h2.c4; have p2' := h2.1.c2; have H2 := Lib.hid h2; clear h2)
  rw [Hn1.out, ← Hn.out] at p2'
  clear c4 p0 p2 t0 t1 t2
  go_wp2_with fail
  go_still_tail 12, (by kernel_rfl)
  have hd : Fr (fun _ => False) w2 w2.drew := (Fr.refl _ _).drew
  have hsle : s1.1 + 1 ≤ T.toks.length := by rw [← Hl.out, ← Hn.out]; omega
  change wpList _ _ _ _ _ w2.drew
  go_wp2_with (go_at_call 84; rw [show ((n : Int) + 1) = ((s1.1 + 1 : Nat) : Int) from by rw [Hn.out]; rfl]; refine (on_any T _ s1.1 (s1.1 + 1) (H2.out.1.move0 hd) hsle).mono ?_; rintro e w3 ⟨rfl, h3, hf3⟩)
  go_end0
  have hs' : s' = (s1.1 + 1, s'.2) := by rw [← Hs1.out]
  rw [hs']
  have h2d := H2.out.move0 hd
  refine ⟨rfl, ⟨h3, h2d.2.moveP h2d.1 hf3⟩, ?_⟩
  exact (hf1.trans ((FrM.of0 hw1 (H1.out.2.blk.choose_spec)).trans hf2)).trans ((FrM.of0 hd (H2.out.2.blk.choose_spec)).trans (FrM.ofP hf3 (h2d.2.blk.choose_spec) h2d.ne))
end Go.Proofs.YtkicpjjfeekopaaGreatDoor

namespace Go.Proofs.YtkicpjjfeekopaaGreatDoor
open Go.RowKit
theorem FrM.of0S {T : Ctx} {w w' : World} {bm : Nat} {base : Nat → Prop} {kind : Nat} {s : St} (h : SS T w bm base kind s) (hf : Fr (fun _ => False) w w') : FrM T bm w w' := FrM.of0 hf (h.2.blk.choose_spec)
theorem FrM.size {T : Ctx} {w w' : World} {bm : Nat} (h : FrM T bm w w') : w.heap.size ≤ w'.heap.size := h.1.size
theorem want_any (T : Ctx) (w : World) (bm : Nat) (base : Nat → Prop) (kind : Nat) (s s' : St) (k : Nat) (h : SS T w bm base kind s) (hb : NewB base w) (hs : wantM T.toks k s = some s') :
    Calls Tryz.prog 170 #[.pointer (some ⟨bm, 0, none⟩), .int .u8 k] w fun e w' => e = .returned (.tuple #[]) ∧ SS T w' bm base kind s' ∧ FrM T bm w w' := by
  unfold wantM at hs
  have c4 := h.c4
  have H := Lib.hid h
  clear h
  by_cases hk : kindM T.toks s.1 = k
  · rw [if_pos hk] at hs
    have hkb : (((kindM T.toks s.1 : Nat) : Int) == (k : Int)) = true := by simp [hk]
    have Hs := Lib.hid hs
    clear hs hk
    go_enter Tryz.func170, Tryz.ntmps170
    go_wp2_with (go_at_call 116; refine (kind_any T _ s.1 H.out.1).mono ?_; rintro e w1 ⟨rfl, hf1⟩)
    have h1 := H.out.move0 hf1
    have F1 := FrM.of0S H.out hf1
    have H1 := Lib.hid h1
    clear h1 c4
    go_wp2_with (go_at_call 162; refine (take_any T _ bm base kind s s' H1.out (NewB.mono hb hf1.size) Hs.out).mono ?_; rintro e w2 ⟨rfl, h2, hf2⟩)
    go_end0
    exact ⟨rfl, h2, F1.trans hf2⟩
  · rw [if_neg hk] at hs
    have hkb : (((kindM T.toks s.1 : Nat) : Int) == (k : Int)) = false := by simp; omega
    have Hs := Lib.hid hs
    clear hs hk
    go_enter Tryz.func170, Tryz.ntmps170
    go_wp2_with (go_at_call 116; refine (kind_any T _ s.1 H.out.1).mono ?_; rintro e w1 ⟨rfl, hf1⟩)
    have h1 := H.out.move0 hf1
    have F1 := FrM.of0S H.out hf1
    have H1 := Lib.hid h1
    clear h1 c4
    go_wp2_with (go_at_call 167; refine (missing_any T _ bm base kind s s' k H1.out (NewB.mono hb hf1.size) Hs.out).mono ?_; rintro e w2 ⟨rfl, h2, hf2⟩)
    go_end0
    exact ⟨rfl, h2, F1.trans hf2⟩
theorem sumW_take_succ (ts : List Tree) (i : Nat) (t : Tree) (h : ts[i]? = some t) : sumW (ts.take (i + 1)) = sumW (ts.take i) + t.width := by
  obtain ⟨hlt, he⟩ := List.getElem?_eq_some_iff.1 h
  rw [List.take_succ_eq_append_getElem hlt, sumW_append, he]
  simp [sumW]
theorem sumW_take_le (ts : List Tree) (i : Nat) : sumW (ts.take i) ≤ sumW ts := by
  have := sumW_append (ts.take i) (ts.drop i)
  rw [List.take_append_drop] at this
  omega
/-- The node's own block, at a width. -/
def MB (T : Ctx) (w : World) (bm kind wd : Nat) (v : Value) : Prop := w.heap[bm]? = some (.cells #[.int .u8 kind, .int .u8 0, .int .i64 wd, v, .pointer (some ⟨T.bp, 0, none⟩)] 225 (0, 0))
def SumRel (T : Ctx) (w : World) (bm kind : Nat) (v : Value) (ts : List Tree) (x : Value) (wr : World) : Prop :=
  ∃ i : Nat, i ≤ ts.length ∧ x = .int .i64 i ∧ MB T wr bm kind (sumW (ts.take i)) v ∧ Fr (fun k => k = bm) w wr
set_option maxHeartbeats 2000000 in
theorem sum_any (T : Ctx) (w : World) (bm kind : Nat) (v : Value) (xs : List Value) (ts : List Tree) (P : Nat → Prop) (hm : MB T w bm kind 0 v) (ho : w.ownsRow 0 27 4 v ts.length xs) (hr : RepL w P ts xs) (hs : sumW ts ≤ 4611686018427387904) (hts : ts.length ≤ 1000000) :
    Calls Tryz.prog 141 #[.pointer (some ⟨bm, 0, none⟩)] w fun e w' => e = .returned (.tuple #[]) ∧ MB T w' bm kind (sumW ts) v ∧ Fr (fun k => k = bm) w w' := by
  have h3 := blkCell hm 3
  obtain ⟨a, c, rfl, hc, _⟩ := ownShape ho
  have hm0 : SumRel T w bm kind (.slice a ts.length c) ts (.int .i64 0) w := ⟨0, Nat.zero_le _, rfl, by simpa [sumW] using hm, Fr.refl _ _⟩
  have Hm := Lib.hid hm
  have Ho := Lib.hid ho
  have Hr := Lib.hid hr
  obtain ⟨len, hlen⟩ : ∃ len, len = ts.length := ⟨_, rfl⟩
  rw [← hlen] at h3 hc hm0
  have Hlen := Lib.hid hlen
  have hln : len ≤ 1000000 := by omega
  clear hm ho hr hlen hts
  go_enter Tryz.func141, Tryz.ntmps141
  go_wp2_with fail
  go_loopw [10] (fun x wr => SumRel T w bm kind (.slice a len c) ts x wr) (fun x _ => len - (intOf x).toNat)
  case atStart => exact hm0
  case round =>
    obtain ⟨i, hi, rfl, hM, hF⟩ := hrel
    by_cases hlt : i < len
    · obtain ⟨t, ht⟩ : ∃ t, ts[i]? = some t := ⟨_, List.getElem?_eq_getElem (by rw [← Hlen.out]; exact hlt)⟩
      obtain ⟨tc, htc, hcell⟩ := Hr.out.get ht
      obtain ⟨tk, twt, twd, tks⟩ := t
      simp only [RepT] at htc
      obtain ⟨v', xs', rfl, hv'o, _, _⟩ := htc
      obtain ⟨a', c', rfl, _, _⟩ := ownShape hv'o
      have hxl : xs.length = len * 4 := by rw [Ho.out.1, Hlen.out]
      have hrow : ∀ j, j < 4 → ∃ g, a = some ⟨g, 0, none⟩ ∧ wr.cell? ⟨g, i * 4 + j, none⟩ = xs[i * 4 + j]? := by
        intro j hj
        obtain ⟨g, c1, hv, _, hcc⟩ := ownAt Ho.out (i * 4 + j) (by omega)
        injection hv with hv
        refine ⟨g, hv, ?_⟩
        rw [← hcc]
        subst hv
        obtain ⟨cur, hcur⟩ := ownBlk (k := g) Ho.out rfl
        exact World.cell?_of_block (w := w) (a := ⟨g, _, none⟩) (hF.block g (blkLt hcur) (blkNe hcur Hm.out (by decide)))
      obtain ⟨g, rfl, r0⟩ := hrow 0 (by omega)
      obtain ⟨g1, e1, r1⟩ := hrow 1 (by omega)
      obtain ⟨g2, e2, r2⟩ := hrow 2 (by omega)
      obtain ⟨g3, e3, r3⟩ := hrow 3 (by omega)
      injection e1 with e1; injection e1 with e1 _ _; subst e1
      injection e2 with e2; injection e2 with e2 _ _; subst e2
      injection e3 with e3; injection e3 with e3 _ _; subst e3
      rw [hcell 0 (by omega)] at r0
      rw [hcell 1 (by omega)] at r1
      rw [hcell 2 (by omega)] at r2
      rw [hcell 3 (by omega)] at r3
      simp only [Nat.add_zero, List.getElem?_cons_zero, List.getElem?_cons_succ] at r0 r1 r2 r3
      have hsum := sumW_take_succ ts i _ ht
      have hle := sumW_take_le ts (i + 1)
      have m2 := blkCell hM 2
      have f2 := blkFree hM 2
      have lbm := blkLt hM
      obtain ⟨W, hW⟩ : ∃ W, W = sumW (ts.take i) := ⟨_, rfl⟩
      rw [← hW] at hsum
      have m2' : wr.cell? ⟨bm, 2, none⟩ = some (.int .i64 W) := by rw [hW]; exact m2
      have hWb : W + twd ≤ 4611686018427387904 := by simp only [Tree.width] at hsum; omega
      have HM := Lib.hid hM; have Hsum := Lib.hid hsum; have HW := Lib.hid hW; have Ht := Lib.hid ht
      clear hM hsum hW ht m2 hrow hcell hv'o hle
      go_wp2_with fail
      go_region
      go_wp2_with fail
      refine ⟨⟨i + 1, by rw [← Hlen.out]; omega, by go_num, ?_, ?_⟩, by simp [intOf]; omega⟩
      · have e : sumW (ts.take (i + 1)) = W + twd := Hsum.out
        unfold MB
        rw [e]
        have := blkAlloc (blkSet HM.out 2 (.int .i64 ((W : Int) + (twd : Int)))) (.cells #[.int .u8 tk, .int .u8 twt, .int .i64 twd, .slice a' tks.length c'] 27)
        rw [show ((W + twd : Nat) : Int) = (W : Int) + (twd : Int) from by omega]
        exact this
      · exact ((Fr.setCell (S := fun k => k = bm) hF (p := ⟨bm, 2, none⟩) (fun _ => rfl) _).alloc _).drew
    · obtain rfl : i = len := by have := Hlen.out; omega
      go_wp2_with fail
      go_end0
      refine ⟨rfl, ?_, hF⟩
      have e : ts.take i = ts := by rw [Hlen.out, List.take_length]
      rw [e] at hM
      rw [← Hlen.out]
      exact hM
set_option maxHeartbeats 2000000 in
theorem mk1_any (T : Ctx) (w : World) (u : FrameMode) (bm kind b6 b7 : Nat) (v : Value) (xs : List Value) (ts : List Tree) (P : Nat → Prop) (z0 z1 z2 z3 : Value) (hm : MB T w bm kind 0 v) (ho : w.ownsRow 0 27 4 v ts.length xs) (hr : RepL w P ts xs) (hs : sumW ts ≤ 4611686018427387904) (hts : ts.length ≤ 1000000)
    (h7 : w.heap[b7]? = some (.cells #[.pointer (some ⟨bm, 0, none⟩)] 201 (0, 0))) (h6 : w.heap[b6]? = some (.cells #[z0, z1, z2, z3] 27 (0, 0))) :
    CallsD Tryz.prog 140 #[.pointer (some ⟨b7, 0, none⟩), .pointer (some ⟨b6, 0, none⟩)] u w fun e u' w' => u' = u ∧ (e = .returned (.tuple #[]) ∧
      w'.heap[b6]? = some (.cells #[.int .u8 kind, .int .u8 0, .int .i64 (sumW ts : Nat), v] 27 (0, 0)) ∧ Fr (fun k => k = bm ∨ k = b6) w w') := by
  have c7 := blkCell h7 0
  have n6 : b6 ≠ bm := blkNe h6 hm (by decide)
  have n7 : b7 ≠ bm := blkNe h7 hm (by decide)
  obtain ⟨a, c, rfl, _, _⟩ := ownShape ho
  have Hm := Lib.hid hm; have Ho := Lib.hid ho; have Hr := Lib.hid hr; have H7 := Lib.hid h7; have H6 := Lib.hid h6
  clear hm ho hr h7 h6
  go_enter_d Tryz.func140, Tryz.ntmps140
  go_wp2_with (go_at_call 141; refine (sum_any T _ bm kind _ xs ts P Hm.out Ho.out Hr.out hs hts).mono ?_; rintro e w1 ⟨rfl, hm1, hf1⟩; have k7 := blkCell (hf1.blk H7.out n7) 0; have k6 := hf1.blk H6.out n6; have m0 := blkCell hm1 0; have m1 := blkCell hm1 1; have m2 := blkCell hm1 2; have m3 := blkCell hm1 3; have d0 := blkCell k6 0; have d1 := blkCell k6 1; have d2 := blkCell k6 2; have d3 := blkCell k6 3; have f0 := blkFree k6 0; have f1 := blkFree k6 1; have f2 := blkFree k6 2; have f3 := blkFree k6 3; obtain ⟨wd, hwd⟩ : ∃ wd, wd = sumW ts := ⟨_, rfl⟩; rw [← hwd] at m2; have K6 := Lib.hid k6; have Hwd := Lib.hid hwd; clear k6 hm1 hwd c7)
  go_end0
  refine ⟨rfl, ?_, ?_⟩
  · rw [← Hwd.out]
    exact blkSet (blkSet (blkSet (blkSet K6.out 0 _) 1 _) 2 _) 3 _
  · refine Fr.setCell (S := fun k => k = bm ∨ k = b6) (Fr.setCell (Fr.setCell (Fr.setCell (hf1.mono (fun i _ e => .inl e)) ?_ _) ?_ _) ?_ _) ?_ _
    all_goals exact fun _ => .inr rfl
theorem info27s : (Tryz.prog.info? 27).map (·.size) = some 4 := by kernel_rfl
set_option maxHeartbeats 2000000 in
theorem make_any (T : Ctx) (w : World) (at_ kind fid at' : Nat) (base : Nat → Prop) (cap : Array Value) (s1 : St) (t : Tree) (h : PS T w at_) (hb : NewB base w)
    (hent : ∀ args w, (callFunc fid args).run Tryz.prog w = .ok (.enter fid args) w)
    (hdo : ∀ w1 bm, w.heap.size ≤ bm → Fr (fun _ => False) w w1 → SS T w1 bm (fun k => base k ∧ k ≠ w.heap.size) kind (at_, []) → w.heap.size < w1.heap.size → rowOf w1 bm = none →
      Calls Tryz.prog fid (#[.pointer (some ⟨bm, 0, none⟩)] ++ cap) w1 fun e w' => e = .returned (.tuple #[]) ∧ SS T w' bm (fun k => base k ∧ k ≠ w.heap.size) kind s1 ∧ FrM T bm w1 w')
    (hsum : sumM kind s1 = some (at', t)) :
    Calls Tryz.prog 114 #[.pointer (some ⟨T.bp, 0, none⟩), .int .u8 kind, .func (.func fid) #[] cap] w fun e w' =>
      ∃ cs, e = .returned (.agg cs.toArray) ∧ RepT w' base t cs ∧ PS T w' at' ∧ FrP T w w' := by
  have H := Lib.hid h
  have Hdo := Lib.hid hdo
  have Hsum := Lib.hid hsum
  clear h hdo hsum
  go_enter_defers Tryz.func114, Tryz.ntmps114
  go_wp2_with fail
  have g6 := blkAlloc (blkAlloc (blkNew w (.cells #[.int .u8 0, .int .u8 0, .int .i64 0, .slice none 0 0] 27)) (.cells #[.int .u8 kind, .int .u8 0, .int .i64 0, .slice none 0 0, .pointer (some ⟨T.bp, 0, none⟩)] 225)) (.cells #[.pointer (some ⟨w.heap.size + 1, 0, none⟩)] 201)
  have gm := blkAlloc (blkNew2 w (.cells #[.int .u8 0, .int .u8 0, .int .i64 0, .slice none 0 0] 27) (.cells #[.int .u8 kind, .int .u8 0, .int .i64 0, .slice none 0 0, .pointer (some ⟨T.bp, 0, none⟩)] 225)) (.cells #[.pointer (some ⟨w.heap.size + 1, 0, none⟩)] 201)
  have g7 := blkNew ((w.alloc (.cells #[.int .u8 0, .int .u8 0, .int .i64 0, .slice none 0 0] 27)).alloc (.cells #[.int .u8 kind, .int .u8 0, .int .i64 0, .slice none 0 0, .pointer (some ⟨T.bp, 0, none⟩)] 225)) (.cells #[.pointer (some ⟨w.heap.size + 1, 0, none⟩)] 201)
  have hF : Fr (fun _ => False) w (((w.alloc (.cells #[.int .u8 0, .int .u8 0, .int .i64 0, .slice none 0 0] 27)).alloc (.cells #[.int .u8 kind, .int .u8 0, .int .i64 0, .slice none 0 0, .pointer (some ⟨T.bp, 0, none⟩)] 225)).alloc (.cells #[.pointer (some ⟨w.heap.size + 1, 0, none⟩)] 201)) := (((Fr.refl _ _).alloc _).alloc _).alloc _
  have hs7 : ((w.alloc (.cells #[.int .u8 0, .int .u8 0, .int .i64 0, .slice none 0 0] 27)).alloc (.cells #[.int .u8 kind, .int .u8 0, .int .i64 0, .slice none 0 0, .pointer (some ⟨T.bp, 0, none⟩)] 225)).heap.size = w.heap.size + 1 + 1 := by simp
  rw [hs7] at g7
  clear hs7
  generalize (((w.alloc (.cells #[.int .u8 0, .int .u8 0, .int .i64 0, .slice none 0 0] 27)).alloc (.cells #[.int .u8 kind, .int .u8 0, .int .i64 0, .slice none 0 0, .pointer (some ⟨T.bp, 0, none⟩)] 225)).alloc (.cells #[.pointer (some ⟨w.heap.size + 1, 0, none⟩)] 201)) = w1 at *
  have hS : SS T w1 (w.heap.size + 1) (fun k => base k ∧ k ≠ w.heap.size) kind (at_, []) := ⟨H.out.move0 hF, .slice none 0 0, [], gm, World.ownsRow_nil _ _ _ _, rfl, fun g h => by simp [Value.ownBlock] at h⟩
  have hrow : rowOf w1 (w.heap.size + 1) = none := by unfold rowOf; rw [blkCell gm 3]; rfl
  refine (Hdo.out w1 (w.heap.size + 1) (by omega) hF hS (blkLt g6) hrow).mono ?_
  rintro e w2 ⟨rfl, h2, hf2⟩
  have H2 := Lib.hid h2; have Hf2 := Lib.hid hf2; have HF := Lib.hid hF; have HS := Lib.hid hS; have Hrow := Lib.hid hrow
  have G6 := Lib.hid g6; have G7 := Lib.hid g7
  clear h2 hf2 hF hS hrow g6 g7 gm
  go_wp2
  obtain ⟨v, xs, k1, k2, k3, k4⟩ := H2.out.2
  have b6 : w2.heap[w.heap.size]? = some (.cells #[.int .u8 0, .int .u8 0, .int .i64 0, .slice none 0 0] 27 (0, 0)) := Hf2.out.1.blk G6.out (by
    rintro (e | e | e)
    · exact blkNe G6.out HS.out.1.blk (by decide) e
    · omega
    · rw [Hrow.out] at e; cases e)
  have b7 := Hf2.out.keep HS.out G7.out ⟨by decide, by decide, by decide⟩
  have hsm := Hsum.out
  unfold sumM at hsm
  split at hsm
  · rename_i hw
    injection hsm with hsm
    injection hsm with e1 e2
    subst e1; subst e2
    refine leaves_cons (f := 140) (args := #[.pointer (some ⟨w.heap.size + 1 + 1, 0, none⟩), .pointer (some ⟨w.heap.size, 0, none⟩)]) (by simp) (by simp [go_sem]) ?_
    refine (mk1_any T _ .returning (w.heap.size + 1) kind w.heap.size (w.heap.size + 1 + 1) v xs s1.2 _ _ _ _ _ k1 k2 k3 hw.1 hw.2 b7 b6).mono ?_
    rintro e u' w3 ⟨rfl, rfl, h6, hf3⟩
    have hlt1 : T.bp < w.heap.size := blkLt H.out.blk
    have hrep : RepT w3 base (.node kind 0 (sumW s1.2) s1.2) [.int .u8 kind, .int .u8 0, .int .i64 (sumW s1.2 : Nat), v] := by
      simp only [RepT]
      refine ⟨v, xs, rfl, ownMove k2 (fun k hk hl => hf3.block k hl ?_), fun g hg => (k4 g hg).1, ?_⟩
      · rintro (e | e)
        · obtain ⟨cur, hc⟩ := ownBlk k2 hk
          exact blkNe hc k1 (by decide) e
        · exact (k4 k hk).2 e
      · refine RepL.mono (P := fun k => ((base k ∧ k ≠ w.heap.size) ∧ some k ≠ v.ownBlock) ∧ k ≠ w.heap.size + 1) (fun k hk _ _ => hk.1.1.1) _ _ ?_
        have k3' : RepL w2 (fun k => ((base k ∧ k ≠ w.heap.size) ∧ some k ≠ v.ownBlock) ∧ k ≠ w.heap.size + 1) s1.2 xs := by
          refine RepL.mono (fun k hk _ hc => ⟨hk, ?_⟩) _ _ k3
          obtain ⟨cur, hc⟩ := hc
          exact blkNe hc k1 (by decide)
        refine k3'.fr hf3 (fun k hk _ e => ?_)
        rcases e with e | e
        · exact hk.2 e
        · exact hk.1.1.2 e
    have hps : PS T w3 s1.1 := by
      refine ⟨H2.out.1.1, hf3.blk H2.out.1.blk (by rintro (e | e) <;> omega), H2.out.1.row.move (fun k hk hl => hf3.block k hl ?_), H2.out.1.le⟩
      obtain ⟨cur, hc⟩ := ownBlk H2.out.1.row hk
      rintro (e | e)
      · exact blkNe hc k1 (by decide) e
      · exact blkNe hc b6 (by decide) e
    refine ⟨.agg #[.int .u8 kind, .int .u8 0, .int .i64 (sumW s1.2 : Nat), v], results_cell_row (fn := Tryz.f114) (p := 6) (ty := 27) rfl _ _ w.heap.size 27 #[.int .u8 kind, .int .u8 0, .int .i64 (sumW s1.2 : Nat), v] (0, 0) _ rfl h6 Tryz.underlying27 rfl info27s, _, rfl, hrep, hps, ?_⟩
    have hfm := Hf2.out.1
    refine ((HF.out.mono (S' := fun k => k = T.bp) (fun _ _ e => e.elim)).trans' hfm (fun i hi e => ?_)).trans' hf3 (fun i hi e => ?_)
    · rcases e with e | e | e
      · exact e
      · omega
      · rw [Hrow.out] at e; cases e
    · omega
  · cases hsm
theorem by1_any (k i : Int) (w : World) : Calls Tryz.prog 83 #[.int .u8 k, .int .i64 i] w fun e w' => e = .returned (.tuple #[.agg #[.int .u8 0, .int .u8 0, .int .i64 0, .slice none 0 0], .int .i64 0, .bool false]) ∧ Fr (fun _ => False) w w' := by
  go_enter Tryz.func83, Tryz.ntmps83
  go_wp2
  exact bodyPost_ret (v := .tuple #[.agg #[.int .u8 0, .int .u8 0, .int .i64 0, .slice none 0 0], .int .i64 0, .bool false]) (by simp [results, Tryz.results83, go_sem]) rfl ⟨rfl, (Fr.refl _ _).alloc _⟩
/-- What a part's call says. -/
def PartSaid (T : Ctx) (w : World) (t : Tree) (at' : Nat) (e : Ending) (w' : World) : Prop :=
  ∃ cs, e = .returned (.agg cs.toArray) ∧ RepT w' (fun k => w.heap.size ≤ k) t cs ∧ PS T w' at' ∧ FrP T w w'
/-- A part's node is put in. -/
theorem addPart_any (T : Ctx) (w0 w : World) (bm : Nat) (base : Nat → Prop) (kind : Nat) (s s' : St) (t : Tree) (at' : Nat) (cs : List Value) (h : SS T w0 bm base kind s) (hb : NewB base w0) (hF : FrP T w0 w) (ht : RepT w (fun k => w0.heap.size ≤ k) t cs) (hp : PS T w at') (hs : addM (at', s.2) t = some s') :
    Calls Tryz.prog 145 #[.pointer (some ⟨bm, 0, none⟩), .agg cs.toArray] w fun e w' => e = .returned (.tuple #[]) ∧ SS T w' bm base kind s' ∧ FrM T bm w0 w' := by
  obtain ⟨hl, rfl⟩ := addM_some hs
  have hfm := FrM.ofP (bm := bm) hF (h.2.blk.choose_spec) h.ne
  have hss : SS T w bm base kind (at', s.2) := ⟨hp, h.2.moveP h.1 hF⟩
  refine (add_any T w bm base kind (at', s.2) t cs _ hss ht (fun k hk _ => ⟨hb k hk, fun e => ?_⟩) (hb.mono hF.size) hl).mono ?_
  · rcases hfm.2 with h2 | ⟨b, h2, h3⟩
    · rw [h2] at e
      have := (h.rowLt k e).1
      omega
    · rw [h2] at e
      injection e with e
      have hr : rowOf w bm = rowOf w0 bm := by
        unfold rowOf
        rw [World.cell?_of_block (w := w0) (a := ⟨bm, 3, none⟩) (hF.block bm (blkLt h.2.blk.choose_spec) h.ne)]
      rw [hr] at h2
      have := (h.rowLt b h2).1
      omega
  · rintro e w' ⟨rfl, h1, h2⟩
    exact ⟨rfl, h1, hfm.trans h2⟩
set_option maxHeartbeats 2000000 in
theorem put_any (T : Ctx) (w : World) (bm : Nat) (base : Nat → Prop) (kind : Nat) (s s1 s' : St) (pk pf : Nat) (first cap : Array Value) (t : Tree) (at' : Nat) (h : SS T w bm base kind s) (hb : NewB base w)
    (hent : ∀ args w, (callFunc pf args).run Tryz.prog w = .ok (.enter pf args) w)
    (hg : gapM T.toks s = some s1)
    (hpart : ∀ w1, FrM T bm w w1 → SS T w1 bm base kind s1 → Calls Tryz.prog pf (first ++ cap) w1 (PartSaid T w1 t at'))
    (ha : addM (at', s1.2) t = some s') :
    Calls Tryz.prog 143 #[.pointer (some ⟨bm, 0, none⟩), .int .u8 pk, .func (.func pf) first cap] w fun e w' => e = .returned (.tuple #[]) ∧ SS T w' bm base kind s' ∧ FrM T bm w w' := by
  have Hpart := Lib.hid hpart
  have Hg := Lib.hid hg; have Ha := Lib.hid ha
  clear hpart hg ha
  go_enter Tryz.func143, Tryz.ntmps143
  go_wp2_with (first
    | (go_at_call 118; refine (gap_any T _ bm base kind s s1 h hb Hg.out).mono ?_; rintro e w1 ⟨rfl, h1, hf1⟩; have c4 := h1.c4; have p2 := h1.1.c2; have p3 := h1.1.c3; have H1 := Lib.hid h1; clear h1)
    | (go_at_call 83; refine (by1_any _ _ _).mono ?_; rintro e w2 ⟨rfl, hf2⟩; have H2 := Lib.hid (H1.out.move0 hf2)))
  have hf3 : Fr (fun _ => False) w1 (w2.alloc (.cells #[.int .u8 0, .int .u8 0, .int .i64 0, .slice none 0 0] 27)) := hf2.alloc _
  generalize w2.alloc (.cells #[.int .u8 0, .int .u8 0, .int .i64 0, .slice none 0 0] 27) = w3 at *
  have F3 : FrM T bm w w3 := hf1.trans (FrM.of0S H1.out hf3)
  have S3 : SS T w3 bm base kind s1 := H1.out.move0 hf3
  have hb3 : NewB base w3 := hb.mono F3.size
  have HF3 := Lib.hid F3; have HS3 := Lib.hid S3
  clear F3 S3
  refine (Hpart.out w3 HF3.out HS3.out).mono ?_
  rintro e w4 ⟨cs, rfl, ht, hp, hfp⟩
  have Ht := Lib.hid ht; have Hp := Lib.hid hp; have Hfp := Lib.hid hfp
  clear ht hp hfp
  go_wp2_with (go_at_call 145; refine (addPart_any T w3 _ bm base kind s1 s' t at' cs HS3.out hb3 Hfp.out Ht.out Hp.out Ha.out).mono ?_; rintro e w5 ⟨rfl, h5, hf5⟩)
  go_end0
  exact ⟨rfl, h5, HF3.out.trans hf5⟩
end Go.Proofs.YtkicpjjfeekopaaGreatDoor

namespace Go.Proofs.YtkicpjjfeekopaaGreatDoor
open Go.RowKit

def MPost (T : Ctx) (w : World) (bm : Nat) (base : Nat → Prop) (kind : Nat) (s' : St) (e : Ending) (w' : World) : Prop := e = .returned (.tuple #[]) ∧ SS T w' bm base kind s' ∧ FrM T bm w w'
def MSaid (T : Ctx) (f : Nat) (c : MC) (fid : Nat) : Prop := ∀ (w : World) (bm : Nat) (base : Nat → Prop) (kind : Nat) (s s' : St), SS T w bm base kind s → NewB base w → runM T.toks f c s = some s' →
  Calls Tryz.prog fid #[.pointer (some ⟨bm, 0, none⟩)] w (MPost T w bm base kind s')
def MSaidP (T : Ctx) (f : Nat) (c : MC) (fid : Nat) : Prop := ∀ (w : World) (bm : Nat) (base : Nat → Prop) (kind : Nat) (s s' : St) (bx : Nat), SS T w bm base kind s → NewB base w → w.heap[bx]? = some (.cells #[.pointer (some ⟨T.bp, 0, none⟩)] 164 (0, 0)) → runM T.toks f c s = some s' →
  Calls Tryz.prog fid #[.pointer (some ⟨bm, 0, none⟩), .pointer (some ⟨bx, 0, none⟩)] w (MPost T w bm base kind s')
def NSaid (T : Ctx) (f : Nat) (c : NC) (fid : Nat) : Prop := ∀ (w : World) (a : Nat) (r : Nat × Tree), PS T w a → runN T.toks f c a = some r →
  Calls Tryz.prog fid #[.pointer (some ⟨T.bp, 0, none⟩)] w (PartSaid T w r.2 r.1)
def LevelSaid (T : Ctx) (f : Nat) : Prop := ∀ (n : Nat) (w : World) (a : Nat) (r : Nat × Tree), n ≤ 6 → PS T w a → runN T.toks f (.level n) a = some r →
  Calls Tryz.prog 183 #[.pointer (some ⟨T.bp, 0, none⟩), .int .i64 n] w (PartSaid T w r.2 r.1)
def BinSaid (T : Ctx) (f : Nat) : Prop := ∀ (n : Nat) (first : Tree) (w : World) (bm : Nat) (base : Nat → Prop) (kind : Nat) (s s' : St) (bf bx bn : Nat) (cs : List Value) (P : Nat → Prop), n ≤ 5 → SS T w bm base kind s → NewB base w →
  w.heap[bf]? = some (.cells cs.toArray 27 (0, 0)) → RepT w P first cs → (∀ k, P k → k < w.heap.size → base k ∧ rowOf w bm ≠ some k) → w.heap[bx]? = some (.cells #[.pointer (some ⟨T.bp, 0, none⟩)] 164 (0, 0)) → w.heap[bn]? = some (.cells #[.int .i64 n] 3 (0, 0)) →
  runM T.toks f (.binB n first) s = some s' →
  Calls Tryz.prog 187 #[.pointer (some ⟨bm, 0, none⟩), .pointer (some ⟨bf, 0, none⟩), .pointer (some ⟨bx, 0, none⟩), .pointer (some ⟨bn, 0, none⟩)] w (MPost T w bm base kind s')
def CallSaid (T : Ctx) (f : Nat) : Prop := ∀ (first : Tree) (w : World) (bm : Nat) (base : Nat → Prop) (kind : Nat) (s s' : St) (bf bx : Nat) (cs : List Value) (P : Nat → Prop), SS T w bm base kind s → NewB base w →
  w.heap[bf]? = some (.cells cs.toArray 27 (0, 0)) → RepT w P first cs → (∀ k, P k → k < w.heap.size → base k ∧ rowOf w bm ≠ some k) → w.heap[bx]? = some (.cells #[.pointer (some ⟨T.bp, 0, none⟩)] 164 (0, 0)) →
  runM T.toks f (.callB first) s = some s' →
  Calls Tryz.prog 193 #[.pointer (some ⟨bm, 0, none⟩), .pointer (some ⟨bf, 0, none⟩), .pointer (some ⟨bx, 0, none⟩)] w (MPost T w bm base kind s')
structure Hyp (T : Ctx) (f : Nat) : Prop where
  inner : MSaid T f .inner 117
  letB : MSaid T f .letB 171
  fnB : MSaid T f .fnB 172
  params : MSaid T f .params 179
  branch : MSaid T f .branch 173
  loopB : MSaid T f .loopB 174
  back : MSaid T f .back 175
  doB : MSaid T f .doB 176
  block : MSaid T f .block 159
  blockB : MSaid T f .blockB 169
  expression : MSaid T f .expression 178
  exprB : MSaid T f .exprB 182
  args : MSaid T f .args 194
  groupB : MSaid T f .groupB 198
  nextB : MSaid T f .nextB 162
  wrongB : MSaidP T f .wrongB 161
  unaryB : MSaidP T f .unaryB 191
  binB : BinSaid T f
  callB : CallSaid T f
  statement : NSaid T f .statement 144
  level : LevelSaid T f
  unary : NSaid T f .unary 185
  primary : NSaid T f .primary 192
  wrong : NSaid T f (.make 68 .wrongB) 146

/-- A node made by a part: the law of 'make' at a fuel. -/
theorem makeN {T : Ctx} {f kind fid : Nat} {body : MC} {cap : Array Value} (hent : ∀ args w, (callFunc fid args).run Tryz.prog w = .ok (.enter fid args) w) (w : World) (a : Nat) (base : Nat → Prop) (r : Nat × Tree) (h : PS T w a) (hb : NewB base w)
    (hr : runN T.toks (f + 1) (.make kind body) a = some r)
    (hdo : ∀ (w1 : World) (bm : Nat) (s1 : St), w.heap.size ≤ bm → Fr (fun _ => False) w w1 → SS T w1 bm (fun k => base k ∧ k ≠ w.heap.size) kind (a, []) → NewB (fun k => base k ∧ k ≠ w.heap.size) w1 → rowOf w1 bm = none → runM T.toks f body (a, []) = some s1 →
      Calls Tryz.prog fid (#[.pointer (some ⟨bm, 0, none⟩)] ++ cap) w1 (MPost T w1 bm (fun k => base k ∧ k ≠ w.heap.size) kind s1)) :
    Calls Tryz.prog 114 #[.pointer (some ⟨T.bp, 0, none⟩), .int .u8 kind, .func (.func fid) #[] cap] w fun e w' =>
      ∃ cs, e = .returned (.agg cs.toArray) ∧ RepT w' base r.2 cs ∧ PS T w' r.1 ∧ FrP T w w' := by
  simp only [runN, bodyN] at hr
  obtain ⟨s1, h1, h2⟩ := Option.bind_eq_some_iff.1 hr
  exact make_any T w a kind fid r.1 base cap s1 r.2 h hb hent (fun w1 bm hbm hf hS hlt hrow => hdo w1 bm s1 hbm hf hS (fun k hk => ⟨hb k (Nat.le_trans hf.size hk), by omega⟩) hrow h1) h2

theorem RepT.form {w : World} {P : Nat → Prop} {t : Tree} {cs : List Value} (h : RepT w P t cs) : ∃ (k wt wd : Nat) (a : Option Addr) (n c : Nat), cs = [.int .u8 k, .int .u8 wt, .int .i64 wd, .slice a n c] := by
  cases t
  simp only [RepT] at h
  obtain ⟨v, xs, hc, ho, _⟩ := h
  obtain ⟨a, c, rfl, _⟩ := ownShape ho
  exact ⟨_, _, _, a, _, c, hc⟩
/-- A part hands its node back by a block of its own. -/
theorem partRet {T : Ctx} {w wc w1 : World} {b : Nat} {t : Tree} {at' : Nat} {c0 c1 c2 c3 : Value} {zs : Array Value} {a : Act} (fn : Func) (p : Tmp) (hfn : fn.results = #[.cell p 27]) (hp0 : a.tmps.getD p undef = .pointer (some ⟨b, 0, none⟩))
    (hf0 : Fr (fun _ => False) w wc) (hb0 : w.heap.size ≤ b) (hbc : b < wc.heap.size) (hb1 : w1.heap[b]? = some (.cells zs 27 (0, 0))) (hz : zs.size = 4) (ht : RepT w1 (fun k => wc.heap.size ≤ k) t [c0, c1, c2, c3]) (hp : PS T w1 at') (hfp : FrP T wc w1) (hd : a.defers = []) :
    bodyPost Tryz.prog fn (PartSaid T w t at') Exit.ret a ((((w1.setCell ⟨b, 0, none⟩ c0).setCell ⟨b, 1, none⟩ c1).setCell ⟨b, 2, none⟩ c2).setCell ⟨b, 3, none⟩ c3) := by
  have hW : ((((w1.setCell ⟨b, 0, none⟩ c0).setCell ⟨b, 1, none⟩ c1).setCell ⟨b, 2, none⟩ c2).setCell ⟨b, 3, none⟩ c3).heap[b]? = some (.cells #[c0, c1, c2, c3] 27 (0, 0)) := by
    have := blkSet (blkSet (blkSet (blkSet hb1 0 c0) 1 c1) 2 c2) 3 c3
    rw [this]
    have e : (((zs.setIfInBounds 0 c0).setIfInBounds 1 c1).setIfInBounds 2 c2).setIfInBounds 3 c3 = #[c0, c1, c2, c3] := by
      obtain ⟨zs⟩ := zs
      match zs, hz with
      | [z0, z1, z2, z3], _ => rfl
    rw [e]
  have hWo : ∀ k, k ≠ b → ((((w1.setCell ⟨b, 0, none⟩ c0).setCell ⟨b, 1, none⟩ c1).setCell ⟨b, 2, none⟩ c2).setCell ⟨b, 3, none⟩ c3).heap[k]? = w1.heap[k]? := fun k hk => by
    rw [Below.heap_setCell _ _ _ _ hk, Below.heap_setCell _ _ _ _ hk, Below.heap_setCell _ _ _ _ hk, Below.heap_setCell _ _ _ _ hk]
  have hf1 : Fr (fun k => k = b) w1 ((((w1.setCell ⟨b, 0, none⟩ c0).setCell ⟨b, 1, none⟩ c1).setCell ⟨b, 2, none⟩ c2).setCell ⟨b, 3, none⟩ c3) := ⟨rfl, rfl, rfl, by simp, fun k _ hk => hWo k hk⟩
  generalize (((w1.setCell ⟨b, 0, none⟩ c0).setCell ⟨b, 1, none⟩ c1).setCell ⟨b, 2, none⟩ c2).setCell ⟨b, 3, none⟩ c3 = W at *
  have hne : T.bp ≠ b := by
    intro e
    have h1 := hp.blk
    rw [e, hb1] at h1
    injection h1 with h1
    injection h1 with _ h1 _
    exact absurd h1 (by decide)
  refine bodyPost_ret (v := .agg #[c0, c1, c2, c3]) (results_cell_row hfn _ _ b 27 #[c0, c1, c2, c3] (0, 0) _ hp0 hW Tryz.underlying27 rfl info27s) hd ⟨[c0, c1, c2, c3], rfl, ?_, ?_, ?_⟩
  · refine RepT.mono (P := fun k => wc.heap.size ≤ k) (fun k hk _ _ => Nat.le_trans hf0.size hk) _ _ ?_
    exact ht.fr hf1 (fun k hk _ e => by omega)
  · refine ⟨hp.1, hf1.blk hp.blk hne, hp.row.move (fun k hk hl => hf1.block k hl ?_), hp.le⟩
    obtain ⟨cur, hc⟩ := ownBlk hp.row hk
    exact blkNe hc hb1 (by decide)
  · exact ((hf0.mono (S' := fun k => k = T.bp) (fun _ _ e => e.elim)).trans hfp).trans' hf1 (fun i hi e => by omega)
end Go.Proofs.YtkicpjjfeekopaaGreatDoor

namespace Go.Proofs.YtkicpjjfeekopaaGreatDoor
open Go.RowKit
set_option maxRecDepth 100000 in
set_option maxHeartbeats 2000000 in
theorem let_step (T : Ctx) (f : Nat) (IHs : ∀ g, g ≤ f → Hyp T g) : MSaid T (f + 1) .letB 171 := by
  have IH := IHs f (Nat.le_refl f)
  intro w bm base kind s s' h hb hs
  simp only [runM, bodyM] at hs
  obtain ⟨s1, q1, hs⟩ := Option.bind_eq_some_iff.1 hs
  obtain ⟨s2, q2, hs⟩ := Option.bind_eq_some_iff.1 hs
  obtain ⟨s3, q3, hs⟩ := Option.bind_eq_some_iff.1 hs
  obtain ⟨s4, q4, hs⟩ := Option.bind_eq_some_iff.1 hs
  have c4 := h.c4
  have lb : bm < w.heap.size := World.block_lt_of_cell? _ _ c4
  have H := Lib.hid h
  clear h
  have Q1 := Lib.hid q1
  have Q2 := Lib.hid q2
  have Q3 := Lib.hid q3
  have Q4 := Lib.hid q4
  have HS := Lib.hid hs
  clear q1 q2 q3 q4 hs
  go_enter Tryz.func171, Tryz.ntmps171
  go_wp2_with fail
  refine (take_any T _ bm base kind s s1 H.out hb Q1.out).mono ?_
  rintro e w1 ⟨rfl, hN, fN⟩
  have c4_1 := hN.c4
  have hb1 : NewB base w1 := hb.mono (fN).size
  have FF1 := fN
  have H1 := Lib.hid hN
  clear hN fN c4
  go_wp2_with fail
  refine (want_any T _ bm base kind s1 s2 6 H1.out hb1 Q2.out).mono ?_
  rintro e w2 ⟨rfl, hN, fN⟩
  have c4_2 := hN.c4
  have hb2 : NewB base w2 := hb1.mono (fN).size
  have FF2 := FF1.trans fN
  have H2 := Lib.hid hN
  clear hN fN c4_1
  go_wp2_with fail
  refine (want_any T _ bm base kind s2 s3 26 H2.out hb2 Q3.out).mono ?_
  rintro e w3 ⟨rfl, hN, fN⟩
  have c4_3 := hN.c4
  have hb3 : NewB base w3 := hb2.mono (fN).size
  have FF3 := FF2.trans fN
  have H3 := Lib.hid hN
  clear hN fN c4_2
  go_wp2_with fail
  refine (IH.expression _ bm base kind s3 s4 H3.out hb3 Q4.out).mono ?_
  rintro e w4 ⟨rfl, hN, fN⟩
  have c4_4 := hN.c4
  have hb4 : NewB base w4 := hb3.mono (fN).size
  have FF4 := FF3.trans fN
  have H4 := Lib.hid hN
  clear hN fN c4_3
  go_wp2_with fail
  refine (want_any T _ bm base kind s4 s' 25 H4.out hb4 HS.out).mono ?_
  rintro e w5 ⟨rfl, hN, fN⟩
  have c4_5 := hN.c4
  have hb5 : NewB base w5 := hb4.mono (fN).size
  have FF5 := FF4.trans fN
  have H5 := Lib.hid hN
  clear hN fN c4_4
  go_wp2_with fail
  first | go_end0 | refine bodyPost_ret (results_none rfl _ _ _) rfl ?_
  exact ⟨rfl, H5.out, FF5⟩

set_option maxRecDepth 100000 in
set_option maxHeartbeats 2000000 in
theorem loop_step (T : Ctx) (f : Nat) (IHs : ∀ g, g ≤ f → Hyp T g) : MSaid T (f + 1) .loopB 174 := by
  have IH := IHs f (Nat.le_refl f)
  intro w bm base kind s s' h hb hs
  simp only [runM, bodyM] at hs
  obtain ⟨s1, q1, hs⟩ := Option.bind_eq_some_iff.1 hs
  obtain ⟨s2, q2, hs⟩ := Option.bind_eq_some_iff.1 hs
  have c4 := h.c4
  have lb : bm < w.heap.size := World.block_lt_of_cell? _ _ c4
  have H := Lib.hid h
  clear h
  have Q1 := Lib.hid q1
  have Q2 := Lib.hid q2
  have HS := Lib.hid hs
  clear q1 q2 hs
  go_enter Tryz.func174, Tryz.ntmps174
  go_wp2_with fail
  refine (take_any T _ bm base kind s s1 H.out hb Q1.out).mono ?_
  rintro e w1 ⟨rfl, hN, fN⟩
  have c4_1 := hN.c4
  have hb1 : NewB base w1 := hb.mono (fN).size
  have FF1 := fN
  have H1 := Lib.hid hN
  clear hN fN c4
  go_wp2_with fail
  refine (IH.expression _ bm base kind s1 s2 H1.out hb1 Q2.out).mono ?_
  rintro e w2 ⟨rfl, hN, fN⟩
  have c4_2 := hN.c4
  have hb2 : NewB base w2 := hb1.mono (fN).size
  have FF2 := FF1.trans fN
  have H2 := Lib.hid hN
  clear hN fN c4_1
  go_wp2_with fail
  refine (IH.block _ bm base kind s2 s' H2.out hb2 HS.out).mono ?_
  rintro e w3 ⟨rfl, hN, fN⟩
  have c4_3 := hN.c4
  have hb3 : NewB base w3 := hb2.mono (fN).size
  have FF3 := FF2.trans fN
  have H3 := Lib.hid hN
  clear hN fN c4_2
  go_wp2_with fail
  first | go_end0 | refine bodyPost_ret (results_none rfl _ _ _) rfl ?_
  exact ⟨rfl, H3.out, FF3⟩

set_option maxRecDepth 100000 in
set_option maxHeartbeats 2000000 in
theorem group_step (T : Ctx) (f : Nat) (IHs : ∀ g, g ≤ f → Hyp T g) : MSaid T (f + 1) .groupB 198 := by
  have IH := IHs f (Nat.le_refl f)
  intro w bm base kind s s' h hb hs
  simp only [runM, bodyM] at hs
  obtain ⟨s1, q1, hs⟩ := Option.bind_eq_some_iff.1 hs
  obtain ⟨s2, q2, hs⟩ := Option.bind_eq_some_iff.1 hs
  have c4 := h.c4
  have lb : bm < w.heap.size := World.block_lt_of_cell? _ _ c4
  have H := Lib.hid h
  clear h
  have Q1 := Lib.hid q1
  have Q2 := Lib.hid q2
  have HS := Lib.hid hs
  clear q1 q2 hs
  go_enter Tryz.func198, Tryz.ntmps198
  go_wp2_with fail
  refine (take_any T _ bm base kind s s1 H.out hb Q1.out).mono ?_
  rintro e w1 ⟨rfl, hN, fN⟩
  have c4_1 := hN.c4
  have hb1 : NewB base w1 := hb.mono (fN).size
  have FF1 := fN
  have H1 := Lib.hid hN
  clear hN fN c4
  go_wp2_with fail
  refine (IH.expression _ bm base kind s1 s2 H1.out hb1 Q2.out).mono ?_
  rintro e w2 ⟨rfl, hN, fN⟩
  have c4_2 := hN.c4
  have hb2 : NewB base w2 := hb1.mono (fN).size
  have FF2 := FF1.trans fN
  have H2 := Lib.hid hN
  clear hN fN c4_1
  go_wp2_with fail
  refine (want_any T _ bm base kind s2 s' 21 H2.out hb2 HS.out).mono ?_
  rintro e w3 ⟨rfl, hN, fN⟩
  have c4_3 := hN.c4
  have hb3 : NewB base w3 := hb2.mono (fN).size
  have FF3 := FF2.trans fN
  have H3 := Lib.hid hN
  clear hN fN c4_2
  go_wp2_with fail
  first | go_end0 | refine bodyPost_ret (results_none rfl _ _ _) rfl ?_
  exact ⟨rfl, H3.out, FF3⟩

theorem nextB_step (T : Ctx) (f : Nat) : MSaid T (f + 1) .nextB 162 := by
  intro w bm base kind s s' h hb hs
  simp only [runM, bodyM] at hs
  exact take_any T w bm base kind s s' h hb hs

set_option maxRecDepth 100000 in
set_option maxHeartbeats 2000000 in
theorem back_step (T : Ctx) (f : Nat) (IHs : ∀ g, g ≤ f → Hyp T g) : MSaid T (f + 1) .back 175 := by
  have IH := IHs f (Nat.le_refl f)
  intro w bm base kind s s' h hb hs
  simp only [runM, bodyM] at hs
  obtain ⟨s1, q1, hs⟩ := Option.bind_eq_some_iff.1 hs
  obtain ⟨s2, q2, hs⟩ := Option.bind_eq_some_iff.1 hs
  have c4 := h.c4
  have lb : bm < w.heap.size := World.block_lt_of_cell? _ _ c4
  have H := Lib.hid h
  clear h
  cases hk : beginsK (kindM T.toks s1.1) with
  | true =>
    rw [if_pos hk] at q2
    have Q1 := Lib.hid q1
    have Q2 := Lib.hid q2
    have HS := Lib.hid hs
    clear q1 q2 hs
    go_enter Tryz.func175, Tryz.ntmps175
    go_wp2_with fail
    refine (take_any T _ bm base kind s s1 H.out hb Q1.out).mono ?_
    rintro e w1 ⟨rfl, hN, fN⟩
    have c4_1 := hN.c4
    have hb1 : NewB base w1 := hb.mono (fN).size
    have FF1 := fN
    have H1 := Lib.hid hN
    clear hN fN c4
    go_wp2_with fail
    refine (pbegins_any T _ s1.1 H1.out.1).mono ?_
    rintro e w2 ⟨rfl, fN⟩
    have hN := H1.out.move0 fN
    have c4_2 := hN.c4
    have hb2 : NewB base w2 := hb1.mono ((FrM.of0S H1.out fN)).size
    have FF2 := FF1.trans (FrM.of0S H1.out fN)
    have H2 := Lib.hid hN
    clear hN fN c4_1
    go_wp2_with fail
    refine (IH.expression _ bm base kind s1 s2 H2.out hb2 Q2.out).mono ?_
    rintro e w3 ⟨rfl, hN, fN⟩
    have c4_3 := hN.c4
    have hb3 : NewB base w3 := hb2.mono (fN).size
    have FF3 := FF2.trans fN
    have H3 := Lib.hid hN
    clear hN fN c4_2
    go_wp2_with fail
    refine (want_any T _ bm base kind s2 s' 25 H3.out hb3 HS.out).mono ?_
    rintro e w4 ⟨rfl, hN, fN⟩
    have c4_4 := hN.c4
    have hb4 : NewB base w4 := hb3.mono (fN).size
    have FF4 := FF3.trans fN
    have H4 := Lib.hid hN
    clear hN fN c4_3
    go_wp2_with fail
    first | go_end0 | refine bodyPost_ret (results_none rfl _ _ _) rfl ?_
    exact ⟨rfl, H4.out, FF4⟩
  | false =>
    rw [if_neg (by rw [hk]; simp)] at q2
    injection q2 with q2
    subst q2
    have Q1 := Lib.hid q1
    have HS := Lib.hid hs
    clear q1 hs
    go_enter Tryz.func175, Tryz.ntmps175
    go_wp2_with fail
    refine (take_any T _ bm base kind s s1 H.out hb Q1.out).mono ?_
    rintro e w1 ⟨rfl, hN, fN⟩
    have c4_1 := hN.c4
    have hb1 : NewB base w1 := hb.mono (fN).size
    have FF1 := fN
    have H1 := Lib.hid hN
    clear hN fN c4
    go_wp2_with fail
    refine (pbegins_any T _ s1.1 H1.out.1).mono ?_
    rintro e w2 ⟨rfl, fN⟩
    have hN := H1.out.move0 fN
    have c4_2 := hN.c4
    have hb2 : NewB base w2 := hb1.mono ((FrM.of0S H1.out fN)).size
    have FF2 := FF1.trans (FrM.of0S H1.out fN)
    have H2 := Lib.hid hN
    clear hN fN c4_1
    go_wp2_with fail
    refine (want_any T _ bm base kind s1 s' 25 H2.out hb2 HS.out).mono ?_
    rintro e w3 ⟨rfl, hN, fN⟩
    have c4_3 := hN.c4
    have hb3 : NewB base w3 := hb2.mono (fN).size
    have FF3 := FF2.trans fN
    have H3 := Lib.hid hN
    clear hN fN c4_2
    go_wp2_with fail
    first | go_end0 | refine bodyPost_ret (results_none rfl _ _ _) rfl ?_
    exact ⟨rfl, H3.out, FF3⟩

set_option maxRecDepth 100000 in
set_option maxHeartbeats 2000000 in
theorem do_step (T : Ctx) (f : Nat) (IHs : ∀ g, g ≤ f → Hyp T g) : MSaid T (f + 1) .doB 176 := by
  have IH := IHs f (Nat.le_refl f)
  intro w bm base kind s s' h hb hs
  simp only [runM, bodyM] at hs
  obtain ⟨s1, q1, hs⟩ := Option.bind_eq_some_iff.1 hs
  obtain ⟨s2, q2, hs⟩ := Option.bind_eq_some_iff.1 hs
  have c4 := h.c4
  have lb : bm < w.heap.size := World.block_lt_of_cell? _ _ c4
  have H := Lib.hid h
  clear h
  by_cases hk : kindM T.toks s1.1 = 26
  · rw [if_pos hk] at q2
    obtain ⟨s3, q2, q3⟩ := Option.bind_eq_some_iff.1 q2
    have hkb : (((kindM T.toks s1.1 : Nat) : Int) == 26) = true := by simp [hk]
    clear hk
    have Q1 := Lib.hid q1
    have Q2 := Lib.hid q2
    have Q3 := Lib.hid q3
    have HS := Lib.hid hs
    clear q1 q2 q3 hs
    go_enter Tryz.func176, Tryz.ntmps176
    go_wp2_with fail
    refine (IH.expression _ bm base kind s s1 H.out hb Q1.out).mono ?_
    rintro e w1 ⟨rfl, hN, fN⟩
    have c4_1 := hN.c4
    have hb1 : NewB base w1 := hb.mono (fN).size
    have FF1 := fN
    have H1 := Lib.hid hN
    clear hN fN c4
    go_wp2_with fail
    refine (kind_any T _ s1.1 H1.out.1).mono ?_
    rintro e w2 ⟨rfl, fN⟩
    have hN := H1.out.move0 fN
    have c4_2 := hN.c4
    have hb2 : NewB base w2 := hb1.mono ((FrM.of0S H1.out fN)).size
    have FF2 := FF1.trans (FrM.of0S H1.out fN)
    have H2 := Lib.hid hN
    clear hN fN c4_1
    go_wp2_with fail
    refine (take_any T _ bm base kind s1 s3 H2.out hb2 Q2.out).mono ?_
    rintro e w3 ⟨rfl, hN, fN⟩
    have c4_3 := hN.c4
    have hb3 : NewB base w3 := hb2.mono (fN).size
    have FF3 := FF2.trans fN
    have H3 := Lib.hid hN
    clear hN fN c4_2
    go_wp2_with fail
    refine (IH.expression _ bm base kind s3 s2 H3.out hb3 Q3.out).mono ?_
    rintro e w4 ⟨rfl, hN, fN⟩
    have c4_4 := hN.c4
    have hb4 : NewB base w4 := hb3.mono (fN).size
    have FF4 := FF3.trans fN
    have H4 := Lib.hid hN
    clear hN fN c4_3
    go_wp2_with fail
    refine (want_any T _ bm base kind s2 s' 25 H4.out hb4 HS.out).mono ?_
    rintro e w5 ⟨rfl, hN, fN⟩
    have c4_5 := hN.c4
    have hb5 : NewB base w5 := hb4.mono (fN).size
    have FF5 := FF4.trans fN
    have H5 := Lib.hid hN
    clear hN fN c4_4
    go_wp2_with fail
    first | go_end0 | refine bodyPost_ret (results_none rfl _ _ _) rfl ?_
    exact ⟨rfl, H5.out, FF5⟩
  · rw [if_neg hk] at q2
    injection q2 with q2
    subst q2
    have hkb : (((kindM T.toks s1.1 : Nat) : Int) == 26) = false := by simp; omega
    clear hk
    have Q1 := Lib.hid q1
    have HS := Lib.hid hs
    clear q1 hs
    go_enter Tryz.func176, Tryz.ntmps176
    go_wp2_with fail
    refine (IH.expression _ bm base kind s s1 H.out hb Q1.out).mono ?_
    rintro e w1 ⟨rfl, hN, fN⟩
    have c4_1 := hN.c4
    have hb1 : NewB base w1 := hb.mono (fN).size
    have FF1 := fN
    have H1 := Lib.hid hN
    clear hN fN c4
    go_wp2_with fail
    refine (kind_any T _ s1.1 H1.out.1).mono ?_
    rintro e w2 ⟨rfl, fN⟩
    have hN := H1.out.move0 fN
    have c4_2 := hN.c4
    have hb2 : NewB base w2 := hb1.mono ((FrM.of0S H1.out fN)).size
    have FF2 := FF1.trans (FrM.of0S H1.out fN)
    have H2 := Lib.hid hN
    clear hN fN c4_1
    go_wp2_with fail
    refine (want_any T _ bm base kind s1 s' 25 H2.out hb2 HS.out).mono ?_
    rintro e w3 ⟨rfl, hN, fN⟩
    have c4_3 := hN.c4
    have hb3 : NewB base w3 := hb2.mono (fN).size
    have FF3 := FF2.trans fN
    have H3 := Lib.hid hN
    clear hN fN c4_2
    go_wp2_with fail
    first | go_end0 | refine bodyPost_ret (results_none rfl _ _ _) rfl ?_
    exact ⟨rfl, H3.out, FF3⟩
end Go.Proofs.YtkicpjjfeekopaaGreatDoor
