/- The finder: its body without the layer that is open last; the close of a layer. Walks: the finder: a layer is opened. The finder: contracts over its state. The finder: what holds of its state, step by step; within. The finder: a node's kids: what stands beside the finder's state. The finder: within, over the whole state; a round of the loop over kids. -/
import Derived.Test.YtkicpjjfeekopaaGreatDoorKc00
import Derived.Test.YtkicpjjfeekopaaGreatDoorKs00
import Derived.Defers
set_option linter.unusedVariables false
set_option linter.unusedSimpArgs false
set_option linter.unusedSectionVars false
namespace Go.Proofs.YtkicpjjfeekopaaGreatDoor
open Go.RowKit Go.Maps
/-- A row, cut shorter. -/
theorem own_cut {w : World} {b e sz g n m cap : Nat} {xs ys : List Value} (h : w.ownsRow b e sz (.slice (some ⟨g, 0, none⟩) (n + m) cap) (n + m) (xs ++ ys)) (hx : xs.length = n * sz) : w.ownsRow b e sz (.slice (some ⟨g, 0, none⟩) n cap) n xs := by
  refine ⟨hx, .inr ?_⟩
  rcases h.2 with ⟨h1, _⟩ | ⟨g', cap', cur, hv, hb, hh, hn, hc, hs, ht⟩
  · cases h1
  · injection hv with e1 _ e3
    simp only [Option.some.injEq, Addr.mk.injEq, and_true] at e1
    subst e1; subst e3
    refine ⟨_, _, cur, rfl, hb, hh, by omega, hc, hs, ?_⟩
    have := congrArg (List.take (n * sz)) ht
    rw [List.take_take, Nat.min_eq_left (Nat.mul_le_mul_right _ (by omega)), ← hx, List.take_left] at this
    rw [hx] at this
    exact this
/-- The finder in memory, without the layer that is open last: lc: the cells of all layers. -/
structure FBody (C : FC) (lc : List Value) (F : Nat → Prop) (w : World) (s : FS) (vD vB vL vS : Value) (val : Nam → Value) : Prop where
  blk : w.heap[C.fb]? = some (.cells #[.string ⟨C.bs.toArray⟩, vD, vB, .map (some C.kb), vL, .int .i64 C.stop, vS] 119 (0, 0))
  D : w.ownsRow 0 43 4 vD s.decls.length (declCells s.decls)
  B : w.ownsRow 0 45 3 vB s.binds.length (bindCells s.binds)
  L : w.ownsRow 0 206 2 vL s.layers.length lc
  S : w.ownsRow 0 43 4 vS s.shown.length (declCells s.shown)
  K : VMap w C.kb (dNames C.bs s.decls) nilV val
  R : ∀ x, w.ownsRow 0 3 1 (val x) (s.known x).length ((s.known x).map intV)
  sepK : ∀ x y, x ≠ y → (val x).ownBlock = none ∨ (val x).ownBlock ≠ (val y).ownBlock
  sepD : vD.ownBlock = none ∨ vD.ownBlock ≠ vS.ownBlock
  fK : ∀ x k, (val x).ownBlock = some k → F k
  fV : ∀ k, vD.ownBlock = some k ∨ vB.ownBlock = some k ∨ vL.ownBlock = some k ∨ vS.ownBlock = some k → F k
  f0 : F C.fb ∧ F C.kb
  lt : ∀ k, F k → k < w.heap.size
  no27 : ∀ k, F k → ∀ cs fr, w.heap[k]? ≠ some (.cells cs 27 fr)
section
variable {C : FC} {hb : Nat} {rc lc : List Value} {F : Nat → Prop} {w w' : World} {s : FS} {vD vB vL vS vN : Value} {val : Nam → Value} {l : Lay} {r : List Lay}
theorem FRep.body (h : FRep C hb rc F w s vD vB vL vS vN val l r) : FBody C (rc ++ [vN, .map (some hb)]) (fun k => F k ∧ vN.ownBlock ≠ some k ∧ k ≠ hb) w s vD vB vL vS val where
  blk := h.blk
  D := h.D
  B := h.B
  L := h.L
  S := h.S
  K := h.K
  R := h.R
  sepK := h.sepK
  sepD := h.sepD
  fK := fun x k hk => ⟨h.fK x k hk, rowNe (h.R x) h.N (by decide) hk, by rintro rfl; exact rowNeMap (h.R x) h.H.isMapBlk hk⟩
  fV := by
    rintro k (h1 | h1 | h1 | h1)
    · exact ⟨h.fV k (.inl h1), rowNe h.D h.N (by decide) h1, by rintro rfl; exact rowNeMap h.D h.H.isMapBlk h1⟩
    · exact ⟨h.fV k (.inr (.inl h1)), rowNe h.B h.N (by decide) h1, by rintro rfl; exact rowNeMap h.B h.H.isMapBlk h1⟩
    · exact ⟨h.fV k (.inr (.inr (.inl h1))), rowNe h.L h.N (by decide) h1, by rintro rfl; exact rowNeMap h.L h.H.isMapBlk h1⟩
    · exact ⟨h.fV k (.inr (.inr (.inr (.inl h1)))), rowNe h.S h.N (by decide) h1, by rintro rfl; exact rowNeMap h.S h.H.isMapBlk h1⟩
  f0 := ⟨⟨h.f0.1, rowNeBlk h.N h.blk (by decide), blkNeMap h.blk h.H.isMapBlk⟩, ⟨h.f0.2.1, rowNeMap h.N h.K.isMapBlk, h.sepM⟩⟩
  lt := fun k hk => h.lt k hk.1
  no27 := fun k hk => h.no27 k hk.1
/-- A layer on the body. -/
theorem FBody.top (h : FBody C (rc ++ [vN, .map (some hb)]) F w s vD vB vL vS val) (hl : s.layers = l :: r) (hN : w.ownsRow 0 9 1 vN l.names.length (l.names.map strV)) (hH : VMap w hb (dNames C.bs s.decls) (.int .i64 0) (fun x => intV (l.homes x))) (hF : ¬ F hb) :
    FRep C hb rc (fun k => F k ∨ vN.ownBlock = some k ∨ k = hb) w s vD vB vL vS vN val l r where
  blk := h.blk
  D := h.D
  B := h.B
  L := h.L
  S := h.S
  lay := hl
  N := hN
  H := hH
  K := h.K
  R := h.R
  sepK := h.sepK
  sepD := h.sepD
  sepM := by rintro e; exact hF (e ▸ h.f0.2)
  fK := fun x k hk => .inl (h.fK x k hk)
  fV := by
    rintro k (h1 | h1 | h1 | h1 | h1)
    · exact .inl (h.fV k (.inl h1))
    · exact .inl (h.fV k (.inr (.inl h1)))
    · exact .inl (h.fV k (.inr (.inr (.inl h1))))
    · exact .inl (h.fV k (.inr (.inr (.inr h1))))
    · exact .inr (.inl h1)
  f0 := ⟨.inl h.f0.1, .inl h.f0.2, .inr (.inr rfl)⟩
  lt := by
    rintro k (h1 | h1 | rfl)
    · exact h.lt k h1
    · obtain ⟨c, hc⟩ := ownBlk hN h1; exact blkLt hc
    · obtain ⟨es, ck, hm⟩ := hH.isMapBlk; exact blkLt hm
  no27 := by
    rintro k (h1 | h1 | rfl) cs fr hcs
    · exact h.no27 k h1 cs fr hcs
    · obtain ⟨c, hc⟩ := ownBlk hN h1
      rw [hc] at hcs; injection hcs with hcs; injection hcs with _ hcs _; cases hcs
    · obtain ⟨es, ck, hm⟩ := hH.isMapBlk
      rw [hm] at hcs; cases hcs
end
/-- The loop over a layer's names: what a round stands in. -/
def PRel (C : FC) (L : List Nam) (kn : Nam → List Nat) (val : Nam → Value) (names : List Nam) (w : World) (i : Nat) (wr : World) : Prop :=
  ∃ val', VMap wr C.kb L nilV val' ∧ (∀ y, w.ownsRow 0 3 1 (val' y) ((names.take i).foldl popK kn y).length (((names.take i).foldl popK kn y).map intV)) ∧ (∀ y, (val' y).ownBlock = (val y).ownBlock) ∧ Fr (fun k => k = C.kb) w wr
theorem pop_take (names : List Nam) (kn : Nam → List Nat) (i : Nat) (y : Nam) (h : names[i]? = some y) : (names.take (i + 1)).foldl popK kn = popK ((names.take i).foldl popK kn) y := by
  obtain ⟨hlt, he⟩ := List.getElem?_eq_some_iff.1 h
  rw [List.take_succ_eq_append_getElem hlt, List.foldl_append, he]
  rfl
theorem PRel.next {C : FC} {L : List Nam} {kn : Nam → List Nat} {val val1 : Nam → Value} {names : List Nam} {w wr w3 : World} {i m gy cy : Nat} {x : ByteArray} {y : Nam} (hm3 : VMap w3 C.kb L nilV (updN val1 x.data.toList (.slice (some ⟨gy, 0, none⟩) m cy))) (hx : x.data.toList = y) (hy : names[i]? = some y)
    (hR : ∀ y, w.ownsRow 0 3 1 (val1 y) ((names.take i).foldl popK kn y).length (((names.take i).foldl popK kn y).map intV)) (hsb : ∀ y, (val1 y).ownBlock = (val y).ownBlock) (hF : Fr (fun k => k = C.kb) w wr)
    (hrow : w.ownsRow 0 3 1 (val1 y) (m + 1) (((names.take i).foldl popK kn y).map intV)) (hv : val1 y = .slice (some ⟨gy, 0, none⟩) (m + 1) cy) (hm : ((names.take i).foldl popK kn y).length = m + 1) (hg : wr.drew.grownBy w3 (some C.kb)) :
    PRel C L kn val names w (i + 1) w3 := by
  subst hx
  refine ⟨_, hm3, ?_, ?_, (hF.trans (Fr.refl _ _).drew).trans (Fr.of_grown hg (fun k e => by injection e with e; exact e.symm))⟩
  · intro z
    rw [pop_take names kn i _ hy, show ∀ (G : Nam → List Nat) (y0 z : Nam), popK G y0 z = if z = y0 then (G y0).dropLast else G z from fun _ _ _ => rfl, show updN val1 x.data.toList (.slice (some ⟨gy, 0, none⟩) m cy) z = if z = x.data.toList then (.slice (some ⟨gy, 0, none⟩) m cy) else val1 z from rfl]
    by_cases e : z = x.data.toList
    · subst e
      rw [if_pos rfl, if_pos rfl, List.length_dropLast, hm, Nat.add_sub_cancel]
      have hne : ((names.take i).foldl popK kn x.data.toList) ≠ [] := by intro e; rw [e] at hm; simp at hm
      have hsplit : ((names.take i).foldl popK kn x.data.toList).map intV = (((names.take i).foldl popK kn x.data.toList).dropLast).map intV ++ [intV (((names.take i).foldl popK kn x.data.toList).getLast hne)] := by
        rw [← List.map_singleton (f := intV), ← List.map_append, List.dropLast_concat_getLast hne]
      rw [hv, hsplit] at hrow
      exact own_cut hrow (by rw [List.length_map, List.length_dropLast, hm]; omega)
    · rw [if_neg e, if_neg e]
      exact hR z
  · intro z
    unfold updN
    by_cases e : z = x.data.toList
    · subst e
      rw [if_pos rfl, ← hsb, hv]
      rfl
    · rw [if_neg e]
      exact hsb z
theorem FBody.closed {C : FC} {hb : Nat} {rc : List Value} {F : Nat → Prop} {w wr W : World} {s : FS} {vD vB vL vS vN : Value} {val : Nam → Value} {l : Lay} {r : List Lay} {gL nr cL nn : Nat}
    (h : FRep C hb rc F w s vD vB vL vS vN val l r) (hvL : vL = .slice (some ⟨gL, 0, none⟩) (nr + 1) cL) (hnr : nr = r.length) (hrc : rc.length = nr * 2) (hp : PRel C (dNames C.bs s.decls) s.known val l.names w nn wr) (hnn : nn = l.names.length)
    (hW : W = wr.setCell ⟨C.fb, 4, none⟩ (.slice (some ⟨gL, 0, none⟩) nr cL)) :
    ∃ F' vL' val', FBody C rc F' W (closeS s) vD vB vL' vS val' ∧ FrF F F' w W ∧ ∀ k, F' k → F k ∧ vN.ownBlock ≠ some k ∧ k ≠ hb := by
  subst hW; subst hnn
  obtain ⟨val1, hM, hR, hsb, hF⟩ := hp
  have hB := h.body
  rw [List.take_length] at hR
  have hcl : closeS s = { s with layers := r, known := l.names.foldl popK s.known } := by unfold closeS; rw [h.lay]
  have keep : ∀ k, k < w.heap.size → k ≠ C.kb → k ≠ C.fb → (wr.setCell ⟨C.fb, 4, none⟩ (.slice (some ⟨gL, 0, none⟩) nr cL)).heap[k]? = w.heap[k]? := fun k hk h1 h2 => by
    rw [Below.heap_setCell _ _ _ _ h2, hF.block k hk h1]
  have hkm := h.K.isMapBlk
  have hne := blkNeMap h.blk hkm
  have keepRow : ∀ {e sz n : Nat} {v : Value} {xs : List Value}, w.ownsRow 0 e sz v n xs → e ≠ 119 → (wr.setCell ⟨C.fb, 4, none⟩ (.slice (some ⟨gL, 0, none⟩) nr cL)).ownsRow 0 e sz v n xs := by
    intro e sz n v xs hr h119
    refine ownMove hr (fun k hk hl => keep k hl ?_ ?_)
    · rintro rfl; exact rowNeMap hr hkm hk
    · rintro rfl; exact rowNeBlk hr h.blk h119 hk
  have hblk : wr.heap[C.fb]? = _ := (hF.block _ (blkLt h.blk) hne).trans h.blk
  have hL := h.L
  have hll : s.layers.length = nr + 1 := by rw [h.lay, List.length_cons, hnr]
  rw [hll, hvL] at hL
  have hsz := hF.size
  refine ⟨fun k => F k ∧ vN.ownBlock ≠ some k ∧ k ≠ hb, .slice (some ⟨gL, 0, none⟩) nr cL, val1, ?_, ⟨?_, fun k hk => .inl hk.1⟩, fun k hk => hk⟩
  · rw [hcl]
    refine ⟨blkSet hblk 4 _, keepRow h.D (by decide), keepRow h.B (by decide), ?_, keepRow h.S (by decide), ?_, fun x => keepRow (hR x) (by decide), ?_, h.sepD, ?_, ?_, hB.f0, ?_, ?_⟩
    · simp only [← hnr]
      exact keepRow (own_cut (m := 1) hL hrc) (by decide)
    · exact hM.move (Below.heap_setCell _ _ _ _ (fun e => hne e.symm))
    · intro x y hxy
      rw [hsb x, hsb y]
      exact h.sepK x y hxy
    · intro x k hk
      rw [hsb x] at hk
      exact hB.fK x k hk
    · rintro k (h1 | h1 | h1 | h1)
      · exact hB.fV k (.inl h1)
      · exact hB.fV k (.inr (.inl h1))
      · exact hB.fV k (.inr (.inr (.inl (by rw [hvL]; exact h1))))
      · exact hB.fV k (.inr (.inr (.inr h1)))
    · intro k hk
      have := h.lt k hk.1
      simp; omega
    · intro k hk cs fr hcs
      by_cases h1 : k = C.fb
      · subst h1; rw [blkSet hblk 4 _] at hcs; injection hcs with hcs; injection hcs with _ hcs _; cases hcs
      · by_cases h2 : k = C.kb
        · subst h2
          obtain ⟨es, ck, hm⟩ := hM.isMapBlk
          rw [Below.heap_setCell _ _ _ _ h1, hm] at hcs; cases hcs
        · exact h.no27 k hk.1 cs fr (by rw [← keep k (h.lt k hk.1) h2 h1]; exact hcs)
  · exact (hF.mono (S' := F) (fun k _ hk => hk ▸ h.f0.2.1)).trans' (S' := fun j => j = C.fb) (Fr.setCell (S := fun j => j = C.fb) (Fr.refl _ _) (p := ⟨C.fb, 4, none⟩) (fun _ => rfl) _) (fun j _ hj => hj ▸ h.f0.1)
set_option maxRecDepth 100000 in
set_option maxHeartbeats 4000000 in
theorem close_walk {C : FC} {hb : Nat} {rc : List Value} {F : Nat → Prop} {w : World} {s : FS} {vD vB vL vS vN : Value} {val : Nam → Value} {l : Lay} {r : List Lay}
    (h : FRep C hb rc F w s vD vB vL vS vN val l r) (hrc : rc.length = r.length * 2) (hbal : BalI s) (hlen : LenI s) (hops : s.ops ≤ bigN) (hbs : ∀ x ∈ l.names, x.length ≤ maxLen ∧ x ∈ dNames C.bs s.decls) (u : FrameMode) :
    CallsD Tryz.prog 87 #[.pointer (some ⟨C.fb, 0, none⟩)] u w fun e u' w' => u' = u ∧ (e = .returned (.tuple #[]) ∧ ∃ F' vL' val', FBody C rc F' w' (closeS s) vD vB vL' vS val' ∧ FrF F F' w w' ∧ ∀ k, F' k → F k ∧ vN.ownBlock ≠ some k ∧ k ≠ hb) := by
  obtain ⟨aL, cL, hvL, hncL, haL⟩ := ownShape h.L
  have hll : s.layers.length = r.length + 1 := by rw [h.lay]; rfl
  obtain ⟨gL, hgL⟩ := haL (by omega)
  obtain ⟨nr, hnr⟩ : ∃ nr, nr = r.length := ⟨_, rfl⟩
  rw [hll, ← hnr, hgL] at hvL
  rw [hll, ← hnr] at hncL
  have c4 := blkCell h.blk 4
  have lfb := blkLt h.blk
  rw [hvL] at c4
  have hL := h.L
  rw [hll, ← hnr, hvL] at hL
  obtain ⟨b0, b1, bf, lgL⟩ := lastPair hL (by rw [hrc, hnr])
  obtain ⟨aN, cN, hvN, hncN, _⟩ := ownShape h.N
  obtain ⟨nn, hnn⟩ : ∃ nn, nn = l.names.length := ⟨_, rfl⟩
  rw [← hnn] at hvN hncN
  rw [hvN] at b0
  have hnrb : nr ≤ 1099511627776 := by have := hlen.layers; unfold bigN at hops; omega
  have hnnb : nn ≤ 1099511627776 := by have := hlen.names l (by rw [h.lay]; exact List.mem_cons_self ..); unfold bigN at hops; omega
  have HH := Lib.hid h; have HBAL := Lib.hid hbal; have HLEN := Lib.hid hlen; have HOPS := Lib.hid hops; have HBS := Lib.hid hbs; have HVL := Lib.hid hvL; have HNR := Lib.hid hnr; have HRC := Lib.hid hrc; have HLL := Lib.hid hll; have HL := Lib.hid hL; have HVN := Lib.hid hvN; have HNN := Lib.hid hnn
  clear h hbal hlen hops hbs hvL hnr hrc hll hL hvN hnn hgL bf
  go_enter_d Tryz.func87, Tryz.ntmps87
  go_wp2_with fail
  have p0 : PRel C (dNames C.bs s.decls) s.known val l.names w 0 w := ⟨val, HH.out.K, fun y => by simpa using HH.out.R y, fun _ => rfl, Fr.refl _ _⟩
  go_loopw [21] (fun x wr => ∃ i : Nat, i ≤ nn ∧ x = .int .i64 i ∧ PRel C (dNames C.bs s.decls) s.known val l.names w i wr) (fun x _ => nn - (intOf x).toNat)
  case atStart => exact ⟨0, Nat.zero_le _, rfl, p0⟩
  case round =>
    obtain ⟨i, hi, rfl, val1, hM, hRw, hsb, hF⟩ := hrel
    by_cases hlt : i < nn
    · obtain ⟨y, hy⟩ : ∃ y, l.names[i]? = some y := ⟨_, List.getElem?_eq_getElem (by rw [← HNN.out]; exact hlt)⟩
      obtain ⟨hyl, hyin⟩ := HBS.out y (List.mem_of_getElem? hy)
      -- the name
      have hkm := HH.out.K.isMapBlk
      have hNw : wr.ownsRow 0 9 1 vN l.names.length (l.names.map strV) := ownMove HH.out.N (fun k hk hl => hF.block k hl (by rintro rfl; exact rowNeMap HH.out.N hkm hk))
      obtain ⟨g0, c0, hv0, _, hc0⟩ := ownAt hNw i (by rw [List.length_map, ← HNN.out]; exact hlt)
      rw [HVN.out] at hv0
      injection hv0 with e1 e3 e2
      clear e3
      subst e1; subst e2
      rw [List.getElem?_map, hy] at hc0
      obtain ⟨x, hx⟩ : ∃ x : ByteArray, x = ⟨y.toArray⟩ := ⟨_, rfl⟩
      have hc0' : wr.cell? ⟨g0, i, none⟩ = some (.string x) := by rw [hc0, hx]; rfl
      have hxl : x.data.toList = y := by rw [hx]
      have hxs : x.size ≤ maxLen := by rw [show x.size = x.data.toList.length from (Array.length_toList).symm, hxl]; exact hyl
      have hblk : wr.heap[C.fb]? = _ := (hF.block _ (blkLt HH.out.blk) (fun e => blkNeMap HH.out.blk hkm e)).trans HH.out.blk
      have f3 := blkCell hblk 3
      have hlook := hM.look Tryz.underlying116 (zero53 wr) x hxs
      rw [hxl] at hlook
      -- its row
      have hpos : 1 ≤ ((l.names.take i).foldl popK s.known y).length := by
        rw [pop_length, HBAL.out.1 y, HH.out.lay]
        simp only [cntN]
        have h1 := List.count_eq_countP (a := y) (l := l.names)
        have h2 : l.names.count y = (l.names.take i).count y + (l.names.drop i).count y := by rw [← List.count_append, List.take_append_drop]
        have h3 : 1 ≤ (l.names.drop i).count y := by
          apply List.one_le_count_iff.2
          obtain ⟨hlt', he⟩ := List.getElem?_eq_some_iff.1 hy
          rw [List.drop_eq_getElem_cons hlt', he]
          exact List.mem_cons_self ..
        omega
      have hrow := hRw y
      obtain ⟨ay, cy, hvy, hncy, hpy⟩ := ownShape hrow
      obtain ⟨m, hm⟩ : ∃ m, ((l.names.take i).foldl popK s.known y).length = m + 1 := ⟨((l.names.take i).foldl popK s.known y).length - 1, by omega⟩
      obtain ⟨gy, hgy⟩ := hpy (by omega)
      subst hgy
      rw [hm] at hvy hncy hrow
      rw [hvy] at hlook
      have hmb : m ≤ 1099511627776 := by
        have h1 := HLEN.out.known y
        have h2 := HOPS.out
        have h3 := pop_length (l.names.take i) s.known y
        unfold bigN at h2
        omega
      obtain ⟨w3, hrun3, hm3, hg3⟩ := VMap.put (w := wr.drew) (hM.move rfl) Tryz.underlying116 (by
        have h1 : (dNames C.bs s.decls).length = s.decls.length := List.length_map ..
        have h2 := HLEN.out.decls
        have h3 := HOPS.out
        unfold bigN at h3
        unfold maxLen
        omega) x hxs (by rw [hxl]; exact hyin) (.slice (some ⟨gy, 0, none⟩) m cy)
      have hcm : (m : Int) ≤ (cy : Int) := by omega
      have HM := Lib.hid hM; have HRw := Lib.hid hRw; have HSB := Lib.hid hsb; have HF := Lib.hid hF; have HY := Lib.hid hy; have HX := Lib.hid hxl; have HROW := Lib.hid hrow; have HVY := Lib.hid hvy; have HM3 := Lib.hid hm3; have HG3 := Lib.hid hg3; have HMM := Lib.hid hm; have HYIN := Lib.hid hyin
      clear hM hRw hsb hF hy hx hxl hrow hvy hm3 hg3 hm hNw hc0 hpos hyin hyl hblk hkm
      go_wp2_with fail
      have hwm : IntKind.i64.wrap (m : Int) = (m : Int) := IntWalk.i64_in _ (by omega)
      have hm0 : (0 : Int) ≤ (m : Int) := by omega
      go_region_law (fail)
      all_goals go_wp2_with fail
      all_goals refine ⟨⟨i + 1, by omega, by go_num, PRel.next HM3.out HX.out HY.out HRw.out HSB.out HF.out HROW.out HVY.out HMM.out HG3.out⟩, by simp [intOf]; omega⟩
    · obtain rfl : i = nn := by omega
      have hkm := HH.out.K.isMapBlk
      have hblk : wr.heap[C.fb]? = _ := (hF.block _ (blkLt HH.out.blk) (fun e => blkNeMap HH.out.blk hkm e)).trans HH.out.blk
      have f4 := blkCell hblk 4
      have fz := blkFree hblk 4
      have lf := blkLt hblk
      rw [HVL.out] at f4
      have HM := Lib.hid hM; have HRw := Lib.hid hRw; have HSB := Lib.hid hsb; have HF := Lib.hid hF; have HB := Lib.hid hblk
      clear hM hRw hsb hF hblk hkm
      go_wp2_with fail
      go_end0
      exact ⟨rfl, FBody.closed HH.out HVL.out HNR.out (by rw [HRC.out, HNR.out]) ⟨val1, HM.out, HRw.out, HSB.out, HF.out⟩ HNN.out rfl⟩
end Go.Proofs.YtkicpjjfeekopaaGreatDoor

namespace Go.Proofs.YtkicpjjfeekopaaGreatDoor
open Go.RowKit Go.Maps
theorem info206 : (Tryz.prog.info? 206).map (fun i => (i.zero, i.size, i.bytes)) = some (some (.agg #[.slice none 0 0, .map none]), 2, 32) := by kernel_rfl
theorem cells2 {W : World} {b0 : Nat} {a b : Value} {t : TypeId} {fr : Nat × Nat} (hb : W.heap[b0]? = some (.cells #[a, b] t fr)) : ∀ j u, [a, b][j]? = some u → W.cell? ((⟨b0, 0, none⟩ : Addr).add j) = some u := by
  intro j u hj
  have hadd : (⟨b0, 0, none⟩ : Addr).add j = ⟨b0, j, none⟩ := by unfold Addr.add; split <;> simp_all
  rw [hadd, blkCell hb j]
  match j, hj with
  | 0, hj | 1, hj => simpa using hj
theorem FRep.opened {C : FC} {lc : List Value} {F : Nat → Prop} {w w2 W X : World} {s : FS} {vD vB vL vS vL' : Value} {val : Nam → Value} {hb n : Nat} {o : Obj}
    (h : FBody C lc F w s vD vB vL vS val) (hhb : hb = w.heap.size) (hX : X = (w.alloc (.map #[] 0)).alloc o) (hn : n = s.layers.length) (hO : w2.ownsRow 0 206 2 vL' (n + 1) (lc ++ [nilV, .map (some hb)])) (hG : X.grownBy w2 vL.ownBlock)
    (hat : vL'.ownBlock = vL.ownBlock ∨ vL'.ownBlock = some X.heap.size) (hW : W = w2.setCell ⟨C.fb, 4, none⟩ vL') :
    ∃ F' val', FRep C hb lc F' W (openS s) vD vB vL' vS nilV val' ⟨[], zeroH⟩ s.layers ∧ FrF F F' w W := by
  subst hW; subst hX; subst hhb; subst hn
  have hkm := h.K.isMapBlk
  have hne := blkNeMap h.blk hkm
  have keep : ∀ k, k < w.heap.size → vL.ownBlock ≠ some k → k ≠ C.fb → (w2.setCell ⟨C.fb, 4, none⟩ vL').heap[k]? = w.heap[k]? := fun k hk h1 h2 => by
    rw [Below.heap_setCell _ _ _ _ h2, hG.block k (by simp; omega) (fun e => h1 e.symm), Below.heap_alloc _ o k (by simp; omega), Below.heap_alloc w _ k hk]
  have keepRow : ∀ {e sz n : Nat} {v : Value} {xs : List Value}, w.ownsRow 0 e sz v n xs → e ≠ 119 → e ≠ 206 → (w2.setCell ⟨C.fb, 4, none⟩ vL').ownsRow 0 e sz v n xs := by
    intro e sz n v xs hr h119 h206
    refine ownMove hr (fun k hk hl => keep k hl ?_ ?_)
    · exact rowNe hr h.L h206 hk
    · rintro rfl; exact rowNeBlk hr h.blk h119 hk
  obtain ⟨aL, cL, hvL', _, hpos⟩ := ownShape hO
  obtain ⟨gL, hgL⟩ := hpos (by omega)
  have hgo : vL'.ownBlock = some gL := by rw [hvL', hgL]; rfl
  have hloc : vL.ownBlock = some gL ∨ w.heap.size + 1 < gL := by
    rcases hat with h1 | h1
    · exact .inl (h1 ▸ hgo)
    · rw [hgo] at h1; injection h1 with h1; simp at h1; exact .inr (by omega)
  have hg2 : ∃ cur, w2.heap[gL]? = some (.cells cur 206 (0, 0)) := ownBlk hO hgo
  have hfb2 : w2.heap[C.fb]? = some (.cells #[.string ⟨C.bs.toArray⟩, vD, vB, .map (some C.kb), vL, .int .i64 C.stop, vS] 119 (0, 0)) := by
    rw [hG.block C.fb (by have := blkLt h.blk; simp; omega) (fun e => rowNeBlk h.L h.blk (by decide) e.symm), Below.heap_alloc _ o _ (by have := blkLt h.blk; simp; omega), Below.heap_alloc w _ _ (blkLt h.blk)]
    exact h.blk
  have hfbg : C.fb ≠ gL := by rintro rfl; obtain ⟨c, hc⟩ := hg2; exact blkNe hfb2 hc (by decide) rfl
  have hlfb := blkLt h.blk
  have hs2 : w.heap.size + 2 ≤ w2.heap.size := by have := hG.size; simp at this; omega
  have hvLs : vL.ownBlock ≠ some w.heap.size := by intro e; obtain ⟨c, hc⟩ := ownBlk h.L e; have := blkLt hc; omega
  have hmap : VMap (w2.setCell ⟨C.fb, 4, none⟩ vL') w.heap.size (dNames C.bs s.decls) (.int .i64 0) (fun x => intV (zeroH x)) := by
    refine (VMap.made w (dNames C.bs s.decls) (.int .i64 0)).move ?_
    rw [Below.heap_setCell _ _ _ _ (by simp; omega), hG.block _ (by simp; omega) (fun e => hvLs e.symm), Below.heap_alloc _ o _ (by simp)]
  refine ⟨fun k => (F k ∧ vL.ownBlock ≠ some k) ∨ k = gL ∨ k = w.heap.size, val, ⟨?_, ?_, ?_, ?_, ?_, rfl, ?_, hmap, ?_, ?_, h.sepK, h.sepD, ?_, ?_, ?_, ⟨.inl ⟨h.f0.1, rowNeBlk h.L h.blk (by decide)⟩, .inl ⟨h.f0.2, rowNeMap h.L hkm⟩, .inr (.inr rfl)⟩, ?_, ?_⟩, ⟨?_, ?_⟩⟩
  · exact blkSet hfb2 4 _
  · exact keepRow h.D (by decide) (by decide)
  · exact keepRow h.B (by decide) (by decide)
  · show (w2.setCell ⟨C.fb, 4, none⟩ vL').ownsRow 0 206 2 vL' (s.layers.length + 1) (lc ++ [nilV, .map (some w.heap.size)])
    exact ownMove hO (fun k hk _ => Below.heap_setCell _ _ _ _ (by rintro rfl; rw [hgo] at hk; injection hk with hk; exact hfbg hk.symm))
  · exact keepRow h.S (by decide) (by decide)
  · exact World.ownsRow_nil _ _ _ _
  · exact h.K.move (keep _ (h.lt _ h.f0.2) (rowNeMap h.L hkm) (fun e => hne e.symm))
  · intro x; exact keepRow (h.R x) (by decide) (by decide)
  · have := h.lt _ h.f0.2; omega
  · exact fun x k hk => .inl ⟨h.fK x k hk, rowNe (h.R x) h.L (by decide) hk⟩
  · rintro k (h1 | h1 | h1 | h1 | h1)
    · exact .inl ⟨h.fV k (.inl h1), rowNe h.D h.L (by decide) h1⟩
    · exact .inl ⟨h.fV k (.inr (.inl h1)), rowNe h.B h.L (by decide) h1⟩
    · rw [hgo] at h1; injection h1 with h1; exact .inr (.inl h1.symm)
    · exact .inl ⟨h.fV k (.inr (.inr (.inr h1))), rowNe h.S h.L (by decide) h1⟩
    · simp [nilV, Value.ownBlock] at h1
  · rintro k (h1 | rfl | rfl)
    · have := h.lt k h1.1; simp; omega
    · obtain ⟨c, hc⟩ := hg2; have := blkLt hc; simpa using this
    · simp; omega
  · rintro k (h1 | rfl | rfl) cs fr hcs
    · by_cases h2 : k = C.fb
      · subst h2; rw [blkSet hfb2 4 _] at hcs; injection hcs with hcs; injection hcs with _ hcs _; cases hcs
      · exact h.no27 k h1.1 cs fr (by rw [← keep k (h.lt k h1.1) h1.2 h2]; exact hcs)
    · obtain ⟨c, hc⟩ := hg2
      rw [Below.heap_setCell _ _ _ _ (fun e => hfbg e.symm), hc] at hcs; injection hcs with hcs; injection hcs with _ hcs _; cases hcs
    · obtain ⟨es, ck, hm⟩ := hmap.isMapBlk
      rw [hm] at hcs; cases hcs
  · refine (((((Fr.refl F w).alloc _).alloc o).trans' (S' := fun k => vL.ownBlock = some k) (Fr.of_grown hG (fun k e => e)) (fun k _ hk => h.fV k (.inr (.inr (.inl hk)))))).trans' (S' := fun j => j = C.fb) (Fr.setCell (S := fun j => j = C.fb) (Fr.refl _ _) (p := ⟨C.fb, 4, none⟩) (fun _ => rfl) _) (fun j _ hj => hj ▸ h.f0.1)
  · rintro k (h1 | rfl | rfl)
    · exact .inl h1.1
    · rcases hloc with h2 | h2
      · exact .inl (h.fV _ (.inr (.inr (.inl h2))))
      · exact .inr (by omega)
    · exact .inr (Nat.le_refl _)
set_option maxRecDepth 100000 in
set_option maxHeartbeats 4000000 in
theorem open_walk {C : FC} {lc : List Value} {F : Nat → Prop} {w : World} {s : FS} {vD vB vL vS : Value} {val : Nam → Value}
    (h : FBody C lc F w s vD vB vL vS val) (hlen : LenI s) (hops : s.ops ≤ bigN) :
    Calls Tryz.prog 86 #[.pointer (some ⟨C.fb, 0, none⟩)] w fun e w' => e = .returned (.tuple #[]) ∧ ∃ hb F' vL' val', FRep C hb lc F' w' (openS s) vD vB vL' vS nilV val' ⟨[], zeroH⟩ s.layers ∧ FrF F F' w w' := by
  obtain ⟨aL, cL, hvL, hncL, _⟩ := ownShape h.L
  obtain ⟨n, hn⟩ : ∃ n, n = s.layers.length := ⟨_, rfl⟩
  rw [← hn] at hvL hncL
  have c4 := blkCell h.blk 4
  rw [hvL] at c4
  have lfb := blkLt h.blk
  have hnb : n ≤ 1099511627776 := by have := hlen.layers; unfold bigN at hops; omega
  have HH := Lib.hid h; have HVL := Lib.hid hvL; have HN := Lib.hid hn
  clear h hvL hn hlen hops
  obtain ⟨i0, hi0, hz0, hz1, hz2⟩ := info_parts info206
  have hmm := @run_makeMap Tryz.prog
  go_enter Tryz.func86, Tryz.ntmps86
  go_wp2_with (at_builtin; refine wpList_append_own_at _ rfl (.tmp 6) (.tmp 9) 117 rfl 0 206 i0 (.agg #[.slice none 0 0, .map none]) 2 32 Tryz.underlying117 hi0 hz0 hz1 hz2 rfl (by decide) (.slice aL n cL) n lc rfl (by rw [← HVL.out, HN.out]; exact (HH.out.L.alloc _).alloc _) ⟨w.heap.size + 1, 0, none⟩ 1 1 [nilV, .map (some w.heap.size)] rfl rfl (by exact cells2 (blkNew2 w _ _)) (by intro u hu; simp at hu; rcases hu with rfl | rfl <;> rfl) (by unfold maxLen; omega) (by omega) (Nat.zero_le _) ?_; intro vL' w5 hO hG _ hat; obtain ⟨a5, c5, rfl, _, _⟩ := ownShape hO; have hfb5 := (hG.block C.fb (by simp; omega) (by rw [← HVL.out]; exact fun e => rowNeBlk HH.out.L HH.out.blk (by decide) e.symm)).trans (blkAlloc (blkAlloc HH.out.blk _) _); have d4 := blkCell hfb5 4; have e4 := blkFree hfb5 4; have l5 := blkLt hfb5; have HO := Lib.hid hO; have HG := Lib.hid hG; have HAT := Lib.hid hat; clear hO hG hat hfb5)
  go_end0
  refine ⟨rfl, w.heap.size, ?_⟩
  obtain ⟨F', val', q1, q2⟩ := FRep.opened HH.out rfl rfl HN.out HO.out (by rw [HVL.out]; exact HG.out) (by rw [HVL.out]; exact HAT.out) rfl
  exact ⟨F', _, val', q1, q2⟩
end Go.Proofs.YtkicpjjfeekopaaGreatDoor

namespace Go.Proofs.YtkicpjjfeekopaaGreatDoor
open Go.RowKit Go.Maps
/-- What holds of a finder's state, at a place. -/
structure FOk (C : FC) (frm : Nat) (s : FS) : Prop where
  len : LenI s
  ops : s.ops ≤ bigN
  wf : WFI (nmT C.bs) C.stop frm s
  span : SpanI s
  bal : BalI s
  bs : C.bs.length < 100000
  le : frm ≤ C.bs.length
theorem FOk.kn {C : FC} {frm : Nat} {s : FS} (h : FOk C frm s) : ∀ x, ∀ k ∈ s.known x, ∃ d, s.decls[k]? = some d ∧ nmD (nmT C.bs) d = x := h.wf.kn
theorem FOk.sp {C : FC} {frm : Nat} {s : FS} (h : FOk C frm s) : ∀ d ∈ s.decls, d.frm ≤ d.to ∧ d.to ≤ C.bs.length := fun d hd => ⟨h.span d hd, Nat.le_trans (h.wf.to d hd) h.le⟩
theorem FOk.names {C : FC} {frm : Nat} {s : FS} (h : FOk C frm s) {l : Lay} {r : List Lay} (hl : s.layers = l :: r) : ∀ x ∈ l.names, x.length ≤ maxLen ∧ x ∈ dNames C.bs s.decls := by
  intro x hx
  have h1 := h.bal.1 x
  rw [hl] at h1
  simp only [cntN] at h1
  have h2 : 1 ≤ l.names.count x := List.one_le_count_iff.2 hx
  cases hk : s.known x with
  | nil => rw [hk] at h1; simp at h1; omega
  | cons k ks =>
    obtain ⟨d, hd, hdx⟩ := h.kn x k (by rw [hk]; exact List.mem_cons_self ..)
    refine ⟨?_, List.mem_map.2 ⟨d, List.mem_of_getElem? hd, hdx⟩⟩
    rw [← hdx]
    unfold nmD nmT
    rw [List.length_take, List.length_drop]
    have := h.bs
    unfold maxLen
    omega
/-- What tells of look. -/
def LookSaid (C : FC) : Prop := ∀ (hb : Nat) (rc : List Value) (F : Nat → Prop) (w : World) (s : FS) (f frm en : Nat), FRE C hb rc F w s → FOk C f s → frm ≤ 100000 → en ≤ 100000 →
  Calls Tryz.prog 121 #[.pointer (some ⟨C.fb, 0, none⟩), .int .i64 frm, .int .i64 en] w fun e w' => e = .returned (.tuple #[]) ∧ ∃ F', FRE C hb rc F' w' (lookS (nmT C.bs) C.stop frm en s) ∧ FrF F F' w w'
set_option maxHeartbeats 1000000 in
theorem look_miss {C : FC} {hb : Nat} {rc : List Value} {F : Nat → Prop} {w : World} {s : FS} {frm en : Nat} (h : FRE C hb rc F w s) (hm : C.stop < frm ∨ (en : Int) ≤ C.stop) (hf : frm ≤ 100000) (he : en ≤ 100000) :
    Calls Tryz.prog 121 #[.pointer (some ⟨C.fb, 0, none⟩), .int .i64 frm, .int .i64 en] w fun e w' => e = .returned (.tuple #[]) ∧ ∃ F', FRE C hb rc F' w' (lookS (nmT C.bs) C.stop frm en s) ∧ FrF F F' w w' := by
  have hl : lookS (nmT C.bs) C.stop frm en s = s := by unfold lookS; rw [if_pos hm]
  rw [hl]
  have HH := Lib.hid h
  obtain ⟨vD, vB, vL, vS, vN, val, l, r, hR⟩ := h
  have c5 := blkCell hR.blk 5
  obtain ⟨st, hst⟩ : ∃ st, st = C.stop := ⟨_, rfl⟩
  rw [← hst] at hm c5
  clear hR hl hst
  by_cases h1 : st < frm
  · have q : decide (st < (frm : Int)) = true := by simpa using h1
    clear hm h1
    go_enter Tryz.func121, Tryz.ntmps121
    go_wp2_with fail
    refine bodyPost_ret (results_none rfl _ _ _) rfl ?_
    exact ⟨rfl, F, HH.out, FrF.refl _ _⟩
  · have h2 := hm.resolve_left h1
    have q : decide (st < (frm : Int)) = false := by simpa using h1
    have q2 : decide ((en : Int) ≤ st) = true := by simpa using h2
    clear hm h1 h2
    go_enter Tryz.func121, Tryz.ntmps121
    go_wp2_with fail
    refine bodyPost_ret (results_none rfl _ _ _) rfl ?_
    exact ⟨rfl, F, HH.out, FrF.refl _ _⟩
theorem declare_top {C : FC} {hb : Nat} {rc : List Value} {F : Nat → Prop} {w : World} {s : FS} (h : FRE C hb rc F w s) {f : Nat} (ho : FOk C f s) {frm en kind : Nat} (h1 : frm ≤ en) (h2 : en ≤ C.bs.length) :
    Calls Tryz.prog 120 #[.pointer (some ⟨C.fb, 0, none⟩), .agg #[.int .i64 frm, .int .i64 en], .int .u8 kind, .map (some hb)] w fun e w' => e = .returned (.int .i64 s.decls.length) ∧
      ∃ F', FRE C hb rc F' w' (setHomes (declS (nmT C.bs) frm en kind (homesS s) s) (bumpH (nmT C.bs) frm en (homesS s))) ∧ FrF F F' w w' := by
  obtain ⟨vD, vB, vL, vS, vN, val, l, r, hR⟩ := h
  have hhs : homesS s = l.homes := by unfold homesS; rw [hR.lay]
  rw [hhs]
  have hl := ho.len
  have hbo := ho.ops
  unfold bigN at hbo
  have hH := hR.H.moreKeys (L' := dNames C.bs (s.decls ++ [⟨frm, en, kind, decide (0 < l.homes (nmT C.bs frm en))⟩])) (fun x hx => by rw [dNames_append]; exact List.mem_append_left _ hx)
  have hlen : (dNames C.bs (s.decls ++ [⟨frm, en, kind, decide (0 < l.homes (nmT C.bs frm en))⟩])).length = s.decls.length + 1 := by simp [dNames]
  have hin : nmT C.bs frm en ∈ dNames C.bs (s.decls ++ [⟨frm, en, kind, decide (0 < l.homes (nmT C.bs frm en))⟩]) := by rw [dNames_append]; exact List.mem_append_right _ (by simp [dNames, nmD])
  have hhom := hl.homes l (by rw [hR.lay]; exact List.mem_cons_self ..) (nmT C.bs frm en)
  have hdl := hl.decls
  refine (declare_walk w C.fb _ C.bs vD vB vL vS C.kb C.stop s.decls _ val l.homes frm en kind hR.blk hR.D hH h1 h2 ho.bs (by omega) (by rw [hlen]; omega) hin (by omega)).mono ?_
  rintro e w' ⟨rfl, v', hP⟩
  refine ⟨rfl, ?_⟩
  have hst : setHomes (declS (nmT C.bs) frm en kind l.homes s) (bumpH (nmT C.bs) frm en l.homes) = { declS (nmT C.bs) frm en kind l.homes s with layers := { l with homes := bumpH (nmT C.bs) frm en l.homes } :: r } := by
    unfold setHomes
    rw [show (declS (nmT C.bs) frm en kind l.homes s).layers = l :: r from hR.lay]
  rw [hst]
  obtain ⟨F', q1, q2, _⟩ := FRep.declared (l' := { l with homes := bumpH (nmT C.bs) frm en l.homes }) (s' := { declS (nmT C.bs) frm en kind l.homes s with layers := { l with homes := bumpH (nmT C.bs) frm en l.homes } :: r }) hR hP (.inl rfl) rfl rfl rfl rfl rfl rfl hP.A
  exact ⟨F', ⟨_, _, _, _, _, _, _, _, q1⟩, ⟨q2.fr.mono (fun i _ h => by rcases h with h | h; exact h; exact h ▸ hR.f0.2.2), fun k hk => by rcases q2.ext k hk with (h | h) | h; exact .inl h; exact .inl (h ▸ hR.f0.2.2); exact .inr h⟩⟩
theorem declare_loc {C : FC} {hb ab : Nat} {rc : List Value} {F : Nat → Prop} {w : World} {s : FS} {g : Nam → Nat} (h : FRE C hb rc F w s) {f : Nat} (ho : FOk C f s) (hA : VMap w ab (dNames C.bs s.decls) (.int .i64 0) (fun x => intV (g x))) (hab : ¬ F ab) (hg : ∀ x, g x ≤ s.ops) {frm en kind : Nat} (h1 : frm ≤ en) (h2 : en ≤ C.bs.length) :
    Calls Tryz.prog 120 #[.pointer (some ⟨C.fb, 0, none⟩), .agg #[.int .i64 frm, .int .i64 en], .int .u8 kind, .map (some ab)] w fun e w' => e = .returned (.int .i64 s.decls.length) ∧
      ∃ F', FRE C hb rc F' w' (declS (nmT C.bs) frm en kind g s) ∧ VMap w' ab (dNames C.bs (declS (nmT C.bs) frm en kind g s).decls) (.int .i64 0) (fun x => intV (bumpH (nmT C.bs) frm en g x)) ∧ FrF (fun k => F k ∨ k = ab) F' w w' ∧ ¬ F' ab := by
  obtain ⟨vD, vB, vL, vS, vN, val, l, r, hR⟩ := h
  have hl := ho.len
  have hbo := ho.ops
  unfold bigN at hbo
  have hH := hA.moreKeys (L' := dNames C.bs (s.decls ++ [⟨frm, en, kind, decide (0 < g (nmT C.bs frm en))⟩])) (fun x hx => by rw [dNames_append]; exact List.mem_append_left _ hx)
  have hlen : (dNames C.bs (s.decls ++ [⟨frm, en, kind, decide (0 < g (nmT C.bs frm en))⟩])).length = s.decls.length + 1 := by simp [dNames]
  have hin : nmT C.bs frm en ∈ dNames C.bs (s.decls ++ [⟨frm, en, kind, decide (0 < g (nmT C.bs frm en))⟩]) := by rw [dNames_append]; exact List.mem_append_right _ (by simp [dNames, nmD])
  have hhom := hg (nmT C.bs frm en)
  have hdl := hl.decls
  refine (declare_walk w C.fb _ C.bs vD vB vL vS C.kb C.stop s.decls _ val g frm en kind hR.blk hR.D hH h1 h2 ho.bs (by omega) (by rw [hlen]; omega) hin (by omega)).mono ?_
  rintro e w' ⟨rfl, v', hP⟩
  refine ⟨rfl, ?_⟩
  have hHb : VMap w' hb (dNames C.bs (declS (nmT C.bs) frm en kind g s).decls) (.int .i64 0) (fun x => intV (l.homes x)) := by
    refine (hR.H.moreKeys (fun x hx => by unfold declS; rw [dNames_append]; exact List.mem_append_left _ hx)).move (hP.fr.block _ (hR.lt _ hR.f0.2.2) ?_)
    rintro (e | e | e)
    · exact blkNeMap hR.blk hR.H.isMapBlk e.symm
    · exact rowNeMap hR.D hR.H.isMapBlk e
    · exact hab (e ▸ hR.f0.2.2)
  obtain ⟨F', q1, q2, q3⟩ := FRep.declared (l' := l) (s' := declS (nmT C.bs) frm en kind g s) hR hP (.inr ⟨hab, hA.isMapBlk⟩) rfl rfl rfl hR.lay rfl rfl hHb
  refine ⟨F', ⟨_, _, _, _, _, _, _, _, q1⟩, hP.A, q2, fun hF => ?_⟩
  rcases q3 ab hF with h | h
  · exact hab h
  · exact rowNeMap hP.own hP.A.isMapBlk h
end Go.Proofs.YtkicpjjfeekopaaGreatDoor

namespace Go.Proofs.YtkicpjjfeekopaaGreatDoor
open Go.RowKit Go.Maps
section
variable {C : FC} {frm : Nat} {s : FS}
theorem FOk.count (h : FOk C frm s) (ns : List Nat) (ho : (countS (nmT C.bs) ns s).ops ≤ bigN) : FOk C frm (countS (nmT C.bs) ns s) :=
  ⟨countS_len ns h.len, ho, countS_inv ns h.wf, by unfold SpanI; rw [countS_dec]; exact h.span, countS_bal ns h.bal, h.bs, h.le⟩
theorem FOk.look (h : FOk C frm s) (frm' en : Nat) (hb : frm' = frm) : FOk C frm (lookS (nmT C.bs) C.stop frm' en s) := by
  subst hb
  exact ⟨lookS_len h.len _ _, by rw [lookS_ops]; exact h.ops, lookS_inv h.wf, by unfold SpanI; rw [lookS_decls]; exact h.span, bal_of h.bal (lookS_known _ _ _) (lookS_layers _ _ _), h.bs, h.le⟩
theorem FOk.decl_top (h : FOk C frm s) {en : Nat} (kind : Nat) (h1 : frm ≤ en) (h2 : en ≤ C.bs.length) (ho : s.ops + 1 ≤ bigN) : FOk C en (setHomes (declS (nmT C.bs) frm en kind (homesS s) s) (bumpH (nmT C.bs) frm en (homesS s))) := by
  refine ⟨setHomes_len (declS_len h.len _ _ _ _) (bump_le (homesS_le h.len) frm en), by rw [setHomes_ops]; exact ho, setHomes_inv (declS_inv h.wf h1 _ _ _) _, ?_, setHomes_bal (s := declS _ _ _ _ _ s) (bal_of h.bal rfl rfl) _, h.bs, h2⟩
  unfold SpanI
  rw [(setHomes_decls _ _).1]
  intro d hd
  rcases List.mem_append.1 hd with hd | hd
  · exact h.span d hd
  · simp at hd; rw [hd]; exact h1
theorem FOk.mono (h : FOk C frm s) {en : Nat} (h1 : frm ≤ en) (h2 : en ≤ C.bs.length) : FOk C en s := ⟨h.len, h.ops, h.wf.mono h1, h.span, h.bal, h.bs, h2⟩
theorem FOk.node (h : FOk C frm s) (t : Tree) (pars : List Nat) (hg : goodT t = true) (hp : pars.length ≤ s.ops) (hi : ∀ k ∈ pars, k < s.decls.length) (hw : frm + t.width ≤ C.bs.length) (ho : (nodeS (nmT C.bs) C.stop t frm s pars).1.ops ≤ bigN) :
    FOk C (frm + t.width) (nodeS (nmT C.bs) C.stop t frm s pars).1 :=
  ⟨(nodeS_len t frm s pars h.len hp).1, ho, nodeS_inv t frm s pars h.wf hg, (nodeS_idx t frm s pars h.span hi).1, nodeS_bal t frm s pars h.bal, h.bs, hw⟩
theorem FOk.kids (h : FOk C frm s) (pk : Nat) (ts : List Tree) (lc : Loc) (hg : goodL ts = true) (hl : LocI s.ops lc) (hi : IdxI s lc) (hw : frm + sumW ts ≤ C.bs.length) (ho : (kidsS (nmT C.bs) C.stop pk ts frm s lc).1.ops ≤ bigN) :
    FOk C (frm + sumW ts) (kidsS (nmT C.bs) C.stop pk ts frm s lc).1 :=
  ⟨(kidsS_len pk ts frm s lc h.len hl).1, ho, kidsS_inv pk ts frm s lc h.wf hg, (kidsS_idx pk ts frm s lc h.span hi).2.1, kidsS_bal pk ts frm s lc h.bal, h.bs, hw⟩
end
theorem FRep.rcl {C : FC} {hb : Nat} {rc : List Value} {F : Nat → Prop} {w : World} {s : FS} {vD vB vL vS vN : Value} {val : Nam → Value} {l : Lay} {r : List Lay} (h : FRep C hb rc F w s vD vB vL vS vN val l r) : rc.length = r.length * 2 := by
  have h1 := h.L.1
  rw [h.lay] at h1
  simp only [List.length_append, List.length_cons, List.length_nil] at h1
  omega
theorem count_any {C : FC} {hb : Nat} {rc : List Value} {F : Nat → Prop} {w : World} {s : FS} {f : Nat} (h : FRE C hb rc F w s) (ho : FOk C f s) (vn : Value) (ns : List Nat) (hn : w.ownsRow 0 3 1 vn ns.length (ns.map intV)) (hnF : ∀ k, vn.ownBlock = some k → ¬ F k) (hix : ∀ k ∈ ns, k < s.decls.length)
    (hops : (countS (nmT C.bs) ns s).ops ≤ bigN) (hnl : ns.length ≤ 1000000000) :
    Calls Tryz.prog 88 #[.pointer (some ⟨C.fb, 0, none⟩), vn] w fun e w' => e = .returned (.tuple #[]) ∧ ∃ F', FRE C hb rc F' w' (countS (nmT C.bs) ns s) ∧ FrF F F' w w' := by
  obtain ⟨vD, vB, vL, vS, vN, val, l, r, hR⟩ := h
  refine (count_walk hR hR.rcl vn ns hn hnF hix ho.sp ho.bs ho.len hops hnl).mono ?_
  rintro e w' ⟨rfl, F', vN', val', l', q1, q2⟩
  rw [List.take_length] at q1
  exact ⟨rfl, F', ⟨_, _, _, _, _, _, _, _, q1⟩, q2⟩
/-- What tells of kids without a place for parameters. -/
def KidsSaid (C : FC) (t : Tree) : Prop := ∀ (cs : List Value) (P : Nat → Prop) (frm hb : Nat) (rc : List Value) (F : Nat → Prop) (w : World) (s : FS), FRE C hb rc F w s → FOk C frm s → RepT w P t cs → goodT t = true → 50 ≤ t.kind → frm + t.width ≤ C.bs.length → cntT t ≤ 1000000 →
  (nodeS (nmT C.bs) C.stop t frm s []).1.ops ≤ bigN →
  Calls Tryz.prog 89 #[.pointer (some ⟨C.fb, 0, none⟩), .agg cs.toArray, .int .i64 frm, .pointer none] w fun e w' => e = .returned (.tuple #[]) ∧ ∃ F', FRE C hb rc F' w' (nodeS (nmT C.bs) C.stop t frm s []).1 ∧ FrF F F' w w'
def FBE (C : FC) (lc : List Value) (F : Nat → Prop) (w : World) (s : FS) : Prop := ∃ vD vB vL vS val, FBody C lc F w s vD vB vL vS val
def WithinSaid (C : FC) (t : Tree) : Prop := ∀ (cs : List Value) (P : Nat → Prop) (frm : Nat) (lc : List Value) (F : Nat → Prop) (w : World) (s : FS) (vp : Value) (pars : List Nat), FBE C lc F w s → LenI s → FOk C frm (openS s) → RepT w P t cs → goodT t = true → 50 ≤ t.kind → frm + t.width ≤ C.bs.length → cntT t ≤ 1000000 →
  w.ownsRow 0 3 1 vp pars.length (pars.map intV) → (∀ k, vp.ownBlock = some k → ¬ F k) → (∀ k ∈ pars, k < s.decls.length) → pars.length ≤ 1000000000 →
  (withinS (nmT C.bs) C.stop t frm s pars).ops ≤ bigN →
  Calls Tryz.prog 53 #[.pointer (some ⟨C.fb, 0, none⟩), .agg cs.toArray, .int .i64 frm, vp] w fun e w' => e = .returned (.tuple #[]) ∧ ∃ F', FBE C lc F' w' (withinS (nmT C.bs) C.stop t frm s pars) ∧ FrF F F' w w'
theorem FBody.move {C : FC} {lc : List Value} {F : Nat → Prop} {w w' : World} {s : FS} {vD vB vL vS : Value} {val : Nam → Value} (h : FBody C lc F w s vD vB vL vS val) (hm : ∀ k, F k → w'.heap[k]? = w.heap[k]?) (hs : w.heap.size ≤ w'.heap.size) : FBody C lc F w' s vD vB vL vS val where
  blk := (hm _ h.f0.1).trans h.blk
  D := ownMove h.D (fun k hk _ => hm k (h.fV k (.inl hk)))
  B := ownMove h.B (fun k hk _ => hm k (h.fV k (.inr (.inl hk))))
  L := ownMove h.L (fun k hk _ => hm k (h.fV k (.inr (.inr (.inl hk)))))
  S := ownMove h.S (fun k hk _ => hm k (h.fV k (.inr (.inr (.inr hk)))))
  K := h.K.move (hm _ h.f0.2)
  R := fun x => ownMove (h.R x) (fun k hk _ => hm k (h.fK x k hk))
  sepK := h.sepK
  sepD := h.sepD
  fK := h.fK
  fV := h.fV
  f0 := h.f0
  lt := fun k hk => Nat.lt_of_lt_of_le (h.lt k hk) hs
  no27 := fun k hk cs fr => by rw [hm k hk]; exact h.no27 k hk cs fr
theorem FBody.fr0 {C : FC} {lc : List Value} {F : Nat → Prop} {w w' : World} {s : FS} {vD vB vL vS : Value} {val : Nam → Value} (h : FBody C lc F w s vD vB vL vS val) (hf : Fr (fun _ => False) w w') : FBody C lc F w' s vD vB vL vS val :=
  h.move (fun k hk => hf.block k (h.lt k hk) (fun h => h)) hf.size
theorem FBody.tree {C : FC} {lc : List Value} {F F' : Nat → Prop} {w w' : World} {s : FS} {vD vB vL vS : Value} {val : Nam → Value} (h : FBody C lc F w s vD vB vL vS val) (hf : FrF F F' w w') {P : Nat → Prop} {t : Tree} {cs : List Value} (ht : RepT w P t cs) : RepT w' P t cs := by
  refine RepT.mono (P := fun k => P k ∧ ¬ F k) (fun k hk _ _ => hk.1) _ _ ?_
  refine RepT.fr (S := F) (RepT.mono (fun k hk _ hc => ⟨hk, fun hF => ?_⟩) _ _ ht) hf.fr (fun k hk _ => hk.2)
  obtain ⟨cur, hcur⟩ := hc
  exact h.no27 k hF _ _ hcur
theorem FRE.tree {C : FC} {hb : Nat} {rc : List Value} {F F' : Nat → Prop} {w w' : World} {s : FS} (h : FRE C hb rc F w s) (hf : FrF F F' w w') {P : Nat → Prop} {t : Tree} {cs : List Value} (ht : RepT w P t cs) : RepT w' P t cs := by
  obtain ⟨_, _, _, _, _, _, _, _, hR⟩ := h
  exact hR.tree hf ht
theorem FRE.fr0 {C : FC} {hb : Nat} {rc : List Value} {F : Nat → Prop} {w w' : World} {s : FS} (h : FRE C hb rc F w s) (hf : Fr (fun _ => False) w w') : FRE C hb rc F w' s := by
  obtain ⟨_, _, _, _, _, _, _, _, hR⟩ := h
  exact ⟨_, _, _, _, _, _, _, _, hR.fr0 hf⟩
theorem FRE.lt {C : FC} {hb : Nat} {rc : List Value} {F : Nat → Prop} {w : World} {s : FS} (h : FRE C hb rc F w s) : ∀ k, F k → k < w.heap.size := by
  obtain ⟨_, _, _, _, _, _, _, _, hR⟩ := h
  exact hR.lt
/-- What is no part of the finder lives on. -/
theorem FrF.keep {F F' : Nat → Prop} {w w' : World} (h : FrF F F' w w') {k : Nat} {o : Obj} (hk : w.heap[k]? = some o) (hF : ¬ F k) : w'.heap[k]? = some o ∧ ¬ F' k := by
  refine ⟨h.fr.blk hk hF, fun hF' => ?_⟩
  rcases h.ext k hF' with h1 | h1
  · exact hF h1
  · have := blkLt hk; omega
theorem FrF.keepRow {F F' : Nat → Prop} {w w' : World} (h : FrF F F' w w') {b e sz n : Nat} {v : Value} {xs : List Value} (hr : w.ownsRow b e sz v n xs) (hF : ∀ k, v.ownBlock = some k → ¬ F k) : w'.ownsRow b e sz v n xs ∧ ∀ k, v.ownBlock = some k → ¬ F' k := by
  refine ⟨ownMove hr (fun k hk hl => h.fr.block k hl (hF k hk)), fun k hk => ?_⟩
  obtain ⟨c, hc⟩ := ownBlk hr hk
  exact (h.keep hc (hF k hk)).2
set_option maxRecDepth 100000 in
set_option maxHeartbeats 2000000 in
theorem within_any {C : FC} {t : Tree} (hK : KidsSaid C t) : WithinSaid C t := by
  intro cs P frm lc F w s vp pars hB hlen ho ht hg h50 hw hcnt hp hpF hpi hpl hfin
  obtain ⟨vD, vB, vL, vS, val, hB⟩ := hB
  obtain ⟨k, wt, wd, kids⟩ := t
  have ht0 := ht
  simp only [RepT] at ht0
  obtain ⟨v, xs, rfl, hxo, _, _⟩ := ht0
  obtain ⟨a, cp, rfl, _, _⟩ := ownShape hxo
  clear hxo
  obtain ⟨ap, cpp, hvp, _, _⟩ := ownShape hp
  have HB := Lib.hid hB; have HO := Lib.hid ho; have HT := Lib.hid ht; have HG := Lib.hid hg; have HP := Lib.hid hp; have HPF := Lib.hid hpF; have HPI := Lib.hid hpi; have HFIN := Lib.hid hfin; have HLEN := Lib.hid hlen; have HK := Lib.hid hK; have HVP := Lib.hid hvp; have HCNT := Lib.hid hcnt; have HPL := Lib.hid hpl; have HW := Lib.hid hw; have H50 := Lib.hid h50
  clear hB ho ht hg hp hpF hpi hfin hlen hK hvp hcnt hpl hw h50
  go_enter_defers Tryz.func53, Tryz.ntmps53
  go_wp2_with fail
  have hal : Fr (fun _ => False) w (w.alloc (.cells #[.int .u8 k, .int .u8 wt, .int .i64 wd, .slice a kids.length cp] 27)) := (Fr.refl _ _).alloc _
  refine (open_walk (HB.out.fr0 hal) HLEN.out (by have := (openS_len HLEN.out); have h2 := HO.out.ops; have : (openS s).ops = s.ops + 1 := rfl; omega)).mono ?_
  rintro e w1 ⟨rfl, hb, F1, vL1, val1, hR1, hF1⟩
  have hbx := hF1.keep (blkNew w (.cells #[.int .u8 k, .int .u8 wt, .int .i64 wd, .slice a kids.length cp] 27)) (fun hF => by have := HB.out.lt _ hF; omega)
  have hp1 := (FrF.of0 (F := F) hal).keepRow HP.out HPF.out
  have hp2 := hF1.keepRow hp1.1 hp1.2
  have ht1 := HB.out.fr0 hal |>.tree hF1 (HT.out.fr hal (fun _ _ _ h => h))
  have hops1 : (countS (nmT C.bs) pars (openS s)).ops ≤ bigN := by
    have h1 := HFIN.out
    unfold withinS at h1
    rw [closeS_ops] at h1
    have h2 := (nodeS_len (nm := nmT C.bs) (stop := C.stop) (Tree.node k wt wd kids) frm _ [] (countS_len (nm := nmT C.bs) pars HO.out.len) (Nat.zero_le _)).2.1
    omega
  have HR1 := Lib.hid hR1; have HF1 := Lib.hid hF1; have HBX := Lib.hid hbx; have HP2 := Lib.hid hp2; have HT1 := Lib.hid ht1; have HOPS1 := Lib.hid hops1
  clear hR1 hF1 hbx hp1 hp2 ht1 hops1
  go_wp2_with fail
  refine (count_any ⟨_, _, _, _, _, _, _, _, HR1.out⟩ HO.out vp pars HP2.out.1 HP2.out.2 HPI.out HOPS1.out HPL.out).mono ?_
  rintro e w2 ⟨rfl, F2, hR2, hF2⟩
  have hbx2 := hF2.keep HBX.out.1 HBX.out.2
  have ht2 := HR1.out.tree hF2 HT1.out
  have b0 := blkCell hbx2.1 0; have b1 := blkCell hbx2.1 1; have b2 := blkCell hbx2.1 2; have b3 := blkCell hbx2.1 3
  have HR2 := Lib.hid hR2; have HF2 := Lib.hid hF2; have HT2 := Lib.hid ht2; have HBX2 := Lib.hid hbx2
  clear hR2 hF2 hbx2 ht2
  go_wp2_with fail
  refine (HK.out _ P frm hb lc F2 _ _ HR2.out (HO.out.count pars HOPS1.out) HT2.out HG.out H50.out HW.out HCNT.out (by have h1 := HFIN.out; unfold withinS at h1; rw [closeS_ops] at h1; exact h1)).mono ?_
  rintro e w3 ⟨rfl, F3, hR3, hF3⟩
  have HR3 := Lib.hid hR3; have HF3 := Lib.hid hF3
  clear hR3 hF3
  go_wp2_with fail
  obtain ⟨vD3, vB3, vL3, vS3, vN3, val3, l3, r3, hR3⟩ := HR3.out
  have hops3 : (nodeS (nmT C.bs) C.stop (Tree.node k wt wd kids) frm (countS (nmT C.bs) pars (openS s)) []).1.ops ≤ bigN := by have h1 := HFIN.out; unfold withinS at h1; rw [closeS_ops] at h1; exact h1
  have ho3 := (HO.out.count pars HOPS1.out).node (Tree.node k wt wd kids) [] HG.out (Nat.zero_le _) (by simp) HW.out hops3
  refine leaves_cons (f := 87) (args := #[.pointer (some ⟨C.fb, 0, none⟩)]) (by simp) (by simp [go_sem]) ?_
  refine (close_walk hR3 hR3.rcl ho3.bal ho3.len ho3.ops (ho3.names hR3.lay) .returning).mono ?_
  rintro e u' w'' ⟨rfl, rfl, F4, vL4, val4, hB4, hF4, _⟩
  refine ⟨_, results_none rfl _ _ _, rfl, F4, ⟨_, _, _, _, _, hB4⟩, ?_⟩
  exact ((((FrF.of0 hal).trans HF1.out).trans HF2.out).trans HF3.out).trans hF4
end Go.Proofs.YtkicpjjfeekopaaGreatDoor

namespace Go.Proofs.YtkicpjjfeekopaaGreatDoor
open Go.RowKit Go.Maps
def ptrV : Option Nat → Value
  | none => .pointer none
  | some b => .pointer (some ⟨b, 0, none⟩)
/-- A box with a row of numbers, or none. -/
def PBox (w : World) (pp : Option Nat) (G : Nat → Prop) (pars : List Nat) : Prop := match pp with
  | none => ∀ k, ¬ G k
  | some pb => ∃ vp, w.heap[pb]? = some (.cells #[vp] 53 (0, 0)) ∧ w.ownsRow 0 3 1 vp pars.length (pars.map intV) ∧ ∀ k, G k ↔ k = pb ∨ vp.ownBlock = some k
theorem PBox.lt {w : World} {pp : Option Nat} {G : Nat → Prop} {pars : List Nat} (h : PBox w pp G pars) : ∀ k, G k → k < w.heap.size := by
  intro k hk
  cases pp with
  | none => exact absurd hk (h k)
  | some pb =>
    obtain ⟨vp, h1, h2, h3⟩ := h
    rcases (h3 k).1 hk with rfl | h4
    · exact blkLt h1
    · obtain ⟨c, hc⟩ := ownBlk h2 h4; exact blkLt hc
theorem PBox.move {w w' : World} {pp : Option Nat} {G : Nat → Prop} {pars : List Nat} (h : PBox w pp G pars) (hm : ∀ k, G k → w'.heap[k]? = w.heap[k]?) : PBox w' pp G pars := by
  cases pp with
  | none => exact h
  | some pb =>
    obtain ⟨vp, h1, h2, h3⟩ := h
    exact ⟨vp, (hm pb ((h3 pb).2 (.inl rfl))).trans h1, ownMove h2 (fun k hk _ => hm k ((h3 k).2 (.inr hk))), h3⟩
/-- What stands beside the finder's state in a loop over kids. -/
structure KLoc (C : FC) (hb : Nat) (pk : Nat) (pp : Option Nat) (gb ab : Nat) (F G Q : Nat → Prop) (vm : Value) (w : World) (s : FS) (lc : Loc) : Prop where
  mine : w.ownsRow 0 3 1 vm lc.mine.length (lc.mine.map intV)
  mineF : ∀ k, vm.ownBlock = some k → ¬ F k ∧ ¬ G k ∧ ¬ Q k
  given : PBox w (some gb) Q lc.given
  pars : PBox w pp G lc.pars
  QF : ∀ k, Q k → ¬ F k ∧ ¬ G k
  GF : ∀ k, G k → ¬ F k
  again : pk = 55 → VMap w ab (dNames C.bs s.decls) (.int .i64 0) (fun x => intV (lc.hm x)) ∧ ¬ F ab
  top : pk ≠ 55 → ab = hb
theorem dNames_more {bs : List UInt8} {s s' : FS} (h : DecP s s') : ∀ x ∈ dNames bs s.decls, x ∈ dNames bs s'.decls := by
  obtain ⟨ex, e⟩ := h
  intro x hx
  rw [e, dNames_append]
  exact List.mem_append_left _ hx
/-- A call that turns the finder alone. -/
theorem KLoc.step {C : FC} {hb pk : Nat} {pp : Option Nat} {gb ab : Nat} {F F' G Q : Nat → Prop} {vm : Value} {w w' : World} {s s' : FS} {lc : Loc} (h : KLoc C hb pk pp gb ab F G Q vm w s lc) (hF : FrF F F' w w') (hd : DecP s s') : KLoc C hb pk pp gb ab F' G Q vm w' s' lc := by
  have no : ∀ k, k < w.heap.size → ¬ F k → ¬ F' k := fun k hk h1 h2 => by rcases hF.ext k h2 with h3 | h3; exact h1 h3; omega
  have keep : ∀ k, k < w.heap.size → ¬ F k → w'.heap[k]? = w.heap[k]? := fun k hk h1 => hF.fr.block k hk h1
  refine ⟨?_, ?_, ?_, ?_, ?_, ?_, ?_, h.top⟩
  · exact (hF.keepRow h.mine (fun k hk => (h.mineF k hk).1)).1
  · intro k hk
    exact ⟨(hF.keepRow h.mine (fun k hk => (h.mineF k hk).1)).2 k hk, (h.mineF k hk).2⟩
  · exact h.given.move (fun k hk => keep k (h.given.lt k hk) (h.QF k hk).1)
  · exact h.pars.move (fun k hk => keep k (h.pars.lt k hk) (h.GF k hk))
  · exact fun k hk => ⟨no k (h.given.lt k hk) (h.QF k hk).1, (h.QF k hk).2⟩
  · exact fun k hk => no k (h.pars.lt k hk) (h.GF k hk)
  · intro hp
    obtain ⟨h1, h2⟩ := h.again hp
    obtain ⟨es, ck, hm⟩ := h1.isMapBlk
    exact ⟨(h1.moreKeys (dNames_more hd)).move (keep ab (blkLt hm) h2), no ab (blkLt hm) h2⟩
/-- Nothing of what stands beside has turned. -/
theorem KLoc.fr0 {C : FC} {hb pk : Nat} {pp : Option Nat} {gb ab : Nat} {F G Q : Nat → Prop} {vm : Value} {w w' : World} {s : FS} {lc : Loc} (h : KLoc C hb pk pp gb ab F G Q vm w s lc) (hF : Fr (fun _ => False) w w') : KLoc C hb pk pp gb ab F G Q vm w' s lc :=
  h.step (FrF.of0 hF) (DecP.refl s)
/-- What a loop over kids may have turned. -/
structure FrK (F0 G0 F G : Nat → Prop) (w w' : World) : Prop where
  fr : Fr (fun k => F0 k ∨ G0 k) w w'
  eF : ∀ k, F k → F0 k ∨ w.heap.size ≤ k
  eG : ∀ k, G k → G0 k ∨ w.heap.size ≤ k
theorem FrK.step {F0 G0 F F' G : Nat → Prop} {a b c : World} (h : FrK F0 G0 F G a b) (k : FrF F F' b c) : FrK F0 G0 F' G a c := by
  refine ⟨h.fr.trans' k.fr (fun i hi hs => ?_), fun i hi => ?_, h.eG⟩
  · rcases h.eF i hs with h1 | h1
    · exact .inl h1
    · omega
  · rcases k.ext i hi with h1 | h1
    · exact h.eF i h1
    · exact .inr (Nat.le_trans h.fr.size h1)
/-- What tells of kids. -/
def KidsP (C : FC) (t : Tree) : Prop := ∀ (cs : List Value) (P : Nat → Prop) (frm hb : Nat) (rc : List Value) (F G : Nat → Prop) (pp : Option Nat) (pars : List Nat) (w : World) (s : FS), FRE C hb rc F w s → FOk C frm s → RepT w P t cs → goodT t = true → 50 ≤ t.kind → frm + t.width ≤ C.bs.length → cntT t ≤ 1000000 →
  PBox w pp G pars → (∀ k, G k → ¬ F k) → (∀ k ∈ pars, k < s.decls.length) → pars.length ≤ s.ops → (nodeS (nmT C.bs) C.stop t frm s pars).1.ops ≤ bigN →
  Calls Tryz.prog 89 #[.pointer (some ⟨C.fb, 0, none⟩), .agg cs.toArray, .int .i64 frm, ptrV pp] w fun e w' => e = .returned (.tuple #[]) ∧
    ∃ F' G', FRE C hb rc F' w' (nodeS (nmT C.bs) C.stop t frm s pars).1 ∧ PBox w' pp G' (nodeS (nmT C.bs) C.stop t frm s pars).2 ∧ (∀ k, G' k → ¬ F' k) ∧ FrK F G F' G' w w'
theorem KidsP.said {C : FC} {t : Tree} (h : KidsP C t) : KidsSaid C t := by
  intro cs P frm hb rc F w s hR ho ht hg h50 hw hc hf
  refine (h cs P frm hb rc F (fun _ => False) none [] w s hR ho ht hg h50 hw hc (fun _ h => h) (fun _ h => h.elim) (by simp) (Nat.zero_le _) hf).mono ?_
  rintro e w' ⟨rfl, F', G', q1, _, _, q4⟩
  exact ⟨rfl, F', q1, ⟨q4.fr.mono (fun i _ h => h.resolve_right (fun h => h)), q4.eF⟩⟩
end Go.Proofs.YtkicpjjfeekopaaGreatDoor

namespace Go.Proofs.YtkicpjjfeekopaaGreatDoor
open Go.RowKit Go.Maps
theorem within_dec (nm : Nat → Nat → Nam) (stop : Int) (t : Tree) (frm : Nat) (s : FS) (pars : List Nat) : DecP s (withinS nm stop t frm s pars) := by
  unfold withinS
  have h1 : DecP s (countS nm pars (openS s)) := DecP.of (by rw [countS_dec]; rfl)
  exact (h1.trans (nodeS_dec t frm _ [])).trans (DecP.of (closeS_dec _))
theorem within_layers (nm : Nat → Nat → Nam) (stop : Int) (t : Tree) (frm : Nat) (s : FS) (pars : List Nat) : (withinS nm stop t frm s pars).layers = s.layers := by
  unfold withinS
  exact close_tail ((countS_tail (nm := nm) pars (openS s)).trans (nodeS_tail t frm _ []))
theorem within_fre {C : FC} {t : Tree} (hW : WithinSaid C t) {cs : List Value} {P : Nat → Prop} {frm hb : Nat} {rc : List Value} {F : Nat → Prop} {w : World} {s : FS} {vp : Value} {pars : List Nat} (h : FRE C hb rc F w s) (ho : FOk C frm s) (ht : RepT w P t cs) (hg : goodT t = true) (h50 : 50 ≤ t.kind)
    (hw : frm + t.width ≤ C.bs.length) (hc : cntT t ≤ 1000000) (hp : w.ownsRow 0 3 1 vp pars.length (pars.map intV)) (hpF : ∀ k, vp.ownBlock = some k → ¬ F k) (hpi : ∀ k ∈ pars, k < s.decls.length) (hpl : pars.length ≤ 1000000000) (hfin : (withinS (nmT C.bs) C.stop t frm s pars).ops ≤ bigN) :
    Calls Tryz.prog 53 #[.pointer (some ⟨C.fb, 0, none⟩), .agg cs.toArray, .int .i64 frm, vp] w fun e w' => e = .returned (.tuple #[]) ∧ ∃ F', FRE C hb rc F' w' (withinS (nmT C.bs) C.stop t frm s pars) ∧ FrF F F' w w' := by
  obtain ⟨vD, vB, vL, vS, vN, val, l, r, hR⟩ := h
  have hopen : (openS s).ops ≤ bigN := by
    have h1 := countS_ops (nm := nmT C.bs) pars (openS s)
    have h2 := (nodeS_len (nm := nmT C.bs) (stop := C.stop) t frm _ [] (countS_len (nm := nmT C.bs) pars (openS_len ho.len)) (Nat.zero_le _)).2.1
    unfold withinS at hfin
    rw [closeS_ops] at hfin
    omega
  have hoo : FOk C frm (openS s) := ⟨openS_len ho.len, hopen, openS_inv ho.wf, ho.span, openS_bal ho.bal, ho.bs, ho.le⟩
  refine (hW cs P frm (rc ++ [vN, .map (some hb)]) _ w s vp pars ⟨_, _, _, _, _, hR.body⟩ ho.len hoo ht hg h50 hw hc hp (fun k hk hF => hpF k hk hF.1) hpi hpl hfin).mono ?_
  rintro e w' ⟨rfl, F', ⟨vD', vB', vL', vS', val', hB⟩, hF⟩
  refine ⟨rfl, ?_⟩
  obtain ⟨es, ck, hm⟩ := hR.H.isMapBlk
  have hhb := hF.keep hm (fun h => h.2.2 rfl)
  have hN := hF.keepRow hR.N (fun k hk h => h.2.1 hk)
  have hH : VMap w' hb (dNames C.bs (withinS (nmT C.bs) C.stop t frm s pars).decls) (.int .i64 0) (fun x => intV (l.homes x)) := (hR.H.moreKeys (dNames_more (within_dec _ _ t frm s pars))).move (hhb.1.trans hm.symm)
  refine ⟨_, ⟨_, _, _, _, _, _, _, _, hB.top ((within_layers _ _ t frm s pars).trans hR.lay) hN.1 hH hhb.2⟩, hF.fr.mono (fun i _ h => h.1), ?_⟩
  rintro k (h1 | h1 | rfl)
  · rcases hF.ext k h1 with h2 | h2
    · exact .inl h2.1
    · exact .inr h2
  · exact .inl (hR.fV k (.inr (.inr (.inr (.inr h1)))))
  · exact .inl hR.f0.2.2
/-- What the loop over kids begins with. -/
structure KBase (C : FC) (hb : Nat) (rc : List Value) (pk : Nat) (pp : Option Nat) (gb ab nb n0 : Nat) (F0 G0 : Nat → Prop) (pars : List Nat) (s : FS) (wA : World) (ncells : Array Value) : Prop where
  fre : FRE C hb rc F0 wA s
  box : PBox wA pp G0 pars
  gbox : wA.heap[gb]? = some (.cells #[nilV] 53 (0, 0))
  amap : pk = 55 → ∃ es ck, wA.heap[ab]? = some (.map es ck)
  node : wA.heap[nb]? = some (.cells ncells 27 (0, 0))
  n0 : n0 ≤ gb ∧ (pk = 55 → n0 ≤ ab) ∧ n0 ≤ wA.heap.size
/-- A round of the loop over kids. -/
structure KRd (C : FC) (hb : Nat) (rc : List Value) (pk : Nat) (pp : Option Nat) (gb ab n0 : Nat) (F0 G0 F G Q : Nat → Prop) (s : FS) (lc : Loc) (vm : Value) (wA wr : World) : Prop where
  fre : FRE C hb rc F wr s
  loc : KLoc C hb pk pp gb ab F G Q vm wr s lc
  fr : Fr (fun k => F0 k ∨ G0 k ∨ k = gb ∨ (k = ab ∧ pk = 55)) wA wr
  eF : ∀ k, F k → F0 k ∨ wA.heap.size ≤ k
  eG : ∀ k, G k → G0 k ∨ wA.heap.size ≤ k
  eQ : ∀ k, Q k → k = gb ∨ wA.heap.size ≤ k
  eM : ∀ k, vm.ownBlock = some k → wA.heap.size ≤ k
theorem KRd.keep27 {C : FC} {hb : Nat} {rc : List Value} {pk : Nat} {pp : Option Nat} {gb ab nb n0 : Nat} {F0 G0 F G Q : Nat → Prop} {pars : List Nat} {s0 s : FS} {lc : Loc} {vm : Value} {wA wr : World} {nc : Array Value} (h : KRd C hb rc pk pp gb ab n0 F0 G0 F G Q s lc vm wA wr) (hB : KBase C hb rc pk pp gb ab nb n0 F0 G0 pars s0 wA nc)
    {b : Nat} {cs : Array Value} {fr : Nat × Nat} (hb' : wA.heap[b]? = some (.cells cs 27 fr)) : wr.heap[b]? = some (.cells cs 27 fr) := by
  refine h.fr.blk hb' ?_
  rintro (h1 | h1 | rfl | ⟨rfl, h1⟩)
  · obtain ⟨_, _, _, _, _, _, _, _, hR⟩ := hB.fre
    exact hR.no27 b h1 _ _ hb'
  · cases pp with
    | none => exact hB.box b h1
    | some pb =>
      obtain ⟨vp, p1, p2, p3⟩ := hB.box
      rcases (p3 b).1 h1 with rfl | h2
      · exact blkNe p1 hb' (by decide) rfl
      · obtain ⟨c, hc⟩ := ownBlk p2 h2; exact blkNe hc hb' (by decide) rfl
  · exact blkNe hB.gbox hb' (by decide) rfl
  · obtain ⟨es, ck, hm⟩ := hB.amap h1
    rw [hm] at hb'; cases hb'
theorem KRd.trees {C : FC} {hb : Nat} {rc : List Value} {pk : Nat} {pp : Option Nat} {gb ab nb n0 : Nat} {F0 G0 F G Q : Nat → Prop} {pars : List Nat} {s0 s : FS} {lc : Loc} {vm : Value} {wA wr : World} {nc : Array Value} (h : KRd C hb rc pk pp gb ab n0 F0 G0 F G Q s lc vm wA wr) (hB : KBase C hb rc pk pp gb ab nb n0 F0 G0 pars s0 wA nc)
    {P : Nat → Prop} {ts : List Tree} {xs : List Value} (ht : RepL wA P ts xs) : RepL wr P ts xs := by
  refine RepL.mono (P := fun k => P k ∧ wr.heap[k]? = wA.heap[k]?) (fun k hk _ _ => hk.1) _ _ ?_
  refine RepL.move (fun k hk hl => hk.2) _ _ (RepL.mono (fun k hk _ hc => ⟨hk, ?_⟩) _ _ ht)
  obtain ⟨cur, hcur⟩ := hc
  rw [h.keep27 hB hcur, hcur]
theorem KRd.rows {C : FC} {hb : Nat} {rc : List Value} {pk : Nat} {pp : Option Nat} {gb ab nb n0 : Nat} {F0 G0 F G Q : Nat → Prop} {pars : List Nat} {s0 s : FS} {lc : Loc} {vm : Value} {wA wr : World} {nc : Array Value} (h : KRd C hb rc pk pp gb ab n0 F0 G0 F G Q s lc vm wA wr) (hB : KBase C hb rc pk pp gb ab nb n0 F0 G0 pars s0 wA nc)
    {v : Value} {n : Nat} {xs : List Value} (hr : wA.ownsRow 0 27 4 v n xs) : wr.ownsRow 0 27 4 v n xs := by
  refine ownMove hr (fun k hk _ => ?_)
  obtain ⟨cur, hcur⟩ := ownBlk hr hk
  rw [h.keep27 hB hcur, hcur]
/-- Behind a call that turns the finder alone. -/
theorem KRd.step {C : FC} {hb : Nat} {rc : List Value} {pk : Nat} {pp : Option Nat} {gb ab n0 : Nat} {F0 G0 F F' G Q : Nat → Prop} {s s' : FS} {lc : Loc} {vm : Value} {wA wr w' : World} (h : KRd C hb rc pk pp gb ab n0 F0 G0 F G Q s lc vm wA wr) (hF : FrF F F' wr w') (hR : FRE C hb rc F' w' s') (hd : DecP s s') :
    KRd C hb rc pk pp gb ab n0 F0 G0 F' G Q s' lc vm wA w' := by
  have hs := h.fr.size
  refine ⟨hR, h.loc.step hF hd, h.fr.trans' hF.fr (fun i hi hs' => ?_), fun k hk => ?_, h.eG, h.eQ, h.eM⟩
  · rcases h.eF i hs' with h1 | h1
    · exact .inl h1
    · omega
  · rcases hF.ext k hk with h1 | h1
    · exact h.eF k h1
    · exact .inr (by omega)
theorem KRd.fr0 {C : FC} {hb : Nat} {rc : List Value} {pk : Nat} {pp : Option Nat} {gb ab n0 : Nat} {F0 G0 F G Q : Nat → Prop} {s : FS} {lc : Loc} {vm : Value} {wA wr w' : World} (h : KRd C hb rc pk pp gb ab n0 F0 G0 F G Q s lc vm wA wr) (hF : Fr (fun _ => False) wr w') :
    KRd C hb rc pk pp gb ab n0 F0 G0 F G Q s lc vm wA w' := h.step (FrF.of0 hF) (h.fre.fr0 hF) (DecP.refl s)
/-- What is kept beside: a box that is new, and no part of anything. -/
theorem KRd.size {C : FC} {hb : Nat} {rc : List Value} {pk : Nat} {pp : Option Nat} {gb ab n0 : Nat} {F0 G0 F G Q : Nat → Prop} {s : FS} {lc : Loc} {vm : Value} {wA wr : World} (h : KRd C hb rc pk pp gb ab n0 F0 G0 F G Q s lc vm wA wr) : wA.heap.size ≤ wr.heap.size := h.fr.size
theorem KRd.frk {C : FC} {hb : Nat} {rc : List Value} {pk : Nat} {pp : Option Nat} {gb ab n0 : Nat} {F0 G0 F G Q : Nat → Prop} {s : FS} {lc : Loc} {vm : Value} {w wA wr : World} (h : KRd C hb rc pk pp gb ab n0 F0 G0 F G Q s lc vm wA wr) (hA : Fr (fun _ => False) w wA) (hg : w.heap.size ≤ gb) (ha : pk = 55 → w.heap.size ≤ ab) (hs : w.heap.size ≤ wA.heap.size) : FrK F0 G0 F G w wr := by
  refine ⟨(hA.mono (S' := fun k => F0 k ∨ G0 k) (fun _ _ h => h.elim)).trans' h.fr (fun i hi hs' => ?_), fun k hk => ?_, fun k hk => ?_⟩
  · rcases hs' with h1 | h1 | rfl | ⟨rfl, h1⟩
    · exact .inl h1
    · exact .inr h1
    · omega
    · have := ha h1; omega
  · rcases h.eF k hk with h1 | h1
    · exact .inl h1
    · exact .inr (by omega)
  · rcases h.eG k hk with h1 | h1
    · exact .inl h1
    · exact .inr (by omega)
theorem FRE.keep {C : FC} {hb : Nat} {rc : List Value} {F S : Nat → Prop} {w w' : World} {s : FS} (h : FRE C hb rc F w s) (hf : Fr S w w') (hd : ∀ k, F k → ¬ S k) : FRE C hb rc F w' s := by
  obtain ⟨_, _, _, _, _, _, _, _, hR⟩ := h
  exact ⟨_, _, _, _, _, _, _, _, hR.move (fun k hk => hf.block k (hR.lt k hk) (hd k hk)) hf.size⟩
/-- A number is put behind those that the node declares itself. -/
theorem KRd.mined {C : FC} {hb : Nat} {rc : List Value} {pk : Nat} {pp : Option Nat} {gb ab n0 : Nat} {F0 G0 F G Q : Nat → Prop} {s : FS} {lc : Loc} {vm vm' : Value} {wA wr w3 : World} {o : Obj} {k0 : Nat} (h : KRd C hb rc pk pp gb ab n0 F0 G0 F G Q s lc vm wA wr)
    (hg : (wr.alloc o).grownBy w3 vm.ownBlock) (hat : vm'.ownBlock = vm.ownBlock ∨ vm'.ownBlock = some (wr.alloc o).heap.size) (hown : w3.ownsRow 0 3 1 vm' (lc.mine.length + 1) (lc.mine.map intV ++ [intV k0])) :
    KRd C hb rc pk pp gb ab n0 F0 G0 F G Q s { lc with mine := lc.mine ++ [k0] } vm' wA w3 := by
  have hf : Fr (fun k => vm.ownBlock = some k) wr w3 := ((Fr.refl _ _).alloc o).trans (Fr.of_grown hg (fun k e => e))
  have hs := h.fr.size
  have hloc : ∀ k, vm'.ownBlock = some k → vm.ownBlock = some k ∨ wr.heap.size ≤ k := by
    intro k hk
    rcases hat with h1 | h1
    · exact .inl (h1 ▸ hk)
    · rw [hk] at h1; injection h1 with h1; simp at h1; exact .inr (by omega)
  have keep : ∀ k, k < wr.heap.size → vm.ownBlock ≠ some k → w3.heap[k]? = wr.heap[k]? := fun k hk h1 => hf.block k hk h1
  refine ⟨h.fre.keep hf (fun k hk e => (h.loc.mineF k e).1 hk), ⟨?_, ?_, ?_, ?_, h.loc.QF, h.loc.GF, ?_, h.loc.top⟩, h.fr.trans' hf (fun i hi e => by have := h.eM i e; omega), h.eF, h.eG, h.eQ, ?_⟩
  · simpa using hown
  · intro k hk
    rcases hloc k hk with h1 | h1
    · exact h.loc.mineF k h1
    · exact ⟨fun h2 => by have := h.fre.lt k h2; omega, fun h2 => by have := h.loc.pars.lt k h2; omega, fun h2 => by have := h.loc.given.lt k h2; omega⟩
  · exact h.loc.given.move (fun k hk => keep k (h.loc.given.lt k hk) (fun e => (h.loc.mineF k e).2.2 hk))
  · exact h.loc.pars.move (fun k hk => keep k (h.loc.pars.lt k hk) (fun e => (h.loc.mineF k e).2.1 hk))
  · intro hp
    obtain ⟨h1, h2⟩ := h.loc.again hp
    obtain ⟨es, ck, hm⟩ := h1.isMapBlk
    exact ⟨h1.move (keep ab (blkLt hm) (rowNeMap h.loc.mine h1.isMapBlk)), h2⟩
  · intro k hk
    rcases hloc k hk with h1 | h1
    · exact h.eM k h1
    · omega
/-- A function's parameters are collected. -/
theorem KRd.params {C : FC} {hb : Nat} {rc : List Value} {pk : Nat} {pp : Option Nat} {gb ab n0 : Nat} {F0 G0 F F' G Q Q' : Nat → Prop} {s s' : FS} {lc : Loc} {vm : Value} {wA wr w' : World} {given' : List Nat} (h : KRd C hb rc pk pp gb ab n0 F0 G0 F G Q s lc vm wA wr) (hpk : pk ≠ 55)
    (hR : FRE C hb rc F' w' s') (hB : PBox w' (some gb) Q' given') (hQF : ∀ k, Q' k → ¬ F' k) (hK : FrK F Q F' Q' wr w') (hd : DecP s s') :
    KRd C hb rc pk pp gb ab n0 F0 G0 F' G Q' s' { lc with given := given' } vm wA w' := by
  have hs := h.fr.size
  have keep : ∀ k, k < wr.heap.size → ¬ F k → ¬ Q k → w'.heap[k]? = wr.heap[k]? := fun k hk h1 h2 => hK.fr.block k hk (fun h3 => by rcases h3 with h3 | h3; exact h1 h3; exact h2 h3)
  have noF : ∀ k, k < wr.heap.size → ¬ F k → ¬ F' k := fun k hk h1 h2 => by rcases hK.eF k h2 with h3 | h3; exact h1 h3; omega
  have noQ : ∀ k, k < wr.heap.size → ¬ Q k → ¬ Q' k := fun k hk h1 h2 => by rcases hK.eG k h2 with h3 | h3; exact h1 h3; omega
  have mlt : ∀ k, vm.ownBlock = some k → k < wr.heap.size := fun k hk => by obtain ⟨c, hc⟩ := ownBlk h.loc.mine hk; exact blkLt hc
  refine ⟨hR, ⟨?_, ?_, hB, ?_, ?_, ?_, fun h1 => absurd h1 hpk, h.loc.top⟩, h.fr.trans' hK.fr (fun i hi h1 => ?_), fun k hk => ?_, h.eG, fun k hk => ?_, h.eM⟩
  · exact ownMove h.loc.mine (fun k hk hl => keep k hl (h.loc.mineF k hk).1 (h.loc.mineF k hk).2.2)
  · intro k hk
    obtain ⟨a, b, c⟩ := h.loc.mineF k hk
    exact ⟨noF k (mlt k hk) a, b, noQ k (mlt k hk) c⟩
  · exact h.loc.pars.move (fun k hk => keep k (h.loc.pars.lt k hk) (h.loc.GF k hk) (fun h1 => (h.loc.QF k h1).2 hk))
  · intro k hk
    refine ⟨hQF k hk, fun h1 => ?_⟩
    rcases hK.eG k hk with h2 | h2
    · exact (h.loc.QF k h2).2 h1
    · have := h.loc.pars.lt k h1; omega
  · exact fun k hk => noF k (h.loc.pars.lt k hk) (h.loc.GF k hk)
  · rcases h1 with h1 | h1
    · rcases h.eF i h1 with h2 | h2
      · exact .inl h2
      · omega
    · rcases h.eQ i h1 with h2 | h2
      · exact .inr (.inr (.inl h2))
      · omega
  · rcases hK.eF k hk with h1 | h1
    · exact h.eF k h1
    · exact .inr (by omega)
  · rcases hK.eG k hk with h1 | h1
    · exact h.eQ k h1
    · exact .inr (by omega)
theorem homesS_look (nm : Nat → Nat → Nam) (stop : Int) (frm en : Nat) (s : FS) : homesS (lookS nm stop frm en s) = homesS s := by unfold homesS; rw [lookS_layers]
theorem ownsOne (w : World) (v : Value) (e : TypeId) : (w.alloc (.cells #[v] e)).ownsRow 0 e 1 (.slice (some ⟨w.heap.size, 0, none⟩) 1 1) 1 [v] :=
  ⟨rfl, .inr ⟨_, _, #[v], rfl, Nat.zero_le _, heap_alloc_new w _, Nat.le_refl _, by unfold maxLen; omega, rfl, rfl⟩⟩
/-- The loop's relation. -/
def KRel2 (C : FC) (hb : Nat) (rc : List Value) (pk : Nat) (pp : Option Nat) (gb ab n0 : Nat) (F0 G0 : Nat → Prop) (kids : List Tree) (frm : Nat) (s : FS) (lc : Loc) (wA : World) (i : Nat) (vm : Value) (wr : World) : Prop :=
  ∃ F G Q, KRd C hb rc pk pp gb ab n0 F0 G0 F G Q (kidsS (nmT C.bs) C.stop pk (kids.take i) frm s lc).1 (kidsS (nmT C.bs) C.stop pk (kids.take i) frm s lc).2 vm wA wr
/-- What a leaf's step comes to. -/
theorem stepK_leaf {nm : Nat → Nat → Nam} {stop : Int} {pk : Nat} {t : Tree} {frm : Nat} {s : FS} {lc : Loc} (h : t.kind < 50) : stepK nm stop pk t frm s lc = leafS nm stop pk t.kind frm (frm + t.width) s lc := by
  unfold stepK
  simp only [kidsS]
  rw [if_pos h]
theorem stepK_block {nm : Nat → Nat → Nam} {stop : Int} {pk : Nat} {t : Tree} {frm : Nat} {s : FS} {lc : Loc} (h : t.kind = 52) : stepK nm stop pk t frm s lc = (withinS nm stop t frm s (if pk = 54 then lc.given else []), lc) := by
  unfold stepK withinS
  simp only [kidsS]
  rw [if_neg (by omega), if_pos h]
theorem stepK_params {nm : Nat → Nat → Nam} {stop : Int} {t : Tree} {frm : Nat} {s : FS} {lc : Loc} (h : t.kind = 55) : stepK nm stop 54 t frm s lc = ((nodeS nm stop t frm s lc.given).1, { lc with given := (nodeS nm stop t frm s lc.given).2 }) := by
  unfold stepK
  simp only [kidsS]
  rw [if_neg (by omega), if_neg (by omega), if_pos ⟨h, trivial⟩]
theorem stepK_other {nm : Nat → Nat → Nam} {stop : Int} {pk : Nat} {t : Tree} {frm : Nat} {s : FS} {lc : Loc} (h1 : 50 ≤ t.kind) (h2 : t.kind ≠ 52) (h3 : ¬ (t.kind = 55 ∧ pk = 54)) : stepK nm stop pk t frm s lc = ((nodeS nm stop t frm s []).1, lc) := by
  unfold stepK
  simp only [kidsS]
  rw [if_neg (by omega), if_neg h2, if_neg h3]
end Go.Proofs.YtkicpjjfeekopaaGreatDoor
