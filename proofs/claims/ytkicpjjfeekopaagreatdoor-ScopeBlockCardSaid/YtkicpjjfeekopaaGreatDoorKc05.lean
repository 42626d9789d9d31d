/- The finder: what a declared parameter and a use turn. -/
import Derived.Test.YtkicpjjfeekopaaGreatDoorKc01
set_option linter.unusedVariables false
set_option linter.unusedSimpArgs false
set_option linter.unusedSectionVars false
namespace Go.Proofs.YtkicpjjfeekopaaGreatDoor
open Go.RowKit Go.Maps
theorem info45 : (Tryz.prog.info? 45).map (fun i => (i.zero, i.size, i.bytes)) = some (some (.agg #[.int .i64 0, .int .i64 0, .int .i64 0]), 3, 24) := by kernel_rfl
theorem cells3u {W : World} {b0 : Nat} {a b c : Value} {t : TypeId} {fr : Nat × Nat} (hb : W.heap[b0]? = some (.cells #[a, b, c] t fr)) : ∀ j u, [a, b, c][j]? = some u → W.cell? ((⟨b0, 0, none⟩ : Addr).add j) = some u := by
  intro j u hj
  have hadd : (⟨b0, 0, none⟩ : Addr).add j = ⟨b0, j, none⟩ := by unfold Addr.add; split <;> simp_all
  rw [hadd, blkCell hb j]
  match j, hj with
  | 0, hj => simpa using hj
  | 1, hj => simpa using hj
  | 2, hj => simpa using hj
theorem PBox.neMap {w : World} {pp : Option Nat} {G : Nat → Prop} {pars : List Nat} (h : PBox w pp G pars) {ab : Nat} (hm : ∃ es ck, w.heap[ab]? = some (.map es ck)) : ¬ G ab := by
  intro hG
  cases pp with
  | none => exact h ab hG
  | some pb =>
    obtain ⟨vp, h1, h2, h3⟩ := h
    rcases (h3 ab).1 hG with rfl | h4
    · exact blkNeMap h1 hm rfl
    · exact rowNeMap h2 hm h4
/-- A parameter is declared: the map of the node's own turns. -/
theorem KRd.again {C : FC} {hb : Nat} {rc : List Value} {pk : Nat} {pp : Option Nat} {gb ab n0 : Nat} {F0 G0 F F' G Q : Nat → Prop} {s s' : FS} {lc : Loc} {vm : Value} {wA wr w' : World} {g' : Nam → Nat} (h : KRd C hb rc pk pp gb ab n0 F0 G0 F G Q s lc vm wA wr) (hpk : pk = 55)
    (hR : FRE C hb rc F' w' s') (hV : VMap w' ab (dNames C.bs s'.decls) (.int .i64 0) (fun x => intV (g' x))) (hF : FrF (fun k => F k ∨ k = ab) F' wr w') (hab : ¬ F' ab) :
    KRd C hb rc pk pp gb ab n0 F0 G0 F' G Q s' { lc with hm := g' } vm wA w' := by
  have hs := h.fr.size
  have hmap := (h.loc.again hpk).1.isMapBlk
  have keep : ∀ k, k < wr.heap.size → ¬ F k → k ≠ ab → w'.heap[k]? = wr.heap[k]? := fun k hk h1 h2 => hF.fr.block k hk (fun h3 => by rcases h3 with h3 | h3; exact h1 h3; exact h2 h3)
  have no : ∀ k, k < wr.heap.size → ¬ F k → ¬ F' k := fun k hk h1 h2 => by
    rcases hF.ext k h2 with (h3 | h3) | h3
    · exact h1 h3
    · exact hab (h3 ▸ h2)
    · omega
  have mlt : ∀ k, vm.ownBlock = some k → k < wr.heap.size := fun k hk => by obtain ⟨c, hc⟩ := ownBlk h.loc.mine hk; exact blkLt hc
  have nQ : ¬ Q ab := h.loc.given.neMap hmap
  have nG : ¬ G ab := h.loc.pars.neMap hmap
  refine ⟨hR, ⟨?_, ?_, ?_, ?_, ?_, ?_, fun _ => ⟨hV, hab⟩, h.loc.top⟩, h.fr.trans' hF.fr (fun i hi h1 => ?_), fun k hk => ?_, h.eG, h.eQ, h.eM⟩
  · exact ownMove h.loc.mine (fun k hk hl => keep k hl (h.loc.mineF k hk).1 (by rintro rfl; exact rowNeMap h.loc.mine hmap hk))
  · intro k hk
    obtain ⟨a, b, c⟩ := h.loc.mineF k hk
    exact ⟨no k (mlt k hk) a, b, c⟩
  · exact h.loc.given.move (fun k hk => keep k (h.loc.given.lt k hk) (h.loc.QF k hk).1 (fun e => nQ (e ▸ hk)))
  · exact h.loc.pars.move (fun k hk => keep k (h.loc.pars.lt k hk) (h.loc.GF k hk) (fun e => nG (e ▸ hk)))
  · exact fun k hk => ⟨no k (h.loc.given.lt k hk) (h.loc.QF k hk).1, (h.loc.QF k hk).2⟩
  · exact fun k hk => no k (h.loc.pars.lt k hk) (h.loc.GF k hk)
  · rcases h1 with h1 | h1
    · rcases h.eF i h1 with h2 | h2
      · exact .inl h2
      · omega
    · exact .inr (.inr (.inr ⟨h1, hpk⟩))
  · rcases hF.ext k hk with (h1 | h1) | h1
    · exact h.eF k h1
    · exact absurd hk (h1 ▸ hab)
    · exact .inr (by omega)
/-- No place for parameters. -/
theorem KRd.nopars {C : FC} {hb : Nat} {rc : List Value} {pk : Nat} {gb ab n0 : Nat} {F0 G0 F G Q : Nat → Prop} {s : FS} {lc : Loc} {vm : Value} {wA wr : World} (h : KRd C hb rc pk none gb ab n0 F0 G0 F G Q s lc vm wA wr) (ps : List Nat) :
    KRd C hb rc pk none gb ab n0 F0 G0 F G Q s { lc with pars := ps } vm wA wr :=
  ⟨h.fre, ⟨h.loc.mine, h.loc.mineF, h.loc.given, h.loc.pars, h.loc.QF, h.loc.GF, h.loc.again, h.loc.top⟩, h.fr, h.eF, h.eG, h.eQ, h.eM⟩
/-- A number is put behind the parameters. -/
theorem KRd.parsed {C : FC} {hb : Nat} {rc : List Value} {pk pb : Nat} {gb ab n0 : Nat} {F0 G0 F G Q : Nat → Prop} {s : FS} {lc : Loc} {vm vp vp' : Value} {wA wr w5 W : World} {o : Obj} {k0 : Nat} (h : KRd C hb rc pk (some pb) gb ab n0 F0 G0 F G Q s lc vm wA wr)
    (hvp : wr.heap[pb]? = some (.cells #[vp] 53 (0, 0))) (hrow : wr.ownsRow 0 3 1 vp lc.pars.length (lc.pars.map intV)) (hG : ∀ k, G k ↔ k = pb ∨ vp.ownBlock = some k)
    (hown : w5.ownsRow 0 3 1 vp' (lc.pars.length + 1) (lc.pars.map intV ++ [intV k0])) (hg : (wr.alloc o).grownBy w5 vp.ownBlock) (hat : vp'.ownBlock = vp.ownBlock ∨ vp'.ownBlock = some (wr.alloc o).heap.size) (hW : W = w5.setCell ⟨pb, 0, none⟩ vp') :
    ∃ G', KRd C hb rc pk (some pb) gb ab n0 F0 G0 F G' Q s { lc with pars := lc.pars ++ [k0] } vm wA W := by
  subst hW
  have hs := h.fr.size
  have s5 : wr.heap.size + 1 ≤ w5.heap.size := by have := hg.size; simpa using this
  have hvne : vp.ownBlock ≠ some pb := rowNeBlk hrow hvp (by decide)
  have hb5 : w5.heap[pb]? = some (.cells #[vp] 53 (0, 0)) := grownBlk hg (blkAlloc hvp _) (fun e => hvne e.symm)
  have hv'ne : vp'.ownBlock ≠ some pb := rowNeBlk hown hb5 (by decide)
  have hf : Fr G wr (w5.setCell ⟨pb, 0, none⟩ vp') := by
    refine ⟨?_, ?_, ?_, ?_, ?_⟩
    · rw [setCell_os, hg.os]; rfl
    · rw [setCell_tape, hg.tape]; rfl
    · rw [setCell_output, hg.output]; rfl
    · simp; omega
    · intro k hk hn
      have h1 : k ≠ pb := fun e => hn ((hG k).2 (.inl e))
      have h2 : vp.ownBlock ≠ some k := fun e => hn ((hG k).2 (.inr e))
      rw [Below.heap_setCell _ _ _ _ h1, hg.block k (by simp; omega) (fun e => h2 e.symm), Below.heap_alloc wr o k hk]
  have hloc : ∀ k, vp'.ownBlock = some k → vp.ownBlock = some k ∨ wr.heap.size ≤ k := by
    intro k hk
    rcases hat with h1 | h1
    · exact .inl (h1 ▸ hk)
    · rw [hk] at h1; injection h1 with h1; simp at h1; exact .inr (by omega)
  have keep : ∀ k, k < wr.heap.size → ¬ G k → (w5.setCell ⟨pb, 0, none⟩ vp').heap[k]? = wr.heap[k]? := fun k hk h1 => hf.block k hk h1
  have mlt : ∀ k, vm.ownBlock = some k → k < wr.heap.size := fun k hk => by obtain ⟨c, hc⟩ := ownBlk h.loc.mine hk; exact blkLt hc
  have FG : ∀ k, F k → ¬ G k := fun k hk e => h.loc.GF k e hk
  have hnG : ∀ k, k < wr.heap.size → ¬ G k → ¬ (k = pb ∨ vp'.ownBlock = some k) := by
    rintro k hk h1 (rfl | h2)
    · exact h1 ((hG k).2 (.inl rfl))
    · rcases hloc k h2 with h3 | h3
      · exact h1 ((hG k).2 (.inr h3))
      · omega
  refine ⟨fun k => k = pb ∨ vp'.ownBlock = some k, h.fre.keep hf FG, ⟨?_, ?_, ?_, ?_, ?_, ?_, ?_, h.loc.top⟩, h.fr.trans' hf (fun i hi e => ?_), h.eF, ?_, h.eQ, h.eM⟩
  · exact ownMove h.loc.mine (fun k hk hl => keep k hl (h.loc.mineF k hk).2.1)
  · intro k hk
    obtain ⟨a, b, c⟩ := h.loc.mineF k hk
    exact ⟨a, hnG k (mlt k hk) b, c⟩
  · exact h.loc.given.move (fun k hk => keep k (h.loc.given.lt k hk) (h.loc.QF k hk).2)
  · refine ⟨vp', blkSet hb5 0 _, ?_, fun k => Iff.rfl⟩
    simp only [List.length_append, List.length_singleton, List.map_append, List.map_cons, List.map_nil]
    exact ownMove hown (fun j hj _ => Below.heap_setCell _ _ _ _ (by rintro rfl; exact hv'ne hj))
  · exact fun k hk => ⟨(h.loc.QF k hk).1, hnG k (h.loc.given.lt k hk) (h.loc.QF k hk).2⟩
  · rintro k (rfl | h2) hF
    · exact FG k hF ((hG k).2 (.inl rfl))
    · rcases hloc k h2 with h3 | h3
      · exact FG k hF ((hG k).2 (.inr h3))
      · have := h.fre.lt k hF; omega
  · intro hp
    obtain ⟨h1, h2⟩ := h.loc.again hp
    obtain ⟨es, ck, hm⟩ := h1.isMapBlk
    exact ⟨h1.move (keep ab (blkLt hm) (h.loc.pars.neMap ⟨es, ck, hm⟩)), h2⟩
  · rcases h.eG i e with h1 | h1
    · exact .inr (.inl h1)
    · omega
  · rintro k (rfl | h2)
    · exact h.eG k ((hG k).2 (.inl rfl))
    · rcases hloc k h2 with h3 | h3
      · exact h.eG k ((hG k).2 (.inr h3))
      · exact .inr (by omega)
/-- A use is noted. -/
theorem FRep.bound {C : FC} {hb : Nat} {rc : List Value} {F : Nat → Prop} {w w' : World} {s : FS} {vD vB vL vS vN v' : Value} {val : Nam → Value} {l : Lay} {r : List Lay} {b : Bnd} {n : Nat} (h : FRep C hb rc F w s vD vB vL vS vN val l r)
    (hP : Grew C.fb 2 vB 45 3 n (bindCells s.binds) (bCells b) #[.string ⟨C.bs.toArray⟩, vD, vB, .map (some C.kb), vL, .int .i64 C.stop, vS] 119 w w' v') (hn : n = s.binds.length) :
    ∃ F', FRep C hb rc F' w' { s with binds := s.binds ++ [b], ops := s.ops + 1 } vD v' vL vS vN val l r ∧ FrF F F' w w' := by
  subst hn
  obtain ⟨gq, hgq, hloc, hlt⟩ := hP.loc
  have hgF : F gq ∨ w.heap.size ≤ gq := by
    rcases hloc with h' | h'
    · exact .inl (h.fV gq (.inr (.inl h')))
    · exact .inr h'
  have keep : ∀ k, k < w.heap.size → k ≠ C.fb → vB.ownBlock ≠ some k → w'.heap[k]? = w.heap[k]? := fun k hk h1 h2 => hP.fr.block k hk (by rintro (e | e); exact h1 e; exact h2 e)
  have keepRow : ∀ {e sz n : Nat} {v : Value} {xs : List Value}, w.ownsRow 0 e sz v n xs → e ≠ 119 → e ≠ 45 → w'.ownsRow 0 e sz v n xs := by
    intro e sz n v xs hr h119 h45
    refine ownMove hr (fun k hk hl => keep k hl ?_ (rowNe hr h.B h45 hk))
    rintro rfl; exact rowNeBlk hr h.blk h119 hk
  have hsz := hP.fr.size
  have nfb : ∀ {b' : Nat}, (∃ es ck, w.heap[b']? = some (.map es ck)) → b' ≠ C.fb := fun hm e => blkNeMap h.blk hm e.symm
  have hB' : ∀ {e sz n : Nat} {v : Value} {xs : List Value}, w.ownsRow 0 e sz v n xs → e ≠ 45 → ∀ k, v.ownBlock = some k → vB.ownBlock ≠ some k := fun hr he k hk => rowNe hr h.B he hk
  have hgx : F gq → vB.ownBlock = some gq := by
    intro hF
    rcases hloc with h1 | h1
    · exact h1
    · have := h.lt gq hF; omega
  refine ⟨fun k => (F k ∧ vB.ownBlock ≠ some k) ∨ k = gq, ⟨hP.blk, keepRow h.D (by decide) (by decide), ?_, keepRow h.L (by decide) (by decide), keepRow h.S (by decide) (by decide), h.lay, keepRow h.N (by decide) (by decide), ?_, ?_, fun x => keepRow (h.R x) (by decide) (by decide), h.sepK, h.sepD, h.sepM, ?_, ?_, ⟨.inl ⟨h.f0.1, rowNeBlk h.B h.blk (by decide)⟩, .inl ⟨h.f0.2.1, rowNeMap h.B h.K.isMapBlk⟩, .inl ⟨h.f0.2.2, rowNeMap h.B h.H.isMapBlk⟩⟩, ?_, ?_⟩, ⟨?_, ?_⟩⟩
  · simp only [List.length_append, List.length_singleton, bindCells_append, bindCells, List.append_nil]
    exact hP.own
  · exact h.H.move (keep _ (h.lt _ h.f0.2.2) (nfb h.H.isMapBlk) (rowNeMap h.B h.H.isMapBlk))
  · exact h.K.move (keep _ (h.lt _ h.f0.2.1) (nfb h.K.isMapBlk) (rowNeMap h.B h.K.isMapBlk))
  · exact fun x k hk => .inl ⟨h.fK x k hk, hB' (h.R x) (by decide) k hk⟩
  · rintro k (h1 | h1 | h1 | h1 | h1)
    · exact .inl ⟨h.fV k (.inl h1), hB' h.D (by decide) k h1⟩
    · rw [hgq] at h1; injection h1 with h1; exact .inr h1.symm
    · exact .inl ⟨h.fV k (.inr (.inr (.inl h1))), hB' h.L (by decide) k h1⟩
    · exact .inl ⟨h.fV k (.inr (.inr (.inr (.inl h1)))), hB' h.S (by decide) k h1⟩
    · exact .inl ⟨h.fV k (.inr (.inr (.inr (.inr h1)))), hB' h.N (by decide) k h1⟩
  · rintro k (h1 | rfl)
    · exact Nat.lt_of_lt_of_le (h.lt k h1.1) hsz
    · exact hlt
  · obtain ⟨cur, hc⟩ := ownBlk hP.own hgq
    rintro k h1 cs fr hcs
    rcases h1 with ⟨h1, hvB⟩ | rfl
    · by_cases hfb : k = C.fb
      · subst hfb; rw [hP.blk] at hcs; injection hcs with hcs; injection hcs with _ hcs _; cases hcs
      · exact h.no27 k h1 cs fr (by rw [← keep k (h.lt k h1) hfb hvB]; exact hcs)
    · rw [hc] at hcs; injection hcs with hcs; injection hcs with _ hcs _; cases hcs
  · exact hP.fr.mono (fun i _ h' => by
      rcases h' with h' | h'
      · exact h' ▸ h.f0.1
      · exact h.fV i (.inr (.inl h')))
  · rintro k (h1 | rfl)
    · exact .inl h1.1
    · exact hgF
end Go.Proofs.YtkicpjjfeekopaaGreatDoor
