/- The plain scope: where spans lie. The law ScopeShows: the walk. Walks: glossatorlaw20.names. Walks: lex.Spans. Walks: glossatorref20.Same, of names that are the same. The lexer, locally: what the decoder says of bytes hangs on few of those behind. The parser goes by the tokens' kinds and widths alone. The lexer, on a text of which a name is called otherwise. The lexer, on a text of which a name is called otherwise: the same kinds and widths. A text of which a name is called otherwise: the same tree. A text of which a name is called otherwise: the same declarations and uses. What every row of this seat needs: a world in which the listed variables hold what their initialisers lay; the tables of Go's own, off the row's premises. -/
import Derived.Test.YtkicpjjfeekopaaGreatDoorKc00
import Derived.Test.YtkicpjjfeekopaaGreatDoorKs00
import Derived.Test.YtkicpjjfeekopaaGreatDoorKc09
import Derived.Test.YtkicpjjfeekopaaGreatDoorKa05
import Derived.Test.YtkicpjjfeekopaaGreatDoorKp00
import Derived.Test.YtkicpjjfeekopaaGreatDoorKa00
import Derived.Test.YtkicpjjfeekopaaGreatDoorCards
import Derived.Test.YtkicpjjfeekopaaGreatDoorTie
import Derived.Lib.LaidIn
import Derived.Lib.LaidU8
import Derived.Deep.DeepHandedRow
import Derived.Deep.DeepWitnessRowRef
import Derived.ProofKit
import Derived.SizedLaws
import Derived.SevenTiedAt
set_option linter.unusedVariables false
set_option linter.unusedSimpArgs false
set_option linter.unusedSectionVars false
namespace Go.Proofs.YtkicpjjfeekopaaGreatDoor
structure SpB (n : Nat) (s : FS) : Prop where
  dec : ∀ d ∈ s.decls, d.frm ≤ d.to ∧ d.to ≤ n
  sh : ∀ d ∈ s.shown, d.frm ≤ d.to ∧ d.to ≤ n
  bn : ∀ b ∈ s.binds, b.frm ≤ b.to ∧ b.to ≤ n
variable {nm : Nat → Nat → Nam} {stop : Int}
theorem SpB.mono {n m : Nat} {s : FS} (h : SpB n s) (hm : n ≤ m) : SpB m s :=
  ⟨fun d hd => ⟨(h.dec d hd).1, Nat.le_trans (h.dec d hd).2 hm⟩, fun d hd => ⟨(h.sh d hd).1, Nat.le_trans (h.sh d hd).2 hm⟩, fun d hd => ⟨(h.bn d hd).1, Nat.le_trans (h.bn d hd).2 hm⟩⟩
theorem SpB.of {n : Nat} {s s' : FS} (h : SpB n s) (h1 : s'.decls = s.decls) (h2 : s'.shown = s.shown) (h3 : s'.binds = s.binds) : SpB n s' :=
  ⟨by rw [h1]; exact h.dec, by rw [h2]; exact h.sh, by rw [h3]; exact h.bn⟩
theorem SpB.count {n : Nat} {s : FS} (h : SpB n s) (l : List Nat) : SpB n (countS nm l s) := h.of (countS_decls nm l s).1 (countS_decls nm l s).2.2 (countS_decls nm l s).2.1
theorem SpB.homes {n : Nat} {s : FS} (h : SpB n s) (g : Nam → Nat) : SpB n (setHomes s g) := by
  unfold setHomes
  split
  · exact ⟨h.dec, h.sh, h.bn⟩
  · exact h
theorem SpB.close {n : Nat} {s : FS} (h : SpB n s) : SpB n (closeS s) := by
  unfold closeS
  split
  · exact ⟨h.dec, h.sh, h.bn⟩
  · exact h
theorem SpB.opened {n : Nat} {s : FS} (h : SpB n s) : SpB n (openS s) := ⟨h.dec, h.sh, h.bn⟩
theorem SpB.look {n : Nat} {s : FS} (h : SpB n s) (a b : Nat) : SpB n (lookS nm stop a b s) := by
  unfold lookS
  split
  · exact h
  · refine ⟨h.dec, fun d hd => h.dec d ?_, h.bn⟩
    obtain ⟨x, hx, rfl⟩ := List.mem_map.1 hd
    exact List.fst_mem_of_mem_zipIdx (List.mem_filter.1 hx).1
theorem SpB.decl {n m : Nat} {s : FS} (h : SpB n s) (h1 : n ≤ m) (k : Nat) (g : Nam → Nat) : SpB m (declS nm n m k g s) := by
  have hm := h.mono h1
  refine ⟨fun d hd => ?_, hm.sh, hm.bn⟩
  rcases List.mem_append.1 hd with hd | hd
  · exact hm.dec d hd
  · simp only [List.mem_singleton] at hd
    rw [hd]
    exact ⟨h1, Nat.le_refl _⟩
theorem leafS_spb {pk kk frm en : Nat} {s : FS} {lc : Loc} (h : SpB frm s) (ht : frm ≤ en) : SpB en (leafS nm stop pk kk frm en s lc).1 := by
  unfold leafS
  split
  · exact ((h.decl ht _ _).homes _).look _ _
  · split
    · exact (((h.look frm en).decl ht _ _).homes _).count _
    · split
      · exact (h.look frm en).decl ht _ _
      · split
        · have hl := (h.look (nm := nm) (stop := stop) frm en).mono ht
          refine ⟨hl.dec, hl.sh, fun b hb => ?_⟩
          rcases List.mem_append.1 hb with hb | hb
          · exact hl.bn b (by rw [lookS_binds]; exact hb)
          · simp only [List.mem_singleton] at hb
            rw [hb]
            exact ⟨ht, Nat.le_refl _⟩
        · exact (h.look frm en).mono ht
mutual
theorem nodeS_spb : ∀ (t : Tree) (frm : Nat) (s : FS) (pars : List Nat), SpB frm s → goodT t = true → SpB (frm + t.width) (nodeS nm stop t frm s pars).1
  | .node kk wt wd sub, frm, s, pars, h, hg => by
    simp only [nodeS, Tree.width]
    have hk : SpB (frm + wd) (kidsS nm stop kk sub frm s ⟨[], [], pars, zeroH⟩).1 := by
      by_cases h50 : kk < 50
      · obtain ⟨_, e⟩ := goodT_leaf hg h50
        subst e
        simp only [kidsS]
        exact h.mono (by omega)
      · obtain ⟨e, g⟩ := goodT_inner hg h50
        rw [← e]
        exact kidsS_spb kk sub frm s _ h g
    split
    · exact hk.count _
    · exact hk
theorem kidsS_spb : ∀ (pk : Nat) (ts : List Tree) (frm : Nat) (s : FS) (lc : Loc), SpB frm s → goodL ts = true → SpB (frm + sumW ts) (kidsS nm stop pk ts frm s lc).1
  | _, [], frm, s, lc, h, _ => by simp only [kidsS, sumW, Nat.add_zero]; exact h
  | pk, t :: ts, frm, s, lc, h, hg => by
    simp only [goodL, Bool.and_eq_true] at hg
    simp only [kidsS, sumW]
    rw [← Nat.add_assoc]
    by_cases h50 : t.kind < 50
    · rw [if_pos h50]
      exact kidsS_spb pk ts _ _ _ (leafS_spb h (by omega)) hg.2
    · rw [if_neg h50]
      by_cases h52 : t.kind = 52
      · rw [if_pos h52]
        exact kidsS_spb pk ts _ _ _ (nodeS_spb t frm _ _ (h.opened.count _) hg.1).close hg.2
      · rw [if_neg h52]
        by_cases h55 : t.kind = 55 ∧ pk = 54
        · rw [if_pos h55]
          exact kidsS_spb pk ts _ _ _ (nodeS_spb t frm _ _ h hg.1) hg.2
        · rw [if_neg h55]
          exact kidsS_spb pk ts _ _ _ (nodeS_spb t frm _ _ h hg.1) hg.2
end
theorem scopeS_spb (t : Tree) (hg : goodT t = true) : SpB t.width (scopeS nm stop t) := by
  have h0 : SpB 0 emptyS := ⟨by simp [emptyS], by simp [emptyS], by simp [emptyS]⟩
  have := (nodeS_spb (nm := nm) (stop := stop) t 0 _ [] (h0.opened.count (nm := nm) []) hg).close
  rw [Nat.zero_add] at this
  exact this
/-- What the law's inner loop has found so far. -/
def wantI (l : List Dcl) : Int := match l with | [] => -1 | d :: _ => d.frm
end Go.Proofs.YtkicpjjfeekopaaGreatDoor

namespace Go.Proofs.YtkicpjjfeekopaaGreatDoor
open Go.RowKit Go.Maps
theorem rowMax {w : World} {b e sz n : Nat} {v : Value} {xs : List Value} (h : w.ownsRow b e sz v n xs) : n ≤ maxLen := by
  obtain ⟨a, c, hv, hn, _⟩ := ownShape h
  rcases h.2 with ⟨h1, _⟩ | ⟨g, cap, cur, h1, _, _, h2, h3, _⟩
  · rw [hv] at h1
    injection h1 with _ h1 _
    omega
  · omega
set_option maxRecDepth 100000 in
set_option maxHeartbeats 8000000 in
theorem shows_long (s : ByteArray) (w : World) (hG : Glob w) (hl : 2000 < s.size) : Calls Tryz.prog 4 #[.string s] w fun e w' => e = .returned (.bool true) ∧ Fr (fun _ => False) w w' := by
  have HG := Lib.hid hG
  clear hG
  have q : decide ((2000 : Int) < (s.size : Int)) = true := by simp; omega
  clear hl
  go_enter Tryz.func4, Tryz.ntmps4
  go_wp2_with fail
  refine (awake_any w HG.out).mono ?_
  rintro e w1 ⟨rfl, hf⟩
  go_wp2_with fail
  go_ret
  exact ⟨rfl, hf⟩
set_option maxRecDepth 100000 in
set_option maxHeartbeats 8000000 in
theorem shows_short (bs : List UInt8) (w : World) (hG : Glob w) (hl : bs.length ≤ 2000) : Calls Tryz.prog 4 #[.string ⟨bs.toArray⟩] w fun e w' => e = .returned (.bool true) ∧ Fr (fun _ => False) w w' := by
  have HG := Lib.hid hG
  clear hG
  obtain ⟨txt, htx⟩ : ∃ txt : ByteArray, txt = ⟨bs.toArray⟩ := ⟨_, rfl⟩
  have hsz : txt.size = bs.length := by rw [htx]; simp [ByteArray.size]
  rw [← htx]
  have HTX := Lib.hid htx
  have q : decide ((2000 : Int) < (txt.size : Int)) = false := by simp; omega
  clear htx
  go_enter Tryz.func4, Tryz.ntmps4
  go_wp2_with fail
  rw [HTX.out]
  refine (all_any bs w (by omega) HG.out).mono ?_
  rintro e w1 ⟨⟨v, rfl, hv⟩, hf1⟩
  have hv0 := rowBase hv
  rw [← HTX.out]
  have HF1 := Lib.hid hf1; have HV0 := Lib.hid hv0
  clear hv hf1 hv0
  go_wp2_with fail
  refine (file_said bs v w1 (by omega) HV0.out).mono ?_
  rintro e w2 ⟨cs, rfl, hr, hf2⟩
  obtain ⟨k0, k1, k2, a, m, c, rfl⟩ := hr.form
  have HR := Lib.hid hr; have HF2 := Lib.hid hf2
  clear hr hf2
  go_wp2_with fail
  obtain ⟨n, _, hT, hC, _⟩ := tree_facts (bs := bs) (by omega)
  have hal : Fr (fun _ => False) w2 (w2.alloc (.cells #[.int .u8 k0, .int .u8 k1, .int .i64 k2, .slice a m c] 27)) := (Fr.refl _ _).alloc _
  rw [HTX.out]
  refine (of_said bs (treeM bs) _ _ _ (HR.out.fr hal (fun _ _ _ h => h)) hT (by omega) hC).mono ?_
  rintro e w3 ⟨vD, vB, rfl, hN, hf3⟩
  rw [← HTX.out]
  have hbx := hf3.blk (blkNew w2 (.cells #[.int .u8 k0, .int .u8 k1, .int .i64 k2, .slice a m c] 27)) (fun h => h)
  have hr3 := (HR.out.fr hal (fun _ _ _ h => h)).fr hf3 (fun _ _ _ h => h)
  have hfw : Fr (fun _ => False) w w3 := ((HF1.out.trans HF2.out).trans hal).trans hf3
  obtain ⟨sN, hsN⟩ : ∃ sN, sN = scopeS (nmT bs) (-1) (treeM bs) := ⟨_, rfl⟩
  rw [← hsN] at hN
  obtain ⟨aD, cD, hvD, hcD, _⟩ := ownShape hN.D
  obtain ⟨aB, cB, hvB, hcB, _⟩ := ownShape hN.B
  have hD := hN.D
  have hB := hN.B
  obtain ⟨nD, hnD⟩ : ∃ nD, nD = sN.decls.length := ⟨_, rfl⟩
  obtain ⟨nB, hnB⟩ : ∃ nB, nB = sN.binds.length := ⟨_, rfl⟩
  rw [← hnD] at hvD hcD hD
  rw [← hnB] at hvB hcB hB
  subst hvD
  subst hvB
  have hspb : SpB bs.length sN := by rw [hsN, ← hT.width]; exact scopeS_spb _ hT.right.good
  have hlaw := fun b hb => shows_law (nmT bs) (treeM bs) hT.right.good b hb
  rw [← hsN] at hlaw
  have HBX := Lib.hid hbx; have HR3 := Lib.hid hr3; have HFW := Lib.hid hfw; have HD := Lib.hid hD; have HB := Lib.hid hB; have HSPB := Lib.hid hspb; have HLAW := Lib.hid hlaw; have HT := Lib.hid hT; have HND := Lib.hid hnD; have HNB := Lib.hid hnB; have HC := Lib.hid hC
  clear hbx hr3 hfw hD hB hspb hlaw hT hnD hnB hN hsN hf3 hal hC
  go_wp2_with fail
  have hal4 : Fr (fun _ => False) w3 (w3.alloc (.cells #[.slice aD nD cD, .slice aB nB cB] 37)) := (Fr.refl _ _).alloc _
  have hbn : (w3.alloc (.cells #[.slice aD nD cD, .slice aB nB cB] 37)).heap[w3.heap.size]? = some (.cells #[.slice aD nD cD, .slice aB nB cB] 37 (0, 0)) := blkNew w3 _
  have HAL4 := Lib.hid hal4; have HBN := Lib.hid hbn
  clear hal4 hbn
  generalize (w3.alloc (.cells #[.slice aD nD cD, .slice aB nB cB] 37)) = w4 at *
  go_loopw [7, 8, 9, 10, 11, 12, 13] (fun x _ _ _ _ _ _ wr => ∃ i : Nat, i ≤ nB ∧ x = .int .i64 i ∧ Fr (fun _ => False) w4 wr) (fun x _ _ _ _ _ _ _ => nB - (intOf x).toNat)
  case atStart => exact ⟨0, Nat.zero_le _, rfl, Fr.refl _ _⟩
  case round =>
    obtain ⟨i, hi, rfl, hfr⟩ := hrel
    have hbn := hfr.blk HBN.out (fun h => h)
    have hbx := hfr.blk (HAL4.out.blk HBX.out (fun h => h)) (fun h => h)
    have n0 := blkCell hbn 0; have n1 := blkCell hbn 1
    have lbn := blkLt hbn; have lbx := blkLt hbx
    have x0 := blkCell hbx 0; have x1 := blkCell hbx 1; have x2 := blkCell hbx 2; have x3 := blkCell hbx 3
    have HFR := Lib.hid hfr
    clear hfr hbn hbx
    by_cases hlt : i < nB
    · have q1 : decide ((i : Int) < (nB : Int)) = true := by simp; omega
      by_cases h60 : i < 60
      · have q2 : decide ((i : Int) < 60) = true := by simp; omega
        obtain ⟨b, hb⟩ : ∃ b, sN.binds[i]? = some b := ⟨_, List.getElem?_eq_getElem (by rw [← HNB.out]; exact hlt)⟩
        obtain ⟨bf, bt, bd⟩ := b
        have hBw : wr.ownsRow 0 45 3 (.slice aB nB cB) nB (bindCells sN.binds) := ownMove HB.out (fun k _ hl => (HAL4.out.trans HFR.out).block k hl (fun h => h))
        have hbl : (bindCells sN.binds).length = nB * 3 := hBw.1
        obtain ⟨gB, c1, v1, _, y0⟩ := ownAt hBw (i * 3) (by rw [hbl]; omega)
        obtain rfl := sliceAt v1
        obtain ⟨g2, c2, v2, _, y1⟩ := ownAt hBw (i * 3 + 1) (by rw [hbl]; omega)
        obtain rfl := sliceBlk (v1.symm.trans v2)
        obtain ⟨g3, c3, v3, _, y2⟩ := ownAt hBw (i * 3 + 2) (by rw [hbl]; omega)
        obtain rfl := sliceBlk (v1.symm.trans v3)
        have hb0 : (bindCells sN.binds)[i * 3]? = some (.int .i64 bf) := bindCells_get _ _ _ hb 0 (by omega)
        have hb1 : (bindCells sN.binds)[i * 3 + 1]? = some (.int .i64 bt) := bindCells_get _ _ _ hb 1 (by omega)
        have hb2 : (bindCells sN.binds)[i * 3 + 2]? = some (.int .i64 (dfnI bd)) := bindCells_get _ _ _ hb 2 (by omega)
        rw [hb0] at y0
        rw [hb1] at y1
        rw [hb2] at y2
        have lgB := blkLt (ownBlk (k := gB) hBw rfl).choose_spec
        have hli : (i : Int) < (nB : Int) := by omega
        have hbm := List.mem_of_getElem? hb
        obtain ⟨hsp1, hsp2⟩ := HSPB.out.bn _ hbm
        obtain ⟨hlw1, hlw2⟩ := HLAW.out _ hbm
        simp only at hsp1 hsp2 hlw1 hlw2
        have HBI := Lib.hid hb; have HBW := Lib.hid hBw; have HLW1 := Lib.hid hlw1; have HLW2 := Lib.hid hlw2
        clear hBw hbl v1 v2 v3 hb0 hb1 hb2 hb hbm hlw1 hlw2
        go_wp2_with fail
        have hal5 : Fr (fun _ => False) wr (wr.alloc (.cells #[.int .i64 bf, .int .i64 bt] 41)) := (Fr.refl _ _).alloc _
        have hfw5 : Fr (fun _ => False) w3 (wr.alloc (.cells #[.int .i64 bf, .int .i64 bt] 41)) := (HAL4.out.trans HFR.out).trans hal5
        rw [HTX.out]
        refine (visible_said bs bf (treeM bs) _ _ _ (HR3.out.fr hfw5 (fun _ _ _ h => h)) HT.out (by omega) HC.out).mono ?_
        rintro e w5 ⟨vS, rfl, hS, _, hf5⟩
        rw [← HTX.out]
        obtain ⟨sh, hsh⟩ : ∃ sh, sh = (scopeS (nmT bs) bf (treeM bs)).shown := ⟨_, rfl⟩
        rw [← hsh] at hS
        have HLW2' := HLW2.out
        rw [← hsh] at HLW2'
        have hsps : ∀ d ∈ sh, d.frm ≤ d.to ∧ d.to ≤ bs.length := by
          have := (scopeS_spb (nm := nmT bs) (stop := bf) (treeM bs) HT.out.right.good).sh
          rw [HT.out.width, ← hsh] at this
          exact this
        obtain ⟨aS, cS, hvS, hcS, _⟩ := ownShape hS
        obtain ⟨nS, hnS⟩ : ∃ nS, nS = sh.length := ⟨_, rfl⟩
        rw [← hnS] at hvS hcS hS
        have hnSm : nS ≤ maxLen := rowMax hS
        have hnSb : nS ≤ 9223372036854775807 := by unfold maxLen at hnSm; omega
        clear hnSm
        subst hvS
        have hb41 := hf5.blk (blkNew wr (.cells #[.int .i64 bf, .int .i64 bt] 41)) (fun h => h)
        have hf45 : Fr (fun _ => False) w4 w5 := (HFR.out.trans hal5).trans hf5
        have HS := Lib.hid hS; have HB41 := Lib.hid hb41; have HF45 := Lib.hid hf45; have HLW3 := Lib.hid HLW2'; have HSPS := Lib.hid hsps; have HNS := Lib.hid hnS
        clear hS hb41 hf45 HLW2' hsps hnS hsh hf5 hfw5 hal5
        go_wp2_with fail
        go_loopw [11, 12] (fun x y wr2 => ∃ k : Nat, k ≤ nS ∧ y = .int .i64 k ∧ x = .int .i64 (wantI ((sh.take k).filter fun d => decide (nmD (nmT bs) d = nmT bs bf bt))) ∧ Fr (fun _ => False) w5 wr2) (fun _ y _ => nS - (intOf y).toNat)
        case atStart => exact ⟨0, Nat.zero_le _, rfl, by simp [wantI], Fr.refl _ _⟩
        case round =>
          obtain ⟨k, hk, rfl, rfl, hfr2⟩ := hrel
          have hb2 := hfr2.blk HB41.out (fun h => h)
          have u0 := blkCell hb2 0; have u1 := blkCell hb2 1
          have lu := blkLt hb2
          have HFR2 := Lib.hid hfr2
          by_cases hlt2 : k < nS
          · have p1 : decide ((k : Int) < (nS : Int)) = true := by simp; omega
            have hS2 : wr.ownsRow 0 43 4 (.slice aS nS cS) nS (declCells sh) := ownMove HS.out (fun k _ hl => hfr2.block k hl (fun h => h))
            obtain ⟨d, hd⟩ : ∃ d, sh[k]? = some d := ⟨_, List.getElem?_eq_getElem (by rw [← HNS.out]; exact hlt2)⟩
            obtain ⟨hds1, hds2⟩ := HSPS.out d (List.mem_of_getElem? hd)
            have hdl : (declCells sh).length = nS * 4 := hS2.1
            obtain ⟨dfr, den, dkd, dag⟩ := d
            obtain ⟨gS, c1, v1, _, z0⟩ := ownAt hS2 (k * 4) (by rw [hdl]; omega)
            obtain rfl := sliceAt v1
            obtain ⟨g2, c2, v2, _, z1⟩ := ownAt hS2 (k * 4 + 1) (by rw [hdl]; omega)
            obtain rfl := sliceBlk (v1.symm.trans v2)
            have hd0 : (declCells sh)[k * 4]? = some (.int .i64 dfr) := declCells_get _ _ _ hd 0 (by omega)
            have hd1 : (declCells sh)[k * 4 + 1]? = some (.int .i64 den) := declCells_get _ _ _ hd 1 (by omega)
            rw [hd0] at z0
            rw [hd1] at z1
            have lgS := blkLt (ownBlk (k := gS) hS2 rfl).choose_spec
            have hki : (k : Int) < (nS : Int) := by omega
            simp only at hds1 hds2
            have hds3 : (den : Int) ≤ (txt.size : Int) := by omega
            have hbt3 : (bt : Int) ≤ (txt.size : Int) := by omega
            have HD2 := Lib.hid hd
            clear hd hdl v1 v2 hd0 hd1 hS2 hb2 hfr2
            have he : ((txt.extract dfr den).toList == (txt.extract bf bt).toList) = decide (nmT bs dfr den = nmT bs bf bt) := by
              rw [ByteArray.toList_eq, ByteArray.toList_eq, HTX.out, ext_take bs dfr den (by omega), ext_take bs bf bt (by omega)]
              show ((bs.drop dfr).take (den - dfr) == (bs.drop bf).take (bt - bf)) = _
              rw [Bool.eq_iff_iff, beq_iff_eq, decide_eq_true_iff]
              exact Iff.rfl
            have htk : sh.take (k + 1) = sh.take k ++ [⟨dfr, den, dkd, dag⟩] := by
              obtain ⟨h1, h2⟩ := List.getElem?_eq_some_iff.1 HD2.out
              rw [List.take_succ_eq_append_getElem h1, h2]
            obtain ⟨FK, hFK⟩ : ∃ FK, FK = (sh.take k).filter fun d => decide (nmD (nmT bs) d = nmT bs bf bt) := ⟨_, rfl⟩
            have hstep : (sh.take (k + 1)).filter (fun d => decide (nmD (nmT bs) d = nmT bs bf bt)) = FK ++ if nmT bs dfr den = nmT bs bf bt then [⟨dfr, den, dkd, dag⟩] else [] := by
              rw [htk, List.filter_append, ← hFK]
              congr 1
              by_cases hp : nmT bs dfr den = nmT bs bf bt
              · rw [if_pos hp]
                exact List.filter_cons_of_pos (decide_eq_true hp)
              · rw [if_neg hp]
                exact List.filter_cons_of_neg (fun h => hp (of_decide_eq_true h))
            rw [← hFK]
            obtain ⟨wI, hwI⟩ : ∃ wI, wI = wantI FK := ⟨_, rfl⟩
            rw [← hwI]
            by_cases hp : nmT bs dfr den = nmT bs bf bt
            · have hq : ((txt.extract dfr den).toList == (txt.extract bf bt).toList) = true := by rw [he]; simp [hp]
              have hF0 : FK = [] := by
                have h1 : (sh.filter fun d => decide (nmD (nmT bs) d = nmT bs bf bt)).length ≤ 1 := by
                  rw [HLW3.out]
                  cases bd with
                  | none => simp
                  | some m => cases sN.decls[m]? <;> simp
                have h2 : sh = sh.take (k + 1) ++ sh.drop (k + 1) := (List.take_append_drop _ _).symm
                rw [h2, List.filter_append, hstep, if_pos hp] at h1
                simp only [List.length_append, List.length_singleton] at h1
                exact List.length_eq_zero_iff.1 (by omega)
              have hwi : wI = -1 := by rw [hwI, hF0]; rfl
              subst hwi
              have HSTEP := Lib.hid hstep; have HP := Lib.hid hp; have HF0 := Lib.hid hF0
              clear hstep hp hF0 he htk hFK hwI
              go_wp2_with fail
              go_quiet (fail)
              go_wp2_with fail
              go_roundw
              case rel => exact ⟨k + 1, by omega, by go_num, by rw [HSTEP.out, HF0.out, if_pos HP.out]; rfl, HFR2.out.trans ((Fr.refl _ _).drewN _)⟩
              case measure => simp [intOf]; omega
            · have hq : ((txt.extract dfr den).toList == (txt.extract bf bt).toList) = false := by rw [he]; simp [hp]
              have HSTEP := Lib.hid hstep; have HP := Lib.hid hp; have HWI := Lib.hid hwI
              clear hstep hp he htk hFK hwI
              go_wp2_with fail
              go_quiet (fail)
              go_wp2_with fail
              go_roundw
              case rel => exact ⟨k + 1, by omega, by go_num, by rw [HSTEP.out, if_neg HP.out, List.append_nil, HWI.out], HFR2.out.trans ((Fr.refl _ _).drewN _)⟩
              case measure => simp [intOf]; omega
          · have p1 : decide ((k : Int) < (nS : Int)) = false := by simp; omega
            have hkn : k = nS := by omega
            have htk : sh.take k = sh := by rw [hkn, HNS.out, List.take_length]
            rw [htk, HLW3.out]
            have hfw6 : Fr (fun _ => False) w3 wr := (HAL4.out.trans HF45.out).trans hfr2
            have hbn6 := (HF45.out.trans hfr2).blk HBN.out (fun h => h)
            have n0 := blkCell hbn6 0; have n1 := blkCell hbn6 1
            have lbn := blkLt hbn6
            have hB6 : wr.ownsRow 0 45 3 (.slice (some ⟨gB, 0, none⟩) nB cB) nB (bindCells sN.binds) := ownMove HB.out (fun k _ hl => hfw6.block k hl (fun h => h))
            have hD6 : wr.ownsRow 0 43 4 (.slice aD nD cD) nD (declCells sN.decls) := ownMove HD.out (fun k _ hl => hfw6.block k hl (fun h => h))
            have hbl : (bindCells sN.binds).length = nB * 3 := hB6.1
            have hdl : (declCells sN.decls).length = nD * 4 := hD6.1
            obtain ⟨g3, c3, v3, _, y2⟩ := ownAt hB6 (i * 3 + 2) (by rw [hbl]; omega)
            obtain rfl := sliceBlk v3
            rw [show (bindCells sN.binds)[i * 3 + 2]? = some (.int .i64 (dfnI bd)) from bindCells_get _ _ _ HBI.out 2 (by omega)] at y2
            have lgB6 := blkLt (ownBlk (k := gB) hB6 rfl).choose_spec
            have HFW6 := Lib.hid hfw6
            cases bd with
            | none =>
              have q3 : decide ((nD : Int) ≤ -1) = false := by simp; omega
              rw [show dfnI none = -1 from rfl] at y2
              clear v3 hB6 hD6 hbl hdl hbn6 hfw6 hfr2 hb2 htk
              simp only [wantI]
              go_wp2_with fail
              go_roundw
              case rel => exact ⟨i + 1, by omega, by go_num, HF45.out.trans HFR2.out⟩
              case measure => simp [intOf]; omega
            | some m =>
              have hmd := HLW1.out m rfl
              rw [← HND.out] at hmd
              obtain ⟨dm, hdm⟩ : ∃ dm, sN.decls[m]? = some dm := ⟨_, List.getElem?_eq_getElem (by rw [← HND.out]; exact hmd)⟩
              obtain ⟨mf, mt, mk, ma⟩ := dm
              obtain ⟨gD, c4, v4, _, y4⟩ := ownAt hD6 (m * 4) (by rw [hdl]; omega)
              obtain rfl := sliceAt v4
              rw [show (declCells sN.decls)[m * 4]? = some (.int .i64 mf) from declCells_get _ _ _ hdm 0 (by omega)] at y4
              have lgD6 := blkLt (ownBlk (k := gD) hD6 rfl).choose_spec
              rw [show dfnI (some m) = (m : Int) from rfl] at y2
              have q3 : decide ((nD : Int) ≤ (m : Int)) = false := by simp; omega
              have q4 : decide ((m : Int) < 0) = false := by simp
              have q5 : decide ((mf : Int) < 0) = false := by simp
              have q6 : decide ((0 : Int) ≤ (m : Int)) = true := by simp
              have hmi : (m : Int) < (nD : Int) := by omega
              have hww : wantI (match (some m : Option Nat) with | none => [] | some k => (sN.decls[k]?).toList) = (mf : Int) := by simp only [hdm]; rfl
              rw [hww]
              clear v3 v4 hB6 hD6 hbl hdl hbn6 hfw6 hfr2 hb2 htk hdm hww
              go_wp2_with fail
              go_roundw
              case rel => exact ⟨i + 1, by omega, by go_num, HF45.out.trans HFR2.out⟩
              case measure => simp [intOf]; omega
      · have q2 : decide ((i : Int) < 60) = false := by simp; omega
        go_wp2_with fail
        refine (awake_any wr (HG.out.move ((HFW.out.trans HAL4.out).trans HFR.out))).mono ?_
        rintro e w6 ⟨rfl, hf6⟩
        go_wp2_with fail
        go_ret
        exact ⟨rfl, ((HFW.out.trans HAL4.out).trans HFR.out).trans hf6⟩
    · have q1 : decide ((i : Int) < (nB : Int)) = false := by simp; omega
      go_wp2_with fail
      refine (awake_any wr (HG.out.move ((HFW.out.trans HAL4.out).trans HFR.out))).mono ?_
      rintro e w6 ⟨rfl, hf6⟩
      go_wp2_with fail
      go_ret
      exact ⟨rfl, ((HFW.out.trans HAL4.out).trans HFR.out).trans hf6⟩
end Go.Proofs.YtkicpjjfeekopaaGreatDoor

namespace Go.Proofs.YtkicpjjfeekopaaGreatDoor
open Go.RowKit Go.Maps
set_option maxRecDepth 100000 in
set_option maxHeartbeats 4000000 in
theorem names_any (bs : List UInt8) (w : World) (hG : Glob w) (hl : bs.length ≤ 5000) : Calls Tryz.prog 19 #[.string ⟨bs.toArray⟩] w fun e w' => ∃ vD vB, e = .returned (.tuple #[.agg #[vD, vB], .bool true]) ∧ NamesV (namesM (-1) bs) w w' vD vB ∧ Fr (fun _ => False) w w' := by
  have HG := Lib.hid hG
  clear hG
  obtain ⟨txt, htx⟩ : ∃ txt : ByteArray, txt = ⟨bs.toArray⟩ := ⟨_, rfl⟩
  rw [← htx]
  have HTX := Lib.hid htx
  clear htx
  go_enter Tryz.func19, Tryz.ntmps19
  go_wp2_with fail
  have hal0 : Fr (fun _ => False) w (w.alloc (.cells #[nilV, nilV] 37)) := (Fr.refl _ _).alloc _
  have hb0 := blkNew w (.cells #[nilV, nilV] 37)
  rw [HTX.out]
  refine (all_any bs (w.alloc (.cells #[nilV, nilV] 37)) (by omega) (HG.out.move hal0)).mono ?_
  rintro e w1 ⟨⟨v, rfl, hv⟩, hf1⟩
  have hv0 := rowBase hv
  have hb1 := hf1.blk hb0 (fun h => h)
  rw [← HTX.out]
  have hf01 := hal0.trans hf1
  have HF1 := Lib.hid hf01; have HV0 := Lib.hid hv0; have HB1 := Lib.hid hb1
  clear hv hf1 hv0 hb0 hb1 hal0 hf01
  go_wp2_with fail
  refine (file_said bs v w1 (by omega) HV0.out).mono ?_
  rintro e w2 ⟨cs, rfl, hr, hf2⟩
  obtain ⟨k0, k1, k2, a, m, c, rfl⟩ := hr.form
  have HR := Lib.hid hr; have HF2 := Lib.hid hf2
  clear hr hf2
  go_wp2_with fail
  obtain ⟨n, _, hT, hC, _⟩ := tree_facts (bs := bs) (by omega)
  have hal : Fr (fun _ => False) w2 (w2.alloc (.cells #[.int .u8 k0, .int .u8 k1, .int .i64 k2, .slice a m c] 27)) := (Fr.refl _ _).alloc _
  rw [HTX.out]
  refine (of_said bs (treeM bs) _ _ _ (HR.out.fr hal (fun _ _ _ h => h)) hT (by omega) hC).mono ?_
  rintro e w3 ⟨vD, vB, rfl, hN, hf3⟩
  have hfw : Fr (fun _ => False) w1 w3 := (HF2.out.trans hal).trans hf3
  have hb3 := hfw.blk HB1.out (fun h => h)
  have hs1 := HF1.out.size
  have hs3 := hfw.size
  have hsa := hal.size
  have hs12 := HF2.out.size
  obtain ⟨aD, cD, hvD, _, _⟩ := ownShape hN.D
  obtain ⟨aB, cB, hvB, _, _⟩ := ownShape hN.B
  have hD := hN.D
  have hB := hN.B
  have hnD := hN.nD
  have hnB := hN.nB
  obtain ⟨sN, hsN⟩ : ∃ sN, sN = scopeS (nmT bs) (-1) (treeM bs) := ⟨_, rfl⟩
  rw [← hsN] at hD hB hvD hvB
  obtain ⟨nD, hnDe⟩ : ∃ nD, nD = sN.decls.length := ⟨_, rfl⟩
  obtain ⟨nB, hnBe⟩ : ∃ nB, nB = sN.binds.length := ⟨_, rfl⟩
  rw [← hnDe] at hvD hD
  rw [← hnBe] at hvB hB
  subst hvD
  subst hvB
  have lb3 := blkLt hb3
  have hb4 := blkAlloc hb3 (.cells #[.slice aD nD cD, .slice aB nB cB] 37)
  have d0 := blkCell hb3 0; have d1 := blkCell hb3 1
  have e0 := blkFree hb3 0; have e1 := blkFree hb3 1
  have HB3 := Lib.hid hb3; have HFW := Lib.hid hfw; have HD := Lib.hid hD; have HB := Lib.hid hB; have HND := Lib.hid hnD; have HNB := Lib.hid hnB; have HSN := Lib.hid hsN; have HNDE := Lib.hid hnDe; have HNBE := Lib.hid hnBe
  clear hfw hb3 hb4 hD hB hnD hnB hsN hnDe hnBe hN hf3 hal hT hC
  go_wp2_with fail
  obtain ⟨hW, hf4⟩ := put2 HB3.out (.slice aD nD cD) (.slice aB nB cB)
  generalize ((w3.setCell ⟨w.heap.size, 0, none⟩ (.slice aD nD cD)).setCell ⟨w.heap.size, 1, none⟩ (.slice aB nB cB)) = W at *
  refine bodyPost_ret (v := .tuple #[.agg #[.slice aD nD cD, .slice aB nB cB], .bool true]) (resultsCT (fn := Tryz.f19) (p := 2) (u := 3) rfl _ _ w.heap.size 37 #[.slice aD nD cD, .slice aB nB cB] (0, 0) _ rfl (blkAlloc hW _) Tryz.underlying37 rfl info37s) rfl ⟨_, _, rfl, ?_, ?_⟩
  · have hne : ∀ {e sz n : Nat} {v : Value} {xs : List Value}, w3.ownsRow 0 e sz v n xs → e ≠ 37 → (W.alloc (.cells #[.slice aD nD cD, .slice aB nB cB] 37)).ownsRow 0 e sz v n xs := fun hr he => (ownMove hr (fun j hj hl => hf4.block j hl (by rintro rfl; exact rowNeBlk hr HB3.out he hj))).alloc _
    have e3 : namesM (-1) bs = sN := by rw [HSN.out]; rfl
    rw [e3]
    refine ⟨by rw [← HNDE.out]; exact hne HD.out (by decide), by rw [← HNBE.out]; exact hne HB.out (by decide), fun k hk => ?_, fun k hk => ?_⟩
    · have := HND.out k hk; omega
    · have := HNB.out k hk; omega
  · exact ((HF1.out.trans HFW.out).trans' hf4 (fun j hj e => by have e' : j = w.heap.size := e; omega)).trans ((Fr.refl _ _).alloc _)
end Go.Proofs.YtkicpjjfeekopaaGreatDoor

namespace Go.Proofs.YtkicpjjfeekopaaGreatDoor
open Go.RowKit Go.Maps
/-- The cells of the first n spans. -/
def spCells (l : List Tok) : Nat → List Value
  | 0 => []
  | n + 1 => spCells l n ++ [.int .i64 (preW l n), .int .i64 (preW l (n + 1))]
theorem spCells_len (l : List Tok) : ∀ n, (spCells l n).length = n * 2
  | 0 => rfl
  | n + 1 => by simp only [spCells, List.length_append, spCells_len l n]; simp; omega
theorem spCells_get (l : List Tok) : ∀ (n i : Nat), i < n → (spCells l n)[i * 2]? = some (.int .i64 (preW l i)) ∧ (spCells l n)[i * 2 + 1]? = some (.int .i64 (preW l (i + 1)))
  | 0, i, h => by omega
  | n + 1, i, h => by
    simp only [spCells]
    rcases Nat.lt_or_ge i n with h1 | h1
    · obtain ⟨a, b⟩ := spCells_get l n i h1
      rw [List.getElem?_append_left (by rw [spCells_len]; omega), List.getElem?_append_left (by rw [spCells_len]; omega)]
      exact ⟨a, b⟩
    · obtain rfl : i = n := by omega
      rw [List.getElem?_append_right (by rw [spCells_len]; omega), List.getElem?_append_right (by rw [spCells_len]; omega), spCells_len, Nat.sub_self, show i * 2 + 1 - i * 2 = 1 from by omega]
      exact ⟨rfl, rfl⟩
theorem info41 : (Tryz.prog.info? 41).map (fun i => (i.zero, i.size, i.bytes)) = some (some (.agg #[.int .i64 0, .int .i64 0]), 2, 16) := by kernel_rfl
theorem preW_mono (l : List Tok) {a b : Nat} (h : a ≤ b) : preW l a ≤ preW l b := by
  unfold preW
  have e : l.take b = l.take a ++ (l.take b).drop a := by
    have := List.take_append_drop a (l.take b)
    rw [List.take_take, Nat.min_eq_left h] at this
    exact this.symm
  rw [e, List.map_append, List.sum_append]
  omega
set_option maxRecDepth 100000 in
set_option maxHeartbeats 2000000 in
theorem spans_any (v : Value) (l : List Tok) (w : World) (hl : l.length ≤ 100000) (hs : preW l l.length ≤ 1099511627776) (H : TokRow w v l) :
    Calls Tryz.prog 22 #[v] w fun e w' => ∃ v', e = .returned v' ∧ w'.ownsRow w.heap.size 41 2 v' l.length (spCells l l.length) ∧ Fr (fun _ => False) w w' := by
  obtain ⟨a, c, rfl, hc⟩ := H.shape
  obtain ⟨n, hn⟩ : ∃ n, n = l.length := ⟨_, rfl⟩
  rw [← hn] at hc hl
  have H' := H
  unfold TokRow at H'
  rw [← hn]
  rw [← hn] at H'
  have HN := Lib.hid hn; have HT := Lib.hid H; have HS := Lib.hid hs
  clear H H' hn hs
  go_enter Tryz.func22, Tryz.ntmps22
  go_wp2_with fail
  go_loopw [3, 4, 10] (fun o p x wr => ∃ i : Nat, i ≤ n ∧ x = .int .i64 i ∧ p = .int .i64 (preW l i : Nat) ∧ wr.ownsRow w.heap.size 41 2 o i (spCells l i) ∧ Fr (fun _ => False) w wr) (fun _ _ x _ => n - (intOf x).toNat)
  case atStart => exact ⟨0, Nat.zero_le _, rfl, rfl, World.ownsRow_nil _ _ _ _, Fr.refl _ _⟩
  case round =>
    obtain ⟨i, hi, rfl, rfl, ho, hf⟩ := hrel
    by_cases hlt : i < n
    · have q1 : decide ((i : Int) < (n : Int)) = true := by simp; omega
      obtain ⟨t, ht⟩ : ∃ t, l[i]? = some t := ⟨_, List.getElem?_eq_getElem (by rw [← HN.out]; exact hlt)⟩
      have hTw := HT.out.move (w' := wr) (fun k _ hk => hf.block k hk (fun h => h))
      obtain ⟨g, rfl, h0, h1, h2⟩ := TokRow.get hTw i t ht
      have hw := preW_succ l i t ht
      have hm := preW_mono l (a := i + 1) (b := l.length) (by rw [← HN.out]; omega)
      have hS := HS.out
      obtain ⟨tk, tw, tl⟩ := t
      simp only at h0 h1 h2 hw
      have hb1 : (tw : Int) ≤ 1099511627776 := by omega
      have hb2 : ((preW l i : Nat) : Int) + (tw : Int) ≤ 1099511627776 := by omega
      obtain ⟨pi, hpi⟩ : ∃ pi, pi = preW l i := ⟨_, rfl⟩
      rw [← hpi] at hb2 ⊢
      have HW := Lib.hid hw; have HO := Lib.hid ho; have HF := Lib.hid hf; have HPI := Lib.hid hpi
      obtain ⟨ao, co, rfl, hco, _⟩ := ownShape ho
      obtain ⟨i0, hi0, hz0, hz1, hz2⟩ := info_parts info41
      have hm1 : min (tw : Int) 1099511627776 = (tw : Int) := by omega
      have hm2 : min ((pi : Int) + (tw : Int)) 1099511627776 = (pi : Int) + (tw : Int) := by omega
      clear hw hm hS ho hf hTw ht hpi
      go_wp2_with (at_builtin; refine wpList_append_own_at _ rfl (.tmp 21) (.tmp 25) 51 rfl w.heap.size 41 i0 (.agg #[.int .i64 0, .int .i64 0]) 2 16 Tryz.underlying51 hi0 hz0 hz1 hz2 rfl (by decide) (.slice ao i co) i (spCells l i) rfl ((HO.out.alloc _).alloc _) ⟨wr.heap.size + 1, 0, none⟩ 1 1 [.int .i64 pi, .int .i64 ((pi : Int) + (tw : Int))] rfl rfl (by exact cells2 (blkNew2 wr _ _)) (by intro u hu; simp at hu; rcases hu with rfl | rfl <;> rfl) (by unfold maxLen; omega) (by omega) (by have := HF.out.size; simp; omega) ?_; intro vO w5 hO hG _ hat; have HO5 := Lib.hid hO; have HG5 := Lib.hid hG; have HAT := Lib.hid hat; clear hO hG hat)
      go_roundw
      case rel =>
        refine ⟨i + 1, by omega, by go_num, ?_, ?_, ?_⟩
        · rw [HW.out, ← HPI.out]; go_num
        · simp only [spCells]
          rw [HW.out, ← HPI.out]
          exact HO5.out
        · exact ((HF.out.alloc _).alloc _).trans' (Fr.of_grown (S := fun k => Value.ownBlock (.slice ao i co) = some k) HG5.out (fun k hk => hk)) (fun k hk e => by
            rcases HO.out.2 with ⟨e1, _⟩ | ⟨g2, cap, cur, e1, hg, _⟩
            · rw [e1] at e; simp [Value.ownBlock] at e
            · rw [e1] at e; simp [Value.ownBlock] at e; omega)
      case measure => simp [intOf]; omega
    · have q1 : decide ((i : Int) < (n : Int)) = false := by simp; omega
      obtain rfl : i = n := by omega
      have HO := Lib.hid ho; have HF := Lib.hid hf
      clear ho hf
      go_wp2_with fail
      go_ret
      exact ⟨_, rfl, HO.out, HF.out⟩
/-- Is the bytes of one of these tokens the name? -/
def usedM (bs : List UInt8) (l : List Tok) (fs : List Nat) (nb : List UInt8) : Bool := fs.any fun i => decide (nmT bs (preW l i) (preW l (i + 1)) = nb)
theorem intCells_get (fs : List Nat) (i k : Nat) (h : fs[i]? = some k) : (fs.map intV)[i]? = some (.int .i64 k) := by rw [List.getElem?_map, h]; rfl
set_option maxRecDepth 100000 in
set_option maxHeartbeats 2000000 in
theorem used_any (bs : List UInt8) (l : List Tok) (fs : List Nat) (nb : List UInt8) (vs vl : Value) (w : World) (b1 b2 : Nat) (hl : l.length ≤ 100000) (hfs : ∀ i ∈ fs, i < l.length) (hfn : fs.length ≤ 100000) (hs : preW l l.length = bs.length) (hbl : bs.length ≤ 100000)
    (H1 : w.ownsRow b1 41 2 vs l.length (spCells l l.length)) (H2 : w.ownsRow b2 3 1 vl fs.length (fs.map intV)) :
    Calls Tryz.prog 23 #[.string ⟨bs.toArray⟩, vs, vl, .string ⟨nb.toArray⟩] w fun e w' => e = .returned (.bool (usedM bs l fs nb)) ∧ Fr (fun _ => False) w w' := by
  obtain ⟨txt, htx⟩ : ∃ txt : ByteArray, txt = ⟨bs.toArray⟩ := ⟨_, rfl⟩
  have hsz : txt.size = bs.length := by rw [htx]; simp [ByteArray.size]
  rw [← htx]
  obtain ⟨nbt, hnb⟩ : ∃ nbt : ByteArray, nbt = ⟨nb.toArray⟩ := ⟨_, rfl⟩
  rw [← hnb]
  have HTX := Lib.hid htx; have HNB := Lib.hid hnb; have HS := Lib.hid hs; have HFS := Lib.hid hfs
  obtain ⟨a1, c1, hv1, hc1, _⟩ := ownShape H1
  obtain ⟨a2, c2, hv2, hc2, _⟩ := ownShape H2
  subst hv1
  subst hv2
  obtain ⟨n, hn⟩ : ∃ n, n = l.length := ⟨_, rfl⟩
  obtain ⟨m, hm⟩ : ∃ m, m = fs.length := ⟨_, rfl⟩
  rw [← hn] at H1 hc1 hl ⊢
  rw [← hm] at H2 hc2 hfn ⊢
  have HN := Lib.hid hn; have HM := Lib.hid hm
  have HA := Lib.hid H1; have HB := Lib.hid H2
  clear H1 H2 hn hm htx hnb hs hfs
  go_enter Tryz.func23, Tryz.ntmps23
  go_wp2_with fail
  go_loopw [9] (fun x wr => ∃ k : Nat, k ≤ m ∧ x = .int .i64 k ∧ usedM bs l (fs.take k) nb = false ∧ Fr (fun _ => False) w wr) (fun x _ => m - (intOf x).toNat)
  case atStart => exact ⟨0, Nat.zero_le _, rfl, rfl, Fr.refl _ _⟩
  case round =>
    obtain ⟨k, hk, rfl, hno, hf⟩ := hrel
    by_cases hlt : k < m
    · have q1 : decide ((k : Int) < (m : Int)) = true := by simp; omega
      obtain ⟨i, hi⟩ : ∃ i, fs[k]? = some i := ⟨_, List.getElem?_eq_getElem (by rw [← HM.out]; exact hlt)⟩
      have hin : i < n := by rw [HN.out]; exact HFS.out i (List.mem_of_getElem? hi)
      have hA : wr.ownsRow b1 41 2 (.slice a1 n c1) n (spCells l n) := by rw [HN.out]; rw [← HN.out]; exact ownMove HA.out (fun k _ hl => hf.block k hl (fun h => h))
      have hB : wr.ownsRow b2 3 1 (.slice a2 m c2) m (fs.map intV) := ownMove HB.out (fun k _ hl => hf.block k hl (fun h => h))
      have hla := spCells_len l n
      have hlb : (fs.map intV).length = m := by rw [List.length_map, ← HM.out]
      obtain ⟨g1, d1, v1, _, x0⟩ := ownAt hA (i * 2) (by omega)
      obtain rfl := sliceAt v1
      obtain ⟨g1', d1', v1', _, x1⟩ := ownAt hA (i * 2 + 1) (by omega)
      obtain rfl := sliceBlk (v1.symm.trans v1')
      obtain ⟨g2, d2, v2, _, y0⟩ := ownAt hB k (by omega)
      obtain rfl := sliceAt v2
      obtain ⟨z0, z1⟩ := spCells_get l n i hin
      rw [z0] at x0
      rw [z1] at x1
      rw [intCells_get fs k i hi] at y0
      have hp1 := preW_mono l (a := i) (b := i + 1) (by omega)
      have hp2 := preW_mono l (a := i + 1) (b := l.length) (by rw [← HN.out]; omega)
      rw [HS.out] at hp2
      obtain ⟨pa, hpa⟩ : ∃ pa, pa = preW l i := ⟨_, rfl⟩
      obtain ⟨pb, hpb⟩ : ∃ pb, pb = preW l (i + 1) := ⟨_, rfl⟩
      rw [← hpa] at x0 hp1
      rw [← hpb] at x1 hp1 hp2
      have he : ((txt.extract pa pb).toList == nbt.toList) = decide (nmT bs pa pb = nb) := by
        rw [ByteArray.toList_eq, ByteArray.toList_eq, HTX.out, ext_take bs pa pb (by omega), HNB.out]
        show ((bs.drop pa).take (pb - pa) == nb) = _
        rw [Bool.eq_iff_iff, beq_iff_eq, decide_eq_true_iff]
        exact Iff.rfl
      have hstep : usedM bs l (fs.take (k + 1)) nb = (usedM bs l (fs.take k) nb || decide (nmT bs pa pb = nb)) := by
        unfold usedM
        rw [List.take_add_one, hi, List.any_append]
        simp [hpa, hpb]
      have hall : usedM bs l fs nb = (usedM bs l (fs.take (k + 1)) nb || usedM bs l (fs.drop (k + 1)) nb) := by
        unfold usedM
        rw [← List.any_append, List.take_append_drop]
      have hik : (i : Int) < (n : Int) := by omega
      have hkm : (k : Int) < (m : Int) := by omega
      have hpab : (pa : Int) ≤ (pb : Int) := by omega
      have hpbt : (pb : Int) ≤ (txt.size : Int) := by omega
      rw [hno, Bool.false_or] at hstep
      have HF := Lib.hid hf; have HST := Lib.hid hstep; have HALL := Lib.hid hall
      clear hf hstep hall hA hB hla hlb v1 v1' v2 z0 z1 hi hno hpa hpb
      by_cases hp : nmT bs pa pb = nb
      · have hq : ((txt.extract pa pb).toList == nbt.toList) = true := by rw [he]; simp [hp]
        have hres : usedM bs l fs nb = true := by rw [HALL.out, HST.out]; simp [hp]
        have HRES := Lib.hid hres
        clear hp he hres
        go_wp2_with fail
        go_quiet (fail)
        go_wp2_with fail
        go_ret
        exact ⟨by rw [HRES.out]; rfl, HF.out.trans ((Fr.refl _ _).drewN _)⟩
      · have hq : ((txt.extract pa pb).toList == nbt.toList) = false := by rw [he]; simp [hp]
        have hres : usedM bs l (fs.take (k + 1)) nb = false := by rw [HST.out]; simp [hp]
        have HRES := Lib.hid hres
        clear hp he hres
        go_wp2_with fail
        go_quiet (fail)
        go_wp2_with fail
        go_roundw
        case rel => exact ⟨k + 1, by omega, by go_num, HRES.out, HF.out.trans ((Fr.refl _ _).drewN _)⟩
        case measure => simp [intOf]; omega
    · have q1 : decide ((k : Int) < (m : Int)) = false := by simp; omega
      have hkm : k = m := by omega
      have hall : usedM bs l fs nb = false := by rw [← hno, hkm, HM.out, List.take_length]
      have HALL := Lib.hid hall; have HF := Lib.hid hf
      clear hall hno hf hkm
      go_wp2_with fail
      go_ret
      exact ⟨by rw [HALL.out]; rfl, HF.out⟩
end Go.Proofs.YtkicpjjfeekopaaGreatDoor

namespace Go.Proofs.YtkicpjjfeekopaaGreatDoor
open Go.RowKit Go.Maps
theorem declRow_at {w : World} {b n c : Nat} {a : Option Addr} {ds : List Dcl} {k : Nat} {d : Dcl} (h : w.ownsRow b 43 4 (.slice a n c) n (declCells ds)) (hk : ds[k]? = some d) :
    ∃ g, a = some ⟨g, 0, none⟩ ∧ g < w.heap.size ∧ w.cell? ⟨g, k * 4, none⟩ = some (.int .i64 d.frm) ∧ w.cell? ⟨g, k * 4 + 1, none⟩ = some (.int .i64 d.to) ∧ w.cell? ⟨g, k * 4 + 2, none⟩ = some (.int .u8 d.kind) ∧ w.cell? ⟨g, k * 4 + 3, none⟩ = some (.bool d.again) := by
  have hx := declCells_get ds k d hk
  have h0 := hx 0 (by omega); have h1 := hx 1 (by omega); have h2 := hx 2 (by omega); have h3 := hx 3 (by omega)
  have hl : k * 4 + 3 < (declCells ds).length := (List.getElem?_eq_some_iff.1 (h3.trans (show (dCells d)[3]? = some (.bool d.again) from rfl))).1
  obtain ⟨g, c1, v1, _, x0⟩ := ownAt h (k * 4) (by omega)
  obtain ⟨g2, c2, v2, _, x1⟩ := ownAt h (k * 4 + 1) (by omega)
  obtain ⟨g3, c3, v3, _, x2⟩ := ownAt h (k * 4 + 2) (by omega)
  obtain ⟨g4, c4, v4, _, x3⟩ := ownAt h (k * 4 + 3) (by omega)
  obtain rfl := sliceBlk (v1.symm.trans v2)
  obtain rfl := sliceBlk (v1.symm.trans v3)
  obtain rfl := sliceBlk (v1.symm.trans v4)
  have hv := sliceAt v1
  subst hv
  exact ⟨g, rfl, blkLt (ownBlk (k := g) h rfl).choose_spec, x0.trans h0, x1.trans h1, x2.trans h2, x3.trans h3⟩
theorem bindRow_at {w : World} {b n c : Nat} {a : Option Addr} {ds : List Bnd} {k : Nat} {d : Bnd} (h : w.ownsRow b 45 3 (.slice a n c) n (bindCells ds)) (hk : ds[k]? = some d) :
    ∃ g, a = some ⟨g, 0, none⟩ ∧ g < w.heap.size ∧ w.cell? ⟨g, k * 3, none⟩ = some (.int .i64 d.frm) ∧ w.cell? ⟨g, k * 3 + 1, none⟩ = some (.int .i64 d.to) ∧ w.cell? ⟨g, k * 3 + 2, none⟩ = some (.int .i64 (dfnI d.dfn)) := by
  have hx := bindCells_get ds k d hk
  have h0 := hx 0 (by omega); have h1 := hx 1 (by omega); have h2 := hx 2 (by omega)
  have hl : k * 3 + 2 < (bindCells ds).length := (List.getElem?_eq_some_iff.1 (h2.trans (show (bCells d)[2]? = some (.int .i64 (dfnI d.dfn)) from rfl))).1
  obtain ⟨g, c1, v1, _, x0⟩ := ownAt h (k * 3) (by omega)
  obtain ⟨g2, c2, v2, _, x1⟩ := ownAt h (k * 3 + 1) (by omega)
  obtain ⟨g3, c3, v3, _, x2⟩ := ownAt h (k * 3 + 2) (by omega)
  obtain rfl := sliceBlk (v1.symm.trans v2)
  obtain rfl := sliceBlk (v1.symm.trans v3)
  have hv := sliceAt v1
  subst hv
  exact ⟨g, rfl, blkLt (ownBlk (k := g) h rfl).choose_spec, x0.trans h0, x1.trans h1, x2.trans h2⟩
set_option maxRecDepth 100000 in
set_option maxHeartbeats 4000000 in
theorem same_any (ds : List Dcl) (bs : List Bnd) (v1 u1 v2 u2 : Value) (w : World)
    (D1 : w.ownsRow 0 43 4 v1 ds.length (declCells ds)) (B1 : w.ownsRow 0 45 3 u1 bs.length (bindCells bs)) (D2 : w.ownsRow 0 43 4 v2 ds.length (declCells ds)) (B2 : w.ownsRow 0 45 3 u2 bs.length (bindCells bs)) :
    Calls Tryz.prog 24 #[.agg #[v1, u1], .agg #[v2, u2]] w fun e w' => e = .returned (.bool true) ∧ Fr (fun _ => False) w w' := by
  obtain ⟨n, hn⟩ : ∃ n, n = ds.length := ⟨_, rfl⟩
  obtain ⟨m, hm⟩ : ∃ m, m = bs.length := ⟨_, rfl⟩
  rw [← hn] at D1 D2
  rw [← hm] at B1 B2
  have hd := rowMax D1
  have hb := rowMax B1
  unfold maxLen at hd hb
  obtain ⟨aD, cD, rfl, hcD, _⟩ := ownShape D1
  obtain ⟨aE, cE, rfl, hcE, _⟩ := ownShape D2
  obtain ⟨aB, cB, rfl, hcB, _⟩ := ownShape B1
  obtain ⟨aC, cC, rfl, hcC, _⟩ := ownShape B2
  have HD1 := Lib.hid D1; have HD2 := Lib.hid D2; have HB1 := Lib.hid B1; have HB2 := Lib.hid B2; have HN := Lib.hid hn; have HM := Lib.hid hm
  clear D1 D2 B1 B2 hn hm
  have hal : Fr (fun _ => False) w ((w.alloc (.cells #[.slice aD n cD, .slice aB m cB] 37)).alloc (.cells #[.slice aE n cE, .slice aC m cC] 37)) := ((Fr.refl _ _).alloc _).alloc _
  have hb1 : ((w.alloc (.cells #[.slice aD n cD, .slice aB m cB] 37)).alloc (.cells #[.slice aE n cE, .slice aC m cC] 37)).heap[w.heap.size]? = some (.cells #[.slice aD n cD, .slice aB m cB] 37 (0, 0)) := blkAlloc (blkNew w _) _
  have hb2 : ((w.alloc (.cells #[.slice aD n cD, .slice aB m cB] 37)).alloc (.cells #[.slice aE n cE, .slice aC m cC] 37)).heap[w.heap.size + 1]? = some (.cells #[.slice aE n cE, .slice aC m cC] 37 (0, 0)) := blkNew2 w _ _
  have HAL := Lib.hid hal; have HX1 := Lib.hid hb1; have HX2 := Lib.hid hb2
  clear hal hb1 hb2
  go_enter Tryz.func24, Tryz.ntmps24
  go_wp2_with fail
  generalize ((w.alloc (.cells #[.slice aD n cD, .slice aB m cB] 37)).alloc (.cells #[.slice aE n cE, .slice aC m cC] 37)) = w1 at *
  go_loopw [5] (fun x wr => ∃ k : Nat, k ≤ n ∧ x = .int .i64 k ∧ Fr (fun _ => False) w1 wr) (fun x _ => n - (intOf x).toNat)
  case atStart => exact ⟨0, Nat.zero_le _, rfl, Fr.refl _ _⟩
  case round =>
    obtain ⟨k, hk, rfl, hf⟩ := hrel
    have hx1 := hf.blk HX1.out (fun h => h)
    have hx2 := hf.blk HX2.out (fun h => h)
    have y0 := blkCell hx1 0; have y1 := blkCell hx1 1; have z0 := blkCell hx2 0; have z1 := blkCell hx2 1
    have l1 := blkLt hx1; have l2 := blkLt hx2
    by_cases hlt : k < n
    · have q1 : decide ((k : Int) < (n : Int)) = true := by simp; omega
      obtain ⟨d, hd⟩ : ∃ d, ds[k]? = some d := ⟨_, List.getElem?_eq_getElem (by rw [← HN.out]; exact hlt)⟩
      have hD1 : wr.ownsRow 0 43 4 (.slice aD n cD) n (declCells ds) := ownMove HD1.out (fun k _ hl => (HAL.out.trans hf).block k hl (fun h => h))
      have hD2 : wr.ownsRow 0 43 4 (.slice aE n cE) n (declCells ds) := ownMove HD2.out (fun k _ hl => (HAL.out.trans hf).block k hl (fun h => h))
      obtain ⟨g1, rfl, lg1, p0, p1, p2, p3⟩ := declRow_at hD1 hd
      obtain ⟨g2, rfl, lg2, r0, r1, r2, r3⟩ := declRow_at hD2 hd
      have hkn : (k : Int) < (n : Int) := by omega
      have HF := Lib.hid hf
      obtain ⟨df, dt, dk, da⟩ := d
      simp only at p0 p1 p2 p3 r0 r1 r2 r3
      clear hf hD1 hD2 hx1 hx2 hd
      go_wp2_with fail
      go_quiet (fail)
      go_wp2_with fail
      go_roundw
      case rel => exact ⟨k + 1, by omega, by go_num, HF.out.trans ((Fr.refl _ _).drewN _)⟩
      case measure => simp [intOf]; omega
    · have q1 : decide ((k : Int) < (n : Int)) = false := by simp; omega
      have HF := Lib.hid hf
      clear hf hx1 hx2
      go_wp2_with fail
      go_loopw [6] (fun x wx => ∃ k : Nat, k ≤ m ∧ x = .int .i64 k ∧ Fr (fun _ => False) w1 wx) (fun x _ => m - (intOf x).toNat)
      case atStart => exact ⟨0, Nat.zero_le _, rfl, HF.out⟩
      case round =>
        obtain ⟨j, hj, rfl, hf⟩ := hrel
        have hx1 := hf.blk HX1.out (fun h => h)
        have hx2 := hf.blk HX2.out (fun h => h)
        have y0 := blkCell hx1 0; have y1 := blkCell hx1 1; have z0 := blkCell hx2 0; have z1 := blkCell hx2 1
        have l1 := blkLt hx1; have l2 := blkLt hx2
        have HF2 := Lib.hid hf
        by_cases hlt2 : j < m
        · have q1 : decide ((j : Int) < (m : Int)) = true := by simp; omega
          obtain ⟨d, hd⟩ : ∃ d, bs[j]? = some d := ⟨_, List.getElem?_eq_getElem (by rw [← HM.out]; exact hlt2)⟩
          have hD1 : wr.ownsRow 0 45 3 (.slice aB m cB) m (bindCells bs) := ownMove HB1.out (fun k _ hl => (HAL.out.trans hf).block k hl (fun h => h))
          have hD2 : wr.ownsRow 0 45 3 (.slice aC m cC) m (bindCells bs) := ownMove HB2.out (fun k _ hl => (HAL.out.trans hf).block k hl (fun h => h))
          obtain ⟨g1, rfl, lg1, p0, p1, p2⟩ := bindRow_at hD1 hd
          obtain ⟨g2, rfl, lg2, r0, r1, r2⟩ := bindRow_at hD2 hd
          have hkn : (j : Int) < (m : Int) := by omega
          obtain ⟨df, dt, dd⟩ := d
          simp only at p0 p1 p2 r0 r1 r2
          clear hf hD1 hD2 hx1 hx2 hd
          go_wp2_with fail
          go_quiet (fail)
          go_wp2_with fail
          go_roundw
          case rel => exact ⟨j + 1, by omega, by go_num, HF2.out.trans ((Fr.refl _ _).drewN _)⟩
          case measure => simp [intOf]; omega
        · have q1 : decide ((j : Int) < (m : Int)) = false := by simp; omega
          clear hf hx1 hx2
          go_wp2_with fail
          go_ret
          exact ⟨rfl, HAL.out.trans HF2.out⟩
end Go.Proofs.YtkicpjjfeekopaaGreatDoor

namespace Go.Proofs.YtkicpjjfeekopaaGreatDoor
theorem decN_loc {n n' b0 b1 b2 b3 c1 c2 c3 : Nat} (h1 : (1 < n ∧ b1 / 64 = 2) ↔ (1 < n' ∧ c1 / 64 = 2)) (e1 : (1 < n ∧ b1 / 64 = 2) → b1 = c1) (h2 : (2 < n ∧ b2 / 64 = 2) ↔ (2 < n' ∧ c2 / 64 = 2)) (e2 : (2 < n ∧ b2 / 64 = 2) → b2 = c2) (h3 : (3 < n ∧ b3 / 64 = 2) ↔ (3 < n' ∧ c3 / 64 = 2)) (e3 : (3 < n ∧ b3 / 64 = 2) → b3 = c3) :
    Lib.decodeN n b0 b1 b2 b3 = Lib.decodeN n' b0 c1 c2 c3 := by
  have P1 := propext h1
  have P2 := propext h2
  have P3 := propext h3
  unfold Lib.decodeN
  have d1 : (1 < n ∧ b1 / 64 = 2) = True ∧ b1 = c1 ∨ (1 < n ∧ b1 / 64 = 2) = False := (Classical.em _).imp (fun p => ⟨eq_true p, e1 p⟩) eq_false
  have d2 : (2 < n ∧ b2 / 64 = 2) = True ∧ b2 = c2 ∨ (2 < n ∧ b2 / 64 = 2) = False := (Classical.em _).imp (fun p => ⟨eq_true p, e2 p⟩) eq_false
  have d3 : (3 < n ∧ b3 / 64 = 2) = True ∧ b3 = c3 ∨ (3 < n ∧ b3 / 64 = 2) = False := (Classical.em _).imp (fun p => ⟨eq_true p, e3 p⟩) eq_false
  clear h1 h2 h3 e1 e2 e3
  rcases d1 with ⟨k1, rfl⟩ | k1 <;> rcases d2 with ⟨k2, rfl⟩ | k2 <;> rcases d3 with ⟨k3, rfl⟩ | k3
  all_goals simp only [← P1, ← P2, ← P3, k1, k2, k3, and_false, and_true, if_false]
/-- The byte at a place, and whether there is one. -/
theorem get_bang (l : List UInt8) (i : Nat) : ((⟨l.toArray⟩ : ByteArray).get! i) = l.getD i default := by
  simp [ByteArray.get!, Array.getElem!_eq_getD, List.getD_eq_getElem?_getD]
/-- Behind the first byte the decoder asks but whether the next three go on a character. -/
def contAt (r : List UInt8) (i : Nat) : Option Nat := match r[i]? with | some b => if b.toNat / 64 = 2 then some b.toNat else none | none => none
theorem decL_loc (b : UInt8) (r r' : List UInt8) (h : ∀ i, i < 3 → contAt r i = contAt r' i) : decL (b :: r) = decL (b :: r') := by
  have hs : ∀ r : List UInt8, (⟨(b :: r).toArray⟩ : ByteArray).size = r.length + 1 := fun r => by simp [ByteArray.size]
  have hc : ∀ (r : List UInt8) (i : Nat), ((i + 1 < r.length + 1 - 0 ∧ ((b :: r).getD (i + 1) default).toNat / 64 = 2) ↔ (contAt r i).isSome = true) ∧ ∀ m, contAt r i = some m → ((b :: r).getD (i + 1) default).toNat = m := by
    intro r i
    simp only [List.getD_eq_getElem?_getD, List.getElem?_cons_succ, contAt]
    cases hr : r[i]? with
    | none =>
      have := List.getElem?_eq_none_iff.1 hr
      refine ⟨⟨fun h => by omega, fun h => by simp at h⟩, fun m h => by simp at h⟩
    | some x =>
      have hlt := (List.getElem?_eq_some_iff.1 hr).1
      simp only [Option.getD_some]
      by_cases hx : x.toNat / 64 = 2
      · rw [if_pos hx]
        exact ⟨⟨fun _ => rfl, fun _ => ⟨by omega, hx⟩⟩, fun m h => by injection h⟩
      · rw [if_neg hx]
        exact ⟨⟨fun h => absurd h.2 hx, fun h => by simp at h⟩, fun m h => by simp at h⟩
  unfold decL Lib.decodeGo
  rw [if_neg (by rw [hs]; omega), if_neg (by rw [hs]; omega), Lib.decode_at, Lib.decode_at]
  simp only [get_bang, hs]
  have key : ∀ i, i < 3 → (((i + 1 < r.length + 1 - 0 ∧ ((b :: r).getD (i + 1) default).toNat / 64 = 2) ↔ (i + 1 < r'.length + 1 - 0 ∧ ((b :: r').getD (i + 1) default).toNat / 64 = 2)) ∧ ((i + 1 < r.length + 1 - 0 ∧ ((b :: r).getD (i + 1) default).toNat / 64 = 2) → ((b :: r).getD (i + 1) default).toNat = ((b :: r').getD (i + 1) default).toNat)) := by
    intro i hi
    obtain ⟨a1, a2⟩ := hc r i
    obtain ⟨b1, b2⟩ := hc r' i
    rw [a1, b1, h i hi]
    refine ⟨Iff.rfl, fun hsome => ?_⟩
    obtain ⟨m, hm⟩ := Option.isSome_iff_exists.1 hsome
    rw [a2 m (by rw [h i hi]; exact hm), b2 m hm]
  exact decN_loc (key 0 (by omega)).1 (key 0 (by omega)).2 (key 1 (by omega)).1 (key 1 (by omega)).2 (key 2 (by omega)).1 (key 2 (by omega)).2
theorem contAt_append (p r r' : List UInt8) (h : ∀ i, contAt r i = contAt r' i) : ∀ i, contAt (p ++ r) i = contAt (p ++ r') i := by
  intro i
  unfold contAt
  by_cases hi : i < p.length
  · rw [List.getElem?_append_left hi, List.getElem?_append_left hi]
  · rw [List.getElem?_append_right (by omega), List.getElem?_append_right (by omega)]
    exact h (i - p.length)
theorem decL_width (b : UInt8) (r : List UInt8) : 1 ≤ (decL (b :: r)).2 := by
  exact (decL_facts (b :: r) (by simp)).1
/-- A scan that takes just p takes just p, whatever stands behind, if that stops it, too. -/
theorem scan_loc {r r' : List UInt8} (hC : ∀ i, contAt r i = contAt r' i) : ∀ (f st : Nat) (p : List UInt8) (wr : Bool) (f' : Nat), (scanM f st (p ++ r) wr).2.1 = p.length → p.length ≤ f' →
    (r' = [] ∨ goesM (scanM f st (p ++ r) wr).1 (clsM (decL r').1) = none) → scanM f' st (p ++ r') wr = scanM f st (p ++ r) wr := by
  have stop : ∀ (f' st : Nat) (wr : Bool), (r' = [] ∨ goesM st (clsM (decL r').1) = none) → scanM f' st r' wr = (st, 0, wr) := by
    intro f' st wr h
    cases f' with
    | zero => rfl
    | succ g =>
      simp only [scanM]
      rcases h with h | h
      · rw [if_pos h]
      · split
        · rfl
        · rw [h]
  intro f
  induction f with
  | zero =>
    intro st p wr f' h1 h2 h3
    have hp : p = [] := List.length_eq_zero_iff.1 (by rw [← h1]; rfl)
    subst hp
    simp only [List.nil_append, scanM] at h3 ⊢
    exact stop f' st wr h3
  | succ f ih =>
    intro st p wr f' h1 h2 h3
    cases p with
    | nil =>
      simp only [List.nil_append] at h1 h3 ⊢
      have hz : scanM (f + 1) st r wr = (st, 0, wr) := by
        simp only [scanM] at h1 ⊢
        split
        · rfl
        · rename_i hr
          rw [if_neg hr] at h1
          obtain ⟨b, r2, rfl⟩ : ∃ b r2, r = b :: r2 := by cases r with | nil => exact absurd rfl hr | cons b r2 => exact ⟨b, r2, rfl⟩
          have hw := decL_width b r2
          cases hg : goesM st (clsM (decL (b :: r2)).1) with
          | none => rfl
          | some st' =>
            rw [hg] at h1
            simp only [List.length_nil] at h1
            omega
      rw [hz] at h3 ⊢
      exact stop f' st wr h3
    | cons b p =>
      obtain ⟨g, rfl⟩ : ∃ g, f' = g + 1 := ⟨f' - 1, by simp only [List.length_cons] at h2; omega⟩
      have hd : decL (b :: (p ++ r')) = decL (b :: (p ++ r)) := decL_loc b _ _ (fun i _ => (contAt_append p r r' hC i).symm)
      have hw := decL_width b (p ++ r)
      simp only [List.cons_append] at h1 h3 ⊢
      simp only [scanM] at h1 h3 ⊢
      rw [if_neg (by simp)] at h1 h3
      rw [if_neg (by simp)]
      rw [if_neg (by simp)]
      rw [hd]
      cases hg : goesM st (clsM (decL (b :: (p ++ r))).1) with
      | none => rw [hg] at h1
      | some st' =>
        rw [hg] at h1 h3
        simp only [List.length_cons] at h1 h2
        obtain ⟨n, hn⟩ : ∃ n, n = (decL (b :: (p ++ r))).2 := ⟨_, rfl⟩
        rw [← hn] at h1 h3 hw ⊢
        have hdr : ∀ q : List UInt8, n ≤ p.length + 1 → (b :: (p ++ q)).drop n = (b :: p).drop n ++ q := by
          intro q hq
          rw [← List.cons_append, List.drop_append_of_le_length (by simpa using hq)]
        have hnp : n ≤ p.length + 1 := by omega
        rw [hdr r hnp] at h1 h3
        simp only
        rw [hdr r hnp, hdr r' hnp]
        have hlen : ((b :: p).drop n).length = p.length + 1 - n := by simp
        rw [ih st' _ _ g (by rw [hlen]; omega) (by rw [hlen]; omega) h3]
/-- The first token, likewise. -/
theorem tok_loc {p r r' : List UInt8} (hC : ∀ i, contAt r i = contAt r' i) (hw : (tokM (p ++ r)).width = p.length) (hs : r' = [] ∨ goesM (scanM (p ++ r).length 0 (p ++ r) false).1 (clsM (decL r').1) = none) :
    (tokM (p ++ r')).kind = (tokM (p ++ r)).kind ∧ (tokM (p ++ r')).width = p.length := by
  have hw' : (scanM (p ++ r).length 0 (p ++ r) false).2.1 = p.length := hw
  have h := scan_loc hC (p ++ r).length 0 p false (p ++ r').length hw' (by simp) hs
  constructor
  · show (if (scanM (p ++ r').length 0 (p ++ r') false).1 = 7 then wordM ((p ++ r').take (scanM (p ++ r').length 0 (p ++ r') false).2.1) else kindT.getD (scanM (p ++ r').length 0 (p ++ r') false).1 0) =
      (if (scanM (p ++ r).length 0 (p ++ r) false).1 = 7 then wordM ((p ++ r).take (scanM (p ++ r).length 0 (p ++ r) false).2.1) else kindT.getD (scanM (p ++ r).length 0 (p ++ r) false).1 0)
    rw [h, hw', List.take_left, List.take_left]
  · show (scanM (p ++ r').length 0 (p ++ r') false).2.1 = p.length
    rw [h, hw']
/-- Where a scan has stopped. -/
theorem scan_stop : ∀ (f st : Nat) (bs : List UInt8) (wr : Bool), bs.length ≤ f → bs.drop (scanM f st bs wr).2.1 = [] ∨ goesM (scanM f st bs wr).1 (clsM (decL (bs.drop (scanM f st bs wr).2.1)).1) = none
  | 0, st, bs, wr, h => by
    have : bs = [] := List.length_eq_zero_iff.1 (by omega)
    subst this
    exact .inl rfl
  | f + 1, st, bs, wr, h => by
    simp only [scanM]
    by_cases hb : bs = []
    · rw [if_pos hb]; exact .inl (by rw [hb]; rfl)
    · rw [if_neg hb]
      cases hg : goesM st (clsM (decL bs).1) with
      | none => exact .inr hg
      | some st' =>
        have hw := (decL_facts bs hb).1
        have hl := List.length_pos_iff.2 hb
        have := scan_stop f st' (bs.drop (decL bs).2) (decide (st = 0) && decide ((decL bs).1 = 65533) && decide ((decL bs).2 = 1)) (by rw [List.length_drop]; omega)
        rw [List.drop_drop] at this
        exact this
end Go.Proofs.YtkicpjjfeekopaaGreatDoor

namespace Go.Proofs.YtkicpjjfeekopaaGreatDoor
theorem kw_get {toks toks' : List Tok} (h : kw toks = kw toks') (i : Nat) : (toks[i]?).map (fun t => (t.kind, t.width)) = (toks'[i]?).map (fun t => (t.kind, t.width)) := by
  have := congrArg (·[i]?) h
  simpa [kw, List.getElem?_map] using this
theorem nextGo_kw : ∀ (l l' : List Tok) (i : Nat), kw l = kw l' → nextGo l i = nextGo l' i
  | [], [], _, _ => rfl
  | [], _ :: _, _, h => by simp [kw] at h
  | _ :: _, [], _, h => by simp [kw] at h
  | t :: l, t' :: l', i, h => by
    simp only [kw, List.map_cons, List.cons.injEq, Prod.mk.injEq] at h
    simp only [nextGo]
    rw [h.1.1, nextGo_kw l l' (i + 1) h.2]
theorem kwDrop (l : List Tok) (i : Nat) : kw (l.drop i) = (kw l).drop i := List.map_drop
theorem kwTake (l : List Tok) (i : Nat) : kw (l.take i) = (kw l).take i := List.map_take
theorem next_kw {toks toks' : List Tok} (h : kw toks = kw toks') : next toks = next toks' := by
  funext i
  unfold next
  exact nextGo_kw _ _ _ (by rw [kwDrop, kwDrop, h])
theorem kindM_kw {toks toks' : List Tok} (h : kw toks = kw toks') : kindM toks = kindM toks' := by
  funext i
  unfold kindM
  rw [next_kw h]
  have := kw_get h (next toks' i)
  cases h1 : toks[next toks' i]? <;> cases h2 : toks'[next toks' i]? <;> rw [h1, h2] at this <;> simp at this ⊢
  exact this.1
theorem leaf_kw (l : List Tok) : l.map leafT = (kw l).map (fun p => Tree.node p.1 0 p.2 []) := by
  unfold kw
  rw [List.map_map]
  rfl
theorem gapM_kw {toks toks' : List Tok} (h : kw toks = kw toks') : gapM toks = gapM toks' := by
  funext s
  unfold gapM
  rw [next_kw h]
  have : ∀ n, ((toks.drop s.1).take n).map leafT = ((toks'.drop s.1).take n).map leafT := by
    intro n
    rw [leaf_kw, leaf_kw, kwTake, kwTake, kwDrop, kwDrop, h]
  rw [this]
theorem nextM_kw {toks toks' : List Tok} (h : kw toks = kw toks') : nextM toks = nextM toks' := by
  funext s
  unfold nextM
  rw [gapM_kw h]
  congr 1
  funext s1
  have := kw_get h s1.1
  cases h1 : toks[s1.1]? <;> cases h2 : toks'[s1.1]? <;> rw [h1, h2] at this <;> simp at this ⊢
  unfold leafT
  rw [this.1, this.2]
theorem run_kw {toks toks' : List Tok} (hk : kindM toks = kindM toks') (hg : gapM toks = gapM toks') (hx : nextM toks = nextM toks') : ∀ f, runM toks f = runM toks' f ∧ runN toks f = runN toks' f
  | 0 => ⟨by funext c s; simp [runM], by funext c a; simp [runN]⟩
  | f + 1 => by
    obtain ⟨h1, h2⟩ := run_kw hk hg hx f
    have hw : wantM toks = wantM toks' := by funext k s; unfold wantM; rw [hk, hx]
    have hp : ∀ N, putM toks N = putM toks' N := by intro N; funext c s; unfold putM; rw [hg]
    have ho : ∀ N, operandM toks N = operandM toks' N := by intro N; funext c s; unfold operandM; rw [hk, hp]
    constructor
    · funext c s
      simp only [runM, h1, h2]
      cases c <;> simp only [bodyM, hk, hg, hx, hw, hp, ho]
    · funext c a
      simp only [runN, h1, h2]
      cases c <;> simp only [bodyN, hk]
theorem fileM_kw {toks toks' : List Tok} (h : kw toks = kw toks') (f : Nat) : fileM toks f = fileM toks' f := by
  unfold fileM
  rw [(run_kw (kindM_kw h) (gapM_kw h) (nextM_kw h) f).2]
end Go.Proofs.YtkicpjjfeekopaaGreatDoor

namespace Go.Proofs.YtkicpjjfeekopaaGreatDoor
/-- The text with a name called otherwise. -/
def renM (old other : List UInt8) : Nat → List UInt8 → List UInt8
  | 0, _ => []
  | f + 1, bs => if bs = [] then [] else (if (tokM bs).kind = 6 ∧ bs.take (tokM bs).width = old then other else bs.take (tokM bs).width) ++ renM old other f (bs.drop (tokM bs).width)
/-- Letters of class 3, of one byte. -/
def upper (l : List UInt8) : Prop := ∀ b ∈ l, 65 ≤ b.toNat ∧ b.toNat ≤ 90
theorem upper_cls {b : UInt8} (h : 65 ≤ b.toNat ∧ b.toNat ≤ 90) : clsM b.toNat = 3 := by
  unfold clsM
  rw [if_neg (by omega), if_neg (by omega), if_pos (by omega)]
theorem upper_decL {b : UInt8} {r : List UInt8} (h : 65 ≤ b.toNat ∧ b.toNat ≤ 90) : decL (b :: r) = (b.toNat, 1) := (decL_cons b r).1 (by omega)
theorem scan_upper {r : List UInt8} (hs : r = [] ∨ goesM 7 (clsM (decL r).1) = none) : ∀ (p : List UInt8) (f : Nat) (wr : Bool), upper p → p.length ≤ f → ∃ wr', scanM f 7 (p ++ r) wr = (7, p.length, wr')
  | [], f, wr, _, _ => by
    cases f with
    | zero => exact ⟨_, rfl⟩
    | succ f =>
      simp only [List.nil_append, scanM]
      rcases hs with h | h
      · rw [if_pos h]; exact ⟨_, rfl⟩
      · split
        · exact ⟨_, rfl⟩
        · rw [h]; exact ⟨_, rfl⟩
  | b :: p, f, wr, hp, hl => by
    obtain ⟨g, rfl⟩ : ∃ g, f = g + 1 := ⟨f - 1, by simp only [List.length_cons] at hl; omega⟩
    have hb := hp b (List.mem_cons_self ..)
    have hd : decL (b :: (p ++ r)) = (b.toNat, 1) := upper_decL hb
    simp only [List.cons_append, scanM]
    have hg : goesM 7 (clsM (decL (b :: (p ++ r))).1) = some 7 := by rw [hd]; simp only [upper_cls hb]; decide
    have hdrop : (b :: (p ++ r)).drop (decL (b :: (p ++ r))).2 = p ++ r := by rw [hd]; rfl
    have h1 : (decL (b :: (p ++ r))).2 = 1 := by rw [hd]
    rw [if_neg (by simp), hg]
    simp only [hdrop, List.length_cons]
    obtain ⟨w', h⟩ := scan_upper hs p g (decide (7 = 0) && decide ((decL (b :: (p ++ r))).fst = 65533) && decide ((decL (b :: (p ++ r))).snd = 1)) (fun x hx => hp x (List.mem_cons_of_mem _ hx)) (by simp only [List.length_cons] at hl; omega)
    refine ⟨w', ?_⟩
    rw [h]
    simp only [Prod.mk.injEq, and_true, true_and]
    omega
theorem words_low : ∀ b ∈ wordsB, ¬ (65 ≤ b.toNat ∧ b.toNat ≤ 90) := by decide +kernel
theorem wordM_upper {p : List UInt8} (hp : upper p) (hne : p ≠ []) : wordM p = 6 := by
  obtain ⟨b, q, rfl⟩ : ∃ b q, p = b :: q := by cases p with | nil => exact absurd rfl hne | cons b q => exact ⟨b, q, rfl⟩
  have hpl : plainW (b :: q) = true := by
    rw [plainW_iff]
    refine ⟨by simp, fun j hj => ?_⟩
    unfold goodAt
    have hm : (b :: q).getD j 0 ∈ b :: q := by rw [List.getD_eq_getElem?_getD, List.getElem?_eq_getElem hj]; exact List.getElem_mem hj
    have h3 := upper_cls (hp _ hm)
    rw [Bool.or_eq_true]
    exact .inl (decide_eq_true h3)
  have hidx : Lib.index wordsB ([32] ++ (b :: q) ++ [32]) = -1 := by
    refine Lib.index_none (fun j _ => ?_)
    cases ho : Lib.occAt wordsB ([32] ++ (b :: q) ++ [32]) j with
    | false => rfl
    | true =>
      exfalso
      have hmem : b ∈ wordsB := by
        unfold Lib.occAt at ho
        have h1 := List.isPrefixOf_iff_prefix.1 ho
        have h2 : b ∈ wordsB.drop j := h1.subset (by simp)
        exact List.mem_of_mem_drop h2
      exact words_low b hmem (hp b (List.mem_cons_self ..))
  unfold wordM
  rw [if_pos hpl, hidx, if_neg (by decide)]
theorem tok_upper {p r : List UInt8} (hp : upper p) (hne : p ≠ []) (hs : r = [] ∨ goesM 7 (clsM (decL r).1) = none) : (tokM (p ++ r)).kind = 6 ∧ (tokM (p ++ r)).width = p.length := by
  obtain ⟨b, q, rfl⟩ : ∃ b q, p = b :: q := by cases p with | nil => exact absurd rfl hne | cons b q => exact ⟨b, q, rfl⟩
  have hb := hp b (List.mem_cons_self ..)
  have hd : decL (b :: (q ++ r)) = (b.toNat, 1) := upper_decL hb
  have hg : goesM 0 (clsM (decL (b :: (q ++ r))).1) = some 7 := by rw [hd]; simp only [upper_cls hb]; decide
  have hdrop : (b :: (q ++ r)).drop (decL (b :: (q ++ r))).2 = q ++ r := by rw [hd]; rfl
  have h1 : (decL (b :: (q ++ r))).2 = 1 := by rw [hd]
  have hS : ∃ wr', scanM (b :: q ++ r).length 0 (b :: q ++ r) false = (7, (b :: q).length, wr') := by
    simp only [List.cons_append, List.length_cons, scanM]
    rw [if_neg (by simp), hg]
    simp only [hdrop]
    obtain ⟨w', h⟩ := scan_upper hs q (q ++ r).length (decide True && decide ((decL (b :: (q ++ r))).fst = 65533) && decide ((decL (b :: (q ++ r))).snd = 1)) (fun x hx => hp x (List.mem_cons_of_mem _ hx)) (by simp)
    refine ⟨w', ?_⟩
    rw [h]
    simp only [Prod.mk.injEq, and_true, true_and]
    omega
  obtain ⟨wr', hS⟩ := hS
  constructor
  · show (if (scanM (b :: q ++ r).length 0 (b :: q ++ r) false).1 = 7 then wordM ((b :: q ++ r).take (scanM (b :: q ++ r).length 0 (b :: q ++ r) false).2.1) else _) = _
    rw [hS, if_pos rfl, List.take_left]
    exact wordM_upper hp hne
  · show (scanM (b :: q ++ r).length 0 (b :: q ++ r) false).2.1 = _
    rw [hS]
end Go.Proofs.YtkicpjjfeekopaaGreatDoor

namespace Go.Proofs.YtkicpjjfeekopaaGreatDoor
theorem kind6' : ∀ st : Fin 35, st.val ≠ 7 → kindT.getD st.val 0 ≠ 6 := by decide
theorem name_state {bs : List UInt8} (h : (tokM bs).kind = 6) : (scanM bs.length 0 bs false).1 = 7 := by
  by_cases h7 : (scanM bs.length 0 bs false).1 = 7
  · exact h7
  · exfalso
    have h35 : (scanM bs.length 0 bs false).1 < 35 := scan_st _ _ _ _ (by omega)
    have hk : (tokM bs).kind = kindT.getD (scanM bs.length 0 bs false).1 0 := by
      show (if (scanM bs.length 0 bs false).1 = 7 then _ else _) = _
      rw [if_neg h7]
    rw [hk] at h
    exact kind6' ⟨_, h35⟩ h7 h
theorem name_plain {bs : List UInt8} (hb : bs ≠ []) (h : (tokM bs).kind = 6) : plainW (bs.take (tokM bs).width) = true := by
  rcases tok_kind bs hb with ⟨h1, _⟩ | ⟨st, h1, _, h3, h4, _⟩
  · exact h1
  · rw [name_state h] at h4; exact absurd h4.symm h3
/-- A plain word's bytes do not go on a character. -/
theorem plain_cont {p : List UInt8} (h : plainW p = true) : ∀ b ∈ p, b.toNat < 128 := by
  intro b hb
  obtain ⟨_, h2⟩ := (plainW_iff p).1 h
  obtain ⟨j, hj, rfl⟩ := List.getElem_of_mem hb
  have := h2 j hj
  unfold goodAt at this
  rw [List.getD_eq_getElem?_getD, List.getElem?_eq_getElem hj, Option.getD_some] at this
  simp only [Bool.or_eq_true, decide_eq_true_eq, Bool.and_eq_true] at this
  rcases this with h | h
  · exact cls34 _ (.inl h)
  · exact cls34 _ (.inr h.1)
theorem cont_low {p r : List UInt8} (h : ∀ b ∈ p, b.toNat < 128) (i : Nat) : contAt (p ++ r) i = if i < p.length then none else contAt r (i - p.length) := by
  unfold contAt
  by_cases hi : i < p.length
  · rw [if_pos hi, List.getElem?_append_left hi, List.getElem?_eq_getElem hi]
    have := h _ (List.getElem_mem hi)
    simp only
    rw [if_neg (by omega)]
  · rw [if_neg hi, List.getElem?_append_right (by omega)]
theorem upper_low {p : List UInt8} (h : upper p) : ∀ b ∈ p, b.toNat < 128 := fun b hb => by have := h b hb; omega
/-- The class of a plain word's first character. -/
theorem plain_first {p r : List UInt8} (h : plainW p = true) : clsM (decL (p ++ r)).1 = 3 := by
  obtain ⟨h1, h2⟩ := (plainW_iff p).1 h
  obtain ⟨b, q, rfl⟩ : ∃ b q, p = b :: q := by cases p with | nil => exact absurd rfl h1 | cons b q => exact ⟨b, q, rfl⟩
  have h0 := h2 0 (by simp)
  unfold goodAt at h0
  simp at h0
  have hlt := cls34 _ (.inl h0)
  rw [List.cons_append, (decL_cons b (q ++ r)).1 hlt]
  exact h0
theorem upper_first {p r : List UInt8} (h : upper p) (hne : p ≠ []) : clsM (decL (p ++ r)).1 = 3 := by
  obtain ⟨b, q, rfl⟩ : ∃ b q, p = b :: q := by cases p with | nil => exact absurd rfl hne | cons b q => exact ⟨b, q, rfl⟩
  rw [List.cons_append, upper_decL (h b (List.mem_cons_self ..))]
  exact upper_cls (h b (List.mem_cons_self ..))
structure RenOk (old other : List UInt8) (f : Nat) (bs : List UInt8) : Prop where
  len : (renM old other f bs).length = bs.length
  cont : ∀ i, contAt (renM old other f bs) i = contAt bs i
  cls : clsM (decL (renM old other f bs)).1 = clsM (decL bs).1
  kws : kw (lexM f (renM old other f bs)) = kw (lexM f bs)
theorem ren_ok {old other : List UInt8} (hup : upper other) (hlen : other.length = old.length) : ∀ (f : Nat) (bs : List UInt8), bs.length ≤ f → RenOk old other f bs
  | 0, bs, h => by
    have : bs = [] := List.length_eq_zero_iff.1 (by omega)
    subst this
    exact ⟨rfl, fun _ => rfl, rfl, rfl⟩
  | f + 1, bs, h => by
    by_cases hb : bs = []
    · subst hb
      have e : renM old other (f + 1) [] = [] := by simp [renM]
      exact ⟨by rw [e], by rw [e]; exact fun _ => rfl, by rw [e], by rw [e]⟩
    · obtain ⟨w1, w2⟩ := tok_width bs hb
      obtain ⟨n, hn⟩ : ∃ n, n = (tokM bs).width := ⟨_, rfl⟩
      rw [← hn] at w1 w2
      have ih := ren_ok hup hlen f (bs.drop n) (by rw [List.length_drop]; omega)
      obtain ⟨p, hp⟩ : ∃ p, p = bs.take n := ⟨_, rfl⟩
      obtain ⟨r, hr⟩ : ∃ r, r = bs.drop n := ⟨_, rfl⟩
      have hbs : bs = p ++ r := by rw [hp, hr, List.take_append_drop]
      have hpl : p.length = n := by rw [hp, List.length_take]; omega
      rw [← hr] at ih
      obtain ⟨r', hr'⟩ : ∃ r', r' = renM old other f r := ⟨_, rfl⟩
      have i1 := ih.len; have i2 := ih.cont; have i3 := ih.cls; have i4 := ih.kws
      rw [← hr'] at i1 i2 i3 i4
      obtain ⟨q, hq⟩ : ∃ q, q = if (tokM bs).kind = 6 ∧ p = old then other else p := ⟨_, rfl⟩
      have e : renM old other (f + 1) bs = q ++ r' := by
        simp only [renM]
        rw [if_neg hb, ← hn, ← hp, ← hr, ← hr', ← hq]
      have hstop := scan_stop bs.length 0 bs false (Nat.le_refl _)
      have hwn : (scanM bs.length 0 bs false).2.1 = n := hn.symm
      rw [hwn, ← hr] at hstop
      have hstop' : r' = [] ∨ goesM (scanM bs.length 0 bs false).1 (clsM (decL r').1) = none := by
        rcases hstop with h1 | h1
        · exact .inl (List.length_eq_zero_iff.1 (by rw [i1, h1]; rfl))
        · exact .inr (by rw [i3]; exact h1)
      have hkw : (tokM (q ++ r')).kind = (tokM bs).kind ∧ (tokM (q ++ r')).width = n ∧ q.length = n ∧ (∀ i, contAt (q ++ r') i = contAt bs i) ∧ clsM (decL (q ++ r')).1 = clsM (decL bs).1 := by
        by_cases hc : (tokM bs).kind = 6 ∧ p = old
        · rw [if_pos hc] at hq
          rw [hq]
          have hql : other.length = n := by rw [hlen, ← hc.2, hpl]
          have hne : other ≠ [] := fun e => by rw [e] at hql; simp at hql; omega
          have hplain := name_plain hb hc.1
          rw [← hn, ← hp] at hplain
          rw [name_state hc.1] at hstop'
          obtain ⟨t1, t2⟩ := tok_upper hup hne hstop'
          refine ⟨by rw [t1, hc.1], by rw [t2, hql], hql, fun i => ?_, ?_⟩
          · rw [hbs, cont_low (upper_low hup), cont_low (plain_cont hplain), hql, hpl, i2]
          · rw [upper_first hup hne]; rw [hbs, plain_first hplain]
        · rw [if_neg hc] at hq
          subst hq
          have hC : ∀ i, contAt r i = contAt r' i := fun i => (i2 i).symm
          have hw : (tokM (q ++ r)).width = q.length := by rw [← hbs, ← hn, hpl]
          rw [hbs] at hstop'
          obtain ⟨t1, t2⟩ := tok_loc hC hw hstop'
          refine ⟨by rw [t1, ← hbs], by rw [t2, hpl], hpl, fun i => ?_, ?_⟩
          · rw [hbs]; exact (contAt_append q r r' hC i).symm
          · obtain ⟨b, q2, rfl⟩ : ∃ b q2, q = b :: q2 := by cases q with | nil => simp at hpl; omega | cons b q2 => exact ⟨b, q2, rfl⟩
            rw [hbs, List.cons_append, List.cons_append, decL_loc b _ _ (fun i _ => contAt_append q2 r r' hC i)]
      obtain ⟨k1, k2, k3, k4, k5⟩ := hkw
      have hqne : q ++ r' ≠ [] := fun e => by
        have h1 := congrArg List.length e
        rw [List.length_append, k3] at h1
        simp at h1
        omega
      refine ⟨by rw [e, List.length_append, k3, i1, hbs, List.length_append, hpl], by rw [e]; exact k4, by rw [e]; exact k5, ?_⟩
      rw [e]
      simp only [lexM]
      rw [if_neg hqne, if_neg hb]
      have hd : (q ++ r').drop (tokM (q ++ r')).width = r' := by rw [k2, ← k3, List.drop_left]
      rw [hd, ← hn, ← hr]
      simp only [kw, List.map_cons]
      rw [k1, k2, hn]
      congr 1
end Go.Proofs.YtkicpjjfeekopaaGreatDoor

namespace Go.Proofs.YtkicpjjfeekopaaGreatDoor
theorem toks_ren {old other bs : List UInt8} (hup : upper other) (hlen : other.length = old.length) : kw (toksM (renM old other bs.length bs)) = kw (toksM bs) := by
  have h := ren_ok hup hlen bs.length bs (Nat.le_refl _)
  unfold toksM
  rw [h.len]
  exact h.kws
theorem tree_kw {bs bs' : List UInt8} (h : kw (toksM bs) = kw (toksM bs')) : treeM bs = treeM bs' := by
  have hl : (toksM bs).length = (toksM bs').length := by
    have := congrArg List.length h
    simpa [kw] using this
  unfold treeM
  rw [hl, fileM_kw h]
theorem tree_ren {old other bs : List UInt8} (hup : upper other) (hlen : other.length = old.length) : treeM (renM old other bs.length bs) = treeM bs := tree_kw (toks_ren hup hlen)
end Go.Proofs.YtkicpjjfeekopaaGreatDoor

namespace Go.Proofs.YtkicpjjfeekopaaGreatDoor
theorem renM_drop (old other : List UInt8) (f : Nat) {bs : List UInt8} (hb : bs ≠ []) : renM old other (f + 1) bs = (if (tokM bs).kind = 6 ∧ bs.take (tokM bs).width = old then other else bs.take (tokM bs).width) ++ renM old other f (bs.drop (tokM bs).width) := by
  simp only [renM]
  rw [if_neg hb]
/-- The bytes of a token, in the text and in the one of which a name is called otherwise. -/
theorem ren_piece {old other : List UInt8} (hlen : other.length = old.length) : ∀ (f : Nat) (bs : List UInt8), bs.length ≤ f → ∀ (A : List (Nat × Nat)) (k w : Nat) (B : List (Nat × Nat)), kw (lexM f bs) = A ++ (k, w) :: B →
    ((renM old other f bs).drop (sw A)).take w = (if k = 6 ∧ (bs.drop (sw A)).take w = old then other else (bs.drop (sw A)).take w) ∧ sw A + w ≤ bs.length
  | 0, bs, h, A, k, w, B, e => by simp [lexM, kw] at e
  | f + 1, bs, h, A, k, w, B, e => by
    by_cases hb : bs = []
    · subst hb; simp [lexM, kw] at e
    · obtain ⟨w1, w2⟩ := tok_width bs hb
      rw [renM_drop old other f hb]
      obtain ⟨q, hq⟩ : ∃ q, q = if (tokM bs).kind = 6 ∧ bs.take (tokM bs).width = old then other else bs.take (tokM bs).width := ⟨_, rfl⟩
      have hql : q.length = (tokM bs).width := by
        rw [hq]
        split
        · rename_i hc
          rw [hlen, ← hc.2, List.length_take]; omega
        · rw [List.length_take]; omega
      rw [← hq]
      have e' : ((tokM bs).kind, (tokM bs).width) :: kw (lexM f (bs.drop (tokM bs).width)) = A ++ (k, w) :: B := by
        rw [← e]; simp only [lexM]; rw [if_neg hb]; rfl
      cases A with
      | nil =>
        simp only [List.nil_append, List.cons.injEq, Prod.mk.injEq] at e'
        obtain ⟨⟨e1, e2⟩, _⟩ := e'
        subst e1; subst e2
        refine ⟨?_, by simp [sw]; omega⟩
        show List.take _ (List.drop 0 _) = _
        simp only [sw, List.map_nil, List.sum_nil, List.drop_zero]
        rw [← hql, List.take_left, hql]
        exact hq
      | cons a A =>
        simp only [List.cons_append, List.cons.injEq] at e'
        obtain ⟨e1, e2⟩ := e'
        subst e1
        have hs : sw (((tokM bs).kind, (tokM bs).width) :: A) = (tokM bs).width + sw A := by simp [sw]
        obtain ⟨i1, i2⟩ := ren_piece hlen f (bs.drop (tokM bs).width) (by rw [List.length_drop]; omega) A k w B e2
        rw [hs]
        rw [List.length_drop] at i2
        refine ⟨?_, by omega⟩
        have h1 : (q ++ renM old other f (bs.drop (tokM bs).width)).drop ((tokM bs).width + sw A) = (renM old other f (bs.drop (tokM bs).width)).drop (sw A) := by
          rw [← hql, List.drop_append]
          simp
        rw [h1, i1, List.drop_drop]
/-- Is a name of the text these bytes? -/
def isName (bs : List UInt8) (a b : Nat) : Prop := ∃ A w B, kw (toksM bs) = A ++ (6, w) :: B ∧ a = sw A ∧ b = sw A + w
theorem names_ren {old other bs : List UInt8} (hup : upper other) (hlen : other.length = old.length) (hl : bs.length ≤ 5000) (hno : ∀ a b, isName bs a b → nmT bs a b ≠ other) :
    (namesM (-1) (renM old other bs.length bs)).decls = (namesM (-1) bs).decls ∧ (namesM (-1) (renM old other bs.length bs)).binds = (namesM (-1) bs).binds := by
  obtain ⟨_, _, hT, _, hlv⟩ := tree_facts hl
  unfold namesM
  rw [tree_ren hup hlen]
  refine scopeS_sim (f := fun x => if x = old then other else x) (P := fun x => x ≠ other) (H := isName bs) ?_ ?_ _ ?_
  · intro x y hx hy h
    split at h <;> split at h
    · rename_i h1 h2; rw [h1, h2]
    · exact absurd h.symm hy
    · exact absurd h hx
    · exact h
  · intro a b h
    refine ⟨hno a b h, ?_⟩
    obtain ⟨A, w, B, e, rfl, rfl⟩ := h
    have := (ren_piece (old := old) hlen bs.length bs (Nat.le_refl _) A 6 w B e).1
    unfold nmT
    rw [Nat.add_sub_cancel_left, this]
    simp
  · refine namesOk_of _ 0 hT.right.good ?_
    intro A w B e
    rw [hlv] at e
    exact ⟨A, w, B, e, by omega, by omega⟩
theorem kw_split {toks : List Tok} {y : Nat} {t : Tok} (h : toks[y]? = some t) : kw toks = kw (toks.take y) ++ (t.kind, t.width) :: kw (toks.drop (y + 1)) := by
  obtain ⟨h1, h2⟩ := List.getElem?_eq_some_iff.1 h
  have e : toks = toks.take y ++ t :: toks.drop (y + 1) := by
    have := List.take_append_drop y toks
    rw [List.drop_eq_getElem_cons h1, h2] at this
    exact this.symm
  conv => lhs; rw [e]
  rw [kw_append]
  rfl
theorem sw_take (toks : List Tok) (y : Nat) : sw (kw (toks.take y)) = preW toks y := sw_kw _
/-- One token more. -/
theorem ren_step {old other bs : List UInt8} (hlen : other.length = old.length) {y : Nat} {t : Tok} (h : (toksM bs)[y]? = some t) :
    (renM old other bs.length bs).take (preW (toksM bs) (y + 1)) = (renM old other bs.length bs).take (preW (toksM bs) y) ++ (if t.kind = 6 ∧ nmT bs (preW (toksM bs) y) (preW (toksM bs) (y + 1)) = old then other else nmT bs (preW (toksM bs) y) (preW (toksM bs) (y + 1))) := by
  have := (ren_piece (old := old) hlen bs.length bs (Nat.le_refl _) _ _ _ _ (kw_split h)).1
  rw [sw_take, show lexM bs.length bs = toksM bs from rfl] at this
  unfold nmT
  rw [preW_succ _ _ _ h, Nat.add_sub_cancel_left, ← this, List.take_add]
theorem isName_tok {bs : List UInt8} {a b : Nat} (h : isName bs a b) : ∃ y t, (toksM bs)[y]? = some t ∧ t.kind = 6 ∧ a = preW (toksM bs) y ∧ b = preW (toksM bs) (y + 1) := by
  obtain ⟨A, w, B, e, rfl, rfl⟩ := h
  have hl : A.length < (toksM bs).length := by
    have := congrArg List.length e
    simp [kw] at this
    omega
  have ht : (toksM bs)[A.length]? = some (toksM bs)[A.length] := List.getElem?_eq_getElem hl
  have e2 := kw_split ht
  have hA : kw ((toksM bs).take A.length) = A := by rw [kwTake, e, List.take_left]
  have h3 : (kw (toksM bs))[A.length]? = some (6, w) := by rw [e, List.getElem?_append_right (Nat.le_refl _), Nat.sub_self]; rfl
  have h4 : (kw (toksM bs))[A.length]? = some ((toksM bs)[A.length].kind, (toksM bs)[A.length].width) := by
    unfold kw; rw [List.getElem?_map, ht]; rfl
  rw [h4] at h3
  simp only [Option.some.injEq, Prod.mk.injEq] at h3
  have hs : preW (toksM bs) A.length = sw A := by rw [← sw_take, hA]
  exact ⟨A.length, _, ht, h3.1, hs.symm, by rw [preW_succ _ _ _ ht, hs, h3.2]⟩
end Go.Proofs.YtkicpjjfeekopaaGreatDoor

namespace Go.Proofs.YtkicpjjfeekopaaGreatDoor
open Go.ChangeShapes Go.WideShapes Go.ChangeAt Go.RowKit Go.Lib
theorem Tryz.own : ownKnob Tryz.prog.godebug = none := by kernel_rfl
/-- A world in which the variables hold what their initialisers lay. -/
noncomputable def laidWorld (os : Os) : World :=
  let w0 := World.holding Tryz.prog os ⟨#[], #[], []⟩
  let put (h : Array Obj) (g : Nat) (cs : Array Value) : Array Obj := h.modify g fun
    | .cells _ t frozen => .cells cs t frozen
    | o => o
  let h1 := put w0.heap 1 (Lib.firstTab.map fun z => Value.int .u8 z).toArray
  let h2 := put h1 2 ((List.range 16).flatMap fun i => [Value.int .u8 (Lib.accLo i), Value.int .u8 (Lib.accHi i)]).toArray
  { w0 with heap := h2 }
theorem laid_acc : (Rows.laid_unicode_utf8_acceptRanges : DataW Unit) = Lib.acceptData := by kernel_rfl
theorem laid_first : Rows.laid_unicode_utf8_first = Lib.firstData := by kernel_rfl
theorem glob_of {W : World} (hL : laidMet Tryz.prog [("unicode/utf8.acceptRanges", Rows.laid_unicode_utf8_acceptRanges), ("unicode/utf8.first", Rows.laid_unicode_utf8_first)] W) (hS : W.ShapedOpen Tryz.prog) : Glob W := by
  have h3 : VarReads Tryz.prog W "unicode/utf8.first" Lib.firstData := by rw [← laid_first]; exact Lib.laidMet.reads hL (.tail _ (.head _))
  have h4 : VarReads Tryz.prog W "unicode/utf8.acceptRanges" Lib.acceptData := by rw [← laid_acc]; exact Lib.laidMet.reads hL (.head _)
  have htab := utf8Tabs_of_reads Tryz.lays260 ⟨by kernel_rfl, by kernel_rfl, by kernel_rfl, by kernel_rfl, by kernel_rfl, by kernel_rfl, by kernel_rfl⟩ h3 h4
  obtain ⟨m, hm⟩ : ∃ m, W.cell? ⟨3, 0, none⟩ = some (.int .i64 m) := Go.Proofs.cell_of_shapedOpen_int (zero := #[.int .i64 0]) (t := 3) hS (of_decide_eq_true (by kernel_rfl)) (by kernel_rfl) rfl (by kernel_rfl) (by kernel_rfl) Tryz.underlying3
  refine ⟨htab, ⟨m, hm⟩, ?_⟩
  rcases Nat.lt_or_ge 3 W.heap.size with h | h
  · exact h
  · have e : W.heap[3]? = none := Array.getElem?_eq_none h
    simp [World.cell?, e] at hm
theorem below_of {W W' : World} (h : Fr (fun _ => False) W W') : Below W.heap.size W W' := ⟨h.os, h.tape, h.output, h.size, fun k hk => h.block k hk (fun h => h)⟩
theorem laid_met0 (os : Os) (args : Array Value) : laidMet Tryz.prog [("unicode/utf8.acceptRanges", Rows.laid_unicode_utf8_acceptRanges), ("unicode/utf8.first", Rows.laid_unicode_utf8_first)] ((laidWorld os).forCall (fun _ _ => 0) ⟨#[], args, []⟩).memory :=
  (LaidIn.of_run (l := [("unicode/utf8.acceptRanges", Rows.laid_unicode_utf8_acceptRanges), ("unicode/utf8.first", Rows.laid_unicode_utf8_first)]) [2, 1] 8 (by kernel_rfl) (by kernel_rfl) (by kernel_rfl) (by kernel_rfl)).met
end Go.Proofs.YtkicpjjfeekopaaGreatDoor
