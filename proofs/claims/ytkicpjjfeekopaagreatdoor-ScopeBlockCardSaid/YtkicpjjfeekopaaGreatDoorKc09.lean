/- The finder: kids, of any tree. Walks: scope.Of. Walks: scope.Visible. The finder: what look shows. Walks: the finder: look. The finder: look, whatever it looks at; scope.Of and scope.Visible. The laws of scope: what a text's tree and names are. -/
import Derived.Test.YtkicpjjfeekopaaGreatDoorKc02
import Derived.Test.YtkicpjjfeekopaaGreatDoorKc03
import Derived.Test.YtkicpjjfeekopaaGreatDoorKc04
import Derived.Test.YtkicpjjfeekopaaGreatDoorKc06
import Derived.Test.YtkicpjjfeekopaaGreatDoorKc08
import Derived.Test.YtkicpjjfeekopaaGreatDoorKc05
import Derived.Test.YtkicpjjfeekopaaGreatDoorKa03
import Derived.Sort.MapsRangeIn
import Derived.Laws.OwnMore
import Derived.Test.YtkicpjjfeekopaaGreatDoorKa05
import Derived.Test.YtkicpjjfeekopaaGreatDoorKa06
set_option linter.unusedVariables false
set_option linter.unusedSimpArgs false
set_option linter.unusedSectionVars false
namespace Go.Proofs.YtkicpjjfeekopaaGreatDoor
open Go.RowKit Go.Maps
theorem goodT_kind {k wt wd : Nat} {kids : List Tree} (h : goodT (.node k wt wd kids) = true) : k ≤ 68 := by
  unfold goodT at h
  split at h
  · omega
  · split at h
    · omega
    · simp only [Bool.and_eq_true, decide_eq_true_eq] at h
      exact h.1.1.1.1
theorem kids_any {C : FC} (hlook : LookSaid C) : ∀ (n : Nat) (t : Tree), cntT t ≤ n → KidsP C t
  | 0, .node k wt wd kids, h => by simp [cntT] at h
  | n + 1, .node k wt wd kids, h => by
    have hrec : ∀ t ∈ kids, 50 ≤ t.kind → KidsP C t := fun t ht _ => kids_any hlook n t (by have h1 := (mem_facts kids t ht).2.2.2; simp only [cntT] at h; omega)
    by_cases h53 : k = 53
    · exact kids_let h53 hrec hlook
    by_cases h54 : k = 54
    · exact kids_fn h54 hrec hlook
    by_cases h55 : k = 55
    · exact kids_params h55 hrec hlook
    by_cases h66 : k = 66
    · exact kids_use h66 hrec hlook
    intro cs P frm hb rc F G pp pars w s hR ho ht hg
    exact kids_other ⟨h53, h54, h55, h66, goodT_kind hg⟩ hrec hlook cs P frm hb rc F G pp pars w s hR ho ht hg
/-- A finder that looks nowhere. -/
theorem look_never {C : FC} (h : C.stop < 0) : LookSaid C := by
  intro hb rc F w s f frm en hR ho hf he
  exact look_miss hR (.inl (by omega)) hf he
end Go.Proofs.YtkicpjjfeekopaaGreatDoor

namespace Go.Proofs.YtkicpjjfeekopaaGreatDoor
open Go.RowKit Go.Maps
theorem empty_len : LenI emptyS := ⟨Nat.le_refl _, Nat.le_refl _, Nat.le_refl _, by simp [emptyS], by simp [emptyS], fun _ => Nat.le_refl _, Nat.le_refl _⟩
theorem scope_ops {nm : Nat → Nat → Nam} {stop : Int} {t : Tree} (hc : cntT t ≤ 700000) : (withinS nm stop t 0 emptyS []).ops ≤ bigN := by
  unfold withinS
  rw [closeS_ops]
  have h1 := (nodeS_cost (nm := nm) (stop := stop) 700000 t 0 (countS nm [] (openS emptyS)) [] (by simp only [List.length_nil]; omega)).1
  have h2 : (countS nm [] (openS emptyS)).ops = 1 := rfl
  unfold bigN
  omega
theorem empty_ok {C : FC} (hb : C.bs.length < 100000) : FOk C 0 (openS emptyS) := by
  refine ⟨openS_len empty_len, by unfold bigN; exact (by decide : (1 : Nat) ≤ 1000000000000), openS_inv (emptyS_inv _ _), ?_, ⟨?_, ?_⟩, hb, Nat.zero_le _⟩
  · intro d hd; simp [openS, emptyS] at hd
  · intro x; simp [openS, emptyS, cntN]
  · simp [openS]
theorem FBody.empty (w : World) (bs : List UInt8) (stop : Int) : FBody ⟨w.heap.size + 1, w.heap.size, bs, stop⟩ [] (fun k => k = w.heap.size ∨ k = w.heap.size + 1) ((w.alloc (.map #[] 0)).alloc (.cells #[.string ⟨bs.toArray⟩, nilV, nilV, .map (some w.heap.size), nilV, .int .i64 stop, nilV] 119)) emptyS nilV nilV nilV nilV (fun _ => nilV) where
  blk := by
    have h1 := blkNew (w.alloc (.map #[] 0)) (.cells #[.string ⟨bs.toArray⟩, nilV, nilV, .map (some w.heap.size), nilV, .int .i64 stop, nilV] 119)
    simpa using h1
  D := World.ownsRow_nil _ _ _ _
  B := World.ownsRow_nil _ _ _ _
  L := World.ownsRow_nil _ _ _ _
  S := World.ownsRow_nil _ _ _ _
  K := (VMap.made w _ nilV).move (Below.heap_alloc _ _ _ (by simp))
  R := fun x => World.ownsRow_nil _ _ _ _
  sepK := fun _ _ _ => .inl rfl
  sepD := .inl rfl
  fK := fun x k h => by simp [nilV, Value.ownBlock] at h
  fV := fun k h => by simp [nilV, Value.ownBlock] at h
  f0 := ⟨.inr rfl, .inl rfl⟩
  lt := by rintro k (rfl | rfl) <;> simp <;> omega
  no27 := by
    rintro k (rfl | rfl) cs fr h
    · rw [Below.heap_alloc _ _ _ (by simp)] at h
      obtain ⟨es, ck, hm⟩ := (VMap.made w [] nilV).isMapBlk
      rw [hm] at h; cases h
    · have h1 : ((w.alloc (.map #[] 0)).alloc (.cells #[.string ⟨bs.toArray⟩, nilV, nilV, .map (some w.heap.size), nilV, .int .i64 stop, nilV] 119)).heap[w.heap.size + 1]? = some (.cells #[.string ⟨bs.toArray⟩, nilV, nilV, .map (some w.heap.size), nilV, .int .i64 stop, nilV] 119 (0, 0)) := by
        have h1 := blkNew (w.alloc (.map #[] 0)) (.cells #[.string ⟨bs.toArray⟩, nilV, nilV, .map (some w.heap.size), nilV, .int .i64 stop, nilV] 119)
        simpa using h1
      rw [h1] at h
      injection h with h
      injection h with _ h _
      cases h
theorem look_never0 {C : FC} (h : C.stop < 0) : LookSaid C := by
  intro hb rc F w s f frm en hR ho hf he
  exact look_miss hR (.inl (by omega)) hf he
theorem info37s : (Tryz.prog.info? 37).map (·.size) = some 2 := by kernel_rfl
theorem put2 {w1 : World} {b : Nat} {z0 z1 : Value} (hb1 : w1.heap[b]? = some (.cells #[z0, z1] 37 (0, 0))) (c0 c1 : Value) :
    ((w1.setCell ⟨b, 0, none⟩ c0).setCell ⟨b, 1, none⟩ c1).heap[b]? = some (.cells #[c0, c1] 37 (0, 0)) ∧ Fr (fun k => k = b) w1 ((w1.setCell ⟨b, 0, none⟩ c0).setCell ⟨b, 1, none⟩ c1) := by
  refine ⟨by have := blkSet (blkSet hb1 0 c0) 1 c1; simpa using this, ?_⟩
  refine ⟨rfl, rfl, rfl, by simp, fun k hk hn => ?_⟩
  have hn' : k ≠ b := hn
  rw [Below.heap_setCell _ _ _ _ hn', Below.heap_setCell _ _ _ _ hn']
/-- What scope.Of yields. -/
structure NamesV (s : FS) (w w' : World) (vD vB : Value) : Prop where
  D : w'.ownsRow 0 43 4 vD s.decls.length (declCells s.decls)
  B : w'.ownsRow 0 45 3 vB s.binds.length (bindCells s.binds)
  nD : ∀ k, vD.ownBlock = some k → w.heap.size ≤ k
  nB : ∀ k, vB.ownBlock = some k → w.heap.size ≤ k
set_option maxRecDepth 100000 in
set_option maxHeartbeats 2000000 in
theorem of_any (bs : List UInt8) (t : Tree) (cs : List Value) (P : Nat → Prop) (w : World) (hr : RepT w P t cs) (hT : TextT bs.length t) (hb : bs.length < 100000) (hc : cntT t ≤ 700000) (hK : ∀ C : FC, LookSaid C → KidsP C t) :
    Calls Tryz.prog 20 #[.string ⟨bs.toArray⟩, .agg cs.toArray] w fun e w' => ∃ vD vB, e = .returned (.tuple #[.agg #[vD, vB], .int .i64 0]) ∧ NamesV (scopeS (nmT bs) (-1) t) w w' vD vB ∧ Fr (fun _ => False) w w' := by
  have HR := Lib.hid hr; have HT := Lib.hid hT; have HB := Lib.hid hb; have HC := Lib.hid hc; have HK := Lib.hid hK
  obtain ⟨k, wt, wd, kids⟩ := t
  simp only [RepT] at hr
  obtain ⟨v, xs, rfl, ho, _, _⟩ := hr
  obtain ⟨a, cp, rfl, _, _⟩ := ownShape ho
  obtain ⟨txt, htxt⟩ : ∃ txt : ByteArray, txt = ⟨bs.toArray⟩ := ⟨_, rfl⟩
  have hsz : txt.size = bs.length := by rw [htxt]; simp [ByteArray.size]
  have hT' : TextT txt.size (.node k wt wd kids) := by rw [hsz]; exact hT
  have hb' : txt.size < 100000 := by omega
  rw [← htxt]
  have HT' := Lib.hid hT'; have HTX := Lib.hid htxt
  clear ho hT hb hc htxt hsz hT' hK
  have hmm := @run_makeMap Tryz.prog
  go_enter Tryz.func20, Tryz.ntmps20
  go_wp2_with fail
  have hal : Fr (fun _ => False) w ((w.alloc (.cells #[.int .u8 k, .int .u8 wt, .int .i64 wd, .slice a kids.length cp] 27)).alloc (.cells #[nilV, nilV] 37)) := ((Fr.refl _ _).alloc _).alloc _
  refine (may_any txt (.node k wt wd kids) _ P _ (HR.out.fr hal (fun _ _ _ h => h)) HT'.out hb').mono ?_
  rintro e w1 ⟨rfl, hf1⟩
  have hbx := hf1.blk (blkAlloc (blkNew w (.cells #[.int .u8 k, .int .u8 wt, .int .i64 wd, .slice a kids.length cp] 27)) (.cells #[nilV, nilV] 37)) (fun h => h)
  have hbr := hf1.blk (blkNew2 w (.cells #[.int .u8 k, .int .u8 wt, .int .i64 wd, .slice a kids.length cp] 27) (.cells #[nilV, nilV] 37)) (fun h => h)
  have hr1 := (HR.out.fr hal (fun _ _ _ h => h)).fr hf1 (fun _ _ _ h => h)
  have hf0 := hal.trans hf1
  have s0 : w.heap.size + 2 ≤ w1.heap.size := by have := hf1.size; simp at this; omega
  have b0 := blkCell hbx 0; have b1 := blkCell hbx 1; have b2 := blkCell hbx 2; have b3 := blkCell hbx 3
  have lbx := blkLt hbx
  have HBX := Lib.hid hbx; have HBR := Lib.hid hbr; have HR1 := Lib.hid hr1; have HF0 := Lib.hid hf0
  clear hbx hbr hr1 hf0 hal hf1
  go_wp2_with fail
  have hal2 : Fr (fun _ => False) w1 ((w1.alloc (.map #[] 0)).alloc (.cells #[.string txt, nilV, nilV, .map (some w1.heap.size), nilV, .int .i64 (-1), nilV] 119)) := ((Fr.refl _ _).alloc _).alloc _
  have hB0 := FBody.empty w1 bs (-1)
  rw [← HTX.out] at hB0
  refine (within_any (HK.out ⟨w1.heap.size + 1, w1.heap.size, bs, -1⟩ (look_never0 (by show (-1 : Int) < 0; decide))).said _ P 0 [] _ _ emptyS (.slice none 0 0) [] ⟨_, _, _, _, _, hB0⟩ empty_len (empty_ok HB.out) (HR1.out.fr hal2 (fun _ _ _ h => h)) HT.out.right.good (by rw [HT.out.file]; decide) (by rw [Nat.zero_add, HT.out.width]; exact Nat.le_refl _) (by have := HC.out; omega) (World.ownsRow_nil _ _ _ _) (by simp [Value.ownBlock]) (by simp) (by simp) (scope_ops HC.out)).mono ?_
  rintro e w3 ⟨rfl, F3, ⟨vD, vB, vL, vS, val, hB3⟩, hF3⟩
  have hs2 : ((w1.alloc (.map #[] 0)).alloc (.cells #[.string txt, nilV, nilV, .map (some w1.heap.size), nilV, .int .i64 (-1), nilV] 119)).heap.size = w1.heap.size + 2 := by simp
  have hbr3 := (hF3.keep (blkAlloc (blkAlloc HBR.out _) _) (by rintro (h | h) <;> omega)).1
  have d0 := blkCell hbr3 0; have d1 := blkCell hbr3 1
  have e0 := blkFree hbr3 0; have e1 := blkFree hbr3 1
  have lbr := blkLt hbr3
  have f1 := blkCell hB3.blk 1; have f2 := blkCell hB3.blk 2
  have lfb := blkLt hB3.blk
  obtain ⟨aD, cD, hvD, _, _⟩ := ownShape hB3.D
  obtain ⟨aB, cB, hvB, _, _⟩ := ownShape hB3.B
  have hneb : w.heap.size + 1 ≠ w1.heap.size + 1 := by omega
  have HB3 := Lib.hid hB3; have HF3 := Lib.hid hF3; have HBR3 := Lib.hid hbr3; have HAL2 := Lib.hid hal2
  rw [hvD] at f1
  rw [hvB] at f2
  obtain ⟨nD, hnD⟩ : ∃ nD, nD = (withinS (nmT bs) (-1) (.node k wt wd kids) 0 emptyS []).decls.length := ⟨_, rfl⟩
  obtain ⟨nB, hnB⟩ : ∃ nB, nB = (withinS (nmT bs) (-1) (.node k wt wd kids) 0 emptyS []).binds.length := ⟨_, rfl⟩
  rw [← hnD] at f1 hvD
  rw [← hnB] at f2 hvB
  have HVD := Lib.hid hvD; have HVB := Lib.hid hvB; have HND := Lib.hid hnD; have HNB := Lib.hid hnB
  clear hB3 hF3 hbr3 hal2 hB0 hvD hvB hnD hnB
  go_wp2_with fail
  obtain ⟨hW, hf4⟩ := put2 HBR3.out (.slice aD nD cD) (.slice aB nB cB)
  generalize ((w3.setCell ⟨w.heap.size + 1, 0, none⟩ (.slice aD nD cD)).setCell ⟨w.heap.size + 1, 1, none⟩ (.slice aB nB cB)) = W at *
  have hs0 := HF0.out.size
  refine bodyPost_ret (v := .tuple #[.agg #[.slice aD nD cD, .slice aB nB cB], .int .i64 0]) (resultsCT (fn := Tryz.f20) (p := 4) (u := 5) rfl _ _ (w.heap.size + 1) 37 #[.slice aD nD cD, .slice aB nB cB] (0, 0) _ rfl hW Tryz.underlying37 rfl info37s) rfl ⟨_, _, rfl, ?_, ?_⟩
  · have hD := HB3.out.D
    have hB := HB3.out.B
    refine ⟨?_, ?_, ?_, ?_⟩
    · rw [← HVD.out]
      exact ownMove hD (fun j hj hl => hf4.block j hl (by rintro rfl; exact rowNeBlk hD HBR3.out (by decide) hj))
    · rw [← HVB.out]
      exact ownMove hB (fun j hj hl => hf4.block j hl (by rintro rfl; exact rowNeBlk hB HBR3.out (by decide) hj))
    · intro j hj
      rw [← HVD.out] at hj
      rcases HF3.out.ext j (HB3.out.fV j (.inl hj)) with (h | h) | h <;> omega
    · intro j hj
      rw [← HVB.out] at hj
      rcases HF3.out.ext j (HB3.out.fV j (.inr (.inl hj))) with (h | h) | h <;> omega
  · exact ((HF0.out.trans HAL2.out).trans' HF3.out.fr (fun j hj e => by rcases e with h | h <;> omega)).trans' hf4 (fun j hj e => by have e' : j = w.heap.size + 1 := e; omega)
end Go.Proofs.YtkicpjjfeekopaaGreatDoor

namespace Go.Proofs.YtkicpjjfeekopaaGreatDoor
open Go.RowKit Go.Maps
set_option maxRecDepth 100000 in
set_option maxHeartbeats 2000000 in
theorem visible_any (bs : List UInt8) (pl : Int) (t : Tree) (cs : List Value) (P : Nat → Prop) (w : World) (hr : RepT w P t cs) (hT : TextT bs.length t) (hb : bs.length < 100000) (hc : cntT t ≤ 700000) (hK : ∀ C : FC, C.bs = bs → C.stop = pl → KidsP C t) :
    Calls Tryz.prog 21 #[.string ⟨bs.toArray⟩, .agg cs.toArray, .int .i64 pl] w fun e w' => ∃ vS, e = .returned (.tuple #[vS, .int .i64 0]) ∧ w'.ownsRow 0 43 4 vS (scopeS (nmT bs) pl t).shown.length (declCells (scopeS (nmT bs) pl t).shown) ∧ (∀ k, vS.ownBlock = some k → w.heap.size ≤ k) ∧ Fr (fun _ => False) w w' := by
  have HR := Lib.hid hr; have HT := Lib.hid hT; have HB := Lib.hid hb; have HC := Lib.hid hc; have HK := Lib.hid hK
  obtain ⟨k, wt, wd, kids⟩ := t
  simp only [RepT] at hr
  obtain ⟨v, xs, rfl, ho, _, _⟩ := hr
  obtain ⟨a, cp, rfl, _, _⟩ := ownShape ho
  obtain ⟨txt, htxt⟩ : ∃ txt : ByteArray, txt = ⟨bs.toArray⟩ := ⟨_, rfl⟩
  have hsz : txt.size = bs.length := by rw [htxt]; simp [ByteArray.size]
  have hT' : TextT txt.size (.node k wt wd kids) := by rw [hsz]; exact hT
  have hb' : txt.size < 100000 := by omega
  rw [← htxt]
  have HT' := Lib.hid hT'; have HTX := Lib.hid htxt
  clear ho hT hb hc htxt hsz hT' hK
  have hmm := @run_makeMap Tryz.prog
  go_enter Tryz.func21, Tryz.ntmps21
  go_wp2_with fail
  have hal : Fr (fun _ => False) w (w.alloc (.cells #[.int .u8 k, .int .u8 wt, .int .i64 wd, .slice a kids.length cp] 27)) := (Fr.refl _ _).alloc _
  refine (may_any txt (.node k wt wd kids) _ P _ (HR.out.fr hal (fun _ _ _ h => h)) HT'.out hb').mono ?_
  rintro e w1 ⟨rfl, hf1⟩
  have hbx := hf1.blk (blkNew w (.cells #[.int .u8 k, .int .u8 wt, .int .i64 wd, .slice a kids.length cp] 27)) (fun h => h)
  have hr1 := (HR.out.fr hal (fun _ _ _ h => h)).fr hf1 (fun _ _ _ h => h)
  have hf0 := hal.trans hf1
  have s0 : w.heap.size + 1 ≤ w1.heap.size := by have := hf1.size; simp at this; omega
  have b0 := blkCell hbx 0; have b1 := blkCell hbx 1; have b2 := blkCell hbx 2; have b3 := blkCell hbx 3
  have lbx := blkLt hbx
  have HBX := Lib.hid hbx; have HR1 := Lib.hid hr1; have HF0 := Lib.hid hf0
  clear hbx hr1 hf0 hal hf1
  go_wp2_with fail
  have hal2 : Fr (fun _ => False) w1 ((w1.alloc (.map #[] 0)).alloc (.cells #[.string txt, nilV, nilV, .map (some w1.heap.size), nilV, .int .i64 pl, nilV] 119)) := ((Fr.refl _ _).alloc _).alloc _
  have hB0 := FBody.empty w1 bs pl
  rw [← HTX.out] at hB0
  refine (within_any (HK.out ⟨w1.heap.size + 1, w1.heap.size, bs, pl⟩ rfl rfl).said _ P 0 [] _ _ emptyS (.slice none 0 0) [] ⟨_, _, _, _, _, hB0⟩ empty_len (empty_ok HB.out) (HR1.out.fr hal2 (fun _ _ _ h => h)) HT.out.right.good (by rw [HT.out.file]; decide) (by rw [Nat.zero_add, HT.out.width]; exact Nat.le_refl _) (by have := HC.out; omega) (World.ownsRow_nil _ _ _ _) (by simp [Value.ownBlock]) (by simp) (by simp) (scope_ops HC.out)).mono ?_
  rintro e w3 ⟨rfl, F3, ⟨vD, vB, vL, vS, val, hB3⟩, hF3⟩
  have hs2 : ((w1.alloc (.map #[] 0)).alloc (.cells #[.string txt, nilV, nilV, .map (some w1.heap.size), nilV, .int .i64 pl, nilV] 119)).heap.size = w1.heap.size + 2 := by simp
  have f6 := blkCell hB3.blk 6
  have lfb := blkLt hB3.blk
  have HB3 := Lib.hid hB3; have HF3 := Lib.hid hF3; have HAL2 := Lib.hid hal2
  clear hB3 hF3 hal2 hB0
  go_wp2_with fail
  go_ret2
  have hs0 := HF0.out.size
  refine ⟨_, rfl, HB3.out.S, ?_, ?_⟩
  · intro j hj
    rcases HF3.out.ext j (HB3.out.fV j (.inr (.inr (.inr hj)))) with (h | h) | h <;> omega
  · exact (HF0.out.trans HAL2.out).trans' HF3.out.fr (fun j hj e => by rcases e with h | h <;> omega)
end Go.Proofs.YtkicpjjfeekopaaGreatDoor

namespace Go.Proofs.YtkicpjjfeekopaaGreatDoor
open Go.RowKit Go.Maps
/-- What is shown of the first declarations. -/
def shT (nm : Nat → Nat → Nam) (stop : Int) (s : FS) (i : Nat) : List Dcl := (((s.decls.take i).zipIdx).filter fun x => decide (meansS s (nmD nm x.1) = some x.2) && decide ((x.1.to : Int) ≤ stop)).map (·.1)
theorem shT_all (nm : Nat → Nat → Nam) (stop : Int) (s : FS) : shT nm stop s s.decls.length = shownS nm stop s := by
  unfold shT shownS
  rw [List.take_length]
theorem shT_succ (nm : Nat → Nat → Nam) (stop : Int) (s : FS) (i : Nat) (d : Dcl) (h : s.decls[i]? = some d) : shT nm stop s (i + 1) = shT nm stop s i ++ if meansS s (nmD nm d) = some i ∧ (d.to : Int) ≤ stop then [d] else [] := by
  obtain ⟨hlt, he⟩ := List.getElem?_eq_some_iff.1 h
  unfold shT
  rw [List.take_succ_eq_append_getElem hlt, he, List.zipIdx_append, List.filter_append, List.map_append]
  congr 1
  have hl : (s.decls.take i).length = i := by rw [List.length_take]; omega
  rw [hl]
  simp only [Nat.zero_add, List.zipIdx_singleton, List.filter_cons, List.filter_nil]
  by_cases h1 : meansS s (nmD nm d) = some i <;> by_cases h2 : (d.to : Int) ≤ stop <;> simp [h1, h2]
/-- What has been marked, as what is left to come of the names. -/
structure AllB (nm : Nat → Nat → Nam) (s : FS) (left : Lit → Bool) (bl : List Bool) : Prop where
  len : bl.length = s.decls.length
  at_ : ∀ k d, s.decls[k]? = some d → (bl[k]? = some true ↔ meansS s (nmD nm d) = some k ∧ left (.string (nmD nm d)) = false)
theorem AllB.start {nm : Nat → Nat → Nam} {s : FS} {left : Lit → Bool} (h : ∀ x, meansS s x ≠ none → left (.string x) = true) : AllB nm s left (List.replicate s.decls.length false) := by
  refine ⟨by simp, fun k d hd => ⟨fun e => ?_, fun ⟨h1, h2⟩ => ?_⟩⟩
  · rw [List.getElem?_replicate] at e
    split at e <;> simp at e
  · have := h (nmD nm d) (by rw [h1]; simp)
    rw [h2] at this; cases this
theorem AllB.stop {nm : Nat → Nat → Nam} {s : FS} {left : Lit → Bool} {bl : List Bool} (h : AllB nm s left bl) (hl : ∀ kl, left kl = false) {k : Nat} {d : Dcl} (hd : s.decls[k]? = some d) : bl[k]? = some (decide (meansS s (nmD nm d) = some k)) := by
  have h1 := h.at_ k d hd
  have hlt : k < bl.length := by rw [h.len]; exact (List.getElem?_eq_some_iff.1 hd).1
  rw [List.getElem?_eq_getElem hlt] at h1 ⊢
  simp only [hl, and_true, Option.some.injEq] at h1 ⊢
  rw [← Bool.coe_iff_coe]
  simpa using h1
theorem sameK (x y : Nam) : (Lit.string x).sameKey (.string y) = decide (x = y) := by
  by_cases e : x = y
  · subst e
    rw [WideAt.sameKey_self (a := .string x) trivial]
    simp
  · cases h : (Lit.string x).sameKey (.string y)
    · simp [e]
    · have := WideAt.sameKey_eq h
      injection this with this
      exact absurd this e
theorem AllB.skip {nm : Nat → Nat → Nam} {s : FS} {left : Lit → Bool} {bl : List Bool} (h : AllB nm s left bl) {x : Nam} (hx : left (.string x) = true) (hm : meansS s x = none) : AllB nm s (fun z => left z && !z.sameKey (.string x)) bl := by
  refine ⟨h.len, fun k d hd => (h.at_ k d hd).trans ?_⟩
  constructor
  · rintro ⟨h1, h2⟩
    exact ⟨h1, by simp [h2]⟩
  · rintro ⟨h1, h2⟩
    refine ⟨h1, ?_⟩
    by_cases e : nmD nm d = x
    · rw [e] at h1; rw [hm] at h1; cases h1
    · simpa [sameK, e] using h2
theorem AllB.mark {nm : Nat → Nat → Nam} {s : FS} {left : Lit → Bool} {bl : List Bool} (h : AllB nm s left bl) {x : Nam} (hx : left (.string x) = true) {m : Nat} (hm : meansS s x = some m) (hk : ∀ k ∈ s.known x, ∃ d, s.decls[k]? = some d ∧ nmD nm d = x) : AllB nm s (fun z => left z && !z.sameKey (.string x)) (bl.set m true) := by
  obtain ⟨dm, hdm, hnm⟩ := hk m (List.mem_of_getLast? hm)
  have hlt : m < bl.length := by rw [h.len]; exact (List.getElem?_eq_some_iff.1 hdm).1
  refine ⟨by simp [h.len], fun k d hd => ?_⟩
  rw [List.getElem?_set]
  by_cases e : m = k
  · subst e
    rw [hd] at hdm
    injection hdm with hdm
    subst hdm
    rw [if_pos rfl, if_pos hlt, hnm]
    simp [hm, sameK]
  · rw [if_neg e]
    refine (h.at_ k d hd).trans ?_
    constructor
    · rintro ⟨h1, h2⟩
      exact ⟨h1, by simp [h2]⟩
    · rintro ⟨h1, h2⟩
      refine ⟨h1, ?_⟩
      by_cases e2 : nmD nm d = x
      · rw [e2, hm] at h1; injection h1 with h1; exact absurd h1 e
      · simpa [sameK, e2] using h2
/-- A name that means something has an entry. -/
theorem VMap.has_of {w : World} {b : Nat} {L : List Nam} {val : Nam → Value} {D : DataW Value} (h : NMap w heldR b L (.held nilV) (fun x => .held (val x)) D) {x : Nam} {n : Nat} {xs : List Value} (hr : w.ownsRow 0 3 1 (val x) n xs) (hn : 0 < n) : has D (.string x) = true := by
  cases hh : has D (.string x) with
  | true => rfl
  | false =>
    have h1 := h.at_ x
    rw [atKey_of_not_has hh] at h1
    injection h1 with h1
    rw [← h1] at hr
    obtain ⟨a, c, e, h2, _⟩ := ownShape hr
    unfold nilV at e
    injection e with _ e2 _
    omega
/-- Nothing is shown. -/
theorem FRep.unshown {C : FC} {hb : Nat} {rc : List Value} {F : Nat → Prop} {w : World} {s : FS} {vD vB vL vS vN : Value} {val : Nam → Value} {l : Lay} {r : List Lay} (h : FRep C hb rc F w s vD vB vL vS vN val l r) :
    FRep C hb rc F (w.setCell ⟨C.fb, 6, none⟩ nilV) { s with shown := [] } vD vB vL nilV vN val l r ∧ FrF F F w (w.setCell ⟨C.fb, 6, none⟩ nilV) := by
  have nb : ∀ {e sz n : Nat} {v : Value} {xs : List Value}, w.ownsRow 0 e sz v n xs → e ≠ 119 → (w.setCell ⟨C.fb, 6, none⟩ nilV).ownsRow 0 e sz v n xs := fun hr he => ownMove hr (fun k hk hl => Below.heap_setCell _ _ _ _ (by rintro rfl; exact rowNeBlk hr h.blk he hk))
  have nm : ∀ {b : Nat}, (∃ es ck, w.heap[b]? = some (.map es ck)) → (w.setCell ⟨C.fb, 6, none⟩ nilV).heap[b]? = w.heap[b]? := fun hm => Below.heap_setCell _ _ _ _ (fun e => blkNeMap h.blk hm e.symm)
  have hf : Fr F w (w.setCell ⟨C.fb, 6, none⟩ nilV) := ⟨rfl, rfl, rfl, by simp, fun k hk hn => Below.heap_setCell _ _ _ _ (fun e => hn (e ▸ h.f0.1))⟩
  refine ⟨⟨blkSet h.blk 6 nilV, nb h.D (by decide), nb h.B (by decide), nb h.L (by decide), World.ownsRow_nil _ _ _ _, h.lay, nb h.N (by decide), h.H.move (nm h.H.isMapBlk), h.K.move (nm h.K.isMapBlk), fun x => nb (h.R x) (by decide), h.sepK, ?_, h.sepM, h.fK, ?_, h.f0, fun k hk => by simpa using h.lt k hk, ?_⟩, hf, fun k hk => .inl hk⟩
  · cases hv : vD.ownBlock with
    | none => exact .inl rfl
    | some g => exact .inr (by simp [nilV, Value.ownBlock])
  · rintro k (h1 | h1 | h1 | h1 | h1)
    · exact h.fV k (.inl h1)
    · exact h.fV k (.inr (.inl h1))
    · exact h.fV k (.inr (.inr (.inl h1)))
    · simp [nilV, Value.ownBlock] at h1
    · exact h.fV k (.inr (.inr (.inr (.inr h1))))
  · intro k hk cs fr hcs
    by_cases e : k = C.fb
    · subst e
      rw [blkSet h.blk 6 nilV] at hcs
      injection hcs with hcs; injection hcs with _ hcs _; cases hcs
    · rw [Below.heap_setCell _ _ _ _ e] at hcs
      exact h.no27 k hk cs fr hcs
/-- One more is shown. -/
theorem FRep.showed {C : FC} {hb : Nat} {rc : List Value} {F : Nat → Prop} {w w' : World} {s : FS} {vD vB vL vS vN v' : Value} {val : Nam → Value} {l : Lay} {r : List Lay} {d : Dcl} {n : Nat} (h : FRep C hb rc F w s vD vB vL vS vN val l r)
    (hP : Grew C.fb 6 vS 43 4 n (declCells s.shown) (dCells d) #[.string ⟨C.bs.toArray⟩, vD, vB, .map (some C.kb), vL, .int .i64 C.stop, vS] 119 w w' v') (hn : n = s.shown.length) :
    ∃ F', FRep C hb rc F' w' { s with shown := s.shown ++ [d] } vD vB vL v' vN val l r ∧ FrF F F' w w' := by
  subst hn
  obtain ⟨gq, hgq, hloc, hlt⟩ := hP.loc
  have hgF : F gq ∨ w.heap.size ≤ gq := by
    rcases hloc with h' | h'
    · exact .inl (h.fV gq (.inr (.inr (.inr (.inl h')))))
    · exact .inr h'
  have keep : ∀ k, k < w.heap.size → k ≠ C.fb → vS.ownBlock ≠ some k → w'.heap[k]? = w.heap[k]? := fun k hk h1 h2 => hP.fr.block k hk (by rintro (e | e); exact h1 e; exact h2 e)
  have keepRow : ∀ {e sz n : Nat} {v : Value} {xs : List Value}, w.ownsRow 0 e sz v n xs → e ≠ 119 → e ≠ 43 → w'.ownsRow 0 e sz v n xs := by
    intro e sz n v xs hr h119 h43
    refine ownMove hr (fun k hk hl => keep k hl ?_ (rowNe hr h.S h43 hk))
    rintro rfl; exact rowNeBlk hr h.blk h119 hk
  have hDS : ∀ k, vD.ownBlock = some k → vS.ownBlock ≠ some k := by
    intro k hk e
    rcases h.sepD with h1 | h1
    · rw [h1] at hk; cases hk
    · exact h1 (by rw [hk, e])
  have hsz := hP.fr.size
  have nfb : ∀ {b' : Nat}, (∃ es ck, w.heap[b']? = some (.map es ck)) → b' ≠ C.fb := fun hm e => blkNeMap h.blk hm e.symm
  have hB' : ∀ {e sz n : Nat} {v : Value} {xs : List Value}, w.ownsRow 0 e sz v n xs → e ≠ 43 → ∀ k, v.ownBlock = some k → vS.ownBlock ≠ some k := fun hr he k hk => rowNe hr h.S he hk
  refine ⟨fun k => (F k ∧ vS.ownBlock ≠ some k) ∨ k = gq, ⟨hP.blk, ?_, keepRow h.B (by decide) (by decide), keepRow h.L (by decide) (by decide), ?_, h.lay, keepRow h.N (by decide) (by decide), ?_, ?_, fun x => keepRow (h.R x) (by decide) (by decide), h.sepK, ?_, h.sepM, ?_, ?_, ⟨.inl ⟨h.f0.1, rowNeBlk h.S h.blk (by decide)⟩, .inl ⟨h.f0.2.1, rowNeMap h.S h.K.isMapBlk⟩, .inl ⟨h.f0.2.2, rowNeMap h.S h.H.isMapBlk⟩⟩, ?_, ?_⟩, ⟨?_, ?_⟩⟩
  · refine ownMove h.D (fun k hk hl => keep k hl ?_ (hDS k hk))
    rintro rfl; exact rowNeBlk h.D h.blk (by decide) hk
  · simp only [List.length_append, List.length_singleton, declCells_append, declCells, List.append_nil]
    exact hP.own
  · exact h.H.move (keep _ (h.lt _ h.f0.2.2) (nfb h.H.isMapBlk) (rowNeMap h.S h.H.isMapBlk))
  · exact h.K.move (keep _ (h.lt _ h.f0.2.1) (nfb h.K.isMapBlk) (rowNeMap h.S h.K.isMapBlk))
  · cases hv : vD.ownBlock with
    | none => exact .inl rfl
    | some g =>
      refine .inr ?_
      rw [hgq]
      intro e
      injection e with e
      subst e
      rcases hloc with h1 | h1
      · exact hDS g hv h1
      · have := h.lt g (h.fV g (.inl hv)); omega
  · exact fun x k hk => .inl ⟨h.fK x k hk, hB' (h.R x) (by decide) k hk⟩
  · rintro k (h1 | h1 | h1 | h1 | h1)
    · exact .inl ⟨h.fV k (.inl h1), hDS k h1⟩
    · exact .inl ⟨h.fV k (.inr (.inl h1)), hB' h.B (by decide) k h1⟩
    · exact .inl ⟨h.fV k (.inr (.inr (.inl h1))), hB' h.L (by decide) k h1⟩
    · rw [hgq] at h1; injection h1 with h1; exact .inr h1.symm
    · exact .inl ⟨h.fV k (.inr (.inr (.inr (.inr h1)))), hB' h.N (by decide) k h1⟩
  · rintro k (h1 | rfl)
    · exact Nat.lt_of_lt_of_le (h.lt k h1.1) hsz
    · exact hlt
  · obtain ⟨cur, hc⟩ := ownBlk hP.own hgq
    rintro k h1 cs fr hcs
    rcases h1 with ⟨h1, hvB⟩ | rfl
    · by_cases hfb : k = C.fb
      · subst hfb; rw [hP.blk] at hcs; injection hcs with hcs; injection hcs with _ hcs _; cases hcs
      · exact h.no27 k h1 cs fr (by rw [← keep k (h.lt k h1) hfb hvB]; exact hcs)
    · rw [hc] at hcs; injection hcs with hcs; injection hcs with _ hcs _; cases hcs
  · exact hP.fr.mono (fun i _ h' => by
      rcases h' with h' | h'
      · exact h' ▸ h.f0.1
      · exact h.fV i (.inr (.inr (.inr (.inl h')))))
  · rintro k (h1 | rfl)
    · exact .inl h1.1
    · exact hgF
end Go.Proofs.YtkicpjjfeekopaaGreatDoor

namespace Go.Proofs.YtkicpjjfeekopaaGreatDoor
open Go.RowKit Go.Maps
theorem info4 : (Tryz.prog.info? 4).map (fun i => (i.zero, i.size, i.bytes)) = some (some (.bool false), 1, 1) := by kernel_rfl
theorem key9_inv {key : Value} {kl : Lit} (h : keyOf Tryz.prog 9 key = some kl) : ∃ x, key = .string x := keyOf_string_inv Tryz.underlying9 h
theorem key9_kl {x : ByteArray} {kl : Lit} (h : keyOf Tryz.prog 9 (.string x) = some kl) : kl = .string x.data.toList ∧ x.size ≤ maxLen := by
  simp [keyOf, Tryz.underlying9, mapKey] at h
  exact ⟨h.2.symm, h.1⟩
theorem sliceBlk {g g' n n' c c' : Nat} (h : Value.slice (some ⟨g, 0, none⟩) n c = .slice (some ⟨g', 0, none⟩) n' c') : g = g' := by injection h with h; injection h with h; injection h
theorem sliceAt {a b : Option Addr} {n n' c c' : Nat} (h : Value.slice a n c = .slice b n' c') : a = b := by injection h
theorem shT_len (nm : Nat → Nat → Nam) (stop : Int) (s : FS) (i : Nat) : (shT nm stop s i).length ≤ s.decls.length := by
  unfold shT
  rw [List.length_map]
  refine Nat.le_trans (List.length_filter_le _ _) ?_
  rw [List.length_zipIdx, List.length_take]
  omega
/-- The first loop's relation. -/
def LRel (C : FC) (s : FS) (r0 ab nD : Nat) (D : DataW Value) (w wr : World) : Prop :=
  ∃ left cnt bl, wr.ranges Tryz.prog 9 heldR C.kb r0 (dNames C.bs s.decls).length D left cnt ∧ Fr (fun _ => False) w wr ∧ wr.ownsRow 0 4 1 (.slice (some ⟨ab, 0, none⟩) nD nD) nD (bl.map Value.bool) ∧ AllB (nmT C.bs) s left bl
/-- The second loop's relation. -/
def LRel2 (C : FC) (hb : Nat) (rc : List Value) (F : Nat → Prop) (s : FS) (vD vB vL vN : Value) (val : Nam → Value) (l : Lay) (r : List Lay) (ab nD : Nat) (bl : List Bool) (w : World) (i : Nat) (wr : World) : Prop :=
  ∃ F2 vS2, FRep C hb rc F2 wr { s with shown := shT (nmT C.bs) C.stop s i } vD vB vL vS2 vN val l r ∧ FrF F F2 w wr ∧ wr.ownsRow 0 4 1 (.slice (some ⟨ab, 0, none⟩) nD nD) nD (bl.map Value.bool) ∧ ¬ F2 ab
theorem LRel2.skip {C : FC} {hb : Nat} {rc : List Value} {F F2 : Nat → Prop} {s : FS} {vD vB vL vS2 vN : Value} {val : Nam → Value} {l : Lay} {r : List Lay} {ab nD : Nat} {bl : List Bool} {w wr wr' : World} {i : Nat} {d : Dcl}
    (hR : FRep C hb rc F2 wr { s with shown := shT (nmT C.bs) C.stop s i } vD vB vL vS2 vN val l r) (hF : FrF F F2 w wr) (hrow : wr.ownsRow 0 4 1 (.slice (some ⟨ab, 0, none⟩) nD nD) nD (bl.map Value.bool)) (hna : ¬ F2 ab) (hf : Fr (fun _ => False) wr wr') (hd : s.decls[i]? = some d)
    (hno : ¬ (meansS s (nmD (nmT C.bs) d) = some i ∧ (d.to : Int) ≤ C.stop)) : LRel2 C hb rc F s vD vB vL vN val l r ab nD bl w (i + 1) wr' := by
  refine ⟨F2, vS2, ?_, hF.trans (FrF.of0 hf), ownMove hrow (fun k _ hl => hf.block k hl (fun h => h)), hna⟩
  rw [shT_succ _ _ _ _ _ hd, if_neg hno, List.append_nil]
  exact hR.fr0 hf
set_option maxRecDepth 100000 in
set_option maxHeartbeats 8000000 in
theorem look_hit {C : FC} {hb : Nat} {rc : List Value} {F : Nat → Prop} {w : World} {s : FS} {f frm en : Nat} (h : FRE C hb rc F w s) (ho : FOk C f s) (hm : ¬ (C.stop < frm ∨ (en : Int) ≤ C.stop)) (hf : frm ≤ 100000) (he : en ≤ 100000) :
    Calls Tryz.prog 121 #[.pointer (some ⟨C.fb, 0, none⟩), .int .i64 frm, .int .i64 en] w fun e w' => e = .returned (.tuple #[]) ∧ ∃ F', FRE C hb rc F' w' (lookS (nmT C.bs) C.stop frm en s) ∧ FrF F F' w w' := by
  have hl : lookS (nmT C.bs) C.stop frm en s = { s with shown := shownS (nmT C.bs) C.stop s } := by unfold lookS; rw [if_neg hm]
  rw [hl]
  obtain ⟨vD, vB, vL, vS, vN, val, l, r, hR⟩ := h
  obtain ⟨st, hst⟩ : ∃ st, st = C.stop := ⟨_, rfl⟩
  rw [← hst] at hm
  have q1 : decide (st < (frm : Int)) = false := by simp; omega
  have q2 : decide ((en : Int) ≤ st) = false := by simp; omega
  obtain ⟨aD, cD, hvD, hncD, _⟩ := ownShape hR.D
  obtain ⟨nD, hnD⟩ : ∃ nD, nD = s.decls.length := ⟨_, rfl⟩
  rw [← hnD] at hvD hncD
  have hnb : nD ≤ 1000000000000 := by have h1 := ho.len.decls; have h2 := ho.ops; unfold bigN at h2; omega
  obtain ⟨i4, hi4, hz0, hz1, hz2⟩ := info_parts info4
  obtain ⟨w1, hmk, hrow1, hg1⟩ := run_make_full w 0 108 4 i4 (.bool false) 1 Tryz.underlying108 hi4 hz0 hz1 .i64 .i64 nD (by rw [hz2]; omega) (by unfold maxLen; omega) (Nat.zero_le _)
  have hf1 : Fr (fun _ => False) w w1 := Fr.of_grown hg1 (fun k e => by cases e)
  have hR1 := hR.fr0 hf1
  have c1 := blkCell hR.blk 1; have c5 := blkCell hR.blk 5
  have e3 := blkCell hR1.blk 3
  have lfb := blkLt hR.blk; have lfb1 := blkLt hR1.blk
  rw [hvD] at c1
  rw [← hst] at c5
  obtain ⟨D, hN1⟩ := hR1.K
  have HR := Lib.hid hR; have HR1 := Lib.hid hR1; have HO := Lib.hid ho; have HST := Lib.hid hst; have HVD := Lib.hid hvD; have HND := Lib.hid hnD; have HROW1 := Lib.hid hrow1; have HG1 := Lib.hid hg1; have HF1 := Lib.hid hf1; have HN1 := Lib.hid hN1
  clear hR hR1 ho hst hvD hnD hrow1 hg1 hf1 hN1 hm hl
  go_enter Tryz.func121, Tryz.ntmps121
  go_wp2_with (first
    | (at_range; refine wpList_range_own _ rfl _ 116 rfl 9 53 keyed9 Tryz.underlying116 heldR C.kb _ D rfl HN1.out.own ?_; intro w2 hrg2 hg2 hs2; have HRG2 := Lib.hid hrg2; have HG2 := Lib.hid hg2; have HS2 := Lib.hid hs2; clear hrg2 hg2 hs2)
    | fail)
  go_frame
  have hL0 : LRel C s w1.heap.size w.heap.size nD D w w2 := by
    refine ⟨_, _, List.replicate nD false, HRG2.out, HF1.out.trans (Fr.of_grown HG2.out (fun k e => by cases e)), ?_, ?_⟩
    · have h1 : (madeCells (Value.bool false).cells (nD * 1)).toList = (List.replicate nD false).map Value.bool := by
        rw [Nat.mul_one, List.map_replicate]; exact toList_madeCells_one _ _
      have h2 := HROW1.out
      rw [h1] at h2
      exact grownRow HG2.out h2 (fun k _ e => by cases e)
    · rw [HND.out]
      refine AllB.start (fun x hx => ?_)
      refine VMap.has_of HN1.out (HR1.out.R x) ?_
      cases hk : s.known x with
      | nil => exact absurd (by unfold meansS; rw [hk]; rfl) hx
      | cons a t => simp
  have HL0 := Lib.hid hL0
  clear hL0
  go_loopw [7, 8] (fun _ _ wr => LRel C s w1.heap.size w.heap.size nD D w wr) (fun _ _ wr => wr.rangeLeft C.kb w1.heap.size)
  case atStart => exact HL0.out
  case round =>
    obtain ⟨left, cnt, bl, hrg, hfr, hrow, hab⟩ := hrel
    have HRG := Lib.hid hrg; have HFR := Lib.hid hfr; have HROW := Lib.hid hrow; have HAB := Lib.hid hab
    clear hrg hfr hrow hab
    go_wp2_with (first
      | (at_next; refine wpList_next_ranges (α := ByteArray) (β := Value) _ rfl _ rfl 9 keyed9 heldR Value.string id (fun key kl hk => key9_inv hk) (fun v y _ => ⟨v, rfl⟩) C.kb w1.heap.size _ D _ _ rfl HRG.out ?_ ?_)
      | fail)
    · intro _ hl0
      have hRr := HR.out.fr0 HFR.out
      have hun := FRep.unshown hRr
      have hb6 := blkCell hRr.blk 6
      have hf6 := blkFree hRr.blk 6
      have lfr := blkLt hRr.blk
      have hb0 : w.heap.size < w1.heap.size := by obtain ⟨c, hc⟩ := ownBlk (k := w.heap.size) HROW1.out rfl; exact blkLt hc
      have hrow9 : (wr.setCell ⟨C.fb, 6, none⟩ nilV).ownsRow 0 4 1 (.slice (some ⟨w.heap.size, 0, none⟩) nD nD) nD (bl.map Value.bool) := ownMove HROW.out (fun k hk hl => Below.heap_setCell _ _ _ _ (by rintro rfl; exact rowNeBlk HROW.out hRr.blk (by decide) hk))
      have hnaF : ¬ F w.heap.size := fun h => by have := HR.out.lt _ h; omega
      have hstop : ∀ k d, s.decls[k]? = some d → bl[k]? = some (decide (meansS s (nmD (nmT C.bs) d) = some k)) := fun k d hd => HAB.out.stop hl0 hd
      have hF9 : FrF F F w (wr.setCell ⟨C.fb, 6, none⟩ nilV) := (FrF.of0 HFR.out).trans hun.2
      have HUN := Lib.hid hun.1; have HROW9 := Lib.hid hrow9; have HNA := Lib.hid hnaF; have HSTOP := Lib.hid hstop; have HF9 := Lib.hid hF9
      clear hRr hun hrow9 hnaF hstop hF9 hl0
      go_upto_region 9 with (fail)
      change Code.wp Tryz.prog _ _ _ (wr.setCell ⟨C.fb, 6, none⟩ nilV)
      generalize (wr.setCell ⟨C.fb, 6, none⟩ nilV) = w9 at *
      have d1 := blkCell HUN.out.blk 1
      have ld9 := blkLt HUN.out.blk
      rw [HVD.out] at d1
      go_wp2_with fail
      go_loopw [9, 10, 58] (fun _ _ x wr2 => ∃ i : Nat, i ≤ nD ∧ x = .int .i64 i ∧ LRel2 C hb rc F s vD vB vL vN val l r w.heap.size nD bl w i wr2) (fun _ _ x _ => nD - (intOf x).toNat)
      case atStart => exact ⟨0, Nat.zero_le _, rfl, F, nilV, HUN.out, HF9.out, HROW9.out, HNA.out⟩
      case round =>
        obtain ⟨i, hi, rfl, F2, vS2, hR2, hF2, hrow2, hna2⟩ := hrel
        by_cases hlt : i < nD
        · obtain ⟨d, hd⟩ : ∃ d, s.decls[i]? = some d := ⟨_, List.getElem?_eq_getElem (by rw [← HND.out]; exact hlt)⟩
          have hbl := HSTOP.out i d hd
          have hDr := hR2.D
          have hdl : (declCells s.decls).length = s.decls.length * 4 := hDr.1
          obtain ⟨gD, cD2, hvD2, hcD2, hx0⟩ := ownAt hDr (i * 4) (by rw [hdl, ← HND.out]; omega)
          obtain ⟨_, _, hvD3, _, hx1⟩ := ownAt hDr (i * 4 + 1) (by rw [hdl, ← HND.out]; omega)
          rw [hvD2] at hvD3; have e1 := sliceBlk hvD3; clear hvD3; subst e1
          obtain ⟨_, _, hvD3, _, hx2⟩ := ownAt hDr (i * 4 + 2) (by rw [hdl, ← HND.out]; omega)
          rw [hvD2] at hvD3; have e1 := sliceBlk hvD3; clear hvD3; subst e1
          obtain ⟨_, _, hvD3, _, hx3⟩ := ownAt hDr (i * 4 + 3) (by rw [hdl, ← HND.out]; omega)
          rw [hvD2] at hvD3; have e1 := sliceBlk hvD3; clear hvD3; subst e1
          have hvD2' := hvD2
          rw [HVD.out] at hvD2'
          have e1 := sliceAt hvD2'
          clear hvD2'
          subst e1
          have hd' := hd
          obtain ⟨dfr, den, dkd, dag⟩ := d
          have hd0 : (declCells s.decls)[i * 4]? = some (.int .i64 dfr) := declCells_get _ _ _ hd 0 (by omega)
          have hd1 : (declCells s.decls)[i * 4 + 1]? = some (.int .i64 den) := declCells_get _ _ _ hd 1 (by omega)
          have hd2 : (declCells s.decls)[i * 4 + 2]? = some (.int .u8 dkd) := declCells_get _ _ _ hd 2 (by omega)
          have hd3 : (declCells s.decls)[i * 4 + 3]? = some (.bool dag) := declCells_get _ _ _ hd 3 (by omega)
          rw [hd0] at hx0
          rw [hd1] at hx1
          rw [hd2] at hx2
          rw [hd3] at hx3
          obtain ⟨bq, hbq⟩ : ∃ bq : Bool, bq = decide (meansS s (nmD (nmT C.bs) ⟨dfr, den, dkd, dag⟩) = some i) := ⟨_, rfl⟩
          rw [← hbq] at hbl
          have hbll : i < bl.length := (List.getElem?_eq_some_iff.1 hbl).1
          obtain ⟨g4, c4, hv4, _, hx4⟩ := ownAt hrow2 i (by rw [List.length_map]; exact hbll)
          obtain rfl : w.heap.size = g4 := by injection hv4 with e1; injection e1 with e1; injection e1
          rw [List.getElem?_map, hbl] at hx4
          have hx4' : wr.cell? ⟨w.heap.size, i, none⟩ = some (.bool bq) := hx4
          have c5 := blkCell hR2.blk 5
          rw [← HST.out] at c5
          have lfb2 := blkLt hR2.blk
          have hli : (i : Int) < (nD : Int) := by omega
          obtain ⟨curD, hcurD⟩ := ownBlk (k := gD) hDr (by rw [hvD2]; rfl)
          have lgD := blkLt hcurD
          obtain ⟨cur4, hcur4⟩ := ownBlk (k := w.heap.size) hrow2 rfl
          have l4 := blkLt hcur4
          have HR2 := Lib.hid hR2; have HF2 := Lib.hid hF2; have HROW2 := Lib.hid hrow2; have HNA2 := Lib.hid hna2; have HD := Lib.hid hd; have HBQ := Lib.hid hbq
          clear hR2 hF2 hrow2 hna2 hd hbq hDr hdl hvD2 hd' hd0 hd1 hd2 hd3 hcurD hcur4 hv4 hx4 hbl hbll
          cases bq with
          | false =>
            go_wp2_with fail
            go_quiet (fail)
            go_wp2_with fail
            go_roundw
            case rel => exact ⟨i + 1, by omega, by go_num, LRel2.skip HR2.out HF2.out HROW2.out HNA2.out (((Fr.refl _ _).alloc _).drewN _) HD.out (fun h => by have := HBQ.out; rw [decide_eq_true h.1] at this; cases this)⟩
            case measure => simp [intOf]; omega
          | true =>
            by_cases hle : (den : Int) ≤ st
            · have q3 : decide ((den : Int) ≤ st) = true := by simpa using hle
              go_wp2_with fail
              go_quiet (fail)
              go_upto_region 13 with (fail)
              have hal : Fr (fun _ => False) wr ((wr.alloc (.cells #[.int .i64 dfr, .int .i64 den, .int .u8 dkd, .bool dag] 43)).drewN nq) := ((Fr.refl _ _).alloc _).drewN _
              have hbx : ((wr.alloc (.cells #[.int .i64 dfr, .int .i64 den, .int .u8 dkd, .bool dag] 43)).drewN nq).heap[wr.heap.size]? = some (.cells #[.int .i64 dfr, .int .i64 den, .int .u8 dkd, .bool dag] 43 (0, 0)) := blkNew wr _
              change Code.wp Tryz.prog _ _ _ ((wr.alloc (.cells #[.int .i64 dfr, .int .i64 den, .int .u8 dkd, .bool dag] 43)).drewN nq)
              generalize ((wr.alloc (.cells #[.int .i64 dfr, .int .i64 den, .int .u8 dkd, .bool dag] 43)).drewN nq) = w3 at *
              have hR3 := HR2.out.fr0 hal
              obtain ⟨sh, hsh⟩ : ∃ sh, sh = shT (nmT C.bs) C.stop s i := ⟨_, rfl⟩
              rw [← hsh] at hR3
              obtain ⟨aS, cS, hvS, hncS, _⟩ := ownShape hR3.S
              obtain ⟨nS, hnS⟩ : ∃ nS, nS = sh.length := ⟨_, rfl⟩
              have hvS' : vS2 = .slice aS nS cS := by rw [hnS]; exact hvS
              have hncS' : nS ≤ cS := by rw [hnS]; exact hncS
              have hnSb : nS ≤ 1000000000000 := by have h1 := shT_len (nmT C.bs) C.stop s i; rw [← hsh, ← hnS, ← HND.out] at h1; omega
              have g6 := blkCell hR3.blk 6
              rw [hvS'] at g6
              have b0 := blkCell hbx 0; have b1 := blkCell hbx 1; have b2 := blkCell hbx 2; have b3 := blkCell hbx 3
              have lbx := blkLt hbx
              have lfb3 := blkLt hR3.blk
              obtain ⟨i0, hi0, hy0, hy1, hy2⟩ := info_parts info43
              have HR3 := Lib.hid hR3; have HAL := Lib.hid hal; have HSH := Lib.hid hsh; have HVS := Lib.hid hvS'; have HNS := Lib.hid hnS
              clear hR3 hal hsh hvS hvS' hnS hncS hbx
              go_region_law ((refine step_append_lies _ (by rfl) (.tmp 81) (.tmp 83) 34 (by rfl) 0 43 i0 (.agg #[.int .i64 0, .int .i64 0, .int .u8 0, .bool false]) 4 24 Tryz.underlying34 hi0 hy0 hy1 hy2 rfl (by decide) (.slice aS nS cS) nS (declCells sh) (by simp [Act.eval, Act.put]) (by rw [← HVS.out, HNS.out]; exact (HR3.out.S.alloc _).drew) _ 1 1 [.int .i64 dfr, .int .i64 den, .int .u8 dkd, .bool dag] (by simp [Act.eval, Act.put]; rfl) rfl (by exact cells4 (blkNew w3 _)) (by intro u hu; simp at hu; rcases hu with rfl | rfl | rfl | rfl <;> rfl) (by decide) (by unfold maxLen; omega) (by omega) (Nat.zero_le _) _ rfl ?_; intro gq cap w4 hown hgr hat hlt; have hb4 := grownBlk hgr (blkAlloc HR3.out.blk _) (by rw [← HVS.out]; exact fun e => rowNeBlk HR3.out.S HR3.out.blk (by decide) e.symm); have m0 := blkCell hb4 6; have m1 := blkFree hb4 6; have m2 := blkLt hb4; have HG4 := Lib.hid hgr; have HO4 := Lib.hid hown; have HAT4 := Lib.hid hat; have HLT4 := Lib.hid hlt; clear hgr hown hat hb4 hlt))
              all_goals
                go_wp2_with fail
                obtain ⟨v', hGr⟩ := Grew.mk' (fb := C.fb) (j := 6) (e := 43) (size := 4) (new := [.int .i64 dfr, .int .i64 den, .int .u8 dkd, .bool dag]) HR3.out.blk (by rw [HNS.out]; exact HR3.out.S) (by decide) HVS.out (((Fr.refl (fun _ => False) w3).alloc _).drew) HO4.out HG4.out HAT4.out HLT4.out rfl
                obtain ⟨F5, hR5, hF5⟩ := FRep.showed (d := ⟨dfr, den, dkd, dag⟩) HR3.out hGr HNS.out
                have hrk := (FrF.of0 (F := F2) HAL.out).keepRow HROW2.out (fun k hk hF => by simp [Value.ownBlock] at hk; subst hk; exact HNA2.out hF)
                have hrk5 := hF5.keepRow hrk.1 hrk.2
                have hrel5 := (⟨F5, v', by rw [shT_succ _ _ _ _ _ HD.out, if_pos ⟨of_decide_eq_true HBQ.out.symm, by rw [← HST.out]; exact hle⟩, ← HSH.out]; exact hR5, (HF2.out.trans (FrF.of0 HAL.out)).trans hF5, hrk5.1, hrk5.2 _ rfl⟩ : LRel2 C hb rc F s vD vB vL vN val l r w.heap.size nD bl w (i + 1) _)
                go_roundw
                case rel => exact ⟨i + 1, by omega, by go_num, hrel5⟩
                case measure => simp [intOf]; omega
            · have q3 : decide ((den : Int) ≤ st) = false := by simpa using hle
              go_wp2_with fail
              go_quiet (fail)
              go_wp2_with fail
              go_roundw
              case rel => exact ⟨i + 1, by omega, by go_num, LRel2.skip HR2.out HF2.out HROW2.out HNA2.out (((Fr.refl _ _).alloc _).drewN _) HD.out (fun h => by have h3 : (den : Int) ≤ C.stop := h.2; rw [← HST.out] at h3; omega)⟩
              case measure => simp [intOf]; omega
        · obtain rfl : i = nD := by omega
          have HR2 := Lib.hid hR2; have HF2 := Lib.hid hF2
          clear hR2 hF2 hrow2 hna2
          go_wp2_with fail
          go_end0
          refine ⟨rfl, F2, ?_, HF2.out⟩
          have h1 := HR2.out
          rw [HND.out, shT_all] at h1
          exact ⟨_, _, _, _, _, _, _, _, h1⟩
    · intro x v kl y y2 w3 cnt3 hkey hlx _ _ hrg3 hlt3 hg3 hs3 hen
      obtain ⟨hkl, hxs⟩ := key9_kl hkey
      subst hkl
      have hb0 : w.heap.size < w1.heap.size := by obtain ⟨c, hc⟩ := ownBlk (k := w.heap.size) HROW1.out rfl; exact blkLt hc
      have hf3 : Fr (fun _ => False) w w3 := HFR.out.trans' (Fr.of_grown (S := fun k => k = w1.heap.size) hg3 (fun k e => by injection e with e; exact e.symm)) (fun i hi e => by have e' : i = w1.heap.size := e; omega)
      have hR3 := HR.out.fr0 hf3
      have hrow3 := grownRow hg3 HROW.out (fun k hk e => by simp [Value.ownBlock] at hk; injection e with e; omega)
      obtain ⟨cur, hcur⟩ := ownBlk (k := w.heap.size) hrow3 rfl
      have hkb : (s.known x.data.toList).length ≤ 1099511627776 := by have h1 := HO.out.len.known x.data.toList; have h2 := HO.out.ops; unfold bigN at h2; omega
      have HF3 := Lib.hid hf3; have HR3 := Lib.hid hR3; have HROW3 := Lib.hid hrow3; have HCUR := Lib.hid hcur; have HKB := Lib.hid hkb; have HRG3 := Lib.hid hrg3; have HLX := Lib.hid hlx; have HXS := Lib.hid hxs; have HG3 := Lib.hid hg3
      clear hf3 hR3 hrow3 hcur hkb hrg3 hlx hxs hg3 hkey
      cases hms : meansS s x.data.toList with
      | none =>
        have HMS := Lib.hid hms
        clear hms
        go_wp2_with fail
        refine (means_any HR3.out x HXS.out HKB.out).mono ?_
        rintro e w4 ⟨rfl, rfl⟩
        rw [HMS.out, show dfnI none = -1 from rfl]
        go_wp2_with fail
        exact ⟨⟨_, cnt3, bl, HRG3.out, HF3.out, HROW3.out, HAB.out.skip HLX.out HMS.out⟩, by rw [HRG3.out.left_eq, HRG.out.left_eq]; exact hlt3⟩
      | some m =>
        obtain ⟨dm, hdm, _⟩ := HO.out.kn x.data.toList m (List.mem_of_getLast? hms)
        have hmn : m < nD := by rw [HND.out]; exact (List.getElem?_eq_some_iff.1 hdm).1
        have hmn' : (m : Int) < (nD : Int) := by omega
        have hml : m < bl.length := by rw [HAB.out.len, ← HND.out]; exact hmn
        obtain ⟨g, c', hv', _, hc⟩ := ownAt HROW3.out m (by simp; exact hml)
        obtain rfl : w.heap.size = g := by injection hv' with e1; injection e1 with e1; injection e1
        clear hv'
        rw [List.getElem?_map, List.getElem?_eq_getElem hml] at hc
        obtain ⟨bm, hbm⟩ : ∃ bm, bm = bl[m] := ⟨_, rfl⟩
        rw [← hbm] at hc
        have hc' : w3.cell? ⟨w.heap.size, m, none⟩ = some (.bool bm) := by simpa using hc
        have hfr0 := blkFree HCUR.out m
        have hlc := blkLt HCUR.out
        have HMS := Lib.hid hms
        clear hms hdm hml hbm hc
        go_wp2_with fail
        refine (means_any HR3.out x HXS.out HKB.out).mono ?_
        rintro e w4 ⟨rfl, rfl⟩
        rw [HMS.out, show dfnI (some m) = (m : Int) from rfl]
        go_wp2_with fail
        have hst := HROW3.out.stored m (.bool true)
        have hrgN := HRG3.out.kept hst.2 (by intro e; injection e with e; have h1 := HN1.out.lt; have h2 := HR.out.lt C.kb HR.out.f0.2.1; omega) (by intro e; injection e with e; omega)
        have hrel3 : LRel C s w1.heap.size w.heap.size nD D w (w3.setCell ⟨w.heap.size, m, none⟩ (.bool true)) := by
          refine ⟨_, cnt3, bl.set m true, hrgN, HF3.out.trans' (Fr.of_grown (S := fun k => k = w.heap.size) hst.2 (fun k e => by injection e with e; exact e.symm)) (fun i hi e => by have e' : i = w.heap.size := e; omega), ?_, HAB.out.mark HLX.out HMS.out (HO.out.kn _)⟩
          rw [List.map_set]
          exact hst.1
        go_roundw
        case rel => exact hrel3
        case measure => rw [hrgN.left_eq, HRG.out.left_eq]; exact hlt3
end Go.Proofs.YtkicpjjfeekopaaGreatDoor

namespace Go.Proofs.YtkicpjjfeekopaaGreatDoor
open Go.RowKit Go.Maps
theorem look_any {C : FC} : LookSaid C := by
  intro hb rc F w s f frm en hR ho hf he
  by_cases hm : C.stop < frm ∨ (en : Int) ≤ C.stop
  · exact look_miss hR hm hf he
  · exact look_hit hR ho hm hf he
theorem kids_all {C : FC} (t : Tree) : KidsP C t := kids_any look_any (cntT t) t (Nat.le_refl _)
theorem of_said (bs : List UInt8) (t : Tree) (cs : List Value) (P : Nat → Prop) (w : World) (hr : RepT w P t cs) (hT : TextT bs.length t) (hb : bs.length < 100000) (hc : cntT t ≤ 700000) :
    Calls Tryz.prog 20 #[.string ⟨bs.toArray⟩, .agg cs.toArray] w fun e w' => ∃ vD vB, e = .returned (.tuple #[.agg #[vD, vB], .int .i64 0]) ∧ NamesV (scopeS (nmT bs) (-1) t) w w' vD vB ∧ Fr (fun _ => False) w w' :=
  of_any bs t cs P w hr hT hb hc (fun _ _ => kids_all t)
theorem visible_said (bs : List UInt8) (pl : Int) (t : Tree) (cs : List Value) (P : Nat → Prop) (w : World) (hr : RepT w P t cs) (hT : TextT bs.length t) (hb : bs.length < 100000) (hc : cntT t ≤ 700000) :
    Calls Tryz.prog 21 #[.string ⟨bs.toArray⟩, .agg cs.toArray, .int .i64 pl] w fun e w' => ∃ vS, e = .returned (.tuple #[vS, .int .i64 0]) ∧ w'.ownsRow 0 43 4 vS (scopeS (nmT bs) pl t).shown.length (declCells (scopeS (nmT bs) pl t).shown) ∧ (∀ k, vS.ownBlock = some k → w.heap.size ≤ k) ∧ Fr (fun _ => False) w w' :=
  visible_any bs pl t cs P w hr hT hb hc (fun _ _ _ => kids_all t)
end Go.Proofs.YtkicpjjfeekopaaGreatDoor

namespace Go.Proofs.YtkicpjjfeekopaaGreatDoor
open Go.RowKit Go.Maps
def toksM (bs : List UInt8) : List Tok := lexM bs.length bs
def treeM (bs : List UInt8) : Tree := match fileM (toksM bs) (30 * (toksM bs).length + 23) with | some r => r.2 | none => .node 0 0 0 []
/-- What the names of a text come to. -/
def namesM (stop : Int) (bs : List UInt8) : FS := scopeS (nmT bs) stop (treeM bs)
theorem sum_ge : ∀ (l : List Tok), (∀ t ∈ l, goodTok t) → l.length ≤ (l.map (·.width)).sum
  | [], _ => Nat.le_refl _
  | t :: l, h => by
    have h1 := (h t (List.mem_cons_self ..)).2.1
    have h2 := sum_ge l (fun x hx => h x (List.mem_cons_of_mem _ hx))
    simp only [List.length_cons, List.map_cons, List.sum_cons]
    omega
theorem toks_facts {bs : List UInt8} (h : bs.length ≤ 5000) : Ok (toksM bs) ∧ (toksM bs).length ≤ bs.length ∧ preW (toksM bs) (toksM bs).length = bs.length ∧ ∀ t ∈ toksM bs, goodTok t ∧ t.kind < 256 := by
  have hg : ∀ t ∈ toksM bs, goodTok t ∧ t.kind < 41 := lexM_good _ _ (by omega)
  have hs : ((toksM bs).map (·.width)).sum = bs.length := lexM_sum _ _ (Nat.le_refl _)
  have hl := sum_ge (toksM bs) (fun t ht => (hg t ht).1)
  have hp : preW (toksM bs) (toksM bs).length = bs.length := by unfold preW; rw [List.take_length]; exact hs
  refine ⟨⟨fun t ht => (hg t ht).1, by omega, by omega, fun a ha => ?_⟩, by omega, hp, fun t ht => ⟨(hg t ht).1, by have := (hg t ht).2; omega⟩⟩
  unfold preW
  have e : (toksM bs).take (toksM bs).length = (toksM bs).take a ++ (toksM bs).drop a := by rw [List.take_append_drop, List.take_length]
  rw [e, List.map_append, List.sum_append]
  omega
theorem tree_facts {bs : List UInt8} (h : bs.length ≤ 5000) : ∃ n, fileM (toksM bs) (30 * (toksM bs).length + 23) = some (n, treeM bs) ∧ TextT bs.length (treeM bs) ∧ cntT (treeM bs) ≤ 700000 ∧ lvT (treeM bs) = kw (toksM bs) := by
  obtain ⟨K, hl, hp, _⟩ := toks_facts h
  obtain ⟨r, h1, h2, h3, h4⟩ := file_text K (by omega) hp
  have e : treeM bs = r.2 := by unfold treeM; rw [h1]
  rw [e]
  exact ⟨r.1, h1, h2, by omega, h4⟩
theorem rowBase {w : World} {b e sz n : Nat} {v : Value} {xs : List Value} (h : w.ownsRow b e sz v n xs) : w.ownsRow 0 e sz v n xs :=
  ⟨h.1, h.2.imp id (fun ⟨g, cap, cur, a, _, rest⟩ => ⟨g, cap, cur, a, Nat.zero_le _, rest⟩)⟩
/-- parse.File of what lex.All answers. -/
theorem file_said (bs : List UInt8) (v : Value) (w : World) (h : bs.length ≤ 5000) (hv : w.ownsRow 0 33 3 v (toksM bs).length (toksCells (toksM bs))) :
    Calls Tryz.prog 17 #[v] w fun e w' => ∃ cs, e = .returned (.tuple #[.agg cs.toArray, .int .i64 0]) ∧ RepT w' (fun k => w.heap.size ≤ k) (treeM bs) cs ∧ Fr (fun _ => False) w w' := by
  obtain ⟨K, hl, hp, hg⟩ := toks_facts h
  obtain ⟨n, h1, _⟩ := tree_facts h
  exact pfile_any v (toksM bs) w _ (n, treeM bs) K.len (fun t ht => (hg t ht).1) (fun t ht => (hg t ht).2) hv h1
def awakeB : List UInt8 := [102, 110, 32, 102, 40, 97, 44, 32, 97, 41, 32, 123, 32, 97, 59, 32, 102, 59, 32, 125, 32, 102, 59, 32, 97, 59]
set_option maxRecDepth 100000 in
theorem awake_names : ((namesM (-1) awakeB).decls, (namesM (-1) awakeB).binds) = ([⟨3, 4, 2, false⟩, ⟨5, 6, 3, false⟩, ⟨8, 9, 3, true⟩], [⟨13, 14, some 2⟩, ⟨16, 17, some 0⟩, ⟨21, 22, some 0⟩, ⟨24, 25, none⟩]) := by decide +kernel
set_option maxRecDepth 100000 in
set_option maxHeartbeats 2000000 in
theorem awake_any (w : World) (hG : Glob w) : Calls Tryz.prog 15 #[] w fun e w' => e = .returned (.bool true) ∧ Fr (fun _ => False) w w' := by
  have HG := Lib.hid hG
  clear hG
  go_enter Tryz.func15, Tryz.ntmps15
  go_wp2_with fail
  refine (all_any awakeB w (by decide) HG.out).mono ?_
  rintro e w1 ⟨⟨v, rfl, hv⟩, hf1⟩
  have hv0 := rowBase hv
  have HF1 := Lib.hid hf1; have HV0 := Lib.hid hv0
  clear hv hf1 hv0
  go_wp2_with fail
  refine (file_said awakeB v w1 (by decide) HV0.out).mono ?_
  rintro e w2 ⟨cs, rfl, hr, hf2⟩
  obtain ⟨k0, k1, k2, a, m, c, rfl⟩ := hr.form
  have HR := Lib.hid hr; have HF2 := Lib.hid hf2
  clear hr hf2
  go_wp2_with fail
  obtain ⟨n, _, hT, hC, _⟩ := tree_facts (bs := awakeB) (by decide)
  have hal : Fr (fun _ => False) w2 (w2.alloc (.cells #[.int .u8 k0, .int .u8 k1, .int .i64 k2, .slice a m c] 27)) := (Fr.refl _ _).alloc _
  refine (of_said awakeB (treeM awakeB) _ _ _ (HR.out.fr hal (fun _ _ _ h => h)) hT (by decide) hC).mono ?_
  rintro e w3 ⟨vD, vB, rfl, hN, hf3⟩
  obtain ⟨e1, e2⟩ := Prod.mk.inj awake_names
  have hD := hN.D
  have hB := hN.B
  rw [show (scopeS (nmT awakeB) (-1) (treeM awakeB)).decls = _ from e1] at hD
  rw [show (scopeS (nmT awakeB) (-1) (treeM awakeB)).binds = _ from e2] at hB
  obtain ⟨aD, cD, hvD, hcD, _⟩ := ownShape hD
  obtain ⟨aB, cB, hvB, hcB, _⟩ := ownShape hB
  obtain ⟨gD, c1, v1, _, d8⟩ := ownAt hD 8 (by decide)
  obtain rfl := sliceAt (hvD.symm.trans v1)
  obtain ⟨g2, c2, v2, _, d9⟩ := ownAt hD 9 (by decide)
  obtain rfl := sliceBlk (v1.symm.trans v2)
  obtain ⟨g2, c2, v2, _, d10⟩ := ownAt hD 10 (by decide)
  obtain rfl := sliceBlk (v1.symm.trans v2)
  obtain ⟨g2, c2, v2, _, d11⟩ := ownAt hD 11 (by decide)
  obtain rfl := sliceBlk (v1.symm.trans v2)
  obtain ⟨gB, c2, v2, _, b2⟩ := ownAt hB 2 (by decide)
  obtain rfl := sliceAt (hvB.symm.trans v2)
  obtain ⟨g3, c3, v3, _, b5⟩ := ownAt hB 5 (by decide)
  obtain rfl := sliceBlk (v2.symm.trans v3)
  obtain ⟨g3, c3, v3, _, b8⟩ := ownAt hB 8 (by decide)
  obtain rfl := sliceBlk (v2.symm.trans v3)
  obtain ⟨g3, c3, v3, _, b11⟩ := ownAt hB 11 (by decide)
  obtain rfl := sliceBlk (v2.symm.trans v3)
  have d8' : w3.cell? ⟨gD, 8, none⟩ = some (.int .i64 8) := d8
  have d9' : w3.cell? ⟨gD, 9, none⟩ = some (.int .i64 9) := d9
  have d10' : w3.cell? ⟨gD, 10, none⟩ = some (.int .u8 3) := d10
  have d11' : w3.cell? ⟨gD, 11, none⟩ = some (.bool true) := d11
  have b2' : w3.cell? ⟨gB, 2, none⟩ = some (.int .i64 2) := b2
  have b5' : w3.cell? ⟨gB, 5, none⟩ = some (.int .i64 0) := b5
  have b8' : w3.cell? ⟨gB, 8, none⟩ = some (.int .i64 0) := b8
  have b11' : w3.cell? ⟨gB, 11, none⟩ = some (.int .i64 (-1)) := b11
  have lD := blkLt (ownBlk (k := gD) hD (by rw [hvD]; rfl)).choose_spec
  have lB := blkLt (ownBlk (k := gB) hB (by rw [hvB]; rfl)).choose_spec
  have hfw : Fr (fun _ => False) w w3 := ((HF1.out.trans HF2.out).trans hal).trans hf3
  have HFW := Lib.hid hfw
  subst hvD
  subst hvB
  clear hfw hf3 hal hN hD hB d8 d9 d10 d11 b2 b5 b8 b11 v1 v2 e1 e2 hT hC
  go_wp2_with fail
  go_ret
  exact ⟨by simp, HFW.out.trans ((Fr.refl _ _).alloc _)⟩
end Go.Proofs.YtkicpjjfeekopaaGreatDoor
