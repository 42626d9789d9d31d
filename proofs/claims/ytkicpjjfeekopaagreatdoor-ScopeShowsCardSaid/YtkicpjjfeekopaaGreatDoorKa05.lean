/- Walks: dfa.Scan. Plain facts on cutting: a token takes at least one byte, and no more than there are. Walks: lex.each's iterator. Walks: slices.AppendSeq over the lexer's iterator. Walks: lex.All. Plain facts on the tokens of a text. Plain facts on the tokens of a text: names. Plain facts on the tokens of a text: each is a good one. A text's tokens, parsed: lex.All then parse.File. The parser is total: what a command brings about. The parser is total: gap, next, want. The parser is total: want, nodes. -/
import Derived.Test.YtkicpjjfeekopaaGreatDoorKa04
import Derived.Test.YtkicpjjfeekopaaGreatDoorKa03
import Derived.RangeFuncNested
import Derived.RangeFuncBound
import Derived.RangeFuncCalls
import Derived.RangeFuncLeaves
import Derived.Shelf.Abstract
import Derived.Shelf.RegionOpen
import Derived.WalkKit
import Derived.OwnWalkIn
import Derived.TacticsInMore
import Derived.LoopNIn
import Derived.LoopIn
import Derived.Maps.OwnIn
import Derived.Test.YtkicpjjfeekopaaGreatDoorKp00
set_option linter.unusedVariables false
set_option linter.unusedSimpArgs false
set_option linter.unusedSectionVars false
namespace Go.Proofs.YtkicpjjfeekopaaGreatDoor
open Go.RowKit
theorem scan_some {f st st' k X1 : Nat} {bs : List UInt8} {wg X2 : Bool} (hne : bs ≠ []) (hgo : goesM st (clsM (decL bs).1) = some st') (h : scanM (f + 1) st bs wg = (X1, k, X2)) :
    ∃ k', scanM f st' (bs.drop (decL bs).2) (st = 0 && (decL bs).1 = 65533 && (decL bs).2 = 1) = (X1, k', X2) ∧ (decL bs).2 + k' = k := by
  simp only [scanM] at h
  rw [if_neg hne, hgo] at h
  simp only [Prod.mk.injEq] at h
  obtain ⟨h1, h2, h3⟩ := h
  refine ⟨_, ?_, h2⟩
  rw [← h1, ← h3]
theorem scan_none {f st k X1 : Nat} {bs : List UInt8} {wg X2 : Bool} (hgo : bs = [] ∨ goesM st (clsM (decL bs).1) = none) (h : scanM f st bs wg = (X1, k, X2)) (hf : bs.length ≤ f) : X1 = st ∧ k = 0 ∧ X2 = wg := by
  cases f with
  | zero =>
    simp only [scanM, Prod.mk.injEq] at h
    exact ⟨h.1.symm, h.2.1.symm, h.2.2.symm⟩
  | succ f =>
    simp only [scanM] at h
    by_cases hb : bs = []
    · rw [if_pos hb] at h
      simp only [Prod.mk.injEq] at h
      exact ⟨h.1.symm, h.2.1.symm, h.2.2.symm⟩
    · rcases hgo with hgo | hgo
      · exact absurd hgo hb
      · rw [if_neg hb, hgo] at h
        simp only [Prod.mk.injEq] at h
        exact ⟨h.1.symm, h.2.1.symm, h.2.2.symm⟩
theorem tok_at (bs : List UInt8) (a st to : Nat) (wg : Bool) (hat : a ≤ to) (hto : to ≤ bs.length) (h1 : (scanM (bs.length - a) 0 (bs.drop a) false).1 = st) (h2 : (scanM (bs.length - a) 0 (bs.drop a) false).2.1 = to - a) (h3 : (scanM (bs.length - a) 0 (bs.drop a) false).2.2 = wg) :
    tokM (bs.drop a) = ⟨if st = 7 then wordM ((bs.drop a).take (to - a)) else kindT.getD st 0, to - a, if looksM st then 1 else if wg then min 3 (bs.length - to + 1) else 0⟩ := by
  unfold tokM
  simp only [List.length_drop, h1, h2, h3]
  rw [show bs.length - a - (to - a) = bs.length - to from by omega]
theorem info33s : (Tryz.prog.info? 33).map (·.size) = some 3 := by kernel_rfl
theorem put3 {w1 : World} {b : Nat} {zs : Array Value} (hb1 : w1.heap[b]? = some (.cells zs 33 (0, 0))) (hz : zs.size = 3) (c0 c1 c2 : Value) :
    (((w1.setCell ⟨b, 0, none⟩ c0).setCell ⟨b, 1, none⟩ c1).setCell ⟨b, 2, none⟩ c2).heap[b]? = some (.cells #[c0, c1, c2] 33 (0, 0)) ∧
    Fr (fun k => k = b) w1 (((w1.setCell ⟨b, 0, none⟩ c0).setCell ⟨b, 1, none⟩ c1).setCell ⟨b, 2, none⟩ c2) := by
  constructor
  · have := blkSet (blkSet (blkSet hb1 0 c0) 1 c1) 2 c2
    rw [this]
    have e : ((zs.setIfInBounds 0 c0).setIfInBounds 1 c1).setIfInBounds 2 c2 = #[c0, c1, c2] := by
      obtain ⟨zs⟩ := zs
      match zs, hz with
      | [z0, z1, z2], _ => rfl
    rw [e]
  · exact ⟨rfl, rfl, rfl, by simp, fun k _ hk => by
      rw [Below.heap_setCell _ _ _ _ hk, Below.heap_setCell _ _ _ _ hk, Below.heap_setCell _ _ _ _ hk]⟩
theorem scan_fin {bs : List UInt8} {a b to kk lk : Nat} {w w1 : World} {zs : Array Value} {ac : Act} {v2 : Int} (hp0 : ac.tmps.getD 4 undef = .pointer (some ⟨b, 0, none⟩)) (hp1 : ac.tmps.getD 5 undef = .bool true) (hd : ac.defers = [])
    (hb1 : w1.heap[b]? = some (.cells zs 33 (0, 0))) (hz : zs.size = 3) (hb : w.heap.size ≤ b) (hf : Fr (fun _ => False) w w1) (hat : a ≤ to) (htok : tokM (bs.drop a) = ⟨kk, to - a, lk⟩) (hv : v2 = lk) :
    bodyPost Tryz.prog Tryz.f81 (fun e w' => e = .returned (.tuple #[.agg (tokCells (tokM (bs.drop a))).toArray, .bool true]) ∧ Fr (fun _ => False) w w') Exit.ret ac (((w1.setCell ⟨b, 0, none⟩ (.int .u8 kk)).setCell ⟨b, 1, none⟩ (.int .i64 ((to : Int) - (a : Int)))).setCell ⟨b, 2, none⟩ (.int .i64 v2)) := by
  obtain ⟨hW, hf1⟩ := put3 hb1 hz (.int .u8 kk) (.int .i64 ((to : Int) - (a : Int))) (.int .i64 v2)
  generalize (((w1.setCell ⟨b, 0, none⟩ (.int .u8 kk)).setCell ⟨b, 1, none⟩ (.int .i64 ((to : Int) - (a : Int)))).setCell ⟨b, 2, none⟩ (.int .i64 v2)) = W at *
  refine bodyPost_ret (v := .tuple #[.agg #[.int .u8 kk, .int .i64 ((to : Int) - (a : Int)), .int .i64 v2], .bool true]) ?_ hd ⟨?_, hf.trans' hf1 (fun j hj e => by omega)⟩
  · rw [resultsCT (fn := Tryz.f81) (p := 4) (u := 5) rfl _ _ b 33 #[.int .u8 kk, .int .i64 ((to : Int) - (a : Int)), .int .i64 v2] (0, 0) _ hp0 hW Tryz.underlying33 rfl info33s, hp1]
  · rw [htok, hv, show (to : Int) - (a : Int) = ((to - a : Nat) : Int) from by omega]
    rfl
set_option maxRecDepth 100000 in
set_option maxHeartbeats 4000000 in
theorem scan_any (bs : List UInt8) (a : Nat) (hs : bs.length < 100000) (ha : a < bs.length) (w : World) (hG : Glob w) :
    Calls Tryz.prog 81 #[.string ⟨bs.toArray⟩, .int .i64 a] w fun e w' => e = .returned (.tuple #[.agg (tokCells (tokM (bs.drop a))).toArray, .bool true]) ∧ Fr (fun _ => False) w w' := by
  obtain ⟨n, hn⟩ : ∃ n, n = bs.length := ⟨_, rfl⟩
  have hsz : (⟨bs.toArray⟩ : ByteArray).size = n := by rw [hn]; simp [ByteArray.size]
  obtain ⟨s, hsd⟩ : ∃ s : ByteArray, s = ⟨bs.toArray⟩ := ⟨_, rfl⟩
  rw [← hsd] at hsz ⊢
  have hnb : n < 100000 := by omega
  have HSD := Lib.hid hsd; have HN := Lib.hid hn; have HGL := Lib.hid hG
  have han : a < n := by omega
  clear hsd hn hG ha hs
  go_enter Tryz.func81, Tryz.ntmps81
  go_wp2_with fail
  have hb4 := blkNew w (.cells #[.int .u8 0, .int .i64 0, .int .i64 0] 33)
  have hf0 : Fr (fun _ => False) w (w.alloc (.cells #[.int .u8 0, .int .i64 0, .int .i64 0] 33)) := (Fr.refl _ _).alloc _
  generalize (w.alloc (.cells #[.int .u8 0, .int .i64 0, .int .i64 0] 33)) = wA at *
  rw [show decide (n ≤ a) = false from by simp; omega, show decide ((a : Int) < 0) = false from by simp, Bool.or_false]
  have HAN := Lib.hid han
  clear han
  go_loopg [6, 7, 8] (n - a) (fun f x y z wr => ScanRel bs a wA f x y z wr)
  case atStart =>
    exact ⟨0, a, false, (scanM (bs.length - a) 0 (bs.drop a) false).2.1, rfl, rfl, rfl, by omega, Nat.le_refl _, by have := HN.out; have := HAN.out; omega, by have := HN.out; omega, Fr.refl _ _, by rw [HN.out], by simp⟩
  case round =>
    obtain ⟨st, to, wg, k, rfl, rfl, rfl, hst, hat, hto, hf, hfr, hsc, hk⟩ := hrel
    rw [← HN.out] at hto
    have HF := Lib.hid hf; have HFR := Lib.hid hfr; have HSC := Lib.hid hsc; have HK := Lib.hid hk; have HST := Lib.hid hst
    clear hf hfr hsc hk
    by_cases hlt : to < n
    · have hext : s.extract to n = ⟨(bs.drop to).toArray⟩ := by rw [HSD.out, HN.out]; exact ext_drop bs to
      have hne : bs.drop to ≠ [] := by
        intro h
        have := congrArg List.length h
        simp at this
        have := HN.out
        omega
      obtain ⟨d1, d2, d3⟩ := decL_facts _ hne
      obtain ⟨r, hr⟩ : ∃ r, r = (decL (bs.drop to)).1 := ⟨_, rfl⟩
      obtain ⟨sz, hz⟩ : ∃ sz, sz = (decL (bs.drop to)).2 := ⟨_, rfl⟩
      rw [← hr] at d3
      rw [← hz] at d1 d2
      have d2' : to + sz ≤ n := by simp at d2; have := HN.out; omega
      have HR := Lib.hid hr; have HZ := Lib.hid hz; have HNE := Lib.hid hne
      obtain ⟨y, hy⟩ : ∃ y : ByteArray, y = ⟨(bs.drop to).toArray⟩ := ⟨_, rfl⟩
      rw [← hy] at hext
      have HY := Lib.hid hy
      clear hr hz hne hy d2
      have hsl : ∀ W, (Instr.slice 9 (.string s) (some (.int .i64 to)) none none).run Tryz.prog W = .ok (.string y) W := fun W => by
        have h := run_slice_string_l W 9 s Tryz.underlying9 .i64 to (by omega) (by omega)
        rw [h, ← hext, hsz]
        rfl
      go_wp2_with fail
      refine (Tryz.utf8_DecodeRuneInString y _ ((HGL.out.move (hf0.trans HFR.out)).1)).mono ?_
      rintro e w1 ⟨rfl, hbl⟩
      have hdec : Lib.decodeGo y = decL (bs.drop to) := by rw [HY.out]; rfl
      rw [hdec, ← HR.out, ← HZ.out]
      have hf1 : Fr (fun _ => False) wr w1 := Fr.of_below hbl
      have HF1 := Lib.hid hf1
      clear hbl hf1 hext hsl
      go_wp2_with fail
      refine (class_any r d3 _).mono ?_
      rintro e w2 ⟨rfl, rfl⟩
      obtain ⟨c, hc⟩ : ∃ c, c = clsM r := ⟨_, rfl⟩
      have hcl := cls_lt r
      rw [← hc] at hcl ⊢
      have HC := Lib.hid hc
      clear hc
      go_wp2_with fail
      refine (goes_any st c hcl HST.out _).mono ?_
      rintro e w3 ⟨rfl, hf3⟩
      have HF3 := Lib.hid hf3
      clear hf3
      cases hgo : goesM st c with
      | none =>
        rw [show goI none = -1 from rfl]
        dsimp only
        obtain ⟨e1, e2, e3⟩ := scan_none (.inr (by rw [← HR.out, ← HC.out]; exact hgo)) HSC.out (by simp; have := HF.out; have := HN.out; omega)
        have htok := tok_at bs a st to wg hat (by have := HN.out; omega) e1 (by have := HK.out; omega) e3
        have hfw : Fr (fun _ => False) wA w3 := (HFR.out.trans HF1.out).trans HF3.out
        have hb5 := hfw.blk hb4 (fun h => h)
        have HB5 := Lib.hid hb5; have HFW := Lib.hid hfw; have HTOK := Lib.hid htok
        have hst2 := HST.out
        have hl5 := blkLt hb5
        clear hb5 hfw htok e1 e2 e3
        by_cases h7 : st = 7
        · have hlk : looksM st = true := by rw [h7]; decide
          have h7b : (((st : Nat) : Int) == 7) = true := by simp [h7]
          have hext2 : s.extract a to = ⟨((bs.drop a).take (to - a)).toArray⟩ := by rw [HSD.out]; exact ext_take bs a to (by have := HN.out; omega)
          obtain ⟨y2, hy2⟩ : ∃ y2 : ByteArray, y2 = ⟨((bs.drop a).take (to - a)).toArray⟩ := ⟨_, rfl⟩
          rw [← hy2] at hext2
          have HY2 := Lib.hid hy2
          clear hy2
          have HTK := Lib.hid (show tokM (bs.drop a) = ⟨wordM ((bs.drop a).take (to - a)), to - a, 1⟩ from by rw [HTOK.out, if_pos h7, hlk]; rfl)
          have HLK := Lib.hid hlk
          clear h7 hlk
          obtain ⟨K0, hK0⟩ : ∃ K0, K0 = kindT.getD st 0 := ⟨_, rfl⟩
          have hix := fun W => kind_ix st hst2 W
          rw [← hK0] at hix
          have HK0 := Lib.hid hK0
          clear hK0
          go_wp2_with fail
          refine (kinds_any _).mono ?_
          rintro e wk ⟨rfl, hfk⟩
          have hb5 := hfk.blk HB5.out (fun h => h)
          have HB6 := Lib.hid hb5
          have HFK := Lib.hid (HFW.out.trans hfk)
          have hl6 := blkLt hb5
          clear hb5 hfk
          go_wp2_with fail
          have h13 := blkNew wk (.cells #[.int .u8 (K0 : Nat), .int .i64 ((to : Int) - (a : Int)), .int .i64 0] 33)
          have hb4z := blkAlloc HB6.out (.cells #[.int .u8 (K0 : Nat), .int .i64 ((to : Int) - (a : Int)), .int .i64 0] 33)
          have hfz := HFK.out.alloc (.cells #[.int .u8 (K0 : Nat), .int .i64 ((to : Int) - (a : Int)), .int .i64 0] 33)
          generalize wk.alloc (.cells #[.int .u8 (K0 : Nat), .int .i64 ((to : Int) - (a : Int)), .int .i64 0] 33) = wz at *
          obtain ⟨m, hm⟩ := (HGL.out.move (hf0.trans hfz)).2.1
          rw [HY2.out]
          refine (word_any ((bs.drop a).take (to - a)) m (by have := HN.out; rw [List.length_take, List.length_drop]; omega) _ hm).mono ?_
          rintro e wz' ⟨rfl, rfl⟩
          have d0 := blkCell h13 0
          have e0 := blkFree h13 0
          have hl13 := blkLt h13
          have H13 := Lib.hid h13; have HB4Z := Lib.hid hb4z; have HFZ := Lib.hid hfz
          obtain ⟨kk, hkk⟩ : ∃ kk, kk = wordM ((bs.drop a).take (to - a)) := ⟨_, rfl⟩
          rw [← hkk]
          have HKK := Lib.hid hkk
          clear h13 hb4z hfz hm hkk
          go_wp2_with fail
          refine (looks_any st hst2 _).mono ?_
          rintro e wl ⟨rfl, hfl⟩
          rw [HLK.out]
          have h13' : wl.heap[wk.heap.size]? = some (.cells #[.int .u8 kk, .int .i64 ((to : Int) - (a : Int)), .int .i64 0] 33 (0, 0)) := hfl.blk (blkSet H13.out 0 (.int .u8 kk)) (fun h => h)
          have hb4' := hfl.blk (blkFar HB4Z.out (p := ⟨wk.heap.size, 0, none⟩) (by simp; omega) (.int .u8 kk)) (fun h => h)
          have d0' := blkCell h13' 0
          have d1' := blkCell h13' 1
          have d2' := blkCell h13' 2
          have e2' := blkFree h13' 2
          have b0' := blkCell hb4' 0; have b1' := blkCell hb4' 1; have b2' := blkCell hb4' 2
          have f0' := blkFree hb4' 0; have f1' := blkFree hb4' 1; have f2' := blkFree hb4' 2
          have hne' : w.heap.size ≠ wk.heap.size := by omega
          have hl13' := blkLt h13'
          have H13' := Lib.hid h13'; have HB4' := Lib.hid hb4'; have HFL := Lib.hid hfl
          clear h13' hb4' hfl d0 e0
          go_wp2_with fail
          have hsz1 := hf0.size
          have hsz2 := HFK.out.size
          refine scan_fin (w1 := wl.setCell ⟨wk.heap.size, 2, none⟩ (.int .i64 1)) rfl rfl rfl (blkFar HB4'.out (by simp; omega) _) rfl (Nat.le_refl _) (((hf0.trans (HFZ.out.setCell (fun h => by simp at h; omega) _)).trans HFL.out).setCell (fun h => by simp at h; omega) _) hat (by rw [HTK.out, ← HKK.out]) rfl
        · have h7b : (((st : Nat) : Int) == 7) = false := by simp; omega
          by_cases hlk : looksM st = true
          · have HTK := Lib.hid (show tokM (bs.drop a) = ⟨kindT.getD st 0, to - a, 1⟩ from by rw [HTOK.out, if_neg h7, hlk]; rfl)
            have HLK := Lib.hid hlk
            clear h7 hlk
            obtain ⟨K0, hK0⟩ : ∃ K0, K0 = kindT.getD st 0 := ⟨_, rfl⟩
            have hix := fun W => kind_ix st hst2 W
            rw [← hK0] at hix
            have HK0 := Lib.hid hK0
            clear hK0
            go_wp2_with fail
            refine (kinds_any _).mono ?_
            rintro e wk ⟨rfl, hfk⟩
            have hb5 := hfk.blk HB5.out (fun h => h)
            have HB6 := Lib.hid hb5
            have HFK := Lib.hid (HFW.out.trans hfk)
            have hl6 := blkLt hb5
            clear hb5 hfk
            go_wp2_with fail
            have h13 := blkNew wk (.cells #[.int .u8 (K0 : Nat), .int .i64 ((to : Int) - (a : Int)), .int .i64 0] 33)
            have hb4z := blkAlloc HB6.out (.cells #[.int .u8 (K0 : Nat), .int .i64 ((to : Int) - (a : Int)), .int .i64 0] 33)
            have hfz := HFK.out.alloc (.cells #[.int .u8 (K0 : Nat), .int .i64 ((to : Int) - (a : Int)), .int .i64 0] 33)
            generalize wk.alloc (.cells #[.int .u8 (K0 : Nat), .int .i64 ((to : Int) - (a : Int)), .int .i64 0] 33) = wz at *
            refine (looks_any st hst2 _).mono ?_
            rintro e wl ⟨rfl, hfl⟩
            rw [HLK.out]
            have h13' := hfl.blk h13 (fun h => h)
            have hb4' := hfl.blk hb4z (fun h => h)
            have d0' := blkCell h13' 0
            have d1' := blkCell h13' 1
            have d2' := blkCell h13' 2
            have e2' := blkFree h13' 2
            have b0' := blkCell hb4' 0; have b1' := blkCell hb4' 1; have b2' := blkCell hb4' 2
            have f0' := blkFree hb4' 0; have f1' := blkFree hb4' 1; have f2' := blkFree hb4' 2
            have hne' : w.heap.size ≠ wk.heap.size := by omega
            have hl13' := blkLt h13'
            have HB4' := Lib.hid hb4'; have HFL := Lib.hid hfl; have HFZ := Lib.hid hfz
            have hsz1 := hf0.size
            have hsz2 := HFK.out.size
            clear h13 h13' hb4' hfl hb4z hfz
            go_wp2_with fail
            refine scan_fin (w1 := wl.setCell ⟨wk.heap.size, 2, none⟩ (.int .i64 1)) rfl rfl rfl (blkFar HB4'.out (by simp; omega) _) rfl (Nat.le_refl _) (((hf0.trans HFZ.out).trans HFL.out).setCell (fun h => by simp at h; omega) _) hat (by rw [HTK.out, ← HK0.out]) rfl
          · have hlk' : looksM st = false := by simpa using hlk
            cases wg with
            | true =>
              have HTK := Lib.hid (show tokM (bs.drop a) = ⟨kindT.getD st 0, to - a, min 3 (bs.length - to + 1)⟩ from by rw [HTOK.out, if_neg h7, hlk']; rfl)
              have HLK := Lib.hid hlk'
              clear h7 hlk hlk'
              obtain ⟨K0, hK0⟩ : ∃ K0, K0 = kindT.getD st 0 := ⟨_, rfl⟩
              have hix := fun W => kind_ix st hst2 W
              rw [← hK0] at hix
              have HK0 := Lib.hid hK0
              clear hK0
              go_wp2_with fail
              refine (kinds_any _).mono ?_
              rintro e wk ⟨rfl, hfk⟩
              have hb5 := hfk.blk HB5.out (fun h => h)
              have HB6 := Lib.hid hb5
              have HFK := Lib.hid (HFW.out.trans hfk)
              have hl6 := blkLt hb5
              clear hb5 hfk
              go_wp2_with fail
              have h13 := blkNew wk (.cells #[.int .u8 (K0 : Nat), .int .i64 ((to : Int) - (a : Int)), .int .i64 0] 33)
              have hb4z := blkAlloc HB6.out (.cells #[.int .u8 (K0 : Nat), .int .i64 ((to : Int) - (a : Int)), .int .i64 0] 33)
              have hfz := HFK.out.alloc (.cells #[.int .u8 (K0 : Nat), .int .i64 ((to : Int) - (a : Int)), .int .i64 0] 33)
              generalize wk.alloc (.cells #[.int .u8 (K0 : Nat), .int .i64 ((to : Int) - (a : Int)), .int .i64 0] 33) = wz at *
              refine (looks_any st hst2 _).mono ?_
              rintro e wl ⟨rfl, hfl⟩
              rw [HLK.out]
              have h13' := hfl.blk h13 (fun h => h)
              have hb4' := hfl.blk hb4z (fun h => h)
              have d0' := blkCell h13' 0
              have d1' := blkCell h13' 1
              have d2' := blkCell h13' 2
              have e2' := blkFree h13' 2
              have b0' := blkCell hb4' 0; have b1' := blkCell hb4' 1; have b2' := blkCell hb4' 2
              have f0' := blkFree hb4' 0; have f1' := blkFree hb4' 1; have f2' := blkFree hb4' 2
              have hne' : w.heap.size ≠ wk.heap.size := by omega
              have hl13' := blkLt h13'
              have HB4' := Lib.hid hb4'; have HFL := Lib.hid hfl; have HFZ := Lib.hid hfz
              have hsz1 := hf0.size
              have hsz2 := HFK.out.size
              clear h13 h13' hb4' hfl hb4z hfz
              go_wp2_with fail
              refine scan_fin (w1 := wl.setCell ⟨wk.heap.size, 2, none⟩ (.int .i64 (min 3 ((n : Int) - (to : Int) + 1)))) rfl rfl rfl (blkFar HB4'.out (by simp; omega) _) rfl (Nat.le_refl _) (((hf0.trans HFZ.out).trans HFL.out).setCell (fun h => by simp at h; omega) _) hat (by rw [HTK.out, ← HK0.out]) (by have := HN.out; omega)
            | false =>
              have HTK := Lib.hid (show tokM (bs.drop a) = ⟨kindT.getD st 0, to - a, 0⟩ from by rw [HTOK.out, if_neg h7, hlk']; rfl)
              have HLK := Lib.hid hlk'
              clear h7 hlk hlk'
              obtain ⟨K0, hK0⟩ : ∃ K0, K0 = kindT.getD st 0 := ⟨_, rfl⟩
              have hix := fun W => kind_ix st hst2 W
              rw [← hK0] at hix
              have HK0 := Lib.hid hK0
              clear hK0
              go_wp2_with fail
              refine (kinds_any _).mono ?_
              rintro e wk ⟨rfl, hfk⟩
              have hb5 := hfk.blk HB5.out (fun h => h)
              have HB6 := Lib.hid hb5
              have HFK := Lib.hid (HFW.out.trans hfk)
              have hl6 := blkLt hb5
              clear hb5 hfk
              go_wp2_with fail
              have h13 := blkNew wk (.cells #[.int .u8 (K0 : Nat), .int .i64 ((to : Int) - (a : Int)), .int .i64 0] 33)
              have hb4z := blkAlloc HB6.out (.cells #[.int .u8 (K0 : Nat), .int .i64 ((to : Int) - (a : Int)), .int .i64 0] 33)
              have hfz := HFK.out.alloc (.cells #[.int .u8 (K0 : Nat), .int .i64 ((to : Int) - (a : Int)), .int .i64 0] 33)
              generalize wk.alloc (.cells #[.int .u8 (K0 : Nat), .int .i64 ((to : Int) - (a : Int)), .int .i64 0] 33) = wz at *
              refine (looks_any st hst2 _).mono ?_
              rintro e wl ⟨rfl, hfl⟩
              rw [HLK.out]
              have h13' := hfl.blk h13 (fun h => h)
              have hb4' := hfl.blk hb4z (fun h => h)
              have d0' := blkCell h13' 0
              have d1' := blkCell h13' 1
              have d2' := blkCell h13' 2
              have e2' := blkFree h13' 2
              have b0' := blkCell hb4' 0; have b1' := blkCell hb4' 1; have b2' := blkCell hb4' 2
              have f0' := blkFree hb4' 0; have f1' := blkFree hb4' 1; have f2' := blkFree hb4' 2
              have hne' : w.heap.size ≠ wk.heap.size := by omega
              have hl13' := blkLt h13'
              have HB4' := Lib.hid hb4'; have HFL := Lib.hid hfl; have HFZ := Lib.hid hfz
              have hsz1 := hf0.size
              have hsz2 := HFK.out.size
              clear h13 h13' hb4' hfl hb4z hfz
              go_wp2_with fail
              refine scan_fin (w1 := wl) rfl rfl rfl HB4'.out rfl (Nat.le_refl _) ((hf0.trans HFZ.out).trans HFL.out) hat (by rw [HTK.out, ← HK0.out]) rfl
      | some st' =>
        have hst' := goes_lt st c st' HST.out hcl hgo
        have HST' := Lib.hid hst'
        clear hst'
        rw [show goI (some st') = (st' : Int) from rfl]
        dsimp only
        have hf' := HF.out
        have hgk : gk = (gk - 1) + 1 := by have := HN.out; omega
        have hsc := HSC.out
        rw [hgk] at hsc
        obtain ⟨k', s1, s2⟩ := scan_some HNE.out (by rw [← HR.out, ← HC.out]; exact hgo) hsc
        rw [← HR.out, ← HZ.out, List.drop_drop] at s1
        rw [← HZ.out] at s2
        have HS1 := Lib.hid s1
        have hk2 : to + sz - a + k' = (scanM (bs.length - a) 0 (bs.drop a) false).2.1 := by have := HK.out; omega
        have HK2 := Lib.hid hk2
        clear hf' hsc s1 hk2 hgk
        by_cases q0 : st = 0
        · by_cases q1 : r = 65533
          · by_cases q2 : sz = 1
            · have b0 : (((st : Nat) : Int) == 0) = true := by simp [q0]
              have b1 : (((r : Nat) : Int) == 65533) = true := by simp [q1]
              have b2 : (((sz : Nat) : Int) == 1) = true := by simp [q2]
              go_wp2_with fail
              go_roundg (gk - 1)
              case measure => have := HF.out; have := HN.out; omega
              case rel => exact ⟨st', to + sz, true, k', rfl, by go_num, rfl, HST'.out, by omega, by have := HN.out; omega, by have := HF.out; omega, (HFR.out.trans HF1.out).trans HF3.out, by have h := HS1.out; rw [show (decide (st = 0) && decide (r = 65533) && decide (sz = 1)) = true from by simp [q0, q1, q2]] at h; exact h, HK2.out⟩
            · have b0 : (((st : Nat) : Int) == 0) = true := by simp [q0]
              have b1 : (((r : Nat) : Int) == 65533) = true := by simp [q1]
              have b2 : (((sz : Nat) : Int) == 1) = false := by simp; omega
              go_wp2_with fail
              go_roundg (gk - 1)
              case measure => have := HF.out; have := HN.out; omega
              case rel => exact ⟨st', to + sz, false, k', rfl, by go_num, rfl, HST'.out, by omega, by have := HN.out; omega, by have := HF.out; omega, (HFR.out.trans HF1.out).trans HF3.out, by have h := HS1.out; rw [show (decide (st = 0) && decide (r = 65533) && decide (sz = 1)) = false from by simp [q2]] at h; exact h, HK2.out⟩
          · have b0 : (((st : Nat) : Int) == 0) = true := by simp [q0]
            have b1 : (((r : Nat) : Int) == 65533) = false := by simp; omega
            go_wp2_with fail
            go_roundg (gk - 1)
            case measure => have := HF.out; have := HN.out; omega
            case rel => exact ⟨st', to + sz, false, k', rfl, by go_num, rfl, HST'.out, by omega, by have := HN.out; omega, by have := HF.out; omega, (HFR.out.trans HF1.out).trans HF3.out, by have h := HS1.out; rw [show (decide (st = 0) && decide (r = 65533) && decide (sz = 1)) = false from by simp [q1]] at h; exact h, HK2.out⟩
        · have b0 : (((st : Nat) : Int) == 0) = false := by simp; omega
          go_wp2_with fail
          go_roundg (gk - 1)
          case measure => have := HF.out; have := HN.out; omega
          case rel => exact ⟨st', to + sz, false, k', rfl, by go_num, rfl, HST'.out, by omega, by have := HN.out; omega, by have := HF.out; omega, (HFR.out.trans HF1.out).trans HF3.out, by have h := HS1.out; rw [show (decide (st = 0) && decide (r = 65533) && decide (sz = 1)) = false from by simp [q0]] at h; exact h, HK2.out⟩
    · obtain ⟨e1, e2, e3⟩ := scan_none (.inl (List.drop_eq_nil_of_le (by have := HN.out; omega))) HSC.out (by simp; have := HF.out; have := HN.out; omega)
      have htok := tok_at bs a st to wg hat (by have := HN.out; omega) e1 (by have := HK.out; omega) e3
      have hfw : Fr (fun _ => False) wA wr := HFR.out
      have hb5 := hfw.blk hb4 (fun h => h)
      have HB5 := Lib.hid hb5; have HFW := Lib.hid hfw; have HTOK := Lib.hid htok
      have hst2 := HST.out
      have hl5 := blkLt hb5
      clear hb5 hfw htok e1 e2 e3
      by_cases h7 : st = 7
      · have hlk : looksM st = true := by rw [h7]; decide
        have h7b : (((st : Nat) : Int) == 7) = true := by simp [h7]
        have hext2 : s.extract a to = ⟨((bs.drop a).take (to - a)).toArray⟩ := by rw [HSD.out]; exact ext_take bs a to (by have := HN.out; omega)
        obtain ⟨y2, hy2⟩ : ∃ y2 : ByteArray, y2 = ⟨((bs.drop a).take (to - a)).toArray⟩ := ⟨_, rfl⟩
        rw [← hy2] at hext2
        have HY2 := Lib.hid hy2
        clear hy2
        have HTK := Lib.hid (show tokM (bs.drop a) = ⟨wordM ((bs.drop a).take (to - a)), to - a, 1⟩ from by rw [HTOK.out, if_pos h7, hlk]; rfl)
        have HLK := Lib.hid hlk
        clear h7 hlk
        obtain ⟨K0, hK0⟩ : ∃ K0, K0 = kindT.getD st 0 := ⟨_, rfl⟩
        have hix := fun W => kind_ix st hst2 W
        rw [← hK0] at hix
        have HK0 := Lib.hid hK0
        clear hK0
        go_wp2_with fail
        refine (kinds_any _).mono ?_
        rintro e wk ⟨rfl, hfk⟩
        have hb5 := hfk.blk HB5.out (fun h => h)
        have HB6 := Lib.hid hb5
        have HFK := Lib.hid (HFW.out.trans hfk)
        have hl6 := blkLt hb5
        clear hb5 hfk
        go_wp2_with fail
        have h13 := blkNew wk (.cells #[.int .u8 (K0 : Nat), .int .i64 ((to : Int) - (a : Int)), .int .i64 0] 33)
        have hb4z := blkAlloc HB6.out (.cells #[.int .u8 (K0 : Nat), .int .i64 ((to : Int) - (a : Int)), .int .i64 0] 33)
        have hfz := HFK.out.alloc (.cells #[.int .u8 (K0 : Nat), .int .i64 ((to : Int) - (a : Int)), .int .i64 0] 33)
        generalize wk.alloc (.cells #[.int .u8 (K0 : Nat), .int .i64 ((to : Int) - (a : Int)), .int .i64 0] 33) = wz at *
        obtain ⟨m, hm⟩ := (HGL.out.move (hf0.trans hfz)).2.1
        rw [HY2.out]
        refine (word_any ((bs.drop a).take (to - a)) m (by have := HN.out; rw [List.length_take, List.length_drop]; omega) _ hm).mono ?_
        rintro e wz' ⟨rfl, rfl⟩
        have d0 := blkCell h13 0
        have e0 := blkFree h13 0
        have hl13 := blkLt h13
        have H13 := Lib.hid h13; have HB4Z := Lib.hid hb4z; have HFZ := Lib.hid hfz
        obtain ⟨kk, hkk⟩ : ∃ kk, kk = wordM ((bs.drop a).take (to - a)) := ⟨_, rfl⟩
        rw [← hkk]
        have HKK := Lib.hid hkk
        clear h13 hb4z hfz hm hkk
        go_wp2_with fail
        refine (looks_any st hst2 _).mono ?_
        rintro e wl ⟨rfl, hfl⟩
        rw [HLK.out]
        have h13' : wl.heap[wk.heap.size]? = some (.cells #[.int .u8 kk, .int .i64 ((to : Int) - (a : Int)), .int .i64 0] 33 (0, 0)) := hfl.blk (blkSet H13.out 0 (.int .u8 kk)) (fun h => h)
        have hb4' := hfl.blk (blkFar HB4Z.out (p := ⟨wk.heap.size, 0, none⟩) (by simp; omega) (.int .u8 kk)) (fun h => h)
        have d0' := blkCell h13' 0
        have d1' := blkCell h13' 1
        have d2' := blkCell h13' 2
        have e2' := blkFree h13' 2
        have b0' := blkCell hb4' 0; have b1' := blkCell hb4' 1; have b2' := blkCell hb4' 2
        have f0' := blkFree hb4' 0; have f1' := blkFree hb4' 1; have f2' := blkFree hb4' 2
        have hne' : w.heap.size ≠ wk.heap.size := by omega
        have hl13' := blkLt h13'
        have H13' := Lib.hid h13'; have HB4' := Lib.hid hb4'; have HFL := Lib.hid hfl
        clear h13' hb4' hfl d0 e0
        go_wp2_with fail
        have hsz1 := hf0.size
        have hsz2 := HFK.out.size
        refine scan_fin (w1 := wl.setCell ⟨wk.heap.size, 2, none⟩ (.int .i64 1)) rfl rfl rfl (blkFar HB4'.out (by simp; omega) _) rfl (Nat.le_refl _) (((hf0.trans (HFZ.out.setCell (fun h => by simp at h; omega) _)).trans HFL.out).setCell (fun h => by simp at h; omega) _) hat (by rw [HTK.out, ← HKK.out]) rfl
      · have h7b : (((st : Nat) : Int) == 7) = false := by simp; omega
        by_cases hlk : looksM st = true
        · have HTK := Lib.hid (show tokM (bs.drop a) = ⟨kindT.getD st 0, to - a, 1⟩ from by rw [HTOK.out, if_neg h7, hlk]; rfl)
          have HLK := Lib.hid hlk
          clear h7 hlk
          obtain ⟨K0, hK0⟩ : ∃ K0, K0 = kindT.getD st 0 := ⟨_, rfl⟩
          have hix := fun W => kind_ix st hst2 W
          rw [← hK0] at hix
          have HK0 := Lib.hid hK0
          clear hK0
          go_wp2_with fail
          refine (kinds_any _).mono ?_
          rintro e wk ⟨rfl, hfk⟩
          have hb5 := hfk.blk HB5.out (fun h => h)
          have HB6 := Lib.hid hb5
          have HFK := Lib.hid (HFW.out.trans hfk)
          have hl6 := blkLt hb5
          clear hb5 hfk
          go_wp2_with fail
          have h13 := blkNew wk (.cells #[.int .u8 (K0 : Nat), .int .i64 ((to : Int) - (a : Int)), .int .i64 0] 33)
          have hb4z := blkAlloc HB6.out (.cells #[.int .u8 (K0 : Nat), .int .i64 ((to : Int) - (a : Int)), .int .i64 0] 33)
          have hfz := HFK.out.alloc (.cells #[.int .u8 (K0 : Nat), .int .i64 ((to : Int) - (a : Int)), .int .i64 0] 33)
          generalize wk.alloc (.cells #[.int .u8 (K0 : Nat), .int .i64 ((to : Int) - (a : Int)), .int .i64 0] 33) = wz at *
          refine (looks_any st hst2 _).mono ?_
          rintro e wl ⟨rfl, hfl⟩
          rw [HLK.out]
          have h13' := hfl.blk h13 (fun h => h)
          have hb4' := hfl.blk hb4z (fun h => h)
          have d0' := blkCell h13' 0
          have d1' := blkCell h13' 1
          have d2' := blkCell h13' 2
          have e2' := blkFree h13' 2
          have b0' := blkCell hb4' 0; have b1' := blkCell hb4' 1; have b2' := blkCell hb4' 2
          have f0' := blkFree hb4' 0; have f1' := blkFree hb4' 1; have f2' := blkFree hb4' 2
          have hne' : w.heap.size ≠ wk.heap.size := by omega
          have hl13' := blkLt h13'
          have HB4' := Lib.hid hb4'; have HFL := Lib.hid hfl; have HFZ := Lib.hid hfz
          have hsz1 := hf0.size
          have hsz2 := HFK.out.size
          clear h13 h13' hb4' hfl hb4z hfz
          go_wp2_with fail
          refine scan_fin (w1 := wl.setCell ⟨wk.heap.size, 2, none⟩ (.int .i64 1)) rfl rfl rfl (blkFar HB4'.out (by simp; omega) _) rfl (Nat.le_refl _) (((hf0.trans HFZ.out).trans HFL.out).setCell (fun h => by simp at h; omega) _) hat (by rw [HTK.out, ← HK0.out]) rfl
        · have hlk' : looksM st = false := by simpa using hlk
          cases wg with
          | true =>
            have HTK := Lib.hid (show tokM (bs.drop a) = ⟨kindT.getD st 0, to - a, min 3 (bs.length - to + 1)⟩ from by rw [HTOK.out, if_neg h7, hlk']; rfl)
            have HLK := Lib.hid hlk'
            clear h7 hlk hlk'
            obtain ⟨K0, hK0⟩ : ∃ K0, K0 = kindT.getD st 0 := ⟨_, rfl⟩
            have hix := fun W => kind_ix st hst2 W
            rw [← hK0] at hix
            have HK0 := Lib.hid hK0
            clear hK0
            go_wp2_with fail
            refine (kinds_any _).mono ?_
            rintro e wk ⟨rfl, hfk⟩
            have hb5 := hfk.blk HB5.out (fun h => h)
            have HB6 := Lib.hid hb5
            have HFK := Lib.hid (HFW.out.trans hfk)
            have hl6 := blkLt hb5
            clear hb5 hfk
            go_wp2_with fail
            have h13 := blkNew wk (.cells #[.int .u8 (K0 : Nat), .int .i64 ((to : Int) - (a : Int)), .int .i64 0] 33)
            have hb4z := blkAlloc HB6.out (.cells #[.int .u8 (K0 : Nat), .int .i64 ((to : Int) - (a : Int)), .int .i64 0] 33)
            have hfz := HFK.out.alloc (.cells #[.int .u8 (K0 : Nat), .int .i64 ((to : Int) - (a : Int)), .int .i64 0] 33)
            generalize wk.alloc (.cells #[.int .u8 (K0 : Nat), .int .i64 ((to : Int) - (a : Int)), .int .i64 0] 33) = wz at *
            refine (looks_any st hst2 _).mono ?_
            rintro e wl ⟨rfl, hfl⟩
            rw [HLK.out]
            have h13' := hfl.blk h13 (fun h => h)
            have hb4' := hfl.blk hb4z (fun h => h)
            have d0' := blkCell h13' 0
            have d1' := blkCell h13' 1
            have d2' := blkCell h13' 2
            have e2' := blkFree h13' 2
            have b0' := blkCell hb4' 0; have b1' := blkCell hb4' 1; have b2' := blkCell hb4' 2
            have f0' := blkFree hb4' 0; have f1' := blkFree hb4' 1; have f2' := blkFree hb4' 2
            have hne' : w.heap.size ≠ wk.heap.size := by omega
            have hl13' := blkLt h13'
            have HB4' := Lib.hid hb4'; have HFL := Lib.hid hfl; have HFZ := Lib.hid hfz
            have hsz1 := hf0.size
            have hsz2 := HFK.out.size
            clear h13 h13' hb4' hfl hb4z hfz
            go_wp2_with fail
            refine scan_fin (w1 := wl.setCell ⟨wk.heap.size, 2, none⟩ (.int .i64 (min 3 ((n : Int) - (to : Int) + 1)))) rfl rfl rfl (blkFar HB4'.out (by simp; omega) _) rfl (Nat.le_refl _) (((hf0.trans HFZ.out).trans HFL.out).setCell (fun h => by simp at h; omega) _) hat (by rw [HTK.out, ← HK0.out]) (by have := HN.out; omega)
          | false =>
            have HTK := Lib.hid (show tokM (bs.drop a) = ⟨kindT.getD st 0, to - a, 0⟩ from by rw [HTOK.out, if_neg h7, hlk']; rfl)
            have HLK := Lib.hid hlk'
            clear h7 hlk hlk'
            obtain ⟨K0, hK0⟩ : ∃ K0, K0 = kindT.getD st 0 := ⟨_, rfl⟩
            have hix := fun W => kind_ix st hst2 W
            rw [← hK0] at hix
            have HK0 := Lib.hid hK0
            clear hK0
            go_wp2_with fail
            refine (kinds_any _).mono ?_
            rintro e wk ⟨rfl, hfk⟩
            have hb5 := hfk.blk HB5.out (fun h => h)
            have HB6 := Lib.hid hb5
            have HFK := Lib.hid (HFW.out.trans hfk)
            have hl6 := blkLt hb5
            clear hb5 hfk
            go_wp2_with fail
            have h13 := blkNew wk (.cells #[.int .u8 (K0 : Nat), .int .i64 ((to : Int) - (a : Int)), .int .i64 0] 33)
            have hb4z := blkAlloc HB6.out (.cells #[.int .u8 (K0 : Nat), .int .i64 ((to : Int) - (a : Int)), .int .i64 0] 33)
            have hfz := HFK.out.alloc (.cells #[.int .u8 (K0 : Nat), .int .i64 ((to : Int) - (a : Int)), .int .i64 0] 33)
            generalize wk.alloc (.cells #[.int .u8 (K0 : Nat), .int .i64 ((to : Int) - (a : Int)), .int .i64 0] 33) = wz at *
            refine (looks_any st hst2 _).mono ?_
            rintro e wl ⟨rfl, hfl⟩
            rw [HLK.out]
            have h13' := hfl.blk h13 (fun h => h)
            have hb4' := hfl.blk hb4z (fun h => h)
            have d0' := blkCell h13' 0
            have d1' := blkCell h13' 1
            have d2' := blkCell h13' 2
            have e2' := blkFree h13' 2
            have b0' := blkCell hb4' 0; have b1' := blkCell hb4' 1; have b2' := blkCell hb4' 2
            have f0' := blkFree hb4' 0; have f1' := blkFree hb4' 1; have f2' := blkFree hb4' 2
            have hne' : w.heap.size ≠ wk.heap.size := by omega
            have hl13' := blkLt h13'
            have HB4' := Lib.hid hb4'; have HFL := Lib.hid hfl; have HFZ := Lib.hid hfz
            have hsz1 := hf0.size
            have hsz2 := HFK.out.size
            clear h13 h13' hb4' hfl hb4z hfz
            go_wp2_with fail
            refine scan_fin (w1 := wl) rfl rfl rfl HB4'.out rfl (Nat.le_refl _) ((hf0.trans HFZ.out).trans HFL.out) hat (by rw [HTK.out, ← HK0.out]) rfl
end Go.Proofs.YtkicpjjfeekopaaGreatDoor

namespace Go.Proofs.YtkicpjjfeekopaaGreatDoor
theorem scan_le : ∀ (f st : Nat) (bs : List UInt8) (wg : Bool), (scanM f st bs wg).2.1 ≤ bs.length
  | 0, _, _, _ => by simp [scanM]
  | f + 1, st, bs, wg => by
    simp only [scanM]
    by_cases hb : bs = []
    · rw [if_pos hb]; simp
    · rw [if_neg hb]
      obtain ⟨d1, d2, _⟩ := decL_facts bs hb
      split
      · simp
      · rename_i st' _
        have := scan_le f st' (bs.drop (decL bs).2) (st = 0 && (decL bs).1 = 65533 && (decL bs).2 = 1)
        rw [List.length_drop] at this
        simp only
        omega
theorem goes0 (c : Nat) (hc : c < 24) : ∃ st', goesM 0 c = some st' := by
  have h : ∀ c : Fin 24, (goesM 0 c.val).isSome = true := by decide
  exact Option.isSome_iff_exists.1 (h ⟨c, hc⟩)
theorem tok_width (bs : List UInt8) (h : bs ≠ []) : 1 ≤ (tokM bs).width ∧ (tokM bs).width ≤ bs.length := by
  refine ⟨?_, scan_le _ _ _ _⟩
  obtain ⟨d1, d2, _⟩ := decL_facts bs h
  obtain ⟨n, hn⟩ : ∃ n, bs.length = n + 1 := ⟨bs.length - 1, by have := List.length_pos_iff.2 h; omega⟩
  show 1 ≤ (scanM bs.length 0 bs false).2.1
  rw [hn]
  obtain ⟨st', hst⟩ := goes0 _ (cls_lt (decL bs).1)
  simp only [scanM]
  rw [if_neg h, hst]
  simp only
  omega
/-- The tokens of the bytes from a place on. -/
theorem lexM_step (f : Nat) (bs : List UInt8) (k : Nat) (hk : k < bs.length) : lexM (f + 1) (bs.drop k) = tokM (bs.drop k) :: lexM f (bs.drop (k + (tokM (bs.drop k)).width)) := by
  have hne : bs.drop k ≠ [] := fun h => by have := congrArg List.length h; simp at this; omega
  simp only [lexM]
  rw [if_neg hne, List.drop_drop]
theorem lexM_nil (f : Nat) : lexM f [] = [] := by cases f <;> simp [lexM]
theorem lexM_len : ∀ (f : Nat) (bs : List UInt8), (lexM f bs).length ≤ f
  | 0, _ => by simp [lexM]
  | f + 1, bs => by
    simp only [lexM]
    split
    · simp
    · have := lexM_len f (bs.drop (tokM bs).width)
      simp only [List.length_cons]
      omega
end Go.Proofs.YtkicpjjfeekopaaGreatDoor

namespace Go.Proofs.YtkicpjjfeekopaaGreatDoor
open Go.RowKit Go.Shelf
attribute [local go_sem] Oper.semAt_some
def encT (t : Tok) : Array Value := #[.agg (tokCells t).toArray]
/-- The block of the row that a box (block b0) holds. -/
def rowAt (W : World) (b0 : Nat) : Option Nat := match W.cell? ⟨b0, 0, none⟩ with | some v => v.ownBlock | none => none
/-- What a round of the collecting loop keeps: all cells but the box's and its row's. -/
structure KpM (b0 : Nat) (W W' : World) : Prop where
  size : W.heap.size ≤ W'.heap.size
  block : ∀ (k : Nat) (cs : Array Value) (t : TypeId) (fr : Nat × Nat), W.heap[k]? = some (.cells cs t fr) → k ≠ b0 → rowAt W b0 ≠ some k → W'.heap[k]? = some (.cells cs t fr)
  row : rowAt W' b0 = rowAt W b0 ∨ ∃ b, rowAt W' b0 = some b ∧ W.heap.size ≤ b ∧ b < W'.heap.size
theorem KpM.trans {b0 : Nat} {A B C : World} (h : KpM b0 A B) (k : KpM b0 B C) : KpM b0 A C := by
  refine ⟨Nat.le_trans h.size k.size, fun j cs t fr hj hb hr => ?_, ?_⟩
  · refine k.block j cs t fr (h.block j cs t fr hj hb hr) hb (fun e => ?_)
    rcases h.row with h1 | ⟨b, h1, h2, _⟩
    · exact hr (h1 ▸ e)
    · rw [h1] at e; injection e with e
      have := blkLt hj
      omega
  · rcases k.row with k1 | ⟨b, k1, k2, k3⟩
    · rcases h.row with h1 | ⟨b, h1, h2, h3⟩
      · exact .inl (k1.trans h1)
      · exact .inr ⟨b, k1.trans h1, h2, Nat.lt_of_lt_of_le h3 k.size⟩
    · exact .inr ⟨b, k1, Nat.le_trans h.size k2, k3⟩
theorem KpM.putObj {b0 : Nat} {W : World} {l : Nat} {o o' : Obj} (hne : l ≠ b0) (h : W.heap[l]? = some o) (ho : o.isCells = false) : KpM b0 W (W.putObj l o') := by
  refine ⟨by simp, fun k cs t fr hk _ _ => ?_, .inl ?_⟩
  · rw [World.putObj_heap_other (fun e => by subst e; rw [h] at hk; cases hk; simp [Obj.isCells] at ho)]
    exact hk
  · unfold rowAt
    rw [World.cell?_of_block (w := W) (a := ⟨b0, 0, none⟩) (World.putObj_heap_other (fun e => hne e.symm))]
/-- The row is none, or a block of the call's own. -/
def RowOk (n₀ b0 : Nat) (W : World) : Prop := ∀ b, rowAt W b0 = some b → n₀ ≤ b ∧ b < W.heap.size
theorem RowOk.step {n₀ b0 : Nat} {W W' : World} (h : RowOk n₀ b0 W) (k : KpM b0 W W') (hn : n₀ ≤ W.heap.size) : RowOk n₀ b0 W' := by
  intro b hb
  rcases k.row with h1 | ⟨b', h1, h2, h3⟩
  · obtain ⟨r1, r2⟩ := h b (h1 ▸ hb)
    exact ⟨r1, Nat.lt_of_lt_of_le r2 k.size⟩
  · rw [h1] at hb; injection hb with hb; subst hb; exact ⟨by omega, h3⟩
theorem RowOk.fr {n₀ b0 : Nat} {W W' : World} (h : RowOk n₀ b0 W) (hb : b0 < W.heap.size) (hf : Fr (fun _ => False) W W') : RowOk n₀ b0 W' := by
  intro b hb'
  unfold rowAt at hb'
  rw [World.cell?_of_block (w := W) (a := ⟨b0, 0, none⟩) (hf.block b0 hb (fun h => h))] at hb'
  obtain ⟨r1, r2⟩ := h b hb'
  exact ⟨r1, Nat.lt_of_lt_of_le r2 hf.size⟩
theorem KpM.cells {n₀ b0 : Nat} {W W' : World} (k : KpM b0 W W') (hr : RowOk n₀ b0 W) {j : Nat} {cs : Array Value} {t : TypeId} {fr : Nat × Nat} (hj : W.heap[j]? = some (.cells cs t fr)) (h1 : j < n₀) (h2 : j ≠ b0) : W'.heap[j]? = some (.cells cs t fr) :=
  k.block j cs t fr hj h2 (fun e => by have := (hr j e).1; omega)
theorem KpM.cell {n₀ b0 : Nat} {W W' : World} (k : KpM b0 W W') (hr : RowOk n₀ b0 W) {j i : Nat} {v : Value} (hj : W.cell? ⟨j, i, none⟩ = some v) (h1 : j < n₀) (h2 : j ≠ b0) : W'.cell? ⟨j, i, none⟩ = some v := by
  have h : ∃ cs t fr, W.heap[j]? = some (.cells cs t fr) := by
    simp only [World.cell?] at hj
    split at hj
    · rename_i cs t fr h
      exact ⟨cs, t, fr, h⟩
    · cases hj
  obtain ⟨cs, t, fr, h⟩ := h
  rw [World.cell?_of_block (w := W) (a := ⟨j, i, none⟩) ((k.cells hr h h1 h2).trans h.symm)]
  exact hj
theorem Glob.kp {n₀ b0 : Nat} {W W' : World} (h : Glob W) (k : KpM b0 W W') (hr : RowOk n₀ b0 W) (hn : 3 < n₀) (hb : 3 < b0) : Glob W' := by
  obtain ⟨⟨h1, h2⟩, ⟨m, h3⟩, h4⟩ := h
  exact ⟨⟨fun c hc => k.cell hr (h1 c hc) (by omega) (by omega), fun i hi => ⟨k.cell hr (h2 i hi).1 (by omega) (by omega), k.cell hr (h2 i hi).2 (by omega) (by omega)⟩⟩, ⟨m, k.cell hr h3 (by omega) (by omega)⟩, Nat.lt_of_lt_of_le h4 k.size⟩
theorem Fr.grownBy {w w' : World} (h : Fr (fun _ => False) w w') : w.grownBy w' none := ⟨h.os, h.tape, h.output, h.size, fun k hk _ => h.block k hk (fun h => h)⟩
set_option maxRecDepth 100000 in
set_option maxHeartbeats 2000000 in
theorem each1_in (n : Nat) (hn : 3 ≤ n) (l Bs n₀ b0 : Nat) (bs : List UInt8) (hlen : bs.length < 100000) (hB : Bs < n₀) (hBb : Bs ≠ b0) (hb0 : b0 < n₀) (h3 : 3 < n₀) (h3b : 3 < b0) (J Jx : List Tok → World → Prop)
    (hY : ∀ pre x W, J pre W → pre.length < bs.length → YieldAt Fence.wide (n - 1) Tryz.prog l (encT x) W fun e W' =>
      (e = .returned (.bool true) ∧ J (pre ++ [x]) W' ∧ KpM b0 W W') ∨ (e = .returned (.bool false) ∧ Jx (pre ++ [x]) W'))
    (W : World) (hW : n₀ ≤ W.heap.size) (hRow : RowOk n₀ b0 W) (hJ : AbidesFrom W.heap.size J) (hBs : W.cell? ⟨Bs, 0, none⟩ = some (.string ⟨bs.toArray⟩)) (hG : Glob W) (h0 : J [] W) :
    CallsIn Fence.wide n Tryz.prog 80 #[.func (.yield l) #[] #[], .pointer (some ⟨Bs, 0, none⟩)] W fun e W' => (∃ v, e = .returned v) ∧
      ((∃ ys, ys = lexM bs.length bs ∧ J ys W') ∨ (∃ pre, pre <+: lexM bs.length bs ∧ Jx pre W')) := by
  refine callsIn_of_wp Tryz.func80 rfl trivial ?_ rfl
  simp only [Tryz.ntmps80, List.size_toArray, List.length_cons, List.length_nil, Nat.reduceAdd, Nat.reduceSub, Array.replicate_succ, Array.replicate_zero, List.push_toArray, List.append_toArray, List.nil_append, List.cons_append]
  gi_wp2
  obtain ⟨N, hN⟩ : ∃ N, N = bs.length := ⟨_, rfl⟩
  have hsz : (⟨bs.toArray⟩ : ByteArray).size = N := by rw [hN]; simp [ByteArray.size]
  gi_loopw [3] (fun p wr => ∃ (pre : List Tok) (k f : Nat), p = .int .i64 k ∧ k ≤ N ∧ N - k ≤ f ∧ lexM bs.length bs = pre ++ lexM f (bs.drop k) ∧ pre.length ≤ k ∧ wr.cell? ⟨Bs, 0, none⟩ = some (.string ⟨bs.toArray⟩) ∧ Glob wr ∧ W.heap.size ≤ wr.heap.size ∧ RowOk n₀ b0 wr ∧ J pre wr)
    (fun p wr => N - (intOf p).toNat)
  case atStart =>
    exact ⟨[], 0, bs.length, rfl, Nat.zero_le _, by omega, by simp, Nat.le_refl _, hBs, hG, Nat.le_refl _, hRow, h0⟩
  case round =>
    obtain ⟨pre, k, f, rfl, hk, hf, hx, hpl, hbox, hGr, hsr, hRr, hJs⟩ := hrel
    by_cases hlt : k < N
    · have hpre : pre.length < bs.length := by omega
      obtain ⟨t, ht⟩ : ∃ t, t = tokM (bs.drop k) := ⟨_, rfl⟩
      obtain ⟨tk, tw, tl⟩ := t
      have hne : bs.drop k ≠ [] := fun h => by have := congrArg List.length h; simp at this; omega
      have htw := tok_width (bs.drop k) hne
      rw [← ht, List.length_drop] at htw
      simp only at htw
      have HT := Lib.hid ht
      have HJ := Lib.hid hJ; have HY := Lib.hid hY; have HX := Lib.hid hx; have HG := Lib.hid hGr; have HR := Lib.hid hRr; have HJS := Lib.hid hJs
      clear hJ hY hx hGr hRr hJs ht hne
      gi_wp2_with (refine ⟨trivial, fun _ => by omega, ?_⟩; gi_at_call 81; refine ((callsIn_wide (n := n - 1)).2 (scan_any bs k hlen (by omega) _ HG.out)).mono ?_; rintro e w1 ⟨rfl, hf⟩; rw [← HT.out]; rw [show (tokCells ⟨tk, tw, tl⟩).toArray = #[.int .u8 tk, .int .i64 tw, .int .i64 tl] from rfl]; have hfy := Fr.alloc hf (.cells #[.int .u8 tk, .int .i64 tw, .int .i64 tl] 33); have hJy := HJ.out pre wr _ none HJS.out (Fr.grownBy hfy) (fun r e => by cases e); obtain ⟨fn, tmps, assign, body, hy, hR⟩ := HY.out pre ⟨tk, tw, tl⟩ _ hJy hpre; have HFY := Lib.hid hfy; have HRY := Lib.hid hR; clear hfy hJy hR; dsimp only [encT, tokCells] at hy)
      refine ⟨fun _ => by omega, HRY.out.mono ?_⟩
      have hRy : RowOk n₀ b0 (w1.alloc (.cells #[.int .u8 tk, .int .i64 tw, .int .i64 tl] 33)) := HR.out.fr (by omega) HFY.out
      have hGy := HG.out.move HFY.out
      have hbxy : (w1.alloc (.cells #[.int .u8 tk, .int .i64 tw, .int .i64 tl] 33)).cell? ⟨Bs, 0, none⟩ = some (.string ⟨bs.toArray⟩) := (World.cell?_of_block (w := wr) (a := ⟨Bs, 0, none⟩) (HFY.out.block Bs (by omega) (fun h => h))).trans hbox
      have ht4 := blkNew w1 (.cells #[.int .u8 tk, .int .i64 tw, .int .i64 tl] 33)
      have hszy := HFY.out.size
      have hw1 : n₀ ≤ w1.heap.size := by have := hf.size; omega
      have hrne : rowAt (w1.alloc (.cells #[.int .u8 tk, .int .i64 tw, .int .i64 tl] 33)) b0 ≠ some w1.heap.size := by
        have h := HR.out.fr (W' := w1) (by omega) hf
        intro e
        unfold rowAt at e
        rw [World.cell?_of_block (w := w1) (a := ⟨b0, 0, none⟩) (Below.heap_alloc _ _ _ (by simp; omega))] at e
        have := (h _ e).2
        omega
      generalize (w1.alloc (.cells #[.int .u8 tk, .int .i64 tw, .int .i64 tl] 33)) = wy at *
      rintro e W' (⟨rfl, hJ', hk'⟩ | ⟨rfl, hJx'⟩)
      · have hb' := hk'.block _ _ _ _ ht4 (by omega) hrne
        have c1 := blkCell hb' 1
        have hbox' := hk'.cell hRy hbxy hB hBb
        have hG' := hGy.kp hk' hRy h3 h3b
        have hR' := hRy.step hk' (by omega)
        have hs' := hk'.size
        have HG' := Lib.hid hG'; have HR' := Lib.hid hR'; have HJ' := Lib.hid hJ'
        clear hG' hR' hJ' hk' hb' HRY hy ht4 hRy hGy
        gi_wp2
        go_roundw
        case rel => 
          obtain ⟨f', rfl⟩ : ∃ f', f = f' + 1 := ⟨f - 1, by omega⟩
          refine ⟨pre ++ [⟨tk, tw, tl⟩], k + tw, f', by go_num, by omega, by omega, ?_, by simp; omega, hbox', HG'.out, by omega, HR'.out, HJ'.out⟩
          rw [HX.out, lexM_step f' bs k (by omega), ← HT.out]
          simp
        case measure => simp [intOf]; omega
      · clear HRY hy
        gi_wp2
        refine bodyPost_ret (results_none rfl _ _ _) rfl ?_
        refine ⟨⟨_, rfl⟩, .inr ⟨pre ++ [⟨tk, tw, tl⟩], ?_, hJx'⟩⟩
        obtain ⟨f', rfl⟩ : ∃ f', f = f' + 1 := ⟨f - 1, by omega⟩
        rw [HX.out, lexM_step f' bs k (by omega), ← HT.out]
        exact ⟨lexM f' (bs.drop (k + tw)), by simp⟩
    · obtain rfl : k = N := by omega
      gi_wp2
      go_end0
      exact ⟨⟨_, rfl⟩, .inl ⟨pre, by rw [hx, List.drop_eq_nil_of_le (by omega), lexM_nil, List.append_nil], hJs⟩⟩
end Go.Proofs.YtkicpjjfeekopaaGreatDoor

namespace Go.Proofs.YtkicpjjfeekopaaGreatDoor
open Go.RowKit Go.Shelf
attribute [local go_sem] Oper.semAt_some
theorem each_stops (n : Nat) (hn : 3 ≤ n) (Bs b0 : Nat) (bs : List UInt8) (w : World) (hlen : bs.length < 100000) (hB : Bs < w.heap.size) (hBb : Bs ≠ b0) (hb0 : b0 < w.heap.size) (h3 : 3 < w.heap.size) (h3b : 3 < b0)
    (hrow : rowAt w b0 = none) (hBs : w.cell? ⟨Bs, 0, none⟩ = some (.string ⟨bs.toArray⟩)) (hG : Glob w) :
    SeqStopsK Fence.wide n Tryz.prog 80 #[.pointer (some ⟨Bs, 0, none⟩)] encT (KpM b0) (fun ys => ys = lexM bs.length bs) (fun pre => pre <+: lexM bs.length bs) bs.length w := fun l J Jx W hW hJ _ hY h0 => by
  have hf : Fr (fun _ => False) w W := Fr.of_below hW
  refine each1_in n hn l Bs w.heap.size b0 bs hlen hB hBb hb0 h3 h3b J Jx hY W hf.size ?_ hJ ?_ (hG.move hf) h0
  · intro b hb
    unfold rowAt at hb hrow
    rw [World.cell?_of_block (w := w) (a := ⟨b0, 0, none⟩) (hf.block b0 hb0 (fun h => h)), hrow] at hb
    cases hb
  · rw [World.cell?_of_block (w := w) (a := ⟨Bs, 0, none⟩) (hf.block Bs hB (fun h => h))]
    exact hBs
theorem toksCells_snoc (pre : List Tok) (x : Tok) : toksCells (pre ++ [x]) = toksCells pre ++ tokCells x := by
  rw [toksCells_append]; simp [toksCells]
theorem cells3 {w : World} {g : Nat} {a b c : Value} {t : TypeId} {fr : Nat × Nat} (h : w.heap[g]? = some (.cells #[a, b, c] t fr)) : ∀ (j : Nat) (u : Value), [a, b, c][j]? = some u → w.cell? ((⟨g, 0, none⟩ : Addr).add j) = some u := by
  intro j u hu
  have hadd : (⟨g, 0, none⟩ : Addr).add j = ⟨g, j, none⟩ := by unfold Addr.add; split <;> simp_all
  rw [hadd, blkCell h]
  simpa using hu
theorem info33 : (Tryz.prog.info? 33).map (fun i => (i.zero, i.size, i.bytes)) = some (some (.agg #[.int .u8 0, .int .i64 0, .int .i64 0]), 3, 24) := by kernel_rfl
/-- Between two rounds. -/
def ApI (b0 : Nat) (w : World) (pre : List Tok) (W : World) : Prop :=
  (∃ v, W.heap[b0]? = some (.cells #[v] 23 (0, 0)) ∧ W.ownsRow w.heap.size 33 3 v pre.length (toksCells pre)) ∧ Below w.heap.size w W
theorem apI_own (b0 : Nat) (w : World) (B : Nat) (hB : w.heap.size ≤ B) : OwnFrom B (ApI b0 w) := by
  intro pre W W' row h hg hr
  obtain ⟨⟨v, h1, h2⟩, h3⟩ := h
  have hk : ∀ (j : Nat) (cs : Array Value) (t : TypeId) (fr : Nat × Nat), W.heap[j]? = some (.cells cs t fr) → W'.heap[j]? = some (.cells cs t fr) := fun j cs t fr hj => by
    have hne : some j ≠ row := fun e => by
      obtain ⟨_, o, ho, hc⟩ := hr j e.symm
      rw [hj] at ho; cases ho; simp [Obj.isCells] at hc
    exact (hg.block j (blkLt hj) hne).trans hj
  refine ⟨⟨v, hk _ _ _ _ h1, ownMove h2 (fun k hk' hl => ?_)⟩, h3.grown hg h3.size (fun k e => by have := (hr k e).1; omega)⟩
  obtain ⟨cur, hc⟩ := ownBlk h2 hk'
  exact (hk _ _ _ _ hc).trans hc.symm
/-- One more has come. -/
theorem ap_body {w W w1 : World} {pre : List Tok} {tk tw tl B : Nat} {v v' : Value} {o : Obj} (h1 : W.heap[w.heap.size]? = some (.cells #[v] 23 (0, 0))) (h2 : W.ownsRow w.heap.size 33 3 v pre.length (toksCells pre)) (h3 : Below w.heap.size w W)
    (hown : w1.ownsRow w.heap.size 33 3 v' (pre.length + 1) (toksCells pre ++ [.int .u8 tk, .int .i64 tw, .int .i64 tl])) (hgrow : (W.alloc o).grownBy w1 v.ownBlock) (hat : v'.ownBlock = v.ownBlock ∨ v'.ownBlock = some (W.alloc o).heap.size) (hb1 : w1.heap[w.heap.size]? = some (.cells #[v] 23 (0, 0))) :
    KeepsFrom B W (w1.setCell ⟨w.heap.size, 0, none⟩ v') ∧ KpM w.heap.size W (w1.setCell ⟨w.heap.size, 0, none⟩ v') ∧ ApI w.heap.size w (pre ++ [⟨tk, tw, tl⟩]) (w1.setCell ⟨w.heap.size, 0, none⟩ v') := by
  have hsz : W.heap.size ≤ (w1.setCell ⟨w.heap.size, 0, none⟩ v').heap.size := by
    have := hgrow.size
    simp at this ⊢
    omega
  have hkeep : ∀ k x, W.heap[k]? = some x → k ≠ w.heap.size → v.ownBlock ≠ some k → (w1.setCell ⟨w.heap.size, 0, none⟩ v').heap[k]? = some x := fun k x hk hne hr => by
    rw [Below.heap_setCell _ _ _ _ hne, hgrow.block k (blkLt (blkAlloc hk o)) (fun e => hr e.symm)]
    exact blkAlloc hk o
  have hb2 := blkSet hb1 0 v'
  refine ⟨⟨hsz, fun k x _ hk hx => hkeep k x hk (fun e => ?_) (fun e => ?_)⟩, ⟨hsz, fun k cs t fr hk hne hr => hkeep k _ hk hne (fun e => hr ?_), ?_⟩, ⟨v', hb2, ?_⟩, ?_⟩
  · subst e; rw [h1] at hk; cases hk; simp [Obj.isCells] at hx
  · obtain ⟨cur, hc⟩ := ownBlk h2 e
    rw [hc] at hk; cases hk; simp [Obj.isCells] at hx
  · unfold rowAt; rw [blkCell h1 0]; exact e
  · have e1 : rowAt (w1.setCell ⟨w.heap.size, 0, none⟩ v') w.heap.size = v'.ownBlock := by unfold rowAt; rw [blkCell hb2 0]; rfl
    have e2 : rowAt W w.heap.size = v.ownBlock := by unfold rowAt; rw [blkCell h1 0]; rfl
    rw [e1, e2]
    rcases hat with h | h
    · exact .inl h
    · refine .inr ⟨_, h, by simp, ?_⟩
      obtain ⟨cur, hc⟩ := ownBlk hown h
      have := blkLt hc
      simpa using this
  · rw [List.length_append, toksCells_snoc]
    refine ownMove hown (fun k hk hl => Below.heap_setCell _ _ _ _ ?_)
    obtain ⟨cur, hc⟩ := ownBlk hown hk
    exact blkNe hc hb1 (by decide)
  · refine ((h3.alloc h3.size o).grown hgrow (by have := h3.size; simp; omega) (fun k e => ?_)).setCell (p := ⟨w.heap.size, 0, none⟩) (Nat.le_refl _) _
    rcases h2.2 with ⟨rfl, _⟩ | ⟨g, cap, cur, rfl, hg, _⟩
    · simp [Value.ownBlock] at e
    · have : g = k := by simpa [Value.ownBlock] using e
      omega
set_option maxRecDepth 100000 in
set_option maxHeartbeats 2000000 in
theorem appendSeq_any (bs : List UInt8) (Bs : Nat) (w : World) (hlen : bs.length < 100000) (hG : Glob w) (hBs : w.cell? ⟨Bs, 0, none⟩ = some (.string ⟨bs.toArray⟩)) (hB : Bs < w.heap.size) :
    Calls Tryz.prog 79 #[.slice none 0 0, .func (.func 80) #[] #[.pointer (some ⟨Bs, 0, none⟩)]] w fun e w' => (∃ v, e = .returned v ∧ w'.ownsRow w.heap.size 33 3 v (lexM bs.length bs).length (toksCells (lexM bs.length bs))) ∧ Fr (fun _ => False) w w' := by
  refine (callsIn_wide (n := 5)).1 ?_
  refine callsIn_of_wp_marks Tryz.func79 rfl trivial ?_ rfl
  simp only [Tryz.ntmps79, List.size_toArray, List.length_cons, List.length_nil, Nat.reduceAdd, Nat.reduceSub, Array.replicate_succ, Array.replicate_zero, List.push_toArray, List.append_toArray, List.nil_append, List.cons_append]
  gi_wp2
  have h3w := hG.2.2
  have hb0 := blkNew w (.cells #[.slice none 0 0] 23)
  have hf0 : Fr (fun _ => False) w (w.alloc (.cells #[.slice none 0 0] 23)) := (Fr.refl _ _).alloc _
  have hbel : Below w.heap.size w (w.alloc (.cells #[.slice none 0 0] 23)) := (Below.refl _ w).alloc (Nat.le_refl _) _
  have hsz : (w.alloc (.cells #[.slice none 0 0] 23)).heap.size = w.heap.size + 1 := by simp
  obtain ⟨W0, hW0⟩ : ∃ W0, w.alloc (.cells #[.slice none 0 0] 23) = W0 := ⟨_, rfl⟩
  rw [hW0] at hb0 hf0 hbel hsz ⊢
  clear hW0
  refine wpIn_rangeFunc_ownH rfl (by omega) (gf := 80) (lb := #[.pointer (some ⟨Bs, 0, none⟩)]) rfl trivial (enters_of Tryz.func80 (by kernel_rfl) rfl)
    (each_stops 4 (by omega) Bs w.heap.size bs W0 hlen (by omega) (by omega) (by omega) (by omega) (by omega) (by unfold rowAt; rw [blkCell hb0 0]; rfl)
      ((World.cell?_of_block (w := w) (a := ⟨Bs, 0, none⟩) (hf0.block Bs hB (fun h => h))).trans hBs) (hG.move hf0))
    (fun h k => h.trans k) (fun W l o o' hl h hc _ => KpM.putObj (by omega) h hc) (Below.refl _ _) (fun _ => rfl)
    (ApI w.heap.size w) (fun _ _ _ => False) (apI_own _ _ _ (by omega)) (fun _ _ _ _ _ hs _ _ => hs)
    ⟨⟨.slice none 0 0, hb0, World.ownsRow_nil _ _ _ _⟩, hbel⟩
    (fun x a' W => ∃ Bx, w.heap.size < Bx ∧ W.heap[Bx]? = some (.cells (tokCells x).toArray 33 (0, 0)) ∧ a' = { tmps := #[.slice none 0 0, .func (.func 80) #[] #[.pointer (some ⟨Bs, 0, none⟩)], .pointer (some ⟨w.heap.size, 0, none⟩), undef, .slice none 0 0, .pointer (some ⟨Bx, 0, none⟩), .func (.func 80) #[] #[.pointer (some ⟨Bs, 0, none⟩)], .agg (tokCells x).toArray, undef, undef, undef, undef, undef], defers := [] })
    (fun x a' _ X Y row hs hg hr => by
      obtain ⟨Bx, h1, h2, h3⟩ := hs
      exact ⟨Bx, h1, (hg.block Bx (blkLt h2) (fun e => by obtain ⟨_, o, ho, hc⟩ := hr Bx e.symm; rw [h2] at ho; cases ho; simp [Obj.isCells] at hc)).trans h2, h3⟩)
    ?assign ?body ?done ?stop
  case assign =>
    rintro l pre ⟨tk, tw, tl⟩ W K hI hK
    dsimp only [encT, tokCells] at hK ⊢
    gi_wp2
    obtain ⟨⟨v, h1, h2⟩, h3⟩ := hI
    have hal : Fr (fun _ => False) W (W.alloc (.cells #[.int .u8 tk, .int .i64 tw, .int .i64 tl] 33)) := (Fr.refl _ _).alloc _
    refine hK _ _ ((KeepsOthers.alloc _ _).from _) ⟨by simp, fun k cs t fr hk _ _ => blkAlloc hk _, .inl ?_⟩ ⟨⟨v, blkAlloc h1 _, h2.alloc _⟩, h3.alloc h3.size _⟩ ⟨W.heap.size, blkLt h1, blkNew _ _, rfl⟩
    unfold rowAt
    rw [World.cell?_of_block (w := W) (a := ⟨w.heap.size, 0, none⟩) (hal.block _ (blkLt h1) (fun h => h))]
  case body =>
    rintro l pre ⟨tk, tw, tl⟩ a' W hl ⟨rr, hr⟩ ⟨⟨v, h1, h2⟩, h3⟩ ⟨Bx, hBx, hx, rfl⟩ hlt
    dsimp only [tokCells] at hx ⊢
    have c0 := blkCell h1 0
    have z0 := blkFree h1 0
    have x0 := blkCell hx 0; have x1 := blkCell hx 1; have x2 := blkCell hx 2
    obtain ⟨i0, hi, hz0, hz1, hz2⟩ := info_parts info33
    have hll : pre.length < 100000 := by omega
    have hWs := blkLt h1
    gi_wp2_with (gi_at_builtin; (refine wpListIn_append_own_at _ rfl _ _ 23 rfl w.heap.size 33 i0 _ 3 24 Tryz.underlying23 hi hz0 hz1 hz2 rfl (by decide) _ _ _ rfl (h2.alloc _) ⟨W.heap.size, 0, none⟩ 1 1 [.int .u8 tk, .int .i64 tw, .int .i64 tl] rfl rfl (cells3 (blkNew _ _)) (by intro u hu; simp at hu; rcases hu with rfl | rfl | rfl <;> rfl) (by unfold maxLen; omega) (by omega) (by simp; omega) ?_; intro v' w1 hown' hgrow hnil hat; obtain ⟨a', c', rfl, _, _⟩ := ownShape hown'; have hb1 := grownBlk hgrow (blkAlloc h1 _) (fun e => blkNe (ownBlk (h2.alloc (.cells #[.int .u8 tk, .int .i64 tw, .int .i64 tl] 33)) e.symm).choose_spec (blkAlloc h1 _) (by decide) rfl); have y0 := blkCell hb1 0; have yz := blkFree hb1 0))
    exact ap_body h1 h2 h3 hown' hgrow hat hb1
  case done =>
    rintro D ys W hD rfl ⟨⟨v, h1, h2⟩, h3⟩ hK
    have c0 := blkCell h1 0
    gi_wp2
    refine ⟨by simp, .inl ⟨_, _, rfl, run_takeDeferred hK, ?_⟩⟩
    refine ⟨_, results_tmp rfl _ _ _, ⟨v, rfl, ownMove h2 (fun k hk hl => World.putObj_heap_other (fun e => ?_))⟩, ?_⟩
    · obtain ⟨cur, hc⟩ := ownBlk h2 hk
      subst e
      rw [hK] at hc
      cases hc
    · exact (Fr.of_below h3).trans' (S' := fun k => k = D) ⟨rfl, rfl, rfl, by simp, fun k _ hk => World.putObj_heap_other (fun e => hk e)⟩ (fun k hk e => by omega)
  case stop =>
    rintro D c pre W _ _ h _
    exact h.elim
end Go.Proofs.YtkicpjjfeekopaaGreatDoor

namespace Go.Proofs.YtkicpjjfeekopaaGreatDoor
open Go.RowKit
theorem each_any (s : ByteArray) (w : World) : Calls Tryz.prog 50 #[.string s] w fun e w' => e = .returned (.func (.func 80) #[] #[.pointer (some ⟨w.heap.size, 0, none⟩)]) ∧ w'.heap[w.heap.size]? = some (.cells #[.string s] 9 (0, 0)) ∧ Fr (fun _ => False) w w' := by
  go_enter Tryz.func50, Tryz.ntmps50
  go_wp2
  go_ret
  exact ⟨rfl, blkNew _ _, (Fr.refl _ _).alloc _⟩
theorem collect_any (bs : List UInt8) (Bs : Nat) (w : World) (hlen : bs.length < 100000) (hG : Glob w) (hBs : w.cell? ⟨Bs, 0, none⟩ = some (.string ⟨bs.toArray⟩)) (hB : Bs < w.heap.size) :
    Calls Tryz.prog 49 #[.func (.func 80) #[] #[.pointer (some ⟨Bs, 0, none⟩)]] w fun e w' => (∃ v, e = .returned v ∧ w'.ownsRow w.heap.size 33 3 v (lexM bs.length bs).length (toksCells (lexM bs.length bs))) ∧ Fr (fun _ => False) w w' := by
  have HA := Lib.hid (appendSeq_any bs Bs w hlen hG hBs hB)
  clear hG hBs hB
  go_enter Tryz.func49, Tryz.ntmps49
  go_wp2_with fail
  refine HA.out.mono ?_
  rintro e w1 ⟨⟨v, rfl, ho⟩, hf⟩
  have HO := Lib.hid ho
  clear ho
  go_wp2_with fail
  go_ret
  exact ⟨⟨v, rfl, HO.out⟩, hf⟩
set_option maxRecDepth 100000 in
/-- lex.All. -/
theorem all_any (bs : List UInt8) (w : World) (hlen : bs.length < 100000) (hG : Glob w) :
    Calls Tryz.prog 16 #[.string ⟨bs.toArray⟩] w fun e w' => (∃ v, e = .returned v ∧ w'.ownsRow w.heap.size 33 3 v (lexM bs.length bs).length (toksCells (lexM bs.length bs))) ∧ Fr (fun _ => False) w w' := by
  obtain ⟨s, hs⟩ : ∃ s : ByteArray, s = ⟨bs.toArray⟩ := ⟨_, rfl⟩
  rw [← hs]
  have HS := Lib.hid hs
  clear hs
  go_enter Tryz.func16, Tryz.ntmps16
  go_wp2_with fail
  refine (each_any s _).mono ?_
  rintro e w1 ⟨rfl, hb, hf⟩
  rw [HS.out] at hb
  have HB := Lib.hid hb; have HF := Lib.hid hf
  have hlt := blkLt hb
  clear hb hf
  go_wp2_with fail
  refine (collect_any bs w.heap.size w1 hlen (hG.move HF.out) (blkCell HB.out 0) hlt).mono ?_
  rintro e w2 ⟨⟨v, rfl, ho⟩, hf2⟩
  have HO := Lib.hid ho
  clear ho
  go_wp2_with fail
  go_ret
  exact ⟨⟨v, rfl, ownLower HO.out HF.out.size⟩, HF.out.trans hf2⟩
end Go.Proofs.YtkicpjjfeekopaaGreatDoor

namespace Go.Proofs.YtkicpjjfeekopaaGreatDoor
/-- Every state that is reached is one, and none is the first after a step. -/
theorem scan_st : ∀ (f st : Nat) (bs : List UInt8) (wg : Bool), st < 35 → (scanM f st bs wg).1 < 35
  | 0, _, _, _, h => by simpa [scanM] using h
  | f + 1, st, bs, wg, h => by
    simp only [scanM]
    by_cases hb : bs = []
    · rw [if_pos hb]; exact h
    · rw [if_neg hb]
      split
      · exact h
      · rename_i st' hst
        exact scan_st f st' _ _ (goes_lt _ _ _ h (cls_lt _) hst)
theorem goes_ne0' : ∀ st : Fin 35, ∀ c : Fin 24, ∀ x ∈ goesM st.val c.val, x ≠ 0 := by decide
theorem scan_ne : ∀ (f st : Nat) (bs : List UInt8) (wg : Bool), st < 35 → st ≠ 0 → (scanM f st bs wg).1 ≠ 0
  | 0, _, _, _, _, h => by simpa [scanM] using h
  | f + 1, st, bs, wg, h, h0 => by
    simp only [scanM]
    by_cases hb : bs = []
    · rw [if_pos hb]; exact h0
    · rw [if_neg hb]
      split
      · exact h0
      · rename_i st' hst
        exact scan_ne f st' _ _ (goes_lt _ _ _ h (cls_lt _) hst) (goes_ne0' ⟨st, h⟩ ⟨_, cls_lt _⟩ st' hst)
theorem index_occ : ∀ (s sub : List UInt8), 0 ≤ Lib.index s sub → sub.isPrefixOf (s.drop (Lib.index s sub).toNat) = true
  | [], sub, h => by
    unfold Lib.index at h ⊢
    split at h
    · rename_i he
      rw [if_pos he]
      cases sub with
      | nil => rfl
      | cons _ _ => simp at he
    · omega
  | b :: l, sub, h => by
    have ih := index_occ l sub
    unfold Lib.index at h ⊢
    by_cases h1 : sub.isPrefixOf (b :: l) = true
    · rw [if_pos h1]; exact h1
    · rw [if_neg h1] at h ⊢
      have hge := Lib.index_ge l sub
      by_cases h2 : (Lib.index l sub == -1) = true
      · rw [if_pos h2] at h; omega
      · rw [if_neg h2] at h ⊢
        have h3 : Lib.index l sub ≠ -1 := by simpa using h2
        have h4 : 0 ≤ Lib.index l sub := by omega
        have := ih h4
        rw [show (Lib.index l sub + 1).toNat = (Lib.index l sub).toNat + 1 from by omega, List.drop_succ_cons]
        exact this
set_option maxRecDepth 100000 in
theorem words_at : ∀ q : Fin 41, wordsB[q.val]? = some 32 → q.val + 3 ≤ 40 → Lib.countByte (wordsB.take q.val) 32 ≤ 7 := by decide
theorem word_kind (bs : List UInt8) (h : plainW bs = true) : wordM bs = 6 ∨ (10 ≤ wordM bs ∧ wordM bs ≤ 17) := by
  unfold wordM
  rw [if_pos h]
  split
  · rename_i h0
    right
    have ho := index_occ _ _ h0
    have hl := index_le wordsB ([32] ++ bs ++ [32])
    have hlen : wordsB.length = 40 := by decide
    obtain ⟨q, hq⟩ := Int.eq_ofNat_of_zero_le h0
    rw [hq] at ho hl ⊢
    simp only [Int.toNat_natCast] at ho ⊢
    obtain ⟨r, hr⟩ := List.isPrefixOf_iff_prefix.1 ho
    have hne : bs ≠ [] := ((plainW_iff bs).1 h).1
    have hbl := List.length_pos_iff.2 hne
    have hll := congrArg List.length hr
    simp only [List.length_append, List.length_cons, List.length_nil, List.length_drop] at hll
    have hw : wordsB[q]? = some 32 := by
      have : (wordsB.drop q)[0]? = some 32 := by rw [← hr]; simp
      rwa [List.getElem?_drop, Nat.add_zero] at this
    have := words_at ⟨q, by omega⟩ hw (by simp only; omega)
    simp only at this
    omega
  · exact .inl rfl
end Go.Proofs.YtkicpjjfeekopaaGreatDoor

namespace Go.Proofs.YtkicpjjfeekopaaGreatDoor
theorem decN_ge (n b0 b1 b2 b3 : Nat) (h : ¬ b0 < 128) : 128 ≤ (Lib.decodeN n b0 b1 b2 b3).1 := by
  unfold Lib.decodeN
  rw [if_neg h]
  repeat' split
  all_goals (simp only; omega)
theorem decL_cons (b : UInt8) (r : List UInt8) : (b.toNat < 128 → decL (b :: r) = (b.toNat, 1)) ∧ (¬ b.toNat < 128 → 128 ≤ (decL (b :: r)).1) := by
  have hs : (⟨(b :: r).toArray⟩ : ByteArray).size = r.length + 1 := by simp [ByteArray.size]
  have hg : (⟨(b :: r).toArray⟩ : ByteArray).get! 0 = b := by simp [ByteArray.get!]
  unfold decL Lib.decodeGo
  rw [if_neg (by omega), Lib.decode_at, hg]
  constructor
  · intro h
    unfold Lib.decodeN
    rw [if_pos h]
  · exact fun h => decN_ge _ _ _ _ _ h
theorem cls34 (r : Nat) (h : clsM r = 3 ∨ clsM r = 4) : r < 128 := by
  unfold clsM at h
  repeat' split at h
  all_goals omega
theorem goes7' : ∀ st : Fin 35, ∀ c : Fin 24, ∀ x ∈ goesM st.val c.val, x = 7 → (st.val = 0 ∧ c.val = 3) ∨ (st.val = 7 ∧ (c.val = 3 ∨ c.val = 4)) := by decide
theorem goes7 {st c : Nat} (hst : st < 35) (hc : c < 24) (h : goesM st c = some 7) : (st = 0 ∧ c = 3) ∨ (st = 7 ∧ (c = 3 ∨ c = 4)) := goes7' ⟨st, hst⟩ ⟨c, hc⟩ 7 h rfl
theorem from7' : ∀ c : Fin 24, ∀ x ∈ goesM 7 c.val, x = 7 := by decide
theorem into7' : ∀ st : Fin 35, ∀ c : Fin 24, st.val ≠ 0 → st.val ≠ 7 → ∀ x ∈ goesM st.val c.val, x ≠ 7 := by decide
/-- The bytes that are taken in the state of a name. -/
theorem scan7 : ∀ (f : Nat) (bs : List UInt8) (wg : Bool), (scanM f 7 bs wg).1 = 7 ∧ ∀ b ∈ bs.take (scanM f 7 bs wg).2.1, clsM b.toNat = 3 ∨ clsM b.toNat = 4
  | 0, _, _ => by simp [scanM]
  | f + 1, bs, wg => by
    simp only [scanM]
    cases bs with
    | nil => simp
    | cons b r =>
      rw [if_neg (by simp)]
      split
      · simp
      · rename_i st' hst
        have h7 : st' = 7 := from7' ⟨_, cls_lt _⟩ st' hst
        subst h7
        rcases goes7 (by omega) (cls_lt _) hst with ⟨h, _⟩ | ⟨_, hc⟩
        · omega
        · have hb : b.toNat < 128 := by
            rcases Nat.lt_or_ge b.toNat 128 with h | h
            · exact h
            · have := (decL_cons b r).2 (by omega)
              have := cls34 _ hc
              omega
          have hd := (decL_cons b r).1 hb
          rw [hd] at hc ⊢
          obtain ⟨i1, i2⟩ := scan7 f r (decide (7 = 0) && decide (b.toNat = 65533) && decide (1 = 1))
          refine ⟨i1, ?_⟩
          intro x hx
          simp only [List.drop_succ_cons, List.drop_zero] at hx
          rw [Nat.add_comm, List.take_succ_cons] at hx
          rcases List.mem_cons.1 hx with rfl | hx
          · exact hc
          · exact i2 x hx
theorem scan_no7 : ∀ (f st : Nat) (bs : List UInt8) (wg : Bool), st < 35 → st ≠ 0 → st ≠ 7 → (scanM f st bs wg).1 ≠ 7
  | 0, _, _, _, _, _, h => by simpa [scanM] using h
  | f + 1, st, bs, wg, h, h0, h7 => by
    simp only [scanM]
    by_cases hb : bs = []
    · rw [if_pos hb]; exact h7
    · rw [if_neg hb]
      split
      · exact h7
      · rename_i st' hst
        exact scan_no7 f st' _ _ (goes_lt _ _ _ h (cls_lt _) hst) (goes_ne0' ⟨st, h⟩ ⟨_, cls_lt _⟩ st' hst) (into7' ⟨st, h⟩ ⟨_, cls_lt _⟩ h0 h7 st' hst)
end Go.Proofs.YtkicpjjfeekopaaGreatDoor

namespace Go.Proofs.YtkicpjjfeekopaaGreatDoor
theorem kind_good : ∀ st : Fin 35, st.val ≠ 0 → st.val ≠ 7 → tokenK (kindT.getD st.val 0) = true ∧ kindT.getD st.val 0 ≠ 6 ∧ kindT.getD st.val 0 < 41 ∧ ¬ (10 ≤ kindT.getD st.val 0 ∧ kindT.getD st.val 0 ≤ 17) := by decide
/-- What the first token is cut by. -/
theorem tok_kind (bs : List UInt8) (h : bs ≠ []) :
    (plainW (bs.take (tokM bs).width) = true ∧ (tokM bs).kind = wordM (bs.take (tokM bs).width)) ∨
    (∃ st, st < 35 ∧ st ≠ 0 ∧ st ≠ 7 ∧ (scanM bs.length 0 bs false).1 = st ∧ (tokM bs).kind = kindT.getD st 0) := by
  have hw := tok_width bs h
  have hw' : 1 ≤ (scanM bs.length 0 bs false).2.1 ∧ (scanM bs.length 0 bs false).2.1 ≤ bs.length := hw
  obtain ⟨n, hn⟩ : ∃ n, bs.length = n + 1 := ⟨bs.length - 1, by have := List.length_pos_iff.2 h; omega⟩
  obtain ⟨st', hst⟩ := goes0 _ (cls_lt (decL bs).1)
  have hst35 := goes_lt 0 _ st' (by omega) (cls_lt _) hst
  have hst0 : st' ≠ 0 := goes_ne0' ⟨0, by omega⟩ ⟨_, cls_lt _⟩ st' hst
  obtain ⟨wg, hX⟩ : ∃ wg, scanM bs.length 0 bs false = ((scanM n st' (bs.drop (decL bs).2) wg).1, (decL bs).2 + (scanM n st' (bs.drop (decL bs).2) wg).2.1, (scanM n st' (bs.drop (decL bs).2) wg).2.2) := by
    rw [hn]
    simp only [scanM]
    rw [if_neg h, hst]
    exact ⟨_, rfl⟩
  by_cases h7 : st' = 7
  · subst h7
    left
    rcases goes7 (by omega) (cls_lt _) hst with ⟨_, hc⟩ | ⟨h0, _⟩
    · obtain ⟨b, r, rfl⟩ : ∃ b r, bs = b :: r := by cases bs with | nil => exact absurd rfl h | cons b r => exact ⟨b, r, rfl⟩
      have hb : b.toNat < 128 := by
        rcases Nat.lt_or_ge b.toNat 128 with h | h
        · exact h
        · have := (decL_cons b r).2 (by omega)
          have := cls34 _ (.inl hc)
          omega
      have hd := (decL_cons b r).1 hb
      rw [hd] at hc hX
      obtain ⟨i1, i2⟩ := scan7 n r wg
      simp only [List.drop_succ_cons, List.drop_zero] at hX
      have hk : (tokM (b :: r)).kind = wordM ((b :: r).take (tokM (b :: r)).width) := by
        show (if (scanM (b :: r).length 0 (b :: r) false).1 = 7 then _ else _) = _
        rw [if_pos (by rw [hX]; exact i1)]
        rfl
      refine ⟨?_, hk⟩
      have hwd : (tokM (b :: r)).width = 1 + (scanM n 7 r wg).2.1 := by
        show (scanM (b :: r).length 0 (b :: r) false).2.1 = _
        rw [hX]
      rw [plainW_iff, hwd, Nat.add_comm, List.take_succ_cons]
      refine ⟨by simp, fun j hj => ?_⟩
      unfold goodAt
      cases j with
      | zero => simp [hc]
      | succ j =>
        simp only [List.length_cons] at hj
        have hj' : j < (r.take (scanM n 7 r wg).2.1).length := by omega
        have hm := i2 _ (List.getElem_mem hj')
        rw [List.getD_eq_getElem?_getD, List.getElem?_cons_succ, List.getElem?_eq_getElem hj', Option.getD_some]
        simp only [Bool.or_eq_true, decide_eq_true_eq, Bool.and_eq_true]
        rcases hm with h | h
        · exact .inl h
        · exact .inr ⟨h, by simp⟩
    · omega
  · right
    have h35 : (scanM bs.length 0 bs false).1 < 35 := scan_st _ _ _ _ (by omega)
    have e1 : (scanM bs.length 0 bs false).1 ≠ 0 := by rw [hX]; exact scan_ne _ _ _ _ hst35 hst0
    have e2 : (scanM bs.length 0 bs false).1 ≠ 7 := by rw [hX]; exact scan_no7 _ _ _ _ hst35 hst0 h7
    refine ⟨_, h35, e1, e2, rfl, ?_⟩
    show (if (scanM bs.length 0 bs false).1 = 7 then _ else _) = _
    rw [if_neg e2]
theorem tok_good (bs : List UInt8) (h : bs ≠ []) (hl : bs.length ≤ 67108864) : goodTok (tokM bs) ∧ (tokM bs).kind < 41 := by
  obtain ⟨w1, w2⟩ := tok_width bs h
  rcases tok_kind bs h with ⟨hp, hk⟩ | ⟨st, h35, h0, h7, _, hk⟩
  · have := word_kind _ hp
    rw [← hk] at this
    refine ⟨⟨?_, w1, by omega⟩, by omega⟩
    unfold tokenK
    simp only [decide_eq_true_eq]
    omega
  · obtain ⟨g1, _, g3, _⟩ := kind_good ⟨st, h35⟩ h0 h7
    rw [hk]
    exact ⟨⟨hk ▸ g1, w1, by omega⟩, g3⟩
theorem lexM_good : ∀ (f : Nat) (bs : List UInt8), bs.length ≤ 67108864 → ∀ t ∈ lexM f bs, goodTok t ∧ t.kind < 41
  | 0, _, _ => by simp [lexM]
  | f + 1, bs, hl => by
    intro t ht
    simp only [lexM] at ht
    by_cases hb : bs = []
    · rw [if_pos hb] at ht; cases ht
    · rw [if_neg hb] at ht
      rcases List.mem_cons.1 ht with rfl | ht
      · exact tok_good bs hb hl
      · exact lexM_good f _ (by rw [List.length_drop]; omega) t ht
theorem lexM_sum : ∀ (f : Nat) (bs : List UInt8), bs.length ≤ f → ((lexM f bs).map (·.width)).sum = bs.length
  | 0, bs, h => by
    have : bs = [] := List.length_eq_zero_iff.1 (by omega)
    subst this
    simp [lexM]
  | f + 1, bs, h => by
    simp only [lexM]
    by_cases hb : bs = []
    · rw [if_pos hb]; simp [hb]
    · rw [if_neg hb]
      obtain ⟨w1, w2⟩ := tok_width bs hb
      have ih := lexM_sum f (bs.drop (tokM bs).width) (by rw [List.length_drop]; omega)
      rw [List.length_drop] at ih
      simp only [List.map_cons, List.sum_cons, ih]
      omega
end Go.Proofs.YtkicpjjfeekopaaGreatDoor

namespace Go.Proofs.YtkicpjjfeekopaaGreatDoor
/-- The sum of the widths ahead of a place. -/
def preW (toks : List Tok) (a : Nat) : Nat := ((toks.take a).map (·.width)).sum
theorem preW_succ (toks : List Tok) (a : Nat) (t : Tok) (h : toks[a]? = some t) : preW toks (a + 1) = preW toks a + t.width := by
  unfold preW
  rw [List.take_add_one, h]
  simp
end Go.Proofs.YtkicpjjfeekopaaGreatDoor

namespace Go.Proofs.YtkicpjjfeekopaaGreatDoor
/-- What a command brings about: it goes on by so much, its new nodes are good and few. -/
structure Eff (toks : List Tok) (β : Int) (s s' : St) : Prop where
  ge : s.1 ≤ s'.1
  le : s'.1 ≤ toks.length
  new : ∃ new, s'.2 = s.2 ++ new ∧ goodL new = true ∧ (∀ t ∈ new, t.kind ≠ 51) ∧ (cntL new : Int) ≤ 13 * ((s'.1 : Int) - s.1) + β ∧ sumW new + preW toks s.1 = preW toks s'.1 ∧ lvL new ++ kw (toks.drop s'.1) = kw (toks.drop s.1) ∧ blkL new = true
structure EffN (toks : List Tok) (β : Int) (a : Nat) (r : Nat × Tree) : Prop where
  ge : a ≤ r.1
  le : r.1 ≤ toks.length
  good : goodT r.2 = true
  kind : r.2.kind ≠ 51
  cnt : (cntT r.2 : Int) ≤ 13 * ((r.1 : Int) - a) + β
  sum : r.2.width + preW toks a = preW toks r.1
  lv : lvT r.2 ++ kw (toks.drop r.1) = kw (toks.drop a)
  blk : blkT r.2 = true
theorem Eff.refl {toks : List Tok} {s : St} (h : s.1 ≤ toks.length) : Eff toks 0 s s := ⟨Nat.le_refl _, h, [], by simp, by simp [goodL], by simp, by simp [cntL], by simp [sumW], by simp [lvL], by simp [blkL]⟩
theorem Eff.mono {toks : List Tok} {β β' : Int} {s s' : St} (h : Eff toks β s s') (hb : β ≤ β') : Eff toks β' s s' := by
  obtain ⟨h1, h2, new, e, g, k, c, w⟩ := h
  exact ⟨h1, h2, new, e, g, k, by omega, w⟩
theorem Eff.trans {toks : List Tok} {β γ : Int} {a b c : St} (h : Eff toks β a b) (k : Eff toks γ b c) : Eff toks (β + γ) a c := by
  obtain ⟨h1, h2, new, e, g, hk, hc, w, lv, bk⟩ := h
  obtain ⟨k1, k2, new', e', g', kk, kc, w', lv', bk'⟩ := k
  refine ⟨by omega, k2, new ++ new', by rw [e', e, List.append_assoc], by rw [goodL_append, g, g']; rfl, ?_, ?_, ?_, by rw [lvL_append, List.append_assoc, lv', lv], by rw [blkL_append, bk, bk']; rfl⟩
  · intro t ht
    rcases List.mem_append.1 ht with h | h
    · exact hk t h
    · exact kk t h
  · rw [cntL_append]; omega
  · rw [sumW_append]; omega
theorem Eff.len {toks : List Tok} {β : Int} {s s' : St} (h : Eff toks β s s') : (s'.2.length : Int) ≤ s.2.length + 13 * ((s'.1 : Int) - s.1) + β := by
  obtain ⟨_, _, new, e, _, _, c, _⟩ := h
  have := cntL_ge new
  rw [e, List.length_append]
  omega
theorem Eff.pos {toks : List Tok} {β : Int} {s s' : St} (h : Eff toks β s s') (hb : β < 0) : s.1 < s'.1 := by
  obtain ⟨h1, _, new, _, _, _, c, _⟩ := h
  omega
/-- A node is added. -/
theorem EffN.add {toks : List Tok} {β : Int} {s : St} {r : Nat × Tree} (h : EffN toks β s.1 r) (hl : s.2.length < 1000000) : ∃ s', addM (r.1, s.2) r.2 = some s' ∧ Eff toks β s s' := by
  refine ⟨(r.1, s.2 ++ [r.2]), by unfold addM; rw [if_pos hl], h.ge, h.le, [r.2], rfl, by simp [goodL, h.good], by simpa using h.kind, by simpa [cntL] using h.cnt, by simpa [sumW] using h.sum, by simpa [lvL] using h.lv, by simp [blkL, h.blk]⟩
theorem Eff.miss {toks : List Tok} {s : St} (k : Nat) (h : s.1 ≤ toks.length) (hl : s.2.length < 1000000) (hk : (countsK k || decide (k = 60) || decide (k = 52)) = true) : ∃ s', addM s (missT k) = some s' ∧ Eff toks 1 s s' := by
  refine ⟨(s.1, s.2 ++ [missT k]), by unfold addM; rw [if_pos hl], Nat.le_refl _, h, [missT k], rfl, ?_, by simp [missT, Tree.kind], by simp [cntL, cntT, missT], by simp [sumW, missT, Tree.width], by simp [lvL, lvT, missT], by simp [blkL, blkT, missT]⟩
  simp [goodL, missT, goodT]
  simpa using hk
end Go.Proofs.YtkicpjjfeekopaaGreatDoor

namespace Go.Proofs.YtkicpjjfeekopaaGreatDoor
theorem preW_add (toks : List Tok) (a k : Nat) : preW toks (a + k) = preW toks a + (((toks.drop a).take k).map (·.width)).sum := by
  unfold preW
  rw [List.take_add, List.map_append, List.sum_append]
theorem sumW_leaves (l : List Tok) : sumW (l.map leafT) = (l.map (·.width)).sum := by
  induction l with
  | nil => rfl
  | cons t l ih => simp [sumW, leafT, Tree.width] at *; exact ih
theorem cntL_leaves (l : List Tok) : cntL (l.map leafT) = l.length := by
  induction l with
  | nil => rfl
  | cons t l ih => simp [cntL, cntT, leafT] at *; rw [ih]; omega
theorem lvL_leaves (l : List Tok) (h : ∀ t ∈ l, t.kind < 50) : lvL (l.map leafT) = kw l := by
  induction l with
  | nil => rfl
  | cons t l ih =>
    have ht := h t (List.mem_cons_self ..)
    simp only [List.map_cons, lvL, kw, leafT, lvT]
    rw [if_neg (by omega), if_pos ht]
    simp only [List.cons_append, List.nil_append, List.cons.injEq, true_and]
    exact ih (fun x hx => h x (List.mem_cons_of_mem _ hx))
theorem blkL_leaves (l : List Tok) (h : ∀ t ∈ l, t.kind < 50) : blkL (l.map leafT) = true := by
  induction l with
  | nil => rfl
  | cons t l ih =>
    have ht := h t (List.mem_cons_self ..)
    simp only [List.map_cons, blkL, leafT, blkT, Bool.and_true, Bool.and_eq_true, Bool.or_eq_true, decide_eq_true_eq]
    exact ⟨⟨by omega, .inl (by omega)⟩, ih (fun x hx => h x (List.mem_cons_of_mem _ hx))⟩
theorem kw_drop (toks : List Tok) (a k : Nat) : kw ((toks.drop a).take k) ++ kw (toks.drop (a + k)) = kw (toks.drop a) := by
  rw [← kw_append, ← List.drop_drop, List.take_append_drop]
theorem goodTok_leaf {t : Tok} (h : goodTok t) : goodT (leafT t) = true ∧ t.kind < 50 := by
  obtain ⟨h1, h2, h3⟩ := h
  have hk : t.kind < 50 := by unfold tokenK at h1; simp only [decide_eq_true_eq] at h1; omega
  refine ⟨?_, hk⟩
  unfold leafT goodT
  rw [if_neg (by omega), if_pos hk]
  simp [h1]
  omega
theorem goodL_leaves (l : List Tok) (h : ∀ t ∈ l, goodTok t) : goodL (l.map leafT) = true := by
  induction l with
  | nil => rfl
  | cons t l ih =>
    simp only [List.map_cons, goodL, Bool.and_eq_true]
    exact ⟨(goodTok_leaf (h t (List.mem_cons_self ..))).1, ih (fun x hx => h x (List.mem_cons_of_mem _ hx))⟩
variable {toks : List Tok} (hg : ∀ t ∈ toks, goodTok t)
include hg
theorem gap_eff (s : St) (h : s.1 ≤ toks.length) (hl : s.2.length + (toks.length - s.1) ≤ 1000000) : ∃ s', gapM toks s = some s' ∧ Eff toks 0 s s' ∧ s'.1 = next toks s.1 ∧ s'.2 = s.2 ++ ((toks.drop s.1).take (next toks s.1 - s.1)).map leafT := by
  obtain ⟨n1, n2⟩ := next_ge _ _ h
  refine ⟨_, by unfold gapM; rw [if_pos (by omega)], ⟨n1, n2, _, rfl, ?_, ?_, ?_, ?_, ?_, ?_⟩, rfl, rfl⟩
  · exact goodL_leaves _ (fun t ht => hg t (List.mem_of_mem_drop (List.mem_of_mem_take ht)))
  · intro t ht
    obtain ⟨x, hx, rfl⟩ := List.mem_map.1 ht
    have := (goodTok_leaf (hg x (List.mem_of_mem_drop (List.mem_of_mem_take hx)))).2
    simp [leafT, Tree.kind]
    omega
  · rw [cntL_leaves]
    have := List.length_take_le (next toks s.1 - s.1) (toks.drop s.1)
    simp only
    omega
  · rw [sumW_leaves]
    have := preW_add toks s.1 (next toks s.1 - s.1)
    rw [show s.1 + (next toks s.1 - s.1) = next toks s.1 from by omega] at this
    simp only
    omega
  · rw [lvL_leaves _ (fun t ht => (goodTok_leaf (hg t (List.mem_of_mem_drop (List.mem_of_mem_take ht)))).2)]
    have := kw_drop toks s.1 (next toks s.1 - s.1)
    rwa [show s.1 + (next toks s.1 - s.1) = next toks s.1 from by omega] at this
  · exact blkL_leaves _ (fun t ht => (goodTok_leaf (hg t (List.mem_of_mem_drop (List.mem_of_mem_take ht)))).2)
theorem next_eff (s : St) (h : s.1 ≤ toks.length) (hl : s.2.length + (toks.length - s.1) + 1 ≤ 1000000) (hk : kindM toks s.1 ≠ 0) : ∃ s', nextM toks s = some s' ∧ Eff toks (-12) s s' ∧ s'.2 = s.2 ++ ((toks.drop s.1).take (next toks s.1 - s.1)).map leafT ++ ((toks[next toks s.1]?).map leafT).toList := by
  obtain ⟨n1, n2⟩ := next_ge _ _ h
  obtain ⟨s1, e1, f1, p1, q1⟩ := gap_eff hg s h (by omega)
  unfold kindM at hk
  cases ht : toks[next toks s.1]? with
  | none => rw [ht] at hk; exact absurd rfl hk
  | some t =>
    have hlt : next toks s.1 < toks.length := (List.getElem?_eq_some_iff.1 ht).1
    have hgt := goodTok_leaf (hg t (List.mem_of_getElem? ht))
    have hln : s1.2.length < 1000000 := by
      rw [q1, List.length_append, List.length_map]
      have := List.length_take_le (next toks s.1 - s.1) (toks.drop s.1)
      omega
    refine ⟨(next toks s.1 + 1, s1.2 ++ [leafT t]), ?_, ?_⟩
    · unfold nextM
      rw [e1]
      simp only [Option.bind_some, p1, ht]
      unfold addM
      rw [if_pos hln]
      rfl
    · refine ⟨?_, by rw [q1]; rfl⟩
      refine ⟨by simp only; omega, by simp only; omega, ((toks.drop s.1).take (next toks s.1 - s.1)).map leafT ++ [leafT t], by rw [q1, List.append_assoc], ?_, ?_, ?_, ?_, ?_, ?_⟩
      · rw [goodL_append, goodL_leaves _ (fun t ht => hg t (List.mem_of_mem_drop (List.mem_of_mem_take ht)))]
        simp [goodL, hgt.1]
      · intro x hx
        rcases List.mem_append.1 hx with hx | hx
        · obtain ⟨y, hy, rfl⟩ := List.mem_map.1 hx
          have := (goodTok_leaf (hg y (List.mem_of_mem_drop (List.mem_of_mem_take hy)))).2
          simp [leafT, Tree.kind]
          omega
        · simp at hx
          subst hx
          have := hgt.2
          simp [leafT, Tree.kind]
          omega
      · rw [cntL_append, cntL_leaves]
        have := List.length_take_le (next toks s.1 - s.1) (toks.drop s.1)
        simp [cntL, cntT, leafT] at *
        omega
      · rw [sumW_append, sumW_leaves]
        have e := preW_add toks s.1 (next toks s.1 - s.1)
        rw [show s.1 + (next toks s.1 - s.1) = next toks s.1 from by omega] at e
        have e2 := preW_succ toks _ t ht
        simp only [sumW, leafT, Tree.width]
        omega
      · rw [lvL_append, lvL_leaves _ (fun t ht => (goodTok_leaf (hg t (List.mem_of_mem_drop (List.mem_of_mem_take ht)))).2)]
        have e := kw_drop toks s.1 (next toks s.1 - s.1)
        rw [show s.1 + (next toks s.1 - s.1) = next toks s.1 from by omega] at e
        rw [← e, List.drop_eq_getElem_cons hlt]
        have : toks[next toks s.1] = t := (List.getElem?_eq_some_iff.1 ht).2
        rw [this]
        simp only [lvL, leafT, lvT, kw, List.map_cons]
        rw [if_neg (by have := hgt.2; omega), if_pos hgt.2]
        simp
      · rw [blkL_append, blkL_leaves _ (fun t ht => (goodTok_leaf (hg t (List.mem_of_mem_drop (List.mem_of_mem_take ht)))).2)]
        have := hgt.2
        simp only [blkL, leafT, blkT, Bool.and_true, Bool.true_and, Bool.and_eq_true, Bool.or_eq_true, decide_eq_true_eq]
        exact ⟨by omega, .inl (by omega)⟩
end Go.Proofs.YtkicpjjfeekopaaGreatDoor

namespace Go.Proofs.YtkicpjjfeekopaaGreatDoor
theorem Eff.bind {toks : List Tok} {β γ : Int} {a : St} {m : Option St} {g : St → Option St} (h : ∃ b, m = some b ∧ Eff toks β a b) (k : ∀ b, Eff toks β a b → ∃ c, g b = some c ∧ Eff toks γ b c) : ∃ c, m.bind g = some c ∧ Eff toks (β + γ) a c := by
  obtain ⟨b, rfl, hb⟩ := h
  obtain ⟨c, hc, kc⟩ := k b hb
  exact ⟨c, hc, hb.trans kc⟩
theorem Eff.weak {toks : List Tok} {β β' : Int} {a : St} {m : Option St} (h : ∃ b, m = some b ∧ Eff toks β a b) (hb : β ≤ β') : ∃ b, m = some b ∧ Eff toks β' a b := by
  obtain ⟨b, h1, h2⟩ := h
  exact ⟨b, h1, h2.mono hb⟩
variable {toks : List Tok} (hg : ∀ t ∈ toks, goodTok t)
include hg
/-- Room for what may come. -/
def Room (toks : List Tok) (n : Nat) (s : St) : Prop := s.1 ≤ toks.length ∧ s.2.length + 13 * (toks.length - s.1) + n ≤ 1000000
omit hg in
theorem Room.eff {n m : Nat} {β : Int} {s s' : St} (h : Room toks n s) (k : Eff toks β s s') (hm : (m : Int) + β ≤ n) : Room toks m s' := by
  obtain ⟨h1, h2⟩ := h
  have := k.len
  have := k.le
  have := k.ge
  exact ⟨k.le, by omega⟩
theorem want_eff (k : Nat) (hk : countsK k = true) (s : St) (h : Room toks 1 s) : ∃ s', wantM toks k s = some s' ∧ Eff toks 1 s s' := by
  unfold wantM
  by_cases he : kindM toks s.1 = k
  · rw [if_pos he]
    have hk0 : kindM toks s.1 ≠ 0 := by
      rw [he]
      intro h0
      rw [h0] at hk
      exact absurd hk (by decide)
    obtain ⟨s', h1, h2, _⟩ := next_eff hg s h.1 (by have := h.1; have := h.2; omega) hk0
    exact ⟨s', h1, h2.mono (by omega)⟩
  · rw [if_neg he]
    exact Eff.miss k h.1 (by have := h.2; omega) (by rw [hk]; rfl)
theorem nextE (s : St) (h : Room toks 1 s) (hk : kindM toks s.1 ≠ 0) : ∃ s', nextM toks s = some s' ∧ Eff toks (-12) s s' := by
  obtain ⟨s', h1, h2, _⟩ := next_eff hg s h.1 (by have := h.1; have := h.2; omega) hk
  exact ⟨s', h1, h2⟩
theorem gapE (s : St) (h : Room toks 1 s) : ∃ s', gapM toks s = some s' ∧ Eff toks 0 s s' ∧ s'.1 = next toks s.1 := by
  obtain ⟨s', h1, h2, h3, _⟩ := gap_eff hg s h.1 (by have := h.1; have := h.2; omega)
  exact ⟨s', h1, h2, h3⟩
omit hg in
/-- A node of a body. -/
theorem sum_eff {kind : Nat} {β : Int} {a : Nat} {s : St} (hk : 51 < kind ∧ kind ≤ 68) (hl : toks.length ≤ 16384) (hW : preW toks toks.length ≤ 1099511627776) (hmono : ∀ a, a ≤ toks.length → preW toks a ≤ preW toks toks.length) (h : Eff toks β (a, []) s) (hn : s.2.length ≤ 1000000) (hh : kind = 52 → headK s.2 = true) :
    ∃ r, sumM kind s = some r ∧ EffN toks (β + 1) a r := by
  obtain ⟨h1, h2, new, e, g, k, c, w, lv, bk⟩ := h
  simp only [List.nil_append] at e
  have := hmono s.1 h2
  refine ⟨(s.1, .node kind 0 (sumW s.2) s.2), ?_, h1, h2, ?_, ?_, ?_, ?_, ?_, ?_⟩
  · unfold sumM
    rw [if_pos ⟨by rw [e]; simp only at w; omega, hn⟩]
  · unfold goodT
    rw [if_neg (by omega), if_neg (by omega), e, g]
    simp only at w
    simp
    omega
  · show kind ≠ 51
    omega
  · rw [e]
    simp only [cntT]
    simp only at c
    omega
  · rw [e]
    simp only [Tree.width]
    exact w
  · rw [e]
    simp only [lvT]
    rw [if_neg (by omega), if_neg (by omega)]
    exact lv
  · unfold blkT
    rw [e] at hh ⊢
    rw [bk, Bool.and_true]
    have h51 : kind ≠ 51 := by omega
    by_cases h52 : kind = 52
    · rw [hh h52, Bool.or_true]; simp [h51]
    · simp [h52, h51]
end Go.Proofs.YtkicpjjfeekopaaGreatDoor
