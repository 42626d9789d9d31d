/- Walks: glossatorlaw20.ScopeNames. -/
import Derived.Test.YtkicpjjfeekopaaGreatDoorKe00
import Derived.Lib.ConvBytes
import Derived.Lib.SlBytesRow
set_option linter.unusedVariables false
set_option linter.unusedSimpArgs false
set_option linter.unusedSectionVars false
namespace Go.Proofs.YtkicpjjfeekopaaGreatDoor
open Go.RowKit Go.Maps
/-- The numbers of the names among the first n tokens. -/
def fndM (l : List Tok) : Nat → List Nat
  | 0 => []
  | n + 1 => fndM l n ++ match l[n]? with | some t => if t.kind = 6 then [n] else [] | none => []
theorem fnd_lt (l : List Tok) : ∀ n, n ≤ l.length → ∀ i ∈ fndM l n, i < l.length ∧ ∃ t, l[i]? = some t ∧ t.kind = 6
  | 0, _, i, h => by simp [fndM] at h
  | n + 1, hn, i, h => by
    simp only [fndM, List.mem_append] at h
    rcases h with h | h
    · exact fnd_lt l n (by omega) i h
    · rw [List.getElem?_eq_getElem (show n < l.length by omega)] at h
      simp only at h
      split at h
      · rename_i h6
        simp at h
        subst h
        exact ⟨by omega, _, List.getElem?_eq_getElem (by omega), h6⟩
      · simp at h
theorem fnd_len (l : List Tok) : ∀ n, n ≤ l.length → (fndM l n).length ≤ n
  | 0, _ => by simp [fndM]
  | n + 1, hn => by
    simp only [fndM, List.length_append]
    have := fnd_len l n (by omega)
    rw [List.getElem?_eq_getElem (show n < l.length by omega)]
    simp only
    split <;> simp <;> omega
theorem fnd_mem (l : List Tok) : ∀ (n i : Nat) (t : Tok), i < n → l[i]? = some t → t.kind = 6 → i ∈ fndM l n
  | 0, i, t, h, _, _ => by omega
  | n + 1, i, t, h, h1, h2 => by
    simp only [fndM, List.mem_append]
    rcases Nat.lt_or_ge i n with h3 | h3
    · exact .inl (fnd_mem l n i t h3 h1 h2)
    · obtain rfl : i = n := by omega
      right
      rw [h1]
      simp [h2]
theorem bytes_fr (w : World) (e : TypeId) (s : ByteArray) : Fr (fun _ => False) w (Lib.bytesWorld w e s) := by
  refine ⟨?_, ?_, ?_, by rw [Lib.bytesWorld_size]; omega, fun k hk _ => Lib.bytesWorld_at_old w e s k hk⟩
  all_goals (unfold Lib.bytesWorld World.freeze; split <;> rfl)
/-- Bytes of a []byte, of which the first i are one and the same. -/
def FillB (w : World) (g sz i : Nat) (c : Int) (ob : List UInt8) : Prop := ∃ cs : Array Value, w.heap[g]? = some (.cells cs 5 (sz, sz + 1)) ∧ ob.length ≤ sz ∧ ∀ j, j < ob.length → cs[j]? = some (.int .u8 (if j < i then c else ((ob.getD j 0).toNat : Int)))
theorem FillB.start (w : World) (ob : List UInt8) (c : Int) : FillB (Lib.bytesWorld w 5 ⟨ob.toArray⟩) w.heap.size (Lib.bytesCells w 5 ⟨ob.toArray⟩).size 0 c ob := by
  refine ⟨_, Lib.bytesWorld_at_new w 5 _, ?_, fun j hj => ?_⟩
  · simp [Lib.bytesCells, ByteArray.size]
  · have := Lib.bytesWorld_cell w 5 ⟨ob.toArray⟩ j (by simpa [ByteArray.size] using hj)
    rw [blkCell (Lib.bytesWorld_at_new w 5 _)] at this
    rw [this, if_neg (by omega)]
theorem FillB.fr {S : Nat → Prop} {w w' : World} {g sz i : Nat} {c : Int} {ob : List UInt8} (h : FillB w g sz i c ob) (hf : Fr S w w') (hs : ¬ S g) : FillB w' g sz i c ob := by
  obtain ⟨cs, h1, h2⟩ := h
  exact ⟨cs, hf.blk h1 hs, h2⟩
theorem FillB.set {w : World} {g sz i : Nat} {c : Int} {ob : List UInt8} (h : FillB w g sz i c ob) (hi : i < ob.length) : FillB (w.setCell ⟨g, i, none⟩ (.int .u8 c)) g sz (i + 1) c ob := by
  obtain ⟨cs, h1, h2, h3⟩ := h
  refine ⟨_, blkSet h1 i _, h2, fun j hj => ?_⟩
  have hsz : i < cs.size := (Array.getElem?_eq_some_iff.1 (h3 i hi)).1
  by_cases hji : j = i
  · subst hji
    rw [Array.getElem?_setIfInBounds, if_pos rfl, if_pos hsz, if_pos (by omega)]
  · rw [Array.getElem?_setIfInBounds, if_neg (fun e => hji e.symm), h3 j hj]
    by_cases hlt : j < i
    · rw [if_pos hlt, if_pos (by omega)]
    · rw [if_neg hlt, if_neg (by omega)]
theorem FillB.cell {w : World} {g sz i : Nat} {c : Int} {ob : List UInt8} (h : FillB w g sz i c ob) (j : Nat) (hj : j < ob.length) : w.cell? ⟨g, j, none⟩ = some (.int .u8 (if j < i then c else ((ob.getD j 0).toNat : Int))) ∧ w.frozen? ⟨g, j, none⟩ = false ∧ g < w.heap.size := by
  obtain ⟨cs, h1, h2, h3⟩ := h
  refine ⟨by rw [blkCell h1]; exact h3 j hj, ?_, blkLt h1⟩
  simp [World.frozen?, h1]
  omega
theorem FillB.bytes {w : World} {g sz : Nat} {c : UInt8} {ob : List UInt8} (h : FillB w g sz ob.length c.toNat ob) : Lib.Bytes w g 0 ⟨(List.replicate ob.length c).toArray⟩ := by
  intro i hi
  have hi' : i < ob.length := by simpa [ByteArray.size] using hi
  rw [Nat.zero_add, (h.cell i hi').1, if_pos hi']
  congr 3
  show _ = ((List.replicate ob.length c).toArray[i]'_).toNat
  simp
theorem FillB.conv {w : World} {g sz n cp : Nat} {c : UInt8} {ob : List UInt8} (h : FillB w g sz ob.length c.toNat ob) (hn : n = ob.length) : (convert 55 9 (.slice (some ⟨g, 0, none⟩) n cp)).run Tryz.prog w = .ok (.string ⟨(List.replicate ob.length c).toArray⟩) w := by
  have := Lib.run_convert_whole (P := Tryz.prog) w 55 5 9 Tryz.underlying55 Tryz.underlying5 Tryz.underlying9 g 0 _ h.bytes cp
  rw [show (⟨(List.replicate ob.length c).toArray⟩ : ByteArray).size = n from by simp [ByteArray.size, hn]] at this
  exact this
set_option maxRecDepth 100000 in
set_option maxHeartbeats 8000000 in
theorem names_long (s : ByteArray) (wh : Int) (w : World) (hG : Glob w) (hl : 3000 < s.size) : Calls Tryz.prog 5 #[.string s, .int .i64 wh] w fun e w' => e = .returned (.bool true) ∧ Fr (fun _ => False) w w' := by
  have HG := Lib.hid hG
  clear hG
  have q : decide ((3000 : Int) < (s.size : Int)) = true := by simp; omega
  clear hl
  go_enter Tryz.func5, Tryz.ntmps5
  go_wp2_with fail
  refine (awake_any w HG.out).mono ?_
  rintro e w1 ⟨rfl, hf⟩
  go_wp2_with fail
  go_ret
  exact ⟨rfl, hf⟩
set_option maxRecDepth 100000 in
set_option maxHeartbeats 8000000 in
theorem names_short (bs : List UInt8) (wh : Int) (w : World) (hG : Glob w) (hl : bs.length ≤ 3000) (hw1 : -9223372036854775808 ≤ wh) (hw2 : wh ≤ 9223372036854775807) : Calls Tryz.prog 5 #[.string ⟨bs.toArray⟩, .int .i64 wh] w fun e w' => e = .returned (.bool true) ∧ Fr (fun _ => False) w w' := by
  have HG := Lib.hid hG
  clear hG
  obtain ⟨txt, htx⟩ : ∃ txt : ByteArray, txt = ⟨bs.toArray⟩ := ⟨_, rfl⟩
  have hsz : txt.size = bs.length := by rw [htx]; simp [ByteArray.size]
  rw [← htx]
  have HTX := Lib.hid htx
  have q : decide ((3000 : Int) < (txt.size : Int)) = false := by simp; omega
  clear htx
  obtain ⟨hOk, hTl, hTw, hTg⟩ := toks_facts (bs := bs) (by omega)
  obtain ⟨toks, htoks⟩ : ∃ toks, toks = toksM bs := ⟨_, rfl⟩
  obtain ⟨n, hn⟩ : ∃ n, n = toks.length := ⟨_, rfl⟩
  rw [← htoks, ← hn] at hTw hTl
  rw [← htoks] at hTg
  go_enter Tryz.func5, Tryz.ntmps5
  go_wp2_with fail
  rw [HTX.out]
  refine (all_any bs w (by omega) HG.out).mono ?_
  rintro e w1 ⟨⟨v, rfl, hv⟩, hf1⟩
  rw [← HTX.out]
  have hv0 : TokRow w1 v toks := by rw [htoks]; exact rowBase hv
  have HF1 := Lib.hid hf1; have HV0 := Lib.hid hv0; have HTK := Lib.hid htoks; have HN := Lib.hid hn; have HTW := Lib.hid hTw; have HTG := Lib.hid hTg
  clear hv hf1 hv0 htoks hn hTw hTg hOk
  go_wp2_with fail
  refine (spans_any v toks w1 (by rw [← HN.out]; omega) (by rw [← HN.out, HTW.out]; omega) HV0.out).mono ?_
  rintro e w2 ⟨vS, rfl, hS, hf2⟩
  rw [← HN.out] at hS
  obtain ⟨av, cv, hv, hcv⟩ := HV0.out.shape
  rw [← HN.out] at hv hcv
  subst hv
  obtain ⟨aS, cS, rfl, hcS, _⟩ := ownShape hS
  have HS := Lib.hid hS; have HF2 := Lib.hid hf2
  clear hS hf2
  go_wp2_with fail
  go_loopw [7, 8] (fun o x wr => ∃ i : Nat, i ≤ n ∧ x = .int .i64 i ∧ wr.ownsRow w2.heap.size 3 1 o (fndM toks i).length ((fndM toks i).map intV) ∧ Fr (fun _ => False) w2 wr) (fun _ x _ => n - (intOf x).toNat)
  case atStart => exact ⟨0, Nat.zero_le _, rfl, World.ownsRow_nil _ _ _ _, Fr.refl _ _⟩
  case round =>
    obtain ⟨i, hi, rfl, ho, hf⟩ := hrel
    by_cases hlt : i < n
    · have q1 : decide ((i : Int) < (n : Int)) = true := by simp; omega
      obtain ⟨t, ht⟩ : ∃ t, toks[i]? = some t := ⟨_, List.getElem?_eq_getElem (by rw [← HN.out]; exact hlt)⟩
      have hTw := HV0.out.move (w' := wr) (fun k _ hk => (HF2.out.trans hf).block k hk (fun h => h))
      obtain ⟨g, rfl, h0, h1, h2⟩ := TokRow.get hTw i t ht
      have hfm : fndM toks (i + 1) = fndM toks i ++ if t.kind = 6 then [i] else [] := by simp only [fndM, ht]
      obtain ⟨fi, hfi⟩ : ∃ fi, fi = fndM toks i := ⟨_, rfl⟩
      rw [← hfi] at ho hfm
      have hfl : fi.length ≤ i := by rw [hfi]; exact fnd_len toks i (by rw [← HN.out]; omega)
      obtain ⟨tk, tw, tl⟩ := t
      simp only at h0 h1 h2 hfm
      obtain ⟨ao, co, rfl, hco, _⟩ := ownShape ho
      obtain ⟨i0, hi0, hz0, hz1, hz2⟩ := info_parts info3
      have lg := blkLt (ownBlk (k := g) (show wr.ownsRow 0 33 3 _ _ _ from hTw) rfl).choose_spec
      have HO := Lib.hid ho; have HF := Lib.hid hf; have HFM := Lib.hid hfm; have HFI := Lib.hid hfi
      clear ho hf hfm hfi hTw ht
      by_cases h6 : tk = 6
      · subst h6
        go_wp2_with (at_builtin; refine wpList_append_own_at _ rfl (.tmp 42) (.tmp 44) 53 rfl w2.heap.size 3 i0 (.int .i64 0) 1 8 Tryz.underlying53 hi0 hz0 hz1 hz2 rfl (by decide) (.slice ao fi.length co) fi.length (fi.map intV) rfl (HO.out.alloc _) ⟨wr.heap.size, 0, none⟩ 1 1 [.int .i64 i] rfl rfl (by exact cells1 (blkNew wr _)) (by intro u hu; simp at hu; rcases hu with rfl; rfl) (by unfold maxLen; omega) (by omega) (by have := HF.out.size; simp; omega) ?_; intro vO w5 hO hG _ hat; have HO5 := Lib.hid hO; have HG5 := Lib.hid hG; have HAT := Lib.hid hat; clear hO hG hat)
        go_roundw
        case rel =>
          refine ⟨i + 1, by omega, by go_num, ?_, ?_⟩
          · rw [HFM.out, if_pos (by first | rfl | trivial)]
            simp only [List.length_append, List.length_singleton, List.map_append, List.map_cons, List.map_nil]
            exact HO5.out
          · exact (HF.out.alloc _).trans' (Fr.of_grown (S := fun k => Value.ownBlock (.slice ao fi.length co) = some k) HG5.out (fun k hk => hk)) (fun k hk e => by
              rcases HO.out.2 with ⟨e1, _⟩ | ⟨g2, cap, cur, e1, hg, _⟩
              · rw [e1] at e; simp [Value.ownBlock] at e
              · rw [e1] at e; simp [Value.ownBlock] at e; omega)
        case measure => simp [intOf]; omega
      · have hb6 : ((tk : Int) == 6) = false := by simp; omega
        go_wp2_with fail
        go_roundw
        case rel =>
          refine ⟨i + 1, by omega, by go_num, ?_, HF.out⟩
          rw [HFM.out, if_neg h6, List.append_nil]
          exact HO.out
        case measure => simp [intOf]; omega
    · have q1 : decide ((i : Int) < (n : Int)) = false := by simp; omega
      obtain rfl : i = n := by omega
      obtain ⟨m, hm⟩ : ∃ m, m = (fndM toks i).length := ⟨_, rfl⟩
      have hm1 := fnd_len toks i (by rw [← HN.out]; omega)
      rw [← hm] at ho hm1
      obtain ⟨ao, co, rfl, hco, _⟩ := ownShape ho
      have HO := Lib.hid ho; have HF := Lib.hid hf; have HM := Lib.hid hm
      clear ho hf hm
      by_cases hm0 : m = 0
      · subst hm0
        go_wp2_with fail
        refine (awake_any wr (HG.out.move ((HF1.out.trans HF2.out).trans HF.out))).mono ?_
        rintro e w6 ⟨rfl, hf6⟩
        go_wp2_with fail
        go_ret
        exact ⟨rfl, ((HF1.out.trans HF2.out).trans HF.out).trans hf6⟩
      · have q2 : ((m : Int) == 0) = false := by simp; omega
        obtain ⟨kx, hkm, hkx⟩ : ∃ kx : Nat, kx < m ∧ wrap64 ((IntKind.u64.wrap wh).tmod (m : Int)) = (kx : Int) := by
          have h0 : 0 ≤ IntKind.u64.wrap wh := by simp [IntKind.wrap, IntKind.bits, IntKind.signed]; omega
          have h1 := Int.tmod_nonneg (m : Int) h0
          have h2 := Int.tmod_lt_of_pos (IntKind.u64.wrap wh) (show 0 < (m : Int) by omega)
          refine ⟨((IntKind.u64.wrap wh).tmod (m : Int)).toNat, by omega, ?_⟩
          rw [Int.toNat_of_nonneg h1]
          exact IntWalk.wrap64_in _ ⟨by omega, by omega⟩
        obtain ⟨k, hk⟩ : ∃ k, (fndM toks i)[kx]? = some k := ⟨_, List.getElem?_eq_getElem (by rw [← HM.out]; exact hkm)⟩
        obtain ⟨hki, tk, htk, htk6⟩ := fnd_lt toks i (by rw [← HN.out]; omega) k (List.mem_of_getElem? hk)
        rw [← HN.out] at hki
        have hO := HO.out
        obtain ⟨g2, d2, v2, _, y0⟩ := ownAt hO kx (by rw [List.length_map, ← HM.out]; omega)
        obtain rfl := sliceAt v2
        rw [intCells_get _ kx k hk] at y0
        have hSw : wr.ownsRow w1.heap.size 41 2 (.slice aS i cS) i (spCells toks i) := ownMove HS.out (fun k _ hl => HF.out.block k hl (fun h => h))
        have hla := spCells_len toks i
        obtain ⟨g1, d1, v1, _, x0⟩ := ownAt hSw (k * 2) (by omega)
        obtain rfl := sliceAt v1
        obtain ⟨g1', d1', v1', _, x1⟩ := ownAt hSw (k * 2 + 1) (by omega)
        obtain rfl := sliceBlk (v1.symm.trans v1')
        obtain ⟨z0, z1⟩ := spCells_get toks i k hki
        rw [z0] at x0
        rw [z1] at x1
        have hp1 := preW_mono toks (a := k) (b := k + 1) (by omega)
        have hp2 := preW_mono toks (a := k + 1) (b := i) (by omega)
        rw [HTW.out] at hp2
        obtain ⟨pa, hpa⟩ : ∃ pa, pa = preW toks k := ⟨_, rfl⟩
        obtain ⟨pb, hpb⟩ : ∃ pb, pb = preW toks (k + 1) := ⟨_, rfl⟩
        rw [← hpa] at x0 hp1
        rw [← hpb] at x1 hp1 hp2
        have hpab : (pa : Int) ≤ (pb : Int) := by omega
        have hpbt : (pb : Int) ≤ (txt.size : Int) := by omega
        have hkmi : (kx : Int) < (m : Int) := by omega
        have hkii : (k : Int) < (i : Int) := by omega
        obtain ⟨old, hold⟩ : ∃ old, old = nmT bs pa pb := ⟨_, rfl⟩
        obtain ⟨oldt, holt⟩ : ∃ oldt : ByteArray, oldt = ⟨old.toArray⟩ := ⟨_, rfl⟩
        have hoe : txt.extract pa pb = oldt := by rw [HTX.out, ext_take bs pa pb (by omega), holt, hold]; rfl
        have hosz : oldt.size = old.length := by rw [holt]; simp [ByteArray.size]
        have hol : old.length = pb - pa := by rw [hold]; unfold nmT; rw [List.length_take, List.length_drop]; omega
        have hpo : 0 < old.length := by
          have h1 := preW_succ toks k tk htk
          have h2 := (HTG.out tk (List.mem_of_getElem? htk)).1.2.1
          omega
        have HPA := Lib.hid hpa; have HPB := Lib.hid hpb; have HOLD := Lib.hid hold; have HOLT := Lib.hid holt; have HOSZ := Lib.hid hosz; have HTK2 := Lib.hid htk; have HK6 := Lib.hid htk6; have HSW := Lib.hid hSw
        clear hO v1 v1' v2 z0 z1 hpa hpb hla hk hold holt hosz htk htk6 hSw
        go_wp2_with fail
        clear hkx
        go_quiet (fail)
        go_wp2_with fail
        clear hoe
        have hfw : Fr (fun _ => False) w2 (wr.drewN nq) := HF.out.drewN _
        have hO3 : (wr.drewN nq).ownsRow w2.heap.size 3 1 (.slice (some ⟨g2, 0, none⟩) m co) m ((fndM toks i).map intV) := ownMove HO.out (fun _ _ _ => rfl)
        have HFW := Lib.hid hfw; have HO3 := Lib.hid hO3
        clear hfw hO3
        generalize wr.drewN nq = w3 at *
        have kc := fun (w : World) => Lib.run_convert_string_bytes (P := Tryz.prog) w 9 55 5 oldt Tryz.underlying9 Tryz.underlying55 Tryz.underlying5
        go_loopw [11, 12, 13, 14] (fun o c _ _ wx => ∃ j : Nat, j ≤ 26 ∧ c = .int .i32 (65 + j : Nat) ∧ (∃ ob : List UInt8, o = .string ⟨ob.toArray⟩ ∧ (ob = [] ∨ (upper ob ∧ ob.length = old.length ∧ usedM bs toks (fndM toks i) ob = false))) ∧ Fr (fun _ => False) w3 wx) (fun _ c _ _ _ => (91 - intOf c).toNat)
        case atStart => exact ⟨0, by omega, rfl, ⟨[], rfl, .inl rfl⟩, Fr.refl _ _⟩
        case round =>
          obtain ⟨j, hj, rfl, ⟨ob, rfl, hob⟩, hf⟩ := hrel
          have HF3 := Lib.hid hf
          by_cases hgo : j < 26 ∧ ob = []
          · obtain ⟨hj26, rfl⟩ := hgo
            have q3 : decide (((65 + j : Nat) : Int) ≤ 90) = true := by simp; omega
            clear hob hf
            go_wp2_with fail
            have hB0 := FillB.start wr old ((65 + j : Nat) : Int)
            rw [← HOLT.out] at hB0
            have hfB := bytes_fr wr 5 oldt
            have hgg := Lib.bytesWorld_size wr 5 oldt
            obtain ⟨sz, hszc⟩ : ∃ sz, sz = (Lib.bytesCells wr 5 oldt).size := ⟨_, rfl⟩
            rw [← hszc] at hB0
            generalize grownCap wr oldt.size 0 5 = cp at *
            obtain ⟨g, hg⟩ : ∃ g, g = wr.heap.size := ⟨_, rfl⟩
            rw [← hg] at hB0 ⊢
            have HG5 := Lib.hid hg; have HFB := Lib.hid hfB; have HB0 := Lib.hid hB0
            clear hB0 hfB hgg hszc hg kc
            generalize Lib.bytesWorld wr 5 oldt = w4 at *
            go_loopw [14] (fun x wx => ∃ y : Nat, y ≤ old.length ∧ x = .int .i64 y ∧ FillB wx g sz y ((65 + j : Nat) : Int) old ∧ Fr (fun k => k = g) w4 wx) (fun x _ => old.length - (intOf x).toNat)
            case atStart => exact ⟨0, Nat.zero_le _, rfl, HB0.out, Fr.refl _ _⟩
            case round =>
              obtain ⟨y, hy, rfl, hB, hf4⟩ := hrel
              have hos := HOSZ.out
              have HB := Lib.hid hB
              by_cases hlt : y < old.length
              · have q4 : decide (y < oldt.size) = true := by simp; omega
                obtain ⟨b1, b2, b3⟩ := hB.cell y hlt
                have hyi : (y : Int) < (oldt.size : Int) := by omega
                have HF4 := Lib.hid hf4
                clear hf4 hB hos
                go_wp2_with fail
                go_roundw
                case rel => exact ⟨y + 1, by omega, by go_num, HB.out.set hlt, HF4.out.setCell (fun _ => rfl) _⟩
                case measure => simp [intOf]; omega
              · have q4 : decide (y < oldt.size) = false := by simp; omega
                have HF4 := Lib.hid hf4
                clear hf4 hB hos
                have hyo : y = old.length := by omega
                have hB1 := HB.out
                obtain ⟨cc, hcc⟩ : ∃ cc : UInt8, cc.toNat = 65 + j := ⟨UInt8.ofNat (65 + j), by simp [UInt8.toNat_ofNat']; omega⟩
                rw [hyo, ← hcc] at hB1
                have hup : upper (List.replicate old.length cc) := by
                  intro b hb
                  rw [List.eq_of_mem_replicate hb]
                  omega
                obtain ⟨rep, hrep⟩ : ∃ rep, rep = List.replicate old.length cc := ⟨_, rfl⟩
                have hrl : rep.length = old.length := by rw [hrep]; simp
                have hcv := hB1.conv (cp := cp) HOSZ.out
                rw [← hrep] at hcv hup
                have HB1 := Lib.hid hB1; have HUP := Lib.hid hup; have HREP := Lib.hid hrep; have HRL := Lib.hid hrl; have HYO := Lib.hid hyo
                clear hB1 hup hrep hrl hyo hcc
                go_wp2_with fail
                clear hcv
                have hw3 : Fr (fun _ => False) w3 wr := ((HF3.out.trans HFB.out).trans' HF4.out (fun k hk e => by have e' : k = g := e; have h1 := HF3.out.size; have h2 := HG5.out; omega))
                have hA : wr.ownsRow w1.heap.size 41 2 (.slice (some ⟨g1, 0, none⟩) i cS) i (spCells toks i) := ownMove HS.out (fun k _ hl => (HFW.out.trans hw3).block k hl (fun h => h))
                have hO : wr.ownsRow w2.heap.size 3 1 (.slice (some ⟨g2, 0, none⟩) m co) m ((fndM toks i).map intV) := ownMove HO3.out (fun k _ hl => hw3.block k hl (fun h => h))
                rw [HTX.out]
                refine (used_any bs toks (fndM toks i) rep _ _ wr _ _ (by rw [← HN.out]; omega) (fun x hx => (fnd_lt toks i (by rw [← HN.out]; omega) x hx).1) (by rw [← HM.out]; omega) (by rw [← HN.out]; exact HTW.out) (by omega) (by rw [← HN.out]; exact hA) (by rw [← HM.out]; exact hO)).mono ?_
                rintro e w5 ⟨rfl, hf5⟩
                rw [← HTX.out]
                have hB5 := HB1.out.fr hf5 (fun h => h)
                have hcv := hB5.conv (cp := cp) HOSZ.out
                rw [← HREP.out] at hcv
                have hw5 := hw3.trans hf5
                have HW5 := Lib.hid hw5
                clear hB5 hw3 hw5 hA hO hf5
                cases hus : usedM bs toks (fndM toks i) rep with
                | true =>
                  have HUS := Lib.hid hus
                  clear hus
                  go_wp2_with fail
                  go_roundw
                  case rel => exact ⟨j + 1, by omega, by go_num, ⟨[], rfl, .inl rfl⟩, HW5.out⟩
                  case measure => simp [intOf]; omega
                | false =>
                  have HUS := Lib.hid hus
                  clear hus
                  go_wp2_with fail
                  go_roundw
                  case rel => exact ⟨j + 1, by omega, by go_num, ⟨rep, rfl, .inr ⟨HUP.out, HRL.out, HUS.out⟩⟩, HW5.out⟩
                  case measure => simp [intOf]; omega
          · have hfw : Fr (fun _ => False) w wr := (HF1.out.trans (HF2.out.trans HFW.out)).trans hf
            have HFW5 := Lib.hid hfw
            by_cases ho0 : ob = []
            · subst ho0
              have hj26 : ¬ j < 26 := fun h => hgo ⟨h, rfl⟩
              have q3 : decide (((65 + j : Nat) : Int) ≤ 90) = false := by simp; omega
              clear hob hf hfw kc hgo
              go_wp2_with fail
              refine (awake_any wr (HG.out.move HFW5.out)).mono ?_
              rintro e w6 ⟨rfl, hf6⟩
              go_wp2_with fail
              go_ret
              exact ⟨rfl, HFW5.out.trans hf6⟩
            · rcases hob with hob | ⟨hob1, hob2, hob3⟩
              · exact absurd hob ho0
              obtain ⟨obt, hobt⟩ : ∃ obt : ByteArray, obt = ⟨ob.toArray⟩ := ⟨_, rfl⟩
              have hne : obt.toList.isEmpty = false := by rw [hobt, ByteArray.toList_eq]; simpa using ho0
              have hne2 : ¬ obt.toList = [] := by rw [hobt, ByteArray.toList_eq]; simpa using ho0
              rw [← hobt]
              have HOBT := Lib.hid hobt; have HOB1 := Lib.hid hob1; have HOB2 := Lib.hid hob2; have HOB3 := Lib.hid hob3
              clear hob1 hob2 hob3 hf hfw kc hgo hobt ho0
              go_wp2_with fail
              all_goals
                obtain ⟨ren, hren⟩ : ∃ ren, ren = renM old ob bs.length bs := ⟨_, rfl⟩
                have hrl : ren.length = bs.length := by rw [hren]; exact (ren_ok HOB1.out HOB2.out bs.length bs (Nat.le_refl _)).len
                have HREN := Lib.hid hren; have HRL := Lib.hid hrl
                clear hren hrl
                go_loopw [15, 16, 17] (fun o x _ wx => ∃ y : Nat, y ≤ i ∧ x = .int .i64 y ∧ o = .string ⟨(ren.take (preW toks y)).toArray⟩ ∧ Fr (fun _ => False) wr wx) (fun _ x _ _ => i - (intOf x).toNat)
                case atStart => exact ⟨0, Nat.zero_le _, rfl, rfl, Fr.refl _ _⟩
                case round =>
                  obtain ⟨y, hy, rfl, rfl, hf6⟩ := hrel
                  have HF6 := Lib.hid hf6
                  obtain ⟨tb, htb⟩ : ∃ tb : ByteArray, tb = ⟨(ren.take (preW toks y)).toArray⟩ := ⟨_, rfl⟩
                  rw [← htb]
                  have htbs : tb.size ≤ 5000 := by rw [htb]; simp only [ByteArray.size, List.size_toArray]; have := List.length_take_le (preW toks y) ren; have := HRL.out; rw [List.length_take]; omega
                  have hobs : obt.size ≤ 5000 := by rw [HOBT.out]; simp only [ByteArray.size, List.size_toArray]; have := HOB2.out; omega
                  have HTB := Lib.hid htb
                  clear htb
                  by_cases hlt : y < i
                  · have q5 : decide ((y : Int) < (i : Int)) = true := by simp; omega
                    obtain ⟨t, ht⟩ : ∃ t, toks[y]? = some t := ⟨_, List.getElem?_eq_getElem (by rw [← HN.out]; exact hlt)⟩
                    have hTw := HV0.out.move (w' := wr) (fun k _ hk => ((HF2.out.trans (HFW.out.trans HF3.out)).trans hf6).block k hk (fun h => h))
                    obtain ⟨gt, rfl, h0, h1, h2⟩ := TokRow.get hTw y t ht
                    have lgt := blkLt (ownBlk (k := gt) (show wr.ownsRow 0 33 3 _ _ _ from hTw) rfl).choose_spec
                    have hA : wr.ownsRow w1.heap.size 41 2 (.slice (some ⟨g1, 0, none⟩) i cS) i (spCells toks i) := ownMove HS.out (fun k _ hl => ((HFW.out.trans HF3.out).trans hf6).block k hl (fun h => h))
                    have hla := spCells_len toks i
                    obtain ⟨g5, d5, v5, _, x0⟩ := ownAt hA (y * 2) (by omega)
                    obtain rfl := sliceBlk v5
                    obtain ⟨g6, d6, v6, _, x1⟩ := ownAt hA (y * 2 + 1) (by omega)
                    obtain rfl := sliceBlk (v5.symm.trans v6)
                    have lg1 := blkLt (ownBlk (k := g1) hA rfl).choose_spec
                    obtain ⟨z0, z1⟩ := spCells_get toks i y hlt
                    rw [z0] at x0
                    rw [z1] at x1
                    have hp1 := preW_mono toks (a := y) (b := y + 1) (by omega)
                    have hp2 := preW_mono toks (a := y + 1) (b := i) (by omega)
                    rw [HTW.out] at hp2
                    have hst := ren_step (old := old) (other := ob) (bs := bs) HOB2.out (y := y) (t := t) (by rw [← HTK.out]; exact ht)
                    rw [← HREN.out, ← HTK.out] at hst
                    obtain ⟨ya, hya⟩ : ∃ ya, ya = preW toks y := ⟨_, rfl⟩
                    obtain ⟨yb, hyb⟩ : ∃ yb, yb = preW toks (y + 1) := ⟨_, rfl⟩
                    rw [← hya] at x0 hp1 hst
                    rw [← hyb] at x1 hp1 hp2 hst
                    obtain ⟨pt, hpt⟩ : ∃ pt, pt = txt.extract ya yb := ⟨_, rfl⟩
                    have hpe : pt = ⟨(nmT bs ya yb).toArray⟩ := by rw [hpt, HTX.out, ext_take bs ya yb (by omega)]; rfl
                    have hpts : pt.size ≤ 5000 := by rw [hpe]; simp only [ByteArray.size, List.size_toArray]; unfold nmT; rw [List.length_take, List.length_drop]; omega
                    have hpo : (pt.toList == oldt.toList) = decide (nmT bs ya yb = old) := by
                      rw [ByteArray.toList_eq, ByteArray.toList_eq, hpe, HOLT.out]
                      show (nmT bs ya yb == old) = _
                      rw [Bool.eq_iff_iff, beq_iff_eq, decide_eq_true_iff]
                    have hyab : (ya : Int) ≤ (yb : Int) := by omega
                    have hybt : (yb : Int) ≤ (txt.size : Int) := by omega
                    have hyi : (y : Int) < (i : Int) := by omega
                    obtain ⟨tk, tw, tl⟩ := t
                    simp only at h0 h1 h2 hst
                    have hpt' := hpt.symm
                    have HST := Lib.hid hst; have HPE := Lib.hid hpe; have HYA := Lib.hid hya; have HYB := Lib.hid hyb
                    clear hf6 hTw hA hla v5 v6 z0 z1 hst hpe hpt hya hyb ht
                    by_cases h6 : tk = 6
                    · subst h6
                      by_cases hp : nmT bs ya yb = old
                      · have hq : (pt.toList == oldt.toList) = true := by rw [hpo]; simp [hp]
                        have HP := Lib.hid hp
                        clear hpo hp
                        go_wp2_with fail
                        go_quiet (fail)
                        go_wp2_with fail
                        go_roundw
                        case rel =>
                          refine ⟨y + 1, by omega, by go_num, ?_, HF6.out.drewN _⟩
                          rw [← HYB.out, HST.out, if_pos ⟨by first | rfl | trivial, HP.out⟩, HTB.out, HOBT.out, HYA.out]
                          rfl
                        case measure => simp [intOf]; omega
                      · have hq : (pt.toList == oldt.toList) = false := by rw [hpo]; simp [hp]
                        have HP := Lib.hid hp
                        clear hpo hp
                        go_wp2_with fail
                        go_quiet (fail)
                        go_wp2_with fail
                        go_roundw
                        case rel =>
                          refine ⟨y + 1, by omega, by go_num, ?_, HF6.out.drewN _⟩
                          rw [← HYB.out, HST.out, if_neg (fun h => HP.out h.2), HTB.out, HPE.out, HYA.out]
                          rfl
                        case measure => simp [intOf]; omega
                    · have hb6 : ((tk : Int) == 6) = false := by simp; omega
                      clear hpo
                      go_wp2_with fail
                      go_quiet (fail)
                      go_wp2_with fail
                      go_roundw
                      case rel =>
                        refine ⟨y + 1, by omega, by go_num, ?_, HF6.out.drewN _⟩
                        rw [← HYB.out, HST.out, if_neg (fun h => h6 h.1), HTB.out, HPE.out, HYA.out]
                        rfl
                      case measure => simp [intOf]; omega
                  · have q5 : decide ((y : Int) < (i : Int)) = false := by simp; omega
                    obtain rfl : y = i := by omega
                    have hte : tb = ⟨ren.toArray⟩ := by
                      rw [HTB.out, HTW.out, List.take_of_length_le (by rw [HRL.out]; exact Nat.le_refl _)]
                    have HTE := Lib.hid hte
                    clear hf6 hte
                    go_wp2_with fail
                    rw [HTX.out]
                    refine (names_any bs wr (HG.out.move (HFW5.out.trans HF6.out)) (by omega)).mono ?_
                    rintro e w6 ⟨vD, vB, rfl, hN1, hf7⟩
                    rw [← HTX.out]
                    obtain ⟨e1, e2⟩ := names_ren (old := old) (bs := bs) HOB1.out HOB2.out (by omega) (fun a b h => by
                      obtain ⟨y0, t0, ht0, hk0, rfl, rfl⟩ := isName_tok h
                      rw [← HTK.out] at ht0 ⊢
                      have hm0 := fnd_mem toks y y0 t0 (by have := (List.getElem?_eq_some_iff.1 ht0).1; rw [← HN.out] at this; exact this) ht0 hk0
                      have hu := HOB3.out
                      unfold usedM at hu
                      rw [List.any_eq_false] at hu
                      have := hu _ hm0
                      simpa using this)
                    rw [← HREN.out] at e1 e2
                    have hD1 := hN1.D; have hB1 := hN1.B
                    have hnd : (namesM (-1) bs).decls.length ≤ maxLen := rowMax hD1
                    have hnb : (namesM (-1) bs).binds.length ≤ maxLen := rowMax hB1
                    obtain ⟨nd, hnd'⟩ : ∃ nd, nd = (namesM (-1) bs).decls.length := ⟨_, rfl⟩
                    obtain ⟨nb, hnb'⟩ : ∃ nb, nb = (namesM (-1) bs).binds.length := ⟨_, rfl⟩
                    rw [← hnd'] at hD1 hnd
                    rw [← hnb'] at hB1 hnb
                    obtain ⟨aD, cD, rfl, _, _⟩ := ownShape hD1
                    obtain ⟨aB, cB, rfl, _, _⟩ := ownShape hB1
                    have hbn := blkNew w6 (.cells #[.slice aD nd cD, .slice aB nb cB] 37)
                    have hal : Fr (fun _ => False) w6 (w6.alloc (.cells #[.slice aD nd cD, .slice aB nb cB] 37)) := (Fr.refl _ _).alloc _
                    have HD1 := Lib.hid hD1; have HB1 := Lib.hid hB1; have HF7 := Lib.hid hf7; have HE1 := Lib.hid e1; have HE2 := Lib.hid e2; have HND := Lib.hid hnd; have HNB := Lib.hid hnb; have HND2 := Lib.hid hnd'; have HNB2 := Lib.hid hnb'; have HBN := Lib.hid hbn; have HAL := Lib.hid hal
                    clear hD1 hB1 hN1 hf7 e1 e2 hnd hnb hnd' hnb' hbn hal
                    go_wp2_with fail
                    rw [HTE.out]
                    generalize w6.alloc (.cells #[.slice aD nd cD, .slice aB nb cB] 37) = w7 at *
                    refine (names_any ren w7 (HG.out.move (((HFW5.out.trans HF6.out).trans HF7.out).trans HAL.out)) (by rw [HRL.out]; omega)).mono ?_
                    rintro e w8 ⟨vE, vC, rfl, hN2, hf8⟩
                    have hD2 := hN2.D; have hB2 := hN2.B
                    rw [HE1.out, ← HND2.out] at hD2
                    rw [HE2.out, ← HNB2.out] at hB2
                    obtain ⟨aE, cE, rfl, _, _⟩ := ownShape hD2
                    obtain ⟨aC, cC, rfl, _, _⟩ := ownShape hB2
                    have hbn8 := hf8.blk HBN.out (fun h => h)
                    have lbn8 := blkLt hbn8
                    have hbo := blkNew w8 (.cells #[.slice aE nd cE, .slice aC nb cC] 37)
                    have hal9 : Fr (fun _ => False) w8 (w8.alloc (.cells #[.slice aE nd cE, .slice aC nb cC] 37)) := (Fr.refl _ _).alloc _
                    have hbn9 := hal9.blk hbn8 (fun h => h)
                    have b0 := blkCell hbn9 0; have b1 := blkCell hbn9 1; have c0 := blkCell hbo 0; have c1 := blkCell hbo 1
                    have lo9 := blkLt hbo; have lb9 := blkLt hbn9
                    have HD2 := Lib.hid hD2; have HB2 := Lib.hid hB2; have HF8 := Lib.hid hf8; have HAL9 := Lib.hid hal9
                    clear hD2 hB2 hN2 hf8 hal9 hbo hbn9 hbn8
                    go_wp2_with fail
                    refine (same_any (namesM (-1) bs).decls (namesM (-1) bs).binds _ _ _ _ _ (by rw [← HND2.out]; exact ownMove HD1.out (fun k _ hl => ((HAL.out.trans HF8.out).trans HAL9.out).block k hl (fun h => h))) (by rw [← HNB2.out]; exact ownMove HB1.out (fun k _ hl => ((HAL.out.trans HF8.out).trans HAL9.out).block k hl (fun h => h))) (by rw [← HND2.out]; exact ownMove HD2.out (fun k _ hl => HAL9.out.block k hl (fun h => h))) (by rw [← HNB2.out]; exact ownMove HB2.out (fun k _ hl => HAL9.out.block k hl (fun h => h)))).mono ?_
                    rintro e w10 ⟨rfl, hf10⟩
                    have hfw10 : Fr (fun _ => False) w w10 := (((((HFW5.out.trans HF6.out).trans HF7.out).trans HAL.out).trans HF8.out).trans HAL9.out).trans hf10
                    have HFW10 := Lib.hid hfw10
                    clear hf10 hfw10 b0 b1 c0 c1
                    go_wp2_with fail
                    refine (awake_any w10 (HG.out.move HFW10.out)).mono ?_
                    rintro e w11 ⟨rfl, hf11⟩
                    go_wp2_with fail
                    go_ret
                    exact ⟨rfl, HFW10.out.trans hf11⟩
theorem scopeNames_any (s : ByteArray) (wh : Int) (w : World) (hG : Glob w) (hw1 : -9223372036854775808 ≤ wh) (hw2 : wh ≤ 9223372036854775807) : Calls Tryz.prog 5 #[.string s, .int .i64 wh] w fun e w' => e = .returned (.bool true) ∧ Fr (fun _ => False) w w' := by
  by_cases h : 3000 < s.size
  · exact names_long s wh w hG h
  · have e : s = ⟨s.data.toList.toArray⟩ := by cases s; rfl
    have := names_short s.data.toList wh w hG (by have : s.data.toList.length = s.size := Array.length_toList; omega) hw1 hw2
    rw [← e] at this
    exact this
end Go.Proofs.YtkicpjjfeekopaaGreatDoor
