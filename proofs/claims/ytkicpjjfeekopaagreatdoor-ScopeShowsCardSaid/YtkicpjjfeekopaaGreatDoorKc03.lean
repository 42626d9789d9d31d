/- Walks: the finder: kids (let). -/
import Derived.Test.YtkicpjjfeekopaaGreatDoorKc01
set_option linter.unusedVariables false
set_option linter.unusedSimpArgs false
set_option linter.unusedSectionVars false
namespace Go.Proofs.YtkicpjjfeekopaaGreatDoor
open Go.RowKit Go.Maps
set_option maxRecDepth 100000 in
set_option maxHeartbeats 8000000 in
theorem kids_let {C : FC} {k wt wd : Nat} {kids : List Tree} (hkk : k = 53) (hrec : ∀ t ∈ kids, 50 ≤ t.kind → KidsP C t) (hlook : LookSaid C) : KidsP C (.node k wt wd kids) := by
  intro cs P frm hb rc F G pp pars w s hR ho ht hg h50 hw hcnt hP hGF hpi hpl hfin
  have ht0 := ht
  simp only [RepT] at ht0
  obtain ⟨v, xs, rfl, hxo, _, hxl⟩ := ht0
  obtain ⟨a, cp, rfl, hcp, _⟩ := ownShape hxo
  obtain ⟨vD, vB, vL, vS, vN, val, l, r, hR0⟩ := hR
  have hL := hR0.L
  obtain ⟨aL, cL, hvL, hncL, haL⟩ := ownShape hL
  have hll : s.layers.length = r.length + 1 := by rw [hR0.lay]; rfl
  obtain ⟨gL, hgL⟩ := haL (by omega)
  obtain ⟨nr, hnr⟩ : ∃ nr, nr = r.length := ⟨_, rfl⟩
  rw [hll, ← hnr, hgL] at hvL
  rw [hll, ← hnr] at hncL
  rw [hll, ← hnr, hvL] at hL
  obtain ⟨b0, b1, bf, lgL⟩ := lastPair hL (by rw [hR0.rcl, hnr])
  have c4 := blkCell hR0.blk 4
  rw [hvL] at c4
  have lfb := blkLt hR0.blk
  have hnrb : nr ≤ 1099511627776 := by have := ho.len.layers; have := ho.ops; unfold bigN at this; omega
  obtain ⟨len, hln⟩ : ∃ len, len = kids.length := ⟨_, rfl⟩
  have hlen6 : len ≤ 1000000 := by have := cntL_ge kids; simp only [cntT] at hcnt; omega
  rw [← hln] at hcp ⊢
  have HR := Lib.hid hR0; have HO := Lib.hid ho; have HT := Lib.hid ht; have HG := Lib.hid hg; have HW := Lib.hid hw; have HCNT := Lib.hid hcnt; have HP := Lib.hid hP; have HGF := Lib.hid hGF; have HPI := Lib.hid hpi; have HPL := Lib.hid hpl; have HFIN := Lib.hid hfin; have HREC := Lib.hid hrec; have HLOOK := Lib.hid hlook; have HLN := Lib.hid hln; have HXO := Lib.hid hxo; have HXL := Lib.hid hxl; have HNR := Lib.hid hnr; have HVL := Lib.hid hvL; have H50 := Lib.hid h50
  clear hR0 ho ht hg hw hcnt hP hGF hpi hpl hfin hrec hlook hln hxo hxl hnr hvL hL hll bf hgL b0 h50 haL
  subst hkk
  rw [show (((53 : Nat)) : Int) = 53 from rfl]
  go_enter Tryz.func89, Tryz.ntmps89
  go_wp2_with fail
  go_quiet (fail)
  go_wp2_with fail
  have hAl : Fr (fun _ => False) w (((w.alloc (.cells #[.int .u8 53, .int .u8 wt, .int .i64 wd, .slice a len cp] 27)).alloc (.cells #[nilV] 53)).drewN nq) := (((Fr.refl _ _).alloc _).alloc _).drewN _
  have hnode : (((w.alloc (.cells #[.int .u8 53, .int .u8 wt, .int .i64 wd, .slice a len cp] 27)).alloc (.cells #[nilV] 53)).drewN nq).heap[w.heap.size]? = some (.cells #[.int .u8 53, .int .u8 wt, .int .i64 wd, .slice a len cp] 27 (0, 0)) := blkAlloc (blkNew w _) _
  have hgbox : (((w.alloc (.cells #[.int .u8 53, .int .u8 wt, .int .i64 wd, .slice a len cp] 27)).alloc (.cells #[nilV] 53)).drewN nq).heap[w.heap.size + 1]? = some (.cells #[nilV] 53 (0, 0)) := blkNew2 w _ _
  have hszA : (((w.alloc (.cells #[.int .u8 53, .int .u8 wt, .int .i64 wd, .slice a len cp] 27)).alloc (.cells #[nilV] 53)).drewN nq).heap.size = w.heap.size + 2 := by simp [World.drewN]
  change Code.wp Tryz.prog _ _ _ (((w.alloc (.cells #[.int .u8 53, .int .u8 wt, .int .i64 wd, .slice a len cp] 27)).alloc (.cells #[nilV] 53)).drewN nq)
  generalize (((w.alloc (.cells #[.int .u8 53, .int .u8 wt, .int .i64 wd, .slice a len cp] 27)).alloc (.cells #[nilV] 53)).drewN nq) = wA at *
  have hRA := HR.out.fr0 hAl
  have hPA := HP.out.move (w' := wA) (fun k hk => hAl.block k (HP.out.lt k hk) (fun h => h))
  have hKB : KBase C hb rc 53 pp (w.heap.size + 1) hb w.heap.size w.heap.size F G pars s wA #[.int .u8 53, .int .u8 wt, .int .i64 wd, .slice a len cp] := ⟨⟨_, _, _, _, _, _, _, _, hRA⟩, hPA, hgbox, fun h => absurd h (by omega), hnode, by omega, fun h => absurd h (by omega), by omega⟩
  have hK0 : KRel2 C hb rc 53 pp (w.heap.size + 1) hb w.heap.size F G kids frm s ⟨[], [], pars, zeroH⟩ wA 0 (.slice none 0 0) wA := by
    refine ⟨F, G, fun k => k = w.heap.size + 1, ?_⟩
    simp only [List.take_zero, kidsS]
    refine ⟨hKB.fre, ⟨World.ownsRow_nil _ _ _ _, by simp [Value.ownBlock], ⟨nilV, hgbox, World.ownsRow_nil _ _ _ _, by simp [nilV, Value.ownBlock]⟩, hPA, ?_, HGF.out, fun h => absurd h (by omega), fun _ => rfl⟩, Fr.refl _ _, fun k h => .inl h, fun k h => .inl h, fun k h => .inl h, by simp [Value.ownBlock]⟩
    rintro k rfl
    exact ⟨fun h => by have := HR.out.lt _ h; omega, fun h => by have := HP.out.lt _ h; omega⟩
  have hXOA : wA.ownsRow 0 27 4 (.slice a kids.length cp) kids.length xs := ownMove HXO.out (fun k _ hl => hAl.block k hl (fun h => h))
  have hXLA : RepL wA P kids xs := HXL.out.fr hAl (fun _ _ _ h => h)
  have HKB := Lib.hid hKB; have HXOA := Lib.hid hXOA; have HXLA := Lib.hid hXLA; have HAL := Lib.hid hAl; have HSA := Lib.hid hszA
  clear hRA hPA hKB hXOA hXLA hnode hgbox hAl hszA c4 b1 lgL lfb
  go_loopw [2, 8, 36] (fun f vm x wr => ∃ i : Nat, i ≤ len ∧ x = .int .i64 i ∧ f = .int .i64 (frm + sumW (kids.take i) : Nat) ∧ ∃ vmv : Value, vmv = vm ∧ KRel2 C hb rc 53 pp (w.heap.size + 1) hb w.heap.size F G kids frm s ⟨[], [], pars, zeroH⟩ wA i vmv wr) (fun _ _ x _ => len - (intOf x).toNat)
  case atStart => exact ⟨0, Nat.zero_le _, rfl, by simp [sumW], _, rfl, hK0⟩
  case round =>
    obtain ⟨i, hi, rfl, rfl, vm, rfl, F1, G1, Q1, hK⟩ := hrel
    by_cases hlt : i < len
    · obtain ⟨t, ht⟩ : ∃ t, kids[i]? = some t := ⟨_, List.getElem?_eq_getElem (by rw [← HLN.out]; exact hlt)⟩
      obtain ⟨g, cp', k0, k1, k2, k3, hv, _, hrt, g0, g1, g2, g3⟩ := kidCells (hK.rows HKB.out HXOA.out) (hK.trees HKB.out HXLA.out) ht
      injection hv with hv hv2 hcc
      clear hv2
      subst hv
      subst hcc
      have hnb := hK.keep27 HKB.out HKB.out.node
      have n0 := blkCell hnb 0
      have lnb := blkLt hnb
      have mem := List.mem_of_getElem? ht
      have hrt' := hrt
      obtain ⟨tk, twt, twd, tks⟩ := t
      simp only [RepT] at hrt'
      obtain ⟨v', xs', hcs, hv'o, _, _⟩ := hrt'
      obtain ⟨a', c', rfl, _, _⟩ := ownShape hv'o
      injection hcs with e0 hcs; injection hcs with e1 hcs; injection hcs with e2 hcs; injection hcs with e3 _
      subst e0; subst e1; subst e2; subst e3
      -- the state
      obtain ⟨hsw, hgl⟩ := goodT_inner HG.out (by have := H50.out; simp only [Tree.kind] at this; omega)
      have hwle := rsumW_le kids (i + 1)
      rw [rsumW_succ kids i _ ht] at hwle
      simp only [Tree.width] at hwle
      have hW := HW.out
      simp only [Tree.width] at hW
      have hbs := HO.out.bs
      have hgt : goodL (kids.take i) = true := by
        have e := goodL_append (kids.take i) (kids.drop i)
        rw [List.take_append_drop, hgl] at e
        have := e.symm
        simp only [Bool.and_eq_true] at this
        exact this.1
      have hnf : (kidsS (nmT C.bs) C.stop 53 kids frm s ⟨[], [], pars, zeroH⟩).1.ops ≤ bigN := by
        have h1 := HFIN.out
        simp only [nodeS] at h1
        split at h1
        · have := countS_ops (nm := nmT C.bs) (kidsS (nmT C.bs) C.stop 53 kids frm s ⟨[], [], pars, zeroH⟩).2.mine (kidsS (nmT C.bs) C.stop 53 kids frm s ⟨[], [], pars, zeroH⟩).1
          omega
        · exact h1
      have hl0 : LocI s.ops ⟨[], [], pars, zeroH⟩ := ⟨by simp, by simp, HPL.out, by simp [zeroH]⟩
      have hi0 : IdxI s ⟨[], [], pars, zeroH⟩ := ⟨by simp, by simp, HPI.out⟩
      have hops := kidsS_ops_take (nm := nmT C.bs) (stop := C.stop) 53 kids frm s ⟨[], [], pars, zeroH⟩ i HO.out.len hl0
      have hops' := kidsS_ops_take (nm := nmT C.bs) (stop := C.stop) 53 kids frm s ⟨[], [], pars, zeroH⟩ (i + 1) HO.out.len hl0
      have hstep := kidsS_take (nm := nmT C.bs) (stop := C.stop) 53 kids frm s ⟨[], [], pars, zeroH⟩ i _ ht
      have hfi := HO.out.kids 53 (kids.take i) ⟨[], [], pars, zeroH⟩ hgt hl0 hi0 (by omega) (by omega)
      have hli := (kidsS_len (nm := nmT C.bs) (stop := C.stop) 53 (kids.take i) frm s ⟨[], [], pars, zeroH⟩ HO.out.len hl0).2.2
      have hii := (kidsS_idx (nm := nmT C.bs) (stop := C.stop) 53 (kids.take i) frm s ⟨[], [], pars, zeroH⟩ HO.out.span hi0).1
      obtain ⟨si, hsi⟩ : ∃ si, si = (kidsS (nmT C.bs) C.stop 53 (kids.take i) frm s ⟨[], [], pars, zeroH⟩).1 := ⟨_, rfl⟩
      obtain ⟨lo, hlo⟩ : ∃ lo, lo = (kidsS (nmT C.bs) C.stop 53 (kids.take i) frm s ⟨[], [], pars, zeroH⟩).2 := ⟨_, rfl⟩
      obtain ⟨fi, hfieq⟩ : ∃ fi, fi = frm + sumW (kids.take i) := ⟨_, rfl⟩
      rw [← hsi, ← hlo, ← hfieq] at hstep
      rw [← hsi] at hops
      rw [← hsi, ← hfieq] at hfi
      rw [← hsi, ← hlo] at hli hii hK
      rw [← hfieq]
      have hen : fi + twd ≤ C.bs.length := by omega
      have hfi5 : fi ≤ 100000 := by omega
      have hen5 : fi + twd ≤ 100000 := by omega
      rw [hstep] at hops'
      have hopsn : (stepK (nmT C.bs) C.stop 53 (.node tk twt twd tks) fi si lo).1.ops ≤ bigN := by omega
      obtain ⟨hgt1, _, _, hctl⟩ := mem_facts kids _ mem
      have hgk := hgt1 hgl
      have hck : cntT (.node tk twt twd tks) ≤ 1000000 := by have := HCNT.out; simp only [cntT] at this hctl ⊢; omega
      have HFI := Lib.hid hfi; have HLI := Lib.hid hli; have HII := Lib.hid hii; have HSTEP := Lib.hid hstep; have HOPSN := Lib.hid hopsn; have HEN := Lib.hid hen; have HGK := Lib.hid hgk; have HCK := Lib.hid hck; have HK := Lib.hid hK; have HRT := Lib.hid hrt; have MEM := Lib.hid mem; have HNB := Lib.hid hnb; have HFE := Lib.hid hfieq; have HTI := Lib.hid ht
      clear hfi hli hii hstep hopsn hen hgk hck hK hrt mem hnb hfieq ht hsi hlo hops hops' hl0 hi0 hnf hgt hgl hsw hwle hW hbs hgt1 hctl hv'o
      by_cases h50 : tk < 50
      · have p50 : decide ((tk : Int) < 50) = true := by simp; omega
        by_cases h6 : tk = 6
        · subst h6
          go_wp2_with fail
          have hal : Fr (fun _ => False) wr ((wr.alloc (.cells #[.int .u8 6, .int .u8 twt, .int .i64 twd, .slice a' tks.length c'] 27)).alloc (.cells #[.int .i64 fi, .int .i64 ((fi : Int) + (twd : Int))] 41)) := ((Fr.refl _ _).alloc _).alloc _
          have hkb : ((wr.alloc (.cells #[.int .u8 6, .int .u8 twt, .int .i64 twd, .slice a' tks.length c'] 27)).alloc (.cells #[.int .i64 fi, .int .i64 ((fi : Int) + (twd : Int))] 41)).heap[wr.heap.size]? = some (.cells #[.int .u8 6, .int .u8 twt, .int .i64 twd, .slice a' tks.length c'] 27 (0, 0)) := blkAlloc (blkNew wr _) _
          have hsb : ((wr.alloc (.cells #[.int .u8 6, .int .u8 twt, .int .i64 twd, .slice a' tks.length c'] 27)).alloc (.cells #[.int .i64 fi, .int .i64 ((fi : Int) + (twd : Int))] 41)).heap[wr.heap.size + 1]? = some (.cells #[.int .i64 fi, .int .i64 ((fi : Int) + (twd : Int))] 41 (0, 0)) := blkNew2 wr _ _
          generalize ((wr.alloc (.cells #[.int .u8 6, .int .u8 twt, .int .i64 twd, .slice a' tks.length c'] 27)).alloc (.cells #[.int .i64 fi, .int .i64 ((fi : Int) + (twd : Int))] 41)) = w1 at *
          have hK1 := HK.out.fr0 hal
          have hF1n : ∀ k, wr.heap.size ≤ k → ¬ F1 k := fun k hk h => by have := HK.out.fre.lt k h; omega
          rw [show ((fi : Int) + (twd : Int)) = ((fi + twd : Nat) : Int) from by omega] at hsb ⊢
          refine (declare_top hK1.fre HFI.out (by omega) HEN.out).mono ?_
          rintro e w2 ⟨rfl, F2, hR2, hF2⟩
          have ho1 : si.ops + 1 ≤ bigN := by
            have h1 := HOPSN.out
            rw [stepK_leaf (t := .node 6 twt twd tks) (by exact h50)] at h1
            have h2 : (leafS (nmT C.bs) C.stop 53 (Tree.node 6 twt twd tks).kind fi (fi + (Tree.node 6 twt twd tks).width) si lo).1.ops = si.ops + 1 := by
              unfold leafS; rw [if_pos ⟨rfl, rfl⟩]; simp only [lookS_ops, setHomes_ops, declS]
            omega
          have hok2 := HFI.out.decl_top (en := fi + twd) 1 (by omega) HEN.out ho1
          have hK2 := hK1.step hF2 hR2 ⟨_, by rw [(setHomes_decls _ _).1]; rfl⟩
          have hmb : lo.mine.length ≤ 1000000000000 := by have h1 := HLI.out.mine; have h2 := HFI.out.ops; unfold bigN at h2; omega
          obtain ⟨i3, hi3, hz0, hz1, hz2⟩ := info_parts info3
          have HR2 := Lib.hid hR2; have HF2 := Lib.hid hF2; have HOK2 := Lib.hid hok2; have HK2 := Lib.hid hK2
          clear hR2 hF2 hok2 hK2 hkb hsb hF1n hal hK1 ho1
          go_wp2_with (at_builtin; refine wpList_append_own_at _ rfl (.tmp 60) (.tmp 65) 53 rfl 0 3 i3 (.int .i64 0) 1 8 Tryz.underlying53 hi3 hz0 hz1 hz2 rfl (by decide) vm lo.mine.length (lo.mine.map intV) rfl (HK2.out.loc.mine.alloc _) ⟨w2.heap.size, 0, none⟩ 1 1 [.int .i64 si.decls.length] rfl rfl (by exact cells1 (blkNew w2 _)) (by intro u hu; simp at hu; rcases hu with rfl; rfl) (by unfold maxLen; omega) (by omega) (Nat.zero_le _) ?_; intro vm' w3 hN3 hg3 _ hat3; have HN3 := Lib.hid hN3; have HG3 := Lib.hid hg3; have HAT3 := Lib.hid hat3; clear hN3 hg3 hat3)
          have hK3 := HK2.out.mined HG3.out HAT3.out (k0 := si.decls.length) HN3.out
          refine (HLOOK.out hb rc F2 _ _ (fi + twd) fi (fi + twd) hK3.fre HOK2.out hfi5 hen5).mono ?_
          rintro e w4 ⟨rfl, F4, hR4, hF4⟩
          have hK4 := hK3.step hF4 hR4 (DecP.of (lookS_decls _ _ _))
          have hst : stepK (nmT C.bs) C.stop 53 (.node 6 twt twd tks) fi si lo = (lookS (nmT C.bs) C.stop fi (fi + twd) (setHomes (declS (nmT C.bs) fi (fi + twd) 1 (homesS si) si) (bumpH (nmT C.bs) fi (fi + twd) (homesS si))), { lo with mine := lo.mine ++ [si.decls.length] }) := by
            rw [stepK_leaf (t := .node 6 twt twd tks) (by exact h50)]; unfold leafS; rw [if_pos ⟨rfl, rfl⟩]; rfl
          have HK4 := Lib.hid hK4
          clear hK3 hR4 hF4 hK4
          go_wp2_with fail
          refine ⟨⟨i + 1, by omega, by go_num, ?_, _, rfl, F4, G1, Q1, ?_⟩, by simp [intOf]; omega⟩
          · rw [rsumW_succ kids i _ HTI.out, ← Nat.add_assoc, ← HFE.out]; go_num
          · rw [HSTEP.out, hst]; exact HK4.out
        · have hb6 : ((tk : Int) == 6) = false := by simp; omega
          go_wp2_with fail
          have hal : Fr (fun _ => False) wr ((wr.alloc (.cells #[.int .u8 tk, .int .u8 twt, .int .i64 twd, .slice a' tks.length c'] 27)).alloc (.cells #[.int .i64 fi, .int .i64 ((fi : Int) + (twd : Int))] 41)) := ((Fr.refl _ _).alloc _).alloc _
          have hkb : ((wr.alloc (.cells #[.int .u8 tk, .int .u8 twt, .int .i64 twd, .slice a' tks.length c'] 27)).alloc (.cells #[.int .i64 fi, .int .i64 ((fi : Int) + (twd : Int))] 41)).heap[wr.heap.size]? = some (.cells #[.int .u8 tk, .int .u8 twt, .int .i64 twd, .slice a' tks.length c'] 27 (0, 0)) := blkAlloc (blkNew wr _) _
          have hsb : ((wr.alloc (.cells #[.int .u8 tk, .int .u8 twt, .int .i64 twd, .slice a' tks.length c'] 27)).alloc (.cells #[.int .i64 fi, .int .i64 ((fi : Int) + (twd : Int))] 41)).heap[wr.heap.size + 1]? = some (.cells #[.int .i64 fi, .int .i64 ((fi : Int) + (twd : Int))] 41 (0, 0)) := blkNew2 wr _ _
          generalize ((wr.alloc (.cells #[.int .u8 tk, .int .u8 twt, .int .i64 twd, .slice a' tks.length c'] 27)).alloc (.cells #[.int .i64 fi, .int .i64 ((fi : Int) + (twd : Int))] 41)) = w1 at *
          have hK1 := HK.out.fr0 hal
          have hF1n : ∀ k, wr.heap.size ≤ k → ¬ F1 k := fun k hk h => by have := HK.out.fre.lt k h; omega
          rw [show ((fi : Int) + (twd : Int)) = ((fi + twd : Nat) : Int) from by omega] at hsb ⊢
          refine (HLOOK.out hb rc F1 _ si fi fi (fi + twd) (hK1.fre) HFI.out hfi5 hen5).mono ?_
          rintro e w2 ⟨rfl, F2, hR2, hF2⟩
          have hst : stepK (nmT C.bs) C.stop 53 (.node tk twt twd tks) fi si lo = (lookS (nmT C.bs) C.stop fi (fi + twd) si, lo) := by
            rw [stepK_leaf (by exact h50)]; unfold leafS; rw [if_neg (fun h => h6 h.1), if_neg (fun h => h6 h.1), if_neg (fun h => h6 h.1), if_neg (fun h => h6 h.1)]; rfl
          have hK2 := hK1.step hF2 hR2 (DecP.of (lookS_decls _ _ _))
          clear hR2 hF2 hkb hsb hF1n hal hK1
          have HK2 := Lib.hid hK2
          clear hK2
          go_wp2_with fail
          refine ⟨⟨i + 1, by omega, by go_num, ?_, _, rfl, F2, G1, Q1, ?_⟩, by simp [intOf]; omega⟩
          · rw [rsumW_succ kids i _ HTI.out, ← Nat.add_assoc, ← HFE.out]; go_num
          · rw [HSTEP.out, hst]; exact HK2.out
      · have h50' : 50 ≤ tk := by omega
        have p6 : ((tk : Int) == 6) = false := by simp; omega
        have p50 : decide ((tk : Int) < 50) = false := by simp; omega
        have hrk := HREC.out _ MEM.out (by exact h50')
        by_cases h52 : tk = 52
        · have p52 : ((tk : Int) == 52) = true := by simp; omega
          have HRK := Lib.hid hrk; have H50' := Lib.hid h50'; have H52 := Lib.hid h52
          clear hrk h50' h52 h50
          go_wp2_with fail
          have hal : Fr (fun _ => False) wr ((wr.alloc (.cells #[.int .u8 tk, .int .u8 twt, .int .i64 twd, .slice a' tks.length c'] 27)).alloc (.cells #[.int .i64 fi, .int .i64 ((fi : Int) + (twd : Int))] 41)) := ((Fr.refl _ _).alloc _).alloc _
          have hkb : ((wr.alloc (.cells #[.int .u8 tk, .int .u8 twt, .int .i64 twd, .slice a' tks.length c'] 27)).alloc (.cells #[.int .i64 fi, .int .i64 ((fi : Int) + (twd : Int))] 41)).heap[wr.heap.size]? = some (.cells #[.int .u8 tk, .int .u8 twt, .int .i64 twd, .slice a' tks.length c'] 27 (0, 0)) := blkAlloc (blkNew wr _) _
          have hsb : ((wr.alloc (.cells #[.int .u8 tk, .int .u8 twt, .int .i64 twd, .slice a' tks.length c'] 27)).alloc (.cells #[.int .i64 fi, .int .i64 ((fi : Int) + (twd : Int))] 41)).heap[wr.heap.size + 1]? = some (.cells #[.int .i64 fi, .int .i64 ((fi : Int) + (twd : Int))] 41 (0, 0)) := blkNew2 wr _ _
          generalize ((wr.alloc (.cells #[.int .u8 tk, .int .u8 twt, .int .i64 twd, .slice a' tks.length c'] 27)).alloc (.cells #[.int .i64 fi, .int .i64 ((fi : Int) + (twd : Int))] 41)) = w1 at *
          have hK1 := HK.out.fr0 hal
          have hF1n : ∀ k, wr.heap.size ≤ k → ¬ F1 k := fun k hk h => by have := HK.out.fre.lt k h; omega
          rw [show ((fi : Int) + (twd : Int)) = ((fi + twd : Nat) : Int) from by omega] at hsb ⊢
          have hops0 : (withinS (nmT C.bs) C.stop (.node tk twt twd tks) fi si []).ops ≤ bigN := by
            have h1 := HOPSN.out
            rw [stepK_block (t := .node tk twt twd tks) H52.out, if_neg (by omega)] at h1
            exact h1
          refine (within_fre (within_any HRK.out.said) (hK1.fre) HFI.out (HRT.out.fr hal (fun _ _ _ h => h)) HGK.out H50'.out HEN.out HCK.out (vp := .slice none 0 0) (pars := []) (World.ownsRow_nil _ _ _ _) (by simp [Value.ownBlock]) (by simp) (by simp) hops0).mono ?_
          rintro e w2 ⟨rfl, F2, hR2, hF2⟩
          have hst : stepK (nmT C.bs) C.stop 53 (.node tk twt twd tks) fi si lo = (withinS (nmT C.bs) C.stop (.node tk twt twd tks) fi si [], lo) := by rw [stepK_block (t := .node tk twt twd tks) H52.out, if_neg (by omega)]
          have hK2 := hK1.step hF2 hR2 (within_dec _ _ _ _ _ _)
          clear hR2 hF2 hkb hsb hF1n hal hK1 hops0
          have HK2 := Lib.hid hK2
          clear hK2
          go_wp2_with fail
          refine ⟨⟨i + 1, by omega, by go_num, ?_, _, rfl, F2, G1, Q1, ?_⟩, by simp [intOf]; omega⟩
          · rw [rsumW_succ kids i _ HTI.out, ← Nat.add_assoc, ← HFE.out]; go_num
          · rw [HSTEP.out, hst]; exact HK2.out
        · have p52 : ((tk : Int) == 52) = false := by simp; omega
          obtain ⟨b55, hb55⟩ : ∃ b : Bool, ((tk : Int) == 55) = b := ⟨_, rfl⟩
          have HRK := Lib.hid hrk; have H50' := Lib.hid h50'; have H52 := Lib.hid h52
          clear hrk h50' h52 h50
          cases b55
          all_goals
            go_wp2_with fail
            have hal : Fr (fun _ => False) wr ((wr.alloc (.cells #[.int .u8 tk, .int .u8 twt, .int .i64 twd, .slice a' tks.length c'] 27)).alloc (.cells #[.int .i64 fi, .int .i64 ((fi : Int) + (twd : Int))] 41)) := ((Fr.refl _ _).alloc _).alloc _
            have hkb : ((wr.alloc (.cells #[.int .u8 tk, .int .u8 twt, .int .i64 twd, .slice a' tks.length c'] 27)).alloc (.cells #[.int .i64 fi, .int .i64 ((fi : Int) + (twd : Int))] 41)).heap[wr.heap.size]? = some (.cells #[.int .u8 tk, .int .u8 twt, .int .i64 twd, .slice a' tks.length c'] 27 (0, 0)) := blkAlloc (blkNew wr _) _
            have hsb : ((wr.alloc (.cells #[.int .u8 tk, .int .u8 twt, .int .i64 twd, .slice a' tks.length c'] 27)).alloc (.cells #[.int .i64 fi, .int .i64 ((fi : Int) + (twd : Int))] 41)).heap[wr.heap.size + 1]? = some (.cells #[.int .i64 fi, .int .i64 ((fi : Int) + (twd : Int))] 41 (0, 0)) := blkNew2 wr _ _
            generalize ((wr.alloc (.cells #[.int .u8 tk, .int .u8 twt, .int .i64 twd, .slice a' tks.length c'] 27)).alloc (.cells #[.int .i64 fi, .int .i64 ((fi : Int) + (twd : Int))] 41)) = w1 at *
            have hK1 := HK.out.fr0 hal
            have hF1n : ∀ k, wr.heap.size ≤ k → ¬ F1 k := fun k hk h => by have := HK.out.fre.lt k h; omega
            rw [show ((fi : Int) + (twd : Int)) = ((fi + twd : Nat) : Int) from by omega] at hsb ⊢
            have hst : stepK (nmT C.bs) C.stop 53 (.node tk twt twd tks) fi si lo = ((nodeS (nmT C.bs) C.stop (.node tk twt twd tks) fi si []).1, lo) := stepK_other H50'.out H52.out (by omega)
            have hops0 : (nodeS (nmT C.bs) C.stop (.node tk twt twd tks) fi si []).1.ops ≤ bigN := by
              have h1 := HOPSN.out
              rw [hst] at h1
              exact h1
            refine (HRK.out.said _ P fi hb rc F1 _ si (hK1.fre) HFI.out (HRT.out.fr hal (fun _ _ _ h => h)) HGK.out H50'.out HEN.out HCK.out hops0).mono ?_
            rintro e w2 ⟨rfl, F2, hR2, hF2⟩
            have hK2 := hK1.step hF2 hR2 (nodeS_dec _ _ _ _)
            clear hR2 hF2 hkb hsb hF1n hal hK1 hops0
            have HK2 := Lib.hid hK2
            clear hK2
            go_wp2_with fail
            refine ⟨⟨i + 1, by omega, by go_num, ?_, _, rfl, F2, G1, Q1, ?_⟩, by simp [intOf]; omega⟩
            · rw [rsumW_succ kids i _ HTI.out, ← Nat.add_assoc, ← HFE.out]; go_num
            · rw [HSTEP.out, hst]; exact HK2.out
    · obtain rfl : i = len := by omega
      have hnb := hK.keep27 HKB.out HKB.out.node
      have n0 := blkCell hnb 0
      have HK := Lib.hid hK; have HNB := Lib.hid hnb
      clear hK hnb
      have HKo := HK.out
      rw [show kids.take i = kids from by rw [HLN.out, List.take_length]] at HKo
      have hnd : nodeS (nmT C.bs) C.stop (.node 53 wt wd kids) frm s pars = (countS (nmT C.bs) (kidsS (nmT C.bs) C.stop 53 kids frm s ⟨[], [], pars, zeroH⟩).2.mine (kidsS (nmT C.bs) C.stop 53 kids frm s ⟨[], [], pars, zeroH⟩).1, (kidsS (nmT C.bs) C.stop 53 kids frm s ⟨[], [], pars, zeroH⟩).2.pars) := by
        simp only [nodeS]; rw [if_pos trivial]
      have hl0 : LocI s.ops ⟨[], [], pars, zeroH⟩ := ⟨by simp, by simp, HPL.out, by simp [zeroH]⟩
      have hi0 : IdxI s ⟨[], [], pars, zeroH⟩ := ⟨by simp, by simp, HPI.out⟩
      obtain ⟨hsw, hgl⟩ := goodT_inner HG.out (by have := H50.out; simp only [Tree.kind] at this; omega)
      have hfin := HFIN.out
      rw [hnd] at hfin
      have hc := countS_ops (nm := nmT C.bs) (kidsS (nmT C.bs) C.stop 53 kids frm s ⟨[], [], pars, zeroH⟩).2.mine (kidsS (nmT C.bs) C.stop 53 kids frm s ⟨[], [], pars, zeroH⟩).1
      have hok := HO.out.kids 53 kids ⟨[], [], pars, zeroH⟩ hgl hl0 hi0 (by rw [hsw]; exact HW.out) (Nat.le_trans hc.1 hfin)
      have hii := (kidsS_idx (nm := nmT C.bs) (stop := C.stop) 53 kids frm s ⟨[], [], pars, zeroH⟩ HO.out.span hi0).1
      have hml := (kidsS_cost (nm := nmT C.bs) (stop := C.stop) 1000000 53 kids frm s ⟨[], [], pars, zeroH⟩ (by have := HCNT.out; simp only [cntT] at this; simp only [List.length_nil]; omega) (by have := HCNT.out; simp only [cntT] at this; simp only [List.length_nil]; omega)).2.2.1
      have hcn := HCNT.out
      simp only [cntT, List.length_nil] at hcn hml
      have HKo' := Lib.hid HKo; have HND := Lib.hid hnd; have HOK := Lib.hid hok; have HII := Lib.hid hii; have HFN := Lib.hid hfin; have HML := Lib.hid hml
      clear HKo hnd hok hii hfin hml hl0 hi0 hsw hgl hc
      go_wp2_with fail
      refine (count_any HKo'.out.fre HOK.out vm _ HKo'.out.loc.mine (fun k hk => (HKo'.out.loc.mineF k hk).1) HII.out.mine HFN.out (by have := HML.out; omega)).mono ?_
      rintro e w5 ⟨rfl, F5, hR5, hF5⟩
      have hK5 := HKo'.out.step hF5 hR5 (DecP.of (countS_dec _ _))
      clear hR5 hF5
      have HK5 := Lib.hid hK5
      clear hK5
      go_wp2_with fail
      go_end0
      rw [HND.out]
      exact ⟨rfl, F5, G1, HK5.out.fre, HK5.out.loc.pars, HK5.out.loc.GF, HK5.out.frk HAL.out (by omega) (fun h => absurd h (by omega)) (by have := HSA.out; omega)⟩
end Go.Proofs.YtkicpjjfeekopaaGreatDoor
