/- Walks: the finder: kids (fn). -/
import Derived.Test.YtkicpjjfeekopaaGreatDoorKc01
set_option linter.unusedVariables false
set_option linter.unusedSimpArgs false
set_option linter.unusedSectionVars false
namespace Go.Proofs.YtkicpjjfeekopaaGreatDoor
open Go.RowKit Go.Maps
set_option maxRecDepth 100000 in
set_option maxHeartbeats 8000000 in
theorem kids_fn {C : FC} {k wt wd : Nat} {kids : List Tree} (hkk : k = 54) (hrec : ∀ t ∈ kids, 50 ≤ t.kind → KidsP C t) (hlook : LookSaid C) : KidsP C (.node k wt wd kids) := by
  intro cs P frm hb rc F G pp pars w s hR ho ht hg h50 hw hcnt hP hGF hpi hpl hfin
  have ht0 := ht
  simp only [RepT] at ht0
  obtain ⟨v, xs, rfl, hxo, _, hxl⟩ := ht0
  obtain ⟨a, cp, rfl, hcp, _⟩ := ownShape hxo
  obtain ⟨vD, vB, vL, vS, vN, val, l, r, hR0⟩ := hR
  have hL := hR0.L
  obtain ⟨aL, cL, hvL, hncL, haL⟩ := ownShape hL
  have hll : s.layers.length = r.length + 1 := by rw [hR0.lay]; rfl
  obtain ⟨gL, hgL⟩ := haL (by omega)
  obtain ⟨nr, hnr⟩ : ∃ nr, nr = r.length := ⟨_, rfl⟩
  rw [hll, ← hnr, hgL] at hvL
  rw [hll, ← hnr] at hncL
  rw [hll, ← hnr, hvL] at hL
  obtain ⟨b0, b1, bf, lgL⟩ := lastPair hL (by rw [hR0.rcl, hnr])
  have c4 := blkCell hR0.blk 4
  rw [hvL] at c4
  have lfb := blkLt hR0.blk
  have hnrb : nr ≤ 1099511627776 := by have := ho.len.layers; have := ho.ops; unfold bigN at this; omega
  obtain ⟨len, hln⟩ : ∃ len, len = kids.length := ⟨_, rfl⟩
  have hlen6 : len ≤ 1000000 := by have := cntL_ge kids; simp only [cntT] at hcnt; omega
  rw [← hln] at hcp ⊢
  have HR := Lib.hid hR0; have HO := Lib.hid ho; have HT := Lib.hid ht; have HG := Lib.hid hg; have HW := Lib.hid hw; have HCNT := Lib.hid hcnt; have HP := Lib.hid hP; have HGF := Lib.hid hGF; have HPI := Lib.hid hpi; have HPL := Lib.hid hpl; have HFIN := Lib.hid hfin; have HREC := Lib.hid hrec; have HLOOK := Lib.hid hlook; have HLN := Lib.hid hln; have HXO := Lib.hid hxo; have HXL := Lib.hid hxl; have HNR := Lib.hid hnr; have HVL := Lib.hid hvL; have H50 := Lib.hid h50
  clear hR0 ho ht hg hw hcnt hP hGF hpi hpl hfin hrec hlook hln hxo hxl hnr hvL hL hll bf hgL b0 h50 haL
  subst hkk
  rw [show (((54 : Nat)) : Int) = 54 from rfl]
  go_enter Tryz.func89, Tryz.ntmps89
  go_wp2_with fail
  go_quiet (fail)
  go_wp2_with fail
  have hAl : Fr (fun _ => False) w (((w.alloc (.cells #[.int .u8 54, .int .u8 wt, .int .i64 wd, .slice a len cp] 27)).alloc (.cells #[nilV] 53)).drewN nq) := (((Fr.refl _ _).alloc _).alloc _).drewN _
  have hnode : (((w.alloc (.cells #[.int .u8 54, .int .u8 wt, .int .i64 wd, .slice a len cp] 27)).alloc (.cells #[nilV] 53)).drewN nq).heap[w.heap.size]? = some (.cells #[.int .u8 54, .int .u8 wt, .int .i64 wd, .slice a len cp] 27 (0, 0)) := blkAlloc (blkNew w _) _
  have hgbox : (((w.alloc (.cells #[.int .u8 54, .int .u8 wt, .int .i64 wd, .slice a len cp] 27)).alloc (.cells #[nilV] 53)).drewN nq).heap[w.heap.size + 1]? = some (.cells #[nilV] 53 (0, 0)) := blkNew2 w _ _
  have hszA : (((w.alloc (.cells #[.int .u8 54, .int .u8 wt, .int .i64 wd, .slice a len cp] 27)).alloc (.cells #[nilV] 53)).drewN nq).heap.size = w.heap.size + 2 := by simp [World.drewN]
  change Code.wp Tryz.prog _ _ _ (((w.alloc (.cells #[.int .u8 54, .int .u8 wt, .int .i64 wd, .slice a len cp] 27)).alloc (.cells #[nilV] 53)).drewN nq)
  generalize (((w.alloc (.cells #[.int .u8 54, .int .u8 wt, .int .i64 wd, .slice a len cp] 27)).alloc (.cells #[nilV] 53)).drewN nq) = wA at *
  have hRA := HR.out.fr0 hAl
  have hPA := HP.out.move (w' := wA) (fun k hk => hAl.block k (HP.out.lt k hk) (fun h => h))
  have hKB : KBase C hb rc 54 pp (w.heap.size + 1) hb w.heap.size w.heap.size F G pars s wA #[.int .u8 54, .int .u8 wt, .int .i64 wd, .slice a len cp] := ⟨⟨_, _, _, _, _, _, _, _, hRA⟩, hPA, hgbox, fun h => absurd h (by omega), hnode, by omega, fun h => absurd h (by omega), by omega⟩
  have hK0 : KRel2 C hb rc 54 pp (w.heap.size + 1) hb w.heap.size F G kids frm s ⟨[], [], pars, zeroH⟩ wA 0 (.slice none 0 0) wA := by
    refine ⟨F, G, fun k => k = w.heap.size + 1, ?_⟩
    simp only [List.take_zero, kidsS]
    refine ⟨hKB.fre, ⟨World.ownsRow_nil _ _ _ _, by simp [Value.ownBlock], ⟨nilV, hgbox, World.ownsRow_nil _ _ _ _, by simp [nilV, Value.ownBlock]⟩, hPA, ?_, HGF.out, fun h => absurd h (by omega), fun _ => rfl⟩, Fr.refl _ _, fun k h => .inl h, fun k h => .inl h, fun k h => .inl h, by simp [Value.ownBlock]⟩
    rintro k rfl
    exact ⟨fun h => by have := HR.out.lt _ h; omega, fun h => by have := HP.out.lt _ h; omega⟩
  have hXOA : wA.ownsRow 0 27 4 (.slice a kids.length cp) kids.length xs := ownMove HXO.out (fun k _ hl => hAl.block k hl (fun h => h))
  have hXLA : RepL wA P kids xs := HXL.out.fr hAl (fun _ _ _ h => h)
  have HKB := Lib.hid hKB; have HXOA := Lib.hid hXOA; have HXLA := Lib.hid hXLA; have HAL := Lib.hid hAl; have HSA := Lib.hid hszA
  clear hRA hPA hKB hXOA hXLA hnode hgbox hAl hszA c4 b1 lgL lfb
  go_loopw [2, 8, 36] (fun f vm x wr => ∃ i : Nat, i ≤ len ∧ x = .int .i64 i ∧ f = .int .i64 (frm + sumW (kids.take i) : Nat) ∧ ∃ vmv : Value, vmv = vm ∧ KRel2 C hb rc 54 pp (w.heap.size + 1) hb w.heap.size F G kids frm s ⟨[], [], pars, zeroH⟩ wA i vmv wr) (fun _ _ x _ => len - (intOf x).toNat)
  case atStart => exact ⟨0, Nat.zero_le _, rfl, by simp [sumW], _, rfl, hK0⟩
  case round =>
    obtain ⟨i, hi, rfl, rfl, vm, rfl, F1, G1, Q1, hK⟩ := hrel
    by_cases hlt : i < len
    · obtain ⟨t, ht⟩ : ∃ t, kids[i]? = some t := ⟨_, List.getElem?_eq_getElem (by rw [← HLN.out]; exact hlt)⟩
      obtain ⟨g, cp', k0, k1, k2, k3, hv, _, hrt, g0, g1, g2, g3⟩ := kidCells (hK.rows HKB.out HXOA.out) (hK.trees HKB.out HXLA.out) ht
      injection hv with hv hv2 hcc
      clear hv2
      subst hv
      subst hcc
      have hnb := hK.keep27 HKB.out HKB.out.node
      have n0 := blkCell hnb 0
      have lnb := blkLt hnb
      have mem := List.mem_of_getElem? ht
      have hrt' := hrt
      obtain ⟨tk, twt, twd, tks⟩ := t
      simp only [RepT] at hrt'
      obtain ⟨v', xs', hcs, hv'o, _, _⟩ := hrt'
      obtain ⟨a', c', rfl, _, _⟩ := ownShape hv'o
      injection hcs with e0 hcs; injection hcs with e1 hcs; injection hcs with e2 hcs; injection hcs with e3 _
      subst e0; subst e1; subst e2; subst e3
      -- the state
      obtain ⟨hsw, hgl⟩ := goodT_inner HG.out (by have := H50.out; simp only [Tree.kind] at this; omega)
      have hwle := rsumW_le kids (i + 1)
      rw [rsumW_succ kids i _ ht] at hwle
      simp only [Tree.width] at hwle
      have hW := HW.out
      simp only [Tree.width] at hW
      have hbs := HO.out.bs
      have hgt : goodL (kids.take i) = true := by
        have e := goodL_append (kids.take i) (kids.drop i)
        rw [List.take_append_drop, hgl] at e
        have := e.symm
        simp only [Bool.and_eq_true] at this
        exact this.1
      have hnf : (kidsS (nmT C.bs) C.stop 54 kids frm s ⟨[], [], pars, zeroH⟩).1.ops ≤ bigN := by
        have h1 := HFIN.out
        simp only [nodeS] at h1
        split at h1
        · have := countS_ops (nm := nmT C.bs) (kidsS (nmT C.bs) C.stop 54 kids frm s ⟨[], [], pars, zeroH⟩).2.mine (kidsS (nmT C.bs) C.stop 54 kids frm s ⟨[], [], pars, zeroH⟩).1
          omega
        · exact h1
      have hl0 : LocI s.ops ⟨[], [], pars, zeroH⟩ := ⟨by simp, by simp, HPL.out, by simp [zeroH]⟩
      have hi0 : IdxI s ⟨[], [], pars, zeroH⟩ := ⟨by simp, by simp, HPI.out⟩
      have hops := kidsS_ops_take (nm := nmT C.bs) (stop := C.stop) 54 kids frm s ⟨[], [], pars, zeroH⟩ i HO.out.len hl0
      have hops' := kidsS_ops_take (nm := nmT C.bs) (stop := C.stop) 54 kids frm s ⟨[], [], pars, zeroH⟩ (i + 1) HO.out.len hl0
      have hstep := kidsS_take (nm := nmT C.bs) (stop := C.stop) 54 kids frm s ⟨[], [], pars, zeroH⟩ i _ ht
      have hfi := HO.out.kids 54 (kids.take i) ⟨[], [], pars, zeroH⟩ hgt hl0 hi0 (by omega) (by omega)
      have hli := (kidsS_len (nm := nmT C.bs) (stop := C.stop) 54 (kids.take i) frm s ⟨[], [], pars, zeroH⟩ HO.out.len hl0).2.2
      have hii := (kidsS_idx (nm := nmT C.bs) (stop := C.stop) 54 (kids.take i) frm s ⟨[], [], pars, zeroH⟩ HO.out.span hi0).1
      have hlg := (kidsS_cost (nm := nmT C.bs) (stop := C.stop) 1000000 54 (kids.take i) frm s ⟨[], [], pars, zeroH⟩ (by have h1 := HCNT.out; have h2 := cntL_append (kids.take i) (kids.drop i); rw [List.take_append_drop] at h2; simp only [cntT] at h1; simp only [List.length_nil]; omega) (by have h1 := HCNT.out; have h2 := cntL_append (kids.take i) (kids.drop i); rw [List.take_append_drop] at h2; simp only [cntT] at h1; simp only [List.length_nil]; omega)).2.1
      have hlg2 := cntL_append (kids.take i) (kids.drop i)
      rw [List.take_append_drop] at hlg2
      obtain ⟨si, hsi⟩ : ∃ si, si = (kidsS (nmT C.bs) C.stop 54 (kids.take i) frm s ⟨[], [], pars, zeroH⟩).1 := ⟨_, rfl⟩
      obtain ⟨lo, hlo⟩ : ∃ lo, lo = (kidsS (nmT C.bs) C.stop 54 (kids.take i) frm s ⟨[], [], pars, zeroH⟩).2 := ⟨_, rfl⟩
      obtain ⟨fi, hfieq⟩ : ∃ fi, fi = frm + sumW (kids.take i) := ⟨_, rfl⟩
      rw [← hsi, ← hlo, ← hfieq] at hstep
      rw [← hsi] at hops
      rw [← hsi, ← hfieq] at hfi
      rw [← hsi, ← hlo] at hli hii hK
      rw [← hlo] at hlg
      have hlg3 : lo.given.length ≤ 1000000 := by have h1 := HCNT.out; simp only [cntT] at h1; simp only [List.length_nil] at hlg; omega
      have HLG := Lib.hid hlg3
      clear hlg hlg2 hlg3
      rw [← hfieq]
      have hen : fi + twd ≤ C.bs.length := by omega
      have hfi5 : fi ≤ 100000 := by omega
      have hen5 : fi + twd ≤ 100000 := by omega
      rw [hstep] at hops'
      have hopsn : (stepK (nmT C.bs) C.stop 54 (.node tk twt twd tks) fi si lo).1.ops ≤ bigN := by omega
      obtain ⟨hgt1, _, _, hctl⟩ := mem_facts kids _ mem
      have hgk := hgt1 hgl
      have hck : cntT (.node tk twt twd tks) ≤ 1000000 := by have := HCNT.out; simp only [cntT] at this hctl ⊢; omega
      have HFI := Lib.hid hfi; have HLI := Lib.hid hli; have HII := Lib.hid hii; have HSTEP := Lib.hid hstep; have HOPSN := Lib.hid hopsn; have HEN := Lib.hid hen; have HGK := Lib.hid hgk; have HCK := Lib.hid hck; have HK := Lib.hid hK; have HRT := Lib.hid hrt; have MEM := Lib.hid mem; have HNB := Lib.hid hnb; have HFE := Lib.hid hfieq; have HTI := Lib.hid ht
      clear hfi hli hii hstep hopsn hen hgk hck hK hrt mem hnb hfieq ht hsi hlo hops hops' hl0 hi0 hnf hgt hgl hsw hwle hW hbs hgt1 hctl hv'o
      by_cases h50 : tk < 50
      · have p50 : decide ((tk : Int) < 50) = true := by simp; omega
        by_cases h6 : tk = 6
        · subst h6
          go_wp2_with fail
          have hal : Fr (fun _ => False) wr ((wr.alloc (.cells #[.int .u8 6, .int .u8 twt, .int .i64 twd, .slice a' tks.length c'] 27)).alloc (.cells #[.int .i64 fi, .int .i64 ((fi : Int) + (twd : Int))] 41)) := ((Fr.refl _ _).alloc _).alloc _
          have hkb : ((wr.alloc (.cells #[.int .u8 6, .int .u8 twt, .int .i64 twd, .slice a' tks.length c'] 27)).alloc (.cells #[.int .i64 fi, .int .i64 ((fi : Int) + (twd : Int))] 41)).heap[wr.heap.size]? = some (.cells #[.int .u8 6, .int .u8 twt, .int .i64 twd, .slice a' tks.length c'] 27 (0, 0)) := blkAlloc (blkNew wr _) _
          have hsb : ((wr.alloc (.cells #[.int .u8 6, .int .u8 twt, .int .i64 twd, .slice a' tks.length c'] 27)).alloc (.cells #[.int .i64 fi, .int .i64 ((fi : Int) + (twd : Int))] 41)).heap[wr.heap.size + 1]? = some (.cells #[.int .i64 fi, .int .i64 ((fi : Int) + (twd : Int))] 41 (0, 0)) := blkNew2 wr _ _
          generalize ((wr.alloc (.cells #[.int .u8 6, .int .u8 twt, .int .i64 twd, .slice a' tks.length c'] 27)).alloc (.cells #[.int .i64 fi, .int .i64 ((fi : Int) + (twd : Int))] 41)) = w1 at *
          have hK1 := HK.out.fr0 hal
          have hF1n : ∀ k, wr.heap.size ≤ k → ¬ F1 k := fun k hk h => by have := HK.out.fre.lt k h; omega
          rw [show ((fi : Int) + (twd : Int)) = ((fi + twd : Nat) : Int) from by omega] at hsb ⊢
          refine (HLOOK.out hb rc F1 _ si fi fi (fi + twd) (hK1.fre) HFI.out hfi5 hen5).mono ?_
          rintro e w2 ⟨rfl, F2, hR2, hF2⟩
          have hok2 := HFI.out.look fi (fi + twd) rfl
          have hK2 := hK1.step hF2 hR2 (DecP.of (lookS_decls _ _ _))
          obtain ⟨hsb2, hs2F⟩ := hF2.keep hsb (hF1n _ (by omega))
          have sb0 := blkCell hsb2 0
          have sb1 := blkCell hsb2 1
          have hst : stepK (nmT C.bs) C.stop 54 (.node 6 twt twd tks) fi si lo = (countS (nmT C.bs) [(lookS (nmT C.bs) C.stop fi (fi + twd) si).decls.length] (setHomes (declS (nmT C.bs) fi (fi + twd) 2 (homesS (lookS (nmT C.bs) C.stop fi (fi + twd) si)) (lookS (nmT C.bs) C.stop fi (fi + twd) si)) (bumpH (nmT C.bs) fi (fi + twd) (homesS (lookS (nmT C.bs) C.stop fi (fi + twd) si)))), lo) := by
            rw [stepK_leaf (t := .node 6 twt twd tks) (by exact h50)]; unfold leafS; rw [if_neg (fun h => absurd h.2 (by decide)), if_pos ⟨rfl, rfl⟩, homesS_look, lookS_decls]; rfl
          obtain ⟨sl, hsl⟩ : ∃ sl, sl = lookS (nmT C.bs) C.stop fi (fi + twd) si := ⟨_, rfl⟩
          have hopc : (countS (nmT C.bs) [sl.decls.length] (setHomes (declS (nmT C.bs) fi (fi + twd) 2 (homesS sl) sl) (bumpH (nmT C.bs) fi (fi + twd) (homesS sl)))).ops ≤ bigN := by
            have h1 := HOPSN.out
            rw [hst, ← hsl] at h1
            exact h1
          have ho1 : sl.ops + 1 ≤ bigN := by
            have h2 := (countS_ops (nm := nmT C.bs) [sl.decls.length] (setHomes (declS (nmT C.bs) fi (fi + twd) 2 (homesS sl) sl) (bumpH (nmT C.bs) fi (fi + twd) (homesS sl)))).1
            rw [setHomes_ops] at h2
            have h3 : (declS (nmT C.bs) fi (fi + twd) 2 (homesS sl) sl).ops = sl.ops + 1 := rfl
            omega
          rw [← hsl] at hok2 hK2 hst
          have hok3 := hok2.decl_top (en := fi + twd) 2 (by omega) HEN.out ho1
          have HK2 := Lib.hid hK2; have HOK2 := Lib.hid hok2; have HOK3 := Lib.hid hok3; have HST := Lib.hid hst; have HOPC := Lib.hid hopc
          clear hR2 hF2 hok2 hok3 hK2 hkb hsb hF1n hal hK1 ho1 hst hopc hs2F hsl
          go_wp2_with fail
          refine (declare_top HK2.out.fre HOK2.out (frm := fi) (en := fi + twd) (kind := 2) (by omega) HEN.out).mono ?_
          rintro e w3 ⟨rfl, F3, hR3, hF3⟩
          have hK3 := HK2.out.step hF3 hR3 ⟨_, by rw [(setHomes_decls _ _).1]; rfl⟩
          have HK3 := Lib.hid hK3
          clear hR3 hF3 hK3
          go_wp2_with fail
          have hal3 : Fr (fun _ => False) w3 (w3.alloc (.cells #[.int .i64 sl.decls.length] 3)) := (Fr.refl _ _).alloc _
          have hK4 := HK3.out.fr0 hal3
          refine (count_any hK4.fre HOK3.out _ [sl.decls.length] (ownsOne w3 _ 3) (by intro k hk hF; have := HK3.out.fre.lt k hF; simp [Value.ownBlock] at hk; omega) (by intro k hk; rw [(setHomes_decls _ _).1]; simp at hk; simp [declS]; omega) HOPC.out (by simp)).mono ?_
          rintro e w5 ⟨rfl, F5, hR5, hF5⟩
          have hK5 := hK4.step hF5 hR5 (DecP.of (countS_dec _ _))
          have HK5 := Lib.hid hK5
          have hst := HST.out
          clear hR5 hF5 hK4 hal3 hK5
          go_wp2_with fail
          refine ⟨⟨i + 1, by omega, by go_num, ?_, _, rfl, F5, G1, Q1, ?_⟩, by simp [intOf]; omega⟩
          · rw [rsumW_succ kids i _ HTI.out, ← Nat.add_assoc, ← HFE.out]; go_num
          · rw [HSTEP.out, hst]; exact HK5.out
        · have hb6 : ((tk : Int) == 6) = false := by simp; omega
          go_wp2_with fail
          have hal : Fr (fun _ => False) wr ((wr.alloc (.cells #[.int .u8 tk, .int .u8 twt, .int .i64 twd, .slice a' tks.length c'] 27)).alloc (.cells #[.int .i64 fi, .int .i64 ((fi : Int) + (twd : Int))] 41)) := ((Fr.refl _ _).alloc _).alloc _
          have hkb : ((wr.alloc (.cells #[.int .u8 tk, .int .u8 twt, .int .i64 twd, .slice a' tks.length c'] 27)).alloc (.cells #[.int .i64 fi, .int .i64 ((fi : Int) + (twd : Int))] 41)).heap[wr.heap.size]? = some (.cells #[.int .u8 tk, .int .u8 twt, .int .i64 twd, .slice a' tks.length c'] 27 (0, 0)) := blkAlloc (blkNew wr _) _
          have hsb : ((wr.alloc (.cells #[.int .u8 tk, .int .u8 twt, .int .i64 twd, .slice a' tks.length c'] 27)).alloc (.cells #[.int .i64 fi, .int .i64 ((fi : Int) + (twd : Int))] 41)).heap[wr.heap.size + 1]? = some (.cells #[.int .i64 fi, .int .i64 ((fi : Int) + (twd : Int))] 41 (0, 0)) := blkNew2 wr _ _
          generalize ((wr.alloc (.cells #[.int .u8 tk, .int .u8 twt, .int .i64 twd, .slice a' tks.length c'] 27)).alloc (.cells #[.int .i64 fi, .int .i64 ((fi : Int) + (twd : Int))] 41)) = w1 at *
          have hK1 := HK.out.fr0 hal
          have hF1n : ∀ k, wr.heap.size ≤ k → ¬ F1 k := fun k hk h => by have := HK.out.fre.lt k h; omega
          rw [show ((fi : Int) + (twd : Int)) = ((fi + twd : Nat) : Int) from by omega] at hsb ⊢
          refine (HLOOK.out hb rc F1 _ si fi fi (fi + twd) (hK1.fre) HFI.out hfi5 hen5).mono ?_
          rintro e w2 ⟨rfl, F2, hR2, hF2⟩
          have hst : stepK (nmT C.bs) C.stop 54 (.node tk twt twd tks) fi si lo = (lookS (nmT C.bs) C.stop fi (fi + twd) si, lo) := by
            rw [stepK_leaf (by exact h50)]; unfold leafS; rw [if_neg (fun h => h6 h.1), if_neg (fun h => h6 h.1), if_neg (fun h => h6 h.1), if_neg (fun h => h6 h.1)]; rfl
          have hK2 := hK1.step hF2 hR2 (DecP.of (lookS_decls _ _ _))
          clear hR2 hF2 hkb hsb hF1n hal hK1
          have HK2 := Lib.hid hK2
          clear hK2
          go_wp2_with fail
          refine ⟨⟨i + 1, by omega, by go_num, ?_, _, rfl, F2, G1, Q1, ?_⟩, by simp [intOf]; omega⟩
          · rw [rsumW_succ kids i _ HTI.out, ← Nat.add_assoc, ← HFE.out]; go_num
          · rw [HSTEP.out, hst]; exact HK2.out
      · have h50' : 50 ≤ tk := by omega
        have p6 : ((tk : Int) == 6) = false := by simp; omega
        have p50 : decide ((tk : Int) < 50) = false := by simp; omega
        have hrk := HREC.out _ MEM.out (by exact h50')
        by_cases h52 : tk = 52
        · have p52 : ((tk : Int) == 52) = true := by simp; omega
          have HRK := Lib.hid hrk; have H50' := Lib.hid h50'; have H52 := Lib.hid h52
          clear hrk h50' h52 h50
          obtain ⟨vpv, hgb, hgo, hgq⟩ := HK.out.loc.given
          obtain ⟨ag, cg, hvpv, _, _⟩ := ownShape hgo
          have g0 := blkCell hgb 0
          have lgb := blkLt hgb
          have HGO := Lib.hid hgo; have HGQ := Lib.hid hgq; have HVPV := Lib.hid hvpv
          clear hgo hgq hvpv hgb
          go_wp2_with fail
          have hal : Fr (fun _ => False) wr ((wr.alloc (.cells #[.int .u8 tk, .int .u8 twt, .int .i64 twd, .slice a' tks.length c'] 27)).alloc (.cells #[.int .i64 fi, .int .i64 ((fi : Int) + (twd : Int))] 41)) := ((Fr.refl _ _).alloc _).alloc _
          have hkb : ((wr.alloc (.cells #[.int .u8 tk, .int .u8 twt, .int .i64 twd, .slice a' tks.length c'] 27)).alloc (.cells #[.int .i64 fi, .int .i64 ((fi : Int) + (twd : Int))] 41)).heap[wr.heap.size]? = some (.cells #[.int .u8 tk, .int .u8 twt, .int .i64 twd, .slice a' tks.length c'] 27 (0, 0)) := blkAlloc (blkNew wr _) _
          have hsb : ((wr.alloc (.cells #[.int .u8 tk, .int .u8 twt, .int .i64 twd, .slice a' tks.length c'] 27)).alloc (.cells #[.int .i64 fi, .int .i64 ((fi : Int) + (twd : Int))] 41)).heap[wr.heap.size + 1]? = some (.cells #[.int .i64 fi, .int .i64 ((fi : Int) + (twd : Int))] 41 (0, 0)) := blkNew2 wr _ _
          generalize ((wr.alloc (.cells #[.int .u8 tk, .int .u8 twt, .int .i64 twd, .slice a' tks.length c'] 27)).alloc (.cells #[.int .i64 fi, .int .i64 ((fi : Int) + (twd : Int))] 41)) = w1 at *
          have hK1 := HK.out.fr0 hal
          have hF1n : ∀ k, wr.heap.size ≤ k → ¬ F1 k := fun k hk h => by have := HK.out.fre.lt k h; omega
          rw [show ((fi : Int) + (twd : Int)) = ((fi + twd : Nat) : Int) from by omega] at hsb ⊢
          have hops0 : (withinS (nmT C.bs) C.stop (.node tk twt twd tks) fi si lo.given).ops ≤ bigN := by
            have h1 := HOPSN.out
            rw [stepK_block (t := .node tk twt twd tks) H52.out, if_pos rfl] at h1
            exact h1
          have hgm := (FrF.of0 (F := F1) hal).keepRow HGO.out (fun k hk => (HK.out.loc.QF k ((HGQ.out k).2 (.inr hk))).1)
          refine (within_fre (within_any HRK.out.said) (hK1.fre) HFI.out (HRT.out.fr hal (fun _ _ _ h => h)) HGK.out H50'.out HEN.out HCK.out (vp := vpv) (pars := lo.given) hgm.1 hgm.2 HII.out.given (by have := HLG.out; omega) hops0).mono ?_
          rintro e w2 ⟨rfl, F2, hR2, hF2⟩
          have hst : stepK (nmT C.bs) C.stop 54 (.node tk twt twd tks) fi si lo = (withinS (nmT C.bs) C.stop (.node tk twt twd tks) fi si lo.given, lo) := by rw [stepK_block (t := .node tk twt twd tks) H52.out, if_pos rfl]
          have hK2 := hK1.step hF2 hR2 (within_dec _ _ _ _ _ _)
          clear hR2 hF2 hkb hsb hF1n hal hK1 hops0 hgm
          have HK2 := Lib.hid hK2
          clear hK2
          go_wp2_with fail
          refine ⟨⟨i + 1, by omega, by go_num, ?_, _, rfl, F2, G1, Q1, ?_⟩, by simp [intOf]; omega⟩
          · rw [rsumW_succ kids i _ HTI.out, ← Nat.add_assoc, ← HFE.out]; go_num
          · rw [HSTEP.out, hst]; exact HK2.out
        · have p52 : ((tk : Int) == 52) = false := by simp; omega
          by_cases h55 : tk = 55
          · have hb55 : ((tk : Int) == 55) = true := by simp; omega
            have HRK := Lib.hid hrk; have H50' := Lib.hid h50'; have H52 := Lib.hid h52; have H55 := Lib.hid h55
            clear hrk h50' h52 h50 h55
            go_wp2_with fail
            have hal : Fr (fun _ => False) wr ((wr.alloc (.cells #[.int .u8 tk, .int .u8 twt, .int .i64 twd, .slice a' tks.length c'] 27)).alloc (.cells #[.int .i64 fi, .int .i64 ((fi : Int) + (twd : Int))] 41)) := ((Fr.refl _ _).alloc _).alloc _
            have hkb : ((wr.alloc (.cells #[.int .u8 tk, .int .u8 twt, .int .i64 twd, .slice a' tks.length c'] 27)).alloc (.cells #[.int .i64 fi, .int .i64 ((fi : Int) + (twd : Int))] 41)).heap[wr.heap.size]? = some (.cells #[.int .u8 tk, .int .u8 twt, .int .i64 twd, .slice a' tks.length c'] 27 (0, 0)) := blkAlloc (blkNew wr _) _
            have hsb : ((wr.alloc (.cells #[.int .u8 tk, .int .u8 twt, .int .i64 twd, .slice a' tks.length c'] 27)).alloc (.cells #[.int .i64 fi, .int .i64 ((fi : Int) + (twd : Int))] 41)).heap[wr.heap.size + 1]? = some (.cells #[.int .i64 fi, .int .i64 ((fi : Int) + (twd : Int))] 41 (0, 0)) := blkNew2 wr _ _
            generalize ((wr.alloc (.cells #[.int .u8 tk, .int .u8 twt, .int .i64 twd, .slice a' tks.length c'] 27)).alloc (.cells #[.int .i64 fi, .int .i64 ((fi : Int) + (twd : Int))] 41)) = w1 at *
            have hK1 := HK.out.fr0 hal
            have hF1n : ∀ k, wr.heap.size ≤ k → ¬ F1 k := fun k hk h => by have := HK.out.fre.lt k h; omega
            rw [show ((fi : Int) + (twd : Int)) = ((fi + twd : Nat) : Int) from by omega] at hsb ⊢
            have hst : stepK (nmT C.bs) C.stop 54 (.node tk twt twd tks) fi si lo = ((nodeS (nmT C.bs) C.stop (.node tk twt twd tks) fi si lo.given).1, { lo with given := (nodeS (nmT C.bs) C.stop (.node tk twt twd tks) fi si lo.given).2 }) := stepK_params H55.out
            have hops0 : (nodeS (nmT C.bs) C.stop (.node tk twt twd tks) fi si lo.given).1.ops ≤ bigN := by
              have h1 := HOPSN.out
              rw [hst] at h1
              exact h1
            refine (HRK.out _ P fi hb rc F1 Q1 (some (w.heap.size + 1)) lo.given _ si (hK1.fre) HFI.out (HRT.out.fr hal (fun _ _ _ h => h)) HGK.out H50'.out HEN.out HCK.out hK1.loc.given (fun k hk => (hK1.loc.QF k hk).1) HII.out.given HLI.out.given hops0).mono ?_
            rintro e w2 ⟨rfl, F2, Q2, hR2, hB2, hQF2, hF2⟩
            have hK2 := hK1.params (by decide) hR2 hB2 hQF2 hF2 (nodeS_dec _ _ _ _)
            clear hR2 hF2 hkb hsb hF1n hal hK1 hops0 hB2 hQF2
            have HK2 := Lib.hid hK2
            clear hK2
            go_wp2_with fail
            refine ⟨⟨i + 1, by omega, by go_num, ?_, _, rfl, F2, G1, Q2, ?_⟩, by simp [intOf]; omega⟩
            · rw [rsumW_succ kids i _ HTI.out, ← Nat.add_assoc, ← HFE.out]; go_num
            · rw [HSTEP.out, hst]; exact HK2.out
          · have hb55 : ((tk : Int) == 55) = false := by simp; omega
            have HRK := Lib.hid hrk; have H50' := Lib.hid h50'; have H52 := Lib.hid h52; have H55 := Lib.hid h55
            clear hrk h50' h52 h50 h55
            go_wp2_with fail
            have hal : Fr (fun _ => False) wr ((wr.alloc (.cells #[.int .u8 tk, .int .u8 twt, .int .i64 twd, .slice a' tks.length c'] 27)).alloc (.cells #[.int .i64 fi, .int .i64 ((fi : Int) + (twd : Int))] 41)) := ((Fr.refl _ _).alloc _).alloc _
            have hkb : ((wr.alloc (.cells #[.int .u8 tk, .int .u8 twt, .int .i64 twd, .slice a' tks.length c'] 27)).alloc (.cells #[.int .i64 fi, .int .i64 ((fi : Int) + (twd : Int))] 41)).heap[wr.heap.size]? = some (.cells #[.int .u8 tk, .int .u8 twt, .int .i64 twd, .slice a' tks.length c'] 27 (0, 0)) := blkAlloc (blkNew wr _) _
            have hsb : ((wr.alloc (.cells #[.int .u8 tk, .int .u8 twt, .int .i64 twd, .slice a' tks.length c'] 27)).alloc (.cells #[.int .i64 fi, .int .i64 ((fi : Int) + (twd : Int))] 41)).heap[wr.heap.size + 1]? = some (.cells #[.int .i64 fi, .int .i64 ((fi : Int) + (twd : Int))] 41 (0, 0)) := blkNew2 wr _ _
            generalize ((wr.alloc (.cells #[.int .u8 tk, .int .u8 twt, .int .i64 twd, .slice a' tks.length c'] 27)).alloc (.cells #[.int .i64 fi, .int .i64 ((fi : Int) + (twd : Int))] 41)) = w1 at *
            have hK1 := HK.out.fr0 hal
            have hF1n : ∀ k, wr.heap.size ≤ k → ¬ F1 k := fun k hk h => by have := HK.out.fre.lt k h; omega
            rw [show ((fi : Int) + (twd : Int)) = ((fi + twd : Nat) : Int) from by omega] at hsb ⊢
            have hst : stepK (nmT C.bs) C.stop 54 (.node tk twt twd tks) fi si lo = ((nodeS (nmT C.bs) C.stop (.node tk twt twd tks) fi si []).1, lo) := stepK_other H50'.out H52.out (fun h => H55.out h.1)
            have hops0 : (nodeS (nmT C.bs) C.stop (.node tk twt twd tks) fi si []).1.ops ≤ bigN := by
              have h1 := HOPSN.out
              rw [hst] at h1
              exact h1
            refine (HRK.out.said _ P fi hb rc F1 _ si (hK1.fre) HFI.out (HRT.out.fr hal (fun _ _ _ h => h)) HGK.out H50'.out HEN.out HCK.out hops0).mono ?_
            rintro e w2 ⟨rfl, F2, hR2, hF2⟩
            have hK2 := hK1.step hF2 hR2 (nodeS_dec _ _ _ _)
            clear hR2 hF2 hkb hsb hF1n hal hK1 hops0
            have HK2 := Lib.hid hK2
            clear hK2
            go_wp2_with fail
            refine ⟨⟨i + 1, by omega, by go_num, ?_, _, rfl, F2, G1, Q1, ?_⟩, by simp [intOf]; omega⟩
            · rw [rsumW_succ kids i _ HTI.out, ← Nat.add_assoc, ← HFE.out]; go_num
            · rw [HSTEP.out, hst]; exact HK2.out
    · obtain rfl : i = len := by omega
      have hnb := hK.keep27 HKB.out HKB.out.node
      have n0 := blkCell hnb 0
      have HK := Lib.hid hK; have HNB := Lib.hid hnb
      clear hK hnb
      go_wp2_with fail
      go_end0
      have HKo := HK.out
      rw [show kids.take i = kids from by rw [HLN.out, List.take_length]] at HKo
      have hnd : nodeS (nmT C.bs) C.stop (.node 54 wt wd kids) frm s pars = ((kidsS (nmT C.bs) C.stop 54 kids frm s ⟨[], [], pars, zeroH⟩).1, (kidsS (nmT C.bs) C.stop 54 kids frm s ⟨[], [], pars, zeroH⟩).2.pars) := by
        simp only [nodeS]; rw [if_neg (by omega)]
      rw [hnd]
      exact ⟨rfl, F1, G1, HKo.fre, HKo.loc.pars, HKo.loc.GF, HKo.frk HAL.out (by omega) (fun h => absurd h (by omega)) (by have := HSA.out; omega)⟩
end Go.Proofs.YtkicpjjfeekopaaGreatDoor
