/- Walks: the parser's parts (by program). Walks: the parser's loops (by program). Walks: the parser's loops, more (by program). Walks: the parser's expressions. -/
import Derived.Test.YtkicpjjfeekopaaGreatDoorKa01
import Derived.Shelf.Abstract
import Derived.KernelRfl
set_option linter.unusedVariables false
set_option linter.unusedSimpArgs false
set_option linter.unusedSectionVars false
namespace Go.Proofs.YtkicpjjfeekopaaGreatDoor
open Go.RowKit
theorem ent179 : ∀ args w, (callFunc 179 args).run Tryz.prog w = .ok (.enter 179 args) w := Go.Proofs.enters_of Tryz.func179 (by kernel_rfl) rfl

theorem ent144 : ∀ args w, (callFunc 144 args).run Tryz.prog w = .ok (.enter 144 args) w := Go.Proofs.enters_of Tryz.func144 (by kernel_rfl) rfl

theorem ent194 : ∀ args w, (callFunc 194 args).run Tryz.prog w = .ok (.enter 194 args) w := Go.Proofs.enters_of Tryz.func194 (by kernel_rfl) rfl

theorem ent162 : ∀ args w, (callFunc 162 args).run Tryz.prog w = .ok (.enter 162 args) w := Go.Proofs.enters_of Tryz.func162 (by kernel_rfl) rfl

theorem ent198 : ∀ args w, (callFunc 198 args).run Tryz.prog w = .ok (.enter 198 args) w := Go.Proofs.enters_of Tryz.func198 (by kernel_rfl) rfl

theorem ent169 : ∀ args w, (callFunc 169 args).run Tryz.prog w = .ok (.enter 169 args) w := Go.Proofs.enters_of Tryz.func169 (by kernel_rfl) rfl

theorem ent182 : ∀ args w, (callFunc 182 args).run Tryz.prog w = .ok (.enter 182 args) w := Go.Proofs.enters_of Tryz.func182 (by kernel_rfl) rfl

theorem ent115 : ∀ args w, (callFunc 115 args).run Tryz.prog w = .ok (.enter 115 args) w := Go.Proofs.enters_of Tryz.func115 (by kernel_rfl) rfl

theorem ent161 : ∀ args w, (callFunc 161 args).run Tryz.prog w = .ok (.enter 161 args) w := Go.Proofs.enters_of Tryz.func161 (by kernel_rfl) rfl

theorem ent187 : ∀ args w, (callFunc 187 args).run Tryz.prog w = .ok (.enter 187 args) w := Go.Proofs.enters_of Tryz.func187 (by kernel_rfl) rfl

theorem ent191 : ∀ args w, (callFunc 191 args).run Tryz.prog w = .ok (.enter 191 args) w := Go.Proofs.enters_of Tryz.func191 (by kernel_rfl) rfl

theorem ent193 : ∀ args w, (callFunc 193 args).run Tryz.prog w = .ok (.enter 193 args) w := Go.Proofs.enters_of Tryz.func193 (by kernel_rfl) rfl

theorem ent185 : ∀ args w, (callFunc 185 args).run Tryz.prog w = .ok (.enter 185 args) w := Go.Proofs.enters_of Tryz.func185 (by kernel_rfl) rfl

theorem ent168 : ∀ args w, (callFunc 168 args).run Tryz.prog w = .ok (.enter 168 args) w := Go.Proofs.enters_of Tryz.func168 (by kernel_rfl) rfl

theorem ent181 : ∀ args w, (callFunc 181 args).run Tryz.prog w = .ok (.enter 181 args) w := Go.Proofs.enters_of Tryz.func181 (by kernel_rfl) rfl

theorem ent189 : ∀ args w, (callFunc 189 args).run Tryz.prog w = .ok (.enter 189 args) w := Go.Proofs.enters_of Tryz.func189 (by kernel_rfl) rfl

theorem ent171 : ∀ args w, (callFunc 171 args).run Tryz.prog w = .ok (.enter 171 args) w := Go.Proofs.enters_of Tryz.func171 (by kernel_rfl) rfl

theorem ent172 : ∀ args w, (callFunc 172 args).run Tryz.prog w = .ok (.enter 172 args) w := Go.Proofs.enters_of Tryz.func172 (by kernel_rfl) rfl

theorem ent173 : ∀ args w, (callFunc 173 args).run Tryz.prog w = .ok (.enter 173 args) w := Go.Proofs.enters_of Tryz.func173 (by kernel_rfl) rfl

theorem ent174 : ∀ args w, (callFunc 174 args).run Tryz.prog w = .ok (.enter 174 args) w := Go.Proofs.enters_of Tryz.func174 (by kernel_rfl) rfl

theorem ent175 : ∀ args w, (callFunc 175 args).run Tryz.prog w = .ok (.enter 175 args) w := Go.Proofs.enters_of Tryz.func175 (by kernel_rfl) rfl

theorem ent176 : ∀ args w, (callFunc 176 args).run Tryz.prog w = .ok (.enter 176 args) w := Go.Proofs.enters_of Tryz.func176 (by kernel_rfl) rfl

set_option maxRecDepth 100000 in
set_option maxHeartbeats 2000000 in
theorem fn_step (T : Ctx) (f : Nat) (IHs : ∀ g, g ≤ f → Hyp T g) : MSaid T (f + 1) .fnB 172 := by
  have IH := IHs f (Nat.le_refl f)
  intro w bm base kind s s' h hb hs
  simp only [runM, bodyM] at hs
  obtain ⟨s1, q1, hs⟩ := Option.bind_eq_some_iff.1 hs
  obtain ⟨s2, q2, hs⟩ := Option.bind_eq_some_iff.1 hs
  obtain ⟨s3, q3, hs⟩ := Option.bind_eq_some_iff.1 hs
  obtain ⟨s4, q4, hs⟩ := Option.bind_eq_some_iff.1 hs
  obtain ⟨r, n1, a1⟩ := Option.bind_eq_some_iff.1 q4
  obtain ⟨f', rfl⟩ : ∃ f', f = f' + 1 := by
    cases f with
    | zero => cases n1
    | succ f' => exact ⟨f', rfl⟩
  have c4 := h.c4
  have lb : bm < w.heap.size := World.block_lt_of_cell? _ _ c4
  have H := Lib.hid h
  clear h
  have Q1 := Lib.hid q1
  have Q2 := Lib.hid q2
  have Q3 := Lib.hid q3
  have N1 := Lib.hid n1
  have A1 := Lib.hid a1
  have HS := Lib.hid hs
  clear q1 q2 q3 n1 a1 hs
  go_enter Tryz.func172, Tryz.ntmps172
  go_wp2_with fail
  refine (take_any T _ bm base kind s s1 H.out hb Q1.out).mono ?_
  rintro e w1 ⟨rfl, hN, fN⟩
  have c4_1 := hN.c4
  have hb1 : NewB base w1 := hb.mono (fN).size
  have FF1 := fN
  have H1 := Lib.hid hN
  clear hN fN c4
  go_wp2_with fail
  refine (want_any T _ bm base kind s1 s2 6 H1.out hb1 Q2.out).mono ?_
  rintro e w2 ⟨rfl, hN, fN⟩
  have c4_2 := hN.c4
  have hb2 : NewB base w2 := hb1.mono (fN).size
  have FF2 := FF1.trans fN
  have H2 := Lib.hid hN
  clear hN fN c4_1
  go_wp2_with fail
  refine (gap_any T _ bm base kind s2 s3 H2.out hb2 Q3.out).mono ?_
  rintro e w3 ⟨rfl, hN, fN⟩
  have c4_3 := hN.c4
  have hb3 : NewB base w3 := hb2.mono (fN).size
  have FF3 := FF2.trans fN
  have H3 := Lib.hid hN
  clear hN fN c4_2
  go_wp2_with fail
  refine (makeN (f := f') (fid := 179) (cap := #[]) (body := .params) ent179 _ s3.1 (fun k => w3.heap.size ≤ k) _ H3.out.1 (fun k hk => hk) N1.out (fun w1 bm1 t1 hbm hf hS hnb hrow hrun => (IHs f' (by omega)).params w1 bm1 _ 55 _ t1 hS hnb hrun)).mono ?_
  rintro e wN ⟨cs, rfl, ht, hp, hfp⟩
  have HT := Lib.hid ht; have HP := Lib.hid hp; have HFP := Lib.hid hfp
  clear ht hp hfp
  go_wp2_with fail
  refine (addPart_any T _ _ bm base kind s3 s4 _ _ cs H3.out hb3 HFP.out HT.out HP.out A1.out).mono ?_
  rintro e w4 ⟨rfl, hN, fN⟩
  clear HT HP HFP
  have c4_4 := hN.c4
  have hb4 : NewB base w4 := hb3.mono (fN).size
  have FF4 := FF3.trans fN
  have H4 := Lib.hid hN
  clear hN fN c4_3
  go_wp2_with fail
  refine (IH.block _ bm base kind s4 s' H4.out hb4 HS.out).mono ?_
  rintro e w5 ⟨rfl, hN, fN⟩
  have c4_5 := hN.c4
  have hb5 : NewB base w5 := hb4.mono (fN).size
  have FF5 := FF4.trans fN
  have H5 := Lib.hid hN
  clear hN fN c4_4
  go_wp2_with fail
  first | go_end0 | refine bodyPost_ret (results_none rfl _ _ _) rfl ?_
  exact ⟨rfl, H5.out, FF5⟩

/-- A box that holds the node in the making. -/
theorem block1_any (T : Ctx) (f : Nat) (IHs : ∀ g, g ≤ f → Hyp T g) (w : World) (bm bx : Nat) (base : Nat → Prop) (kind : Nat) (s : St) (r : Nat × Tree) (h : SS T w bm base kind s) (hx : w.heap[bx]? = some (.cells #[.pointer (some ⟨bm, 0, none⟩)] 201 (0, 0))) (hr : runN T.toks f (.make 52 .blockB) s.1 = some r) :
    Calls Tryz.prog 168 #[.pointer (some ⟨bx, 0, none⟩)] w (PartSaid T w r.2 r.1) := by
  obtain ⟨f', rfl⟩ : ∃ f', f = f' + 1 := by
    cases f with
    | zero => cases hr
    | succ f' => exact ⟨f', rfl⟩
  have c4 := h.c4
  have x0 := blkCell hx 0
  have lx := blkLt hx
  have lb := World.block_lt_of_cell? _ _ c4
  have H := Lib.hid h; have HX := Lib.hid hx; have HR := Lib.hid hr
  clear h hx hr
  go_enter Tryz.func168, Tryz.ntmps168
  go_wp2_with fail
  have hf0 : Fr (fun _ => False) w (w.alloc (.cells #[.int .u8 0, .int .u8 0, .int .i64 0, .slice none 0 0] 27)) := (Fr.refl _ _).alloc _
  have hb0 := blkNew w (.cells #[.int .u8 0, .int .u8 0, .int .i64 0, .slice none 0 0] 27)
  have HB0 := Lib.hid hb0
  have hne : w.heap.size ≠ T.bp := by have := blkLt H.out.1.blk; omega
  clear hb0
  refine (makeN (f := f') (fid := 169) (cap := #[]) (body := .blockB) ent169 _ s.1 (fun k => (w.alloc (.cells #[.int .u8 0, .int .u8 0, .int .i64 0, .slice none 0 0] 27)).heap.size ≤ k) r (H.out.1.move0 hf0) (fun k hk => hk) HR.out (fun w1 bm1 t1 hbm hf hS hnb hrow hrun => (IHs f' (by omega)).blockB w1 bm1 _ 52 _ t1 hS hnb hrun)).mono ?_
  rintro e w1 ⟨cs, rfl, ht, hp, hfp⟩
  obtain ⟨k0, k1, k2, a, n, c, rfl⟩ := ht.form
  have hb1 := Fr.blk hfp HB0.out hne
  have d0 := blkCell hb1 0; have d1 := blkCell hb1 1; have d2 := blkCell hb1 2; have d3 := blkCell hb1 3
  have e0 := blkFree hb1 0; have e1 := blkFree hb1 1; have e2 := blkFree hb1 2; have e3 := blkFree hb1 3
  have HT := Lib.hid ht; have HP := Lib.hid hp; have HFP := Lib.hid hfp; have HB1 := Lib.hid hb1
  clear ht hp hfp hb1
  go_wp2_with fail
  exact partRet Tryz.f168 1 rfl rfl hf0 (Nat.le_refl _) (by simp) HB1.out rfl HT.out HP.out HFP.out rfl

theorem expr1_any (T : Ctx) (f : Nat) (IHs : ∀ g, g ≤ f → Hyp T g) (w : World) (bm bx : Nat) (base : Nat → Prop) (kind : Nat) (s : St) (r : Nat × Tree) (h : SS T w bm base kind s) (hx : w.heap[bx]? = some (.cells #[.pointer (some ⟨bm, 0, none⟩)] 201 (0, 0))) (hr : runN T.toks f (.make 60 .exprB) s.1 = some r) :
    Calls Tryz.prog 181 #[.pointer (some ⟨bx, 0, none⟩)] w (PartSaid T w r.2 r.1) := by
  obtain ⟨f', rfl⟩ : ∃ f', f = f' + 1 := by
    cases f with
    | zero => cases hr
    | succ f' => exact ⟨f', rfl⟩
  have c4 := h.c4
  have x0 := blkCell hx 0
  have lx := blkLt hx
  have lb := World.block_lt_of_cell? _ _ c4
  have H := Lib.hid h; have HX := Lib.hid hx; have HR := Lib.hid hr
  clear h hx hr
  go_enter Tryz.func181, Tryz.ntmps181
  go_wp2_with fail
  have hf0 : Fr (fun _ => False) w (w.alloc (.cells #[.int .u8 0, .int .u8 0, .int .i64 0, .slice none 0 0] 27)) := (Fr.refl _ _).alloc _
  have hb0 := blkNew w (.cells #[.int .u8 0, .int .u8 0, .int .i64 0, .slice none 0 0] 27)
  have HB0 := Lib.hid hb0
  have hne : w.heap.size ≠ T.bp := by have := blkLt H.out.1.blk; omega
  clear hb0
  refine (makeN (f := f') (fid := 182) (cap := #[]) (body := .exprB) ent182 _ s.1 (fun k => (w.alloc (.cells #[.int .u8 0, .int .u8 0, .int .i64 0, .slice none 0 0] 27)).heap.size ≤ k) r (H.out.1.move0 hf0) (fun k hk => hk) HR.out (fun w1 bm1 t1 hbm hf hS hnb hrow hrun => (IHs f' (by omega)).exprB w1 bm1 _ 60 _ t1 hS hnb hrun)).mono ?_
  rintro e w1 ⟨cs, rfl, ht, hp, hfp⟩
  obtain ⟨k0, k1, k2, a, n, c, rfl⟩ := ht.form
  have hb1 := Fr.blk hfp HB0.out hne
  have d0 := blkCell hb1 0; have d1 := blkCell hb1 1; have d2 := blkCell hb1 2; have d3 := blkCell hb1 3
  have e0 := blkFree hb1 0; have e1 := blkFree hb1 1; have e2 := blkFree hb1 2; have e3 := blkFree hb1 3
  have HT := Lib.hid ht; have HP := Lib.hid hp; have HFP := Lib.hid hfp; have HB1 := Lib.hid hb1
  clear ht hp hfp hb1
  go_wp2_with fail
  exact partRet Tryz.f181 1 rfl rfl hf0 (Nat.le_refl _) (by simp) HB1.out rfl HT.out HP.out HFP.out rfl

/-- 'put' at a fuel. -/
theorem putC_any (T : Ctx) (f : Nat) (c : NC) (w : World) (bm : Nat) (base : Nat → Prop) (kind : Nat) (s s' : St) (pk pf : Nat) (first cap : Array Value) (h : SS T w bm base kind s) (hb : NewB base w)
    (hent : ∀ args w, (callFunc pf args).run Tryz.prog w = .ok (.enter pf args) w) (hs : putM T.toks (runN T.toks f) c s = some s')
    (hpart : ∀ w1 s1 r, FrM T bm w w1 → SS T w1 bm base kind s1 → runN T.toks f c s1.1 = some r → Calls Tryz.prog pf (first ++ cap) w1 (PartSaid T w1 r.2 r.1)) :
    Calls Tryz.prog 143 #[.pointer (some ⟨bm, 0, none⟩), .int .u8 pk, .func (.func pf) first cap] w (MPost T w bm base kind s') := by
  obtain ⟨s1, h1, h2⟩ := Option.bind_eq_some_iff.1 hs
  obtain ⟨r, h3, h4⟩ := Option.bind_eq_some_iff.1 h2
  exact put_any T w bm base kind s s1 s' pk pf first cap r.2 r.1 h hb hent h1 (fun w1 hf hS => hpart w1 s1 r hf hS h3) h4
set_option maxHeartbeats 2000000 in
theorem operand_any (T : Ctx) (f : Nat) (c : NC) (w : World) (bm : Nat) (base : Nat → Prop) (kind : Nat) (s s' : St) (pf : Nat) (first cap : Array Value) (h : SS T w bm base kind s) (hb : NewB base w)
    (hent : ∀ args w, (callFunc pf args).run Tryz.prog w = .ok (.enter pf args) w) (hs : operandM T.toks (runN T.toks f) c s = some s')
    (hpart : ∀ w1 s1 r, FrM T bm w w1 → SS T w1 bm base kind s1 → runN T.toks f c s1.1 = some r → Calls Tryz.prog pf (first ++ cap) w1 (PartSaid T w1 r.2 r.1)) :
    Calls Tryz.prog 188 #[.pointer (some ⟨bm, 0, none⟩), .func (.func pf) first cap] w (MPost T w bm base kind s') := by
  unfold operandM at hs
  have c4 := h.c4
  have lb : bm < w.heap.size := World.block_lt_of_cell? _ _ c4
  have H := Lib.hid h
  clear h
  have HPART := Lib.hid hpart
  clear hpart
  cases hk : beginsK (kindM T.toks s.1) with
  | true =>
    rw [if_pos hk] at hs
    obtain ⟨s1, q1, hs⟩ := Option.bind_eq_some_iff.1 hs
    obtain ⟨r, q2, q3⟩ := Option.bind_eq_some_iff.1 hs
    clear hs
    have Q1 := Lib.hid q1
    have Q2 := Lib.hid q2
    have Q3 := Lib.hid q3
    clear q1 q2 q3
    go_enter Tryz.func188, Tryz.ntmps188
    go_wp2_with fail
    refine (pbegins_any T _ s.1 H.out.1).mono ?_
    rintro e w1 ⟨rfl, fN⟩
    have hN := H.out.move0 fN
    have c4_1 := hN.c4
    have hb1 : NewB base w1 := hb.mono ((FrM.of0S H.out fN)).size
    have FF1 := (FrM.of0S H.out fN)
    have H1 := Lib.hid hN
    clear hN fN c4
    go_wp2_with fail
    refine (gap_any T _ bm base kind s s1 H1.out hb1 Q1.out).mono ?_
    rintro e w2 ⟨rfl, hN, fN⟩
    have c4_2 := hN.c4
    have hb2 : NewB base w2 := hb1.mono (fN).size
    have FF2 := FF1.trans fN
    have H2 := Lib.hid hN
    clear hN fN c4_1
    go_wp2_with fail
    refine (HPART.out _ s1 r FF2 H2.out Q2.out).mono ?_
    rintro e wN ⟨cs, rfl, ht, hp, hfp⟩
    have HT := Lib.hid ht; have HP := Lib.hid hp; have HFP := Lib.hid hfp
    clear ht hp hfp
    go_wp2_with fail
    refine (addPart_any T _ _ bm base kind s1 s' _ _ cs H2.out hb2 HFP.out HT.out HP.out Q3.out).mono ?_
    rintro e w3 ⟨rfl, hN, fN⟩
    clear HT HP HFP
    have c4_3 := hN.c4
    have hb3 : NewB base w3 := hb2.mono (fN).size
    have FF3 := FF2.trans fN
    have H3 := Lib.hid hN
    clear hN fN c4_2
    go_wp2_with fail
    first | go_end0 | refine bodyPost_ret (results_none rfl _ _ _) rfl ?_
    exact ⟨rfl, H3.out, FF3⟩
  | false =>
    rw [if_neg (by rw [hk]; simp)] at hs
    have HS := Lib.hid hs
    clear hs
    go_enter Tryz.func188, Tryz.ntmps188
    go_wp2_with fail
    refine (pbegins_any T _ s.1 H.out.1).mono ?_
    rintro e w1 ⟨rfl, fN⟩
    have hN := H.out.move0 fN
    have c4_1 := hN.c4
    have hb1 : NewB base w1 := hb.mono ((FrM.of0S H.out fN)).size
    have FF1 := (FrM.of0S H.out fN)
    have H1 := Lib.hid hN
    clear hN fN c4
    go_wp2_with fail
    refine (missing_any T _ bm base kind s s' 60 H1.out hb1 HS.out).mono ?_
    rintro e w2 ⟨rfl, hN, fN⟩
    have c4_2 := hN.c4
    have hb2 : NewB base w2 := hb1.mono (fN).size
    have FF2 := FF1.trans fN
    have H2 := Lib.hid hN
    clear hN fN c4_1
    go_wp2_with fail
    first | go_end0 | refine bodyPost_ret (results_none rfl _ _ _) rfl ?_
    exact ⟨rfl, H2.out, FF2⟩

set_option maxRecDepth 100000 in
set_option maxHeartbeats 2000000 in
theorem block_step (T : Ctx) (f : Nat) (IHs : ∀ g, g ≤ f → Hyp T g) : MSaid T (f + 1) .block 159 := by
  have IH := IHs f (Nat.le_refl f)
  intro w bm base kind s s' h hb hs
  simp only [runM, bodyM] at hs
  have c4 := h.c4
  have lb : bm < w.heap.size := World.block_lt_of_cell? _ _ c4
  have H := Lib.hid h
  clear h
  by_cases hk : kindM T.toks s.1 = 22
  · rw [if_neg (by omega)] at hs
    have hkb : (((kindM T.toks s.1 : Nat) : Int) != 22) = false := by simp [hk]
    clear hk
    have HS := Lib.hid hs
    clear hs
    go_enter Tryz.func159, Tryz.ntmps159
    go_wp2_with fail
    have hB0 := blkNew w (.cells #[.pointer (some ⟨bm, 0, none⟩)] 201)
    have fN : Fr (fun _ => False) w (w.alloc (.cells #[.pointer (some ⟨bm, 0, none⟩)] 201)) := (Fr.refl _ _).alloc _
    have hN := H.out.move0 fN
    generalize w.alloc (.cells #[.pointer (some ⟨bm, 0, none⟩)] 201) = w1 at *
    have c4_1 := hN.c4
    have hb1 : NewB base w1 := hb.mono ((FrM.of0S H.out fN)).size
    have FF1 := (FrM.of0S H.out fN)
    have B0_1 := Lib.hid hB0
    have x0_1 := blkCell hB0 0
    clear hB0
    have H1 := Lib.hid hN
    clear hN fN c4
    go_wp2_with fail
    refine (kind_any T _ s.1 H1.out.1).mono ?_
    rintro e w2 ⟨rfl, fN⟩
    have hN := H1.out.move0 fN
    have c4_2 := hN.c4
    have hb2 : NewB base w2 := hb1.mono ((FrM.of0S H1.out fN)).size
    have FF2 := FF1.trans (FrM.of0S H1.out fN)
    have hBn := FrM.keep ((FrM.of0S H1.out fN)) H1.out B0_1.out ⟨by decide, by decide, by decide⟩
    have x0_2 := blkCell hBn 0
    have B0_2 := Lib.hid hBn
    clear hBn x0_1
    have H2 := Lib.hid hN
    clear hN fN c4_1
    go_wp2_with fail
    refine (putC_any T f (.make 52 .blockB) _ bm base kind s s' 52 168 #[] #[.pointer (some ⟨w.heap.size, 0, none⟩)] H2.out hb2 ent168 HS.out (fun w3 s3 r hf hS hr => block1_any T f IHs w3 bm w.heap.size base kind s3 r hS (hf.keep H2.out B0_2.out ⟨by decide, by decide, by decide⟩) hr)).mono ?_
    rintro e w3 ⟨rfl, hN, fN⟩
    have c4_3 := hN.c4
    have hb3 : NewB base w3 := hb2.mono (fN).size
    have FF3 := FF2.trans fN
    have hBn := FrM.keep (fN) H2.out B0_2.out ⟨by decide, by decide, by decide⟩
    have x0_3 := blkCell hBn 0
    have B0_3 := Lib.hid hBn
    clear hBn x0_2
    have H3 := Lib.hid hN
    clear hN fN c4_2
    go_wp2_with fail
    first | go_end0 | refine bodyPost_ret (results_none rfl _ _ _) rfl ?_
    exact ⟨rfl, H3.out, FF3⟩
  · rw [if_pos hk] at hs
    have hkb : (((kindM T.toks s.1 : Nat) : Int) != 22) = true := by simp; omega
    clear hk
    have HS := Lib.hid hs
    clear hs
    go_enter Tryz.func159, Tryz.ntmps159
    go_wp2_with fail
    have hB0 := blkNew w (.cells #[.pointer (some ⟨bm, 0, none⟩)] 201)
    have fN : Fr (fun _ => False) w (w.alloc (.cells #[.pointer (some ⟨bm, 0, none⟩)] 201)) := (Fr.refl _ _).alloc _
    have hN := H.out.move0 fN
    generalize w.alloc (.cells #[.pointer (some ⟨bm, 0, none⟩)] 201) = w1 at *
    have c4_1 := hN.c4
    have hb1 : NewB base w1 := hb.mono ((FrM.of0S H.out fN)).size
    have FF1 := (FrM.of0S H.out fN)
    have B0_1 := Lib.hid hB0
    have x0_1 := blkCell hB0 0
    clear hB0
    have H1 := Lib.hid hN
    clear hN fN c4
    go_wp2_with fail
    refine (kind_any T _ s.1 H1.out.1).mono ?_
    rintro e w2 ⟨rfl, fN⟩
    have hN := H1.out.move0 fN
    have c4_2 := hN.c4
    have hb2 : NewB base w2 := hb1.mono ((FrM.of0S H1.out fN)).size
    have FF2 := FF1.trans (FrM.of0S H1.out fN)
    have hBn := FrM.keep ((FrM.of0S H1.out fN)) H1.out B0_1.out ⟨by decide, by decide, by decide⟩
    have x0_2 := blkCell hBn 0
    have B0_2 := Lib.hid hBn
    clear hBn x0_1
    have H2 := Lib.hid hN
    clear hN fN c4_1
    go_wp2_with fail
    refine (missing_any T _ bm base kind s s' 52 H2.out hb2 HS.out).mono ?_
    rintro e w3 ⟨rfl, hN, fN⟩
    have c4_3 := hN.c4
    have hb3 : NewB base w3 := hb2.mono (fN).size
    have FF3 := FF2.trans fN
    have hBn := FrM.keep (fN) H2.out B0_2.out ⟨by decide, by decide, by decide⟩
    have x0_3 := blkCell hBn 0
    have B0_3 := Lib.hid hBn
    clear hBn x0_2
    have H3 := Lib.hid hN
    clear hN fN c4_2
    go_wp2_with fail
    first | go_end0 | refine bodyPost_ret (results_none rfl _ _ _) rfl ?_
    exact ⟨rfl, H3.out, FF3⟩

set_option maxRecDepth 100000 in
set_option maxHeartbeats 2000000 in
theorem expression_step (T : Ctx) (f : Nat) (IHs : ∀ g, g ≤ f → Hyp T g) : MSaid T (f + 1) .expression 178 := by
  have IH := IHs f (Nat.le_refl f)
  intro w bm base kind s s' h hb hs
  simp only [runM, bodyM] at hs
  have c4 := h.c4
  have lb : bm < w.heap.size := World.block_lt_of_cell? _ _ c4
  have H := Lib.hid h
  clear h
  cases hk : beginsK (kindM T.toks s.1) with
  | true =>
    rw [if_pos hk] at hs
    have HS := Lib.hid hs
    clear hs
    go_enter Tryz.func178, Tryz.ntmps178
    go_wp2_with fail
    have hB0 := blkNew w (.cells #[.pointer (some ⟨bm, 0, none⟩)] 201)
    have fN : Fr (fun _ => False) w (w.alloc (.cells #[.pointer (some ⟨bm, 0, none⟩)] 201)) := (Fr.refl _ _).alloc _
    have hN := H.out.move0 fN
    generalize w.alloc (.cells #[.pointer (some ⟨bm, 0, none⟩)] 201) = w1 at *
    have c4_1 := hN.c4
    have hb1 : NewB base w1 := hb.mono ((FrM.of0S H.out fN)).size
    have FF1 := (FrM.of0S H.out fN)
    have B0_1 := Lib.hid hB0
    have x0_1 := blkCell hB0 0
    clear hB0
    have H1 := Lib.hid hN
    clear hN fN c4
    go_wp2_with fail
    refine (pbegins_any T _ s.1 H1.out.1).mono ?_
    rintro e w2 ⟨rfl, fN⟩
    have hN := H1.out.move0 fN
    have c4_2 := hN.c4
    have hb2 : NewB base w2 := hb1.mono ((FrM.of0S H1.out fN)).size
    have FF2 := FF1.trans (FrM.of0S H1.out fN)
    have hBn := FrM.keep ((FrM.of0S H1.out fN)) H1.out B0_1.out ⟨by decide, by decide, by decide⟩
    have x0_2 := blkCell hBn 0
    have B0_2 := Lib.hid hBn
    clear hBn x0_1
    have H2 := Lib.hid hN
    clear hN fN c4_1
    go_wp2_with fail
    refine (putC_any T f (.make 60 .exprB) _ bm base kind s s' 60 181 #[] #[.pointer (some ⟨w.heap.size, 0, none⟩)] H2.out hb2 ent181 HS.out (fun w3 s3 r hf hS hr => expr1_any T f IHs w3 bm w.heap.size base kind s3 r hS (hf.keep H2.out B0_2.out ⟨by decide, by decide, by decide⟩) hr)).mono ?_
    rintro e w3 ⟨rfl, hN, fN⟩
    have c4_3 := hN.c4
    have hb3 : NewB base w3 := hb2.mono (fN).size
    have FF3 := FF2.trans fN
    have hBn := FrM.keep (fN) H2.out B0_2.out ⟨by decide, by decide, by decide⟩
    have x0_3 := blkCell hBn 0
    have B0_3 := Lib.hid hBn
    clear hBn x0_2
    have H3 := Lib.hid hN
    clear hN fN c4_2
    go_wp2_with fail
    first | go_end0 | refine bodyPost_ret (results_none rfl _ _ _) rfl ?_
    exact ⟨rfl, H3.out, FF3⟩
  | false =>
    rw [if_neg (by rw [hk]; simp)] at hs
    have HS := Lib.hid hs
    clear hs
    go_enter Tryz.func178, Tryz.ntmps178
    go_wp2_with fail
    have hB0 := blkNew w (.cells #[.pointer (some ⟨bm, 0, none⟩)] 201)
    have fN : Fr (fun _ => False) w (w.alloc (.cells #[.pointer (some ⟨bm, 0, none⟩)] 201)) := (Fr.refl _ _).alloc _
    have hN := H.out.move0 fN
    generalize w.alloc (.cells #[.pointer (some ⟨bm, 0, none⟩)] 201) = w1 at *
    have c4_1 := hN.c4
    have hb1 : NewB base w1 := hb.mono ((FrM.of0S H.out fN)).size
    have FF1 := (FrM.of0S H.out fN)
    have B0_1 := Lib.hid hB0
    have x0_1 := blkCell hB0 0
    clear hB0
    have H1 := Lib.hid hN
    clear hN fN c4
    go_wp2_with fail
    refine (pbegins_any T _ s.1 H1.out.1).mono ?_
    rintro e w2 ⟨rfl, fN⟩
    have hN := H1.out.move0 fN
    have c4_2 := hN.c4
    have hb2 : NewB base w2 := hb1.mono ((FrM.of0S H1.out fN)).size
    have FF2 := FF1.trans (FrM.of0S H1.out fN)
    have hBn := FrM.keep ((FrM.of0S H1.out fN)) H1.out B0_1.out ⟨by decide, by decide, by decide⟩
    have x0_2 := blkCell hBn 0
    have B0_2 := Lib.hid hBn
    clear hBn x0_1
    have H2 := Lib.hid hN
    clear hN fN c4_1
    go_wp2_with fail
    refine (missing_any T _ bm base kind s s' 60 H2.out hb2 HS.out).mono ?_
    rintro e w3 ⟨rfl, hN, fN⟩
    have c4_3 := hN.c4
    have hb3 : NewB base w3 := hb2.mono (fN).size
    have FF3 := FF2.trans fN
    have hBn := FrM.keep (fN) H2.out B0_2.out ⟨by decide, by decide, by decide⟩
    have x0_3 := blkCell hBn 0
    have B0_3 := Lib.hid hBn
    clear hBn x0_2
    have H3 := Lib.hid hN
    clear hN fN c4_2
    go_wp2_with fail
    first | go_end0 | refine bodyPost_ret (results_none rfl _ _ _) rfl ?_
    exact ⟨rfl, H3.out, FF3⟩

set_option maxRecDepth 100000 in
set_option maxHeartbeats 2000000 in
theorem exprB_step (T : Ctx) (f : Nat) (IHs : ∀ g, g ≤ f → Hyp T g) : MSaid T (f + 1) .exprB 182 := by
  have IH := IHs f (Nat.le_refl f)
  intro w bm base kind s s' h hb hs
  simp only [runM, bodyM] at hs
  obtain ⟨r, q1, q2⟩ := Option.bind_eq_some_iff.1 hs
  clear hs
  have c4 := h.c4
  have lb : bm < w.heap.size := World.block_lt_of_cell? _ _ c4
  have H := Lib.hid h
  clear h
  have Q1 := Lib.hid q1
  have Q2 := Lib.hid q2
  clear q1 q2
  go_enter Tryz.func182, Tryz.ntmps182
  go_wp2_with fail
  refine (IH.level 1 _ s.1 r (by omega) H.out.1 Q1.out).mono ?_
  rintro e wN ⟨cs, rfl, ht, hp, hfp⟩
  have HT := Lib.hid ht; have HP := Lib.hid hp; have HFP := Lib.hid hfp
  clear ht hp hfp
  go_wp2_with fail
  refine (addPart_any T _ _ bm base kind s s' _ _ cs H.out hb HFP.out HT.out HP.out Q2.out).mono ?_
  rintro e w1 ⟨rfl, hN, fN⟩
  clear HT HP HFP
  have c4_1 := hN.c4
  have hb1 : NewB base w1 := hb.mono (fN).size
  have FF1 := fN
  have H1 := Lib.hid hN
  clear hN fN c4
  go_wp2_with fail
  first | go_end0 | refine bodyPost_ret (results_none rfl _ _ _) rfl ?_
  exact ⟨rfl, H1.out, FF1⟩
end Go.Proofs.YtkicpjjfeekopaaGreatDoor

namespace Go.Proofs.YtkicpjjfeekopaaGreatDoor
open Go.RowKit
def LoopRel (T : Ctx) (w : World) (bm : Nat) (base : Nat → Prop) (kind : Nat) (c : MC) (r : St) (F : Nat) (g : Nat) (wr : World) : Prop :=
  ∃ s', SS T wr bm base kind s' ∧ FrM T bm w wr ∧ runM T.toks g c s' = some r ∧ g ≤ F

set_option maxRecDepth 100000 in
set_option maxHeartbeats 2000000 in
theorem inner_step (T : Ctx) (f : Nat) (IHs : ∀ g, g ≤ f → Hyp T g) : MSaid T (f + 1) .inner 117 := by
  have IH := IHs f (Nat.le_refl f)
  intro w bm base kind s s' h hb hs
  simp only [runM, bodyM] at hs
  have c4 := h.c4
  have lb : bm < w.heap.size := World.block_lt_of_cell? _ _ c4
  have H := Lib.hid h
  clear h
  by_cases hk : stmtOf (kindM T.toks s.1) = 0
  · rw [if_neg (by omega)] at hs
    have hkb : (((stmtOf (kindM T.toks s.1) : Nat) : Int) != 0) = false := by simp [hk]
    clear hk
    obtain ⟨s1, q1, hs⟩ := Option.bind_eq_some_iff.1 hs
    obtain ⟨r, q2, q3⟩ := Option.bind_eq_some_iff.1 hs
    clear hs
    have Q1 := Lib.hid q1
    have Q2 := Lib.hid q2
    have Q3 := Lib.hid q3
    clear q1 q2 q3
    go_enter Tryz.func117, Tryz.ntmps117
    go_wp2_with fail
    refine (kind_any T _ s.1 H.out.1).mono ?_
    rintro e w1 ⟨rfl, fN⟩
    have hN := H.out.move0 fN
    have c4_1 := hN.c4
    have hb1 : NewB base w1 := hb.mono ((FrM.of0S H.out fN)).size
    have FF1 := (FrM.of0S H.out fN)
    have H1 := Lib.hid hN
    clear hN fN c4
    go_wp2_with fail
    refine (statement_any _ _).mono ?_
    rintro e w_ ⟨rfl, rfl⟩
    go_wp2_with fail
    refine (gap_any T _ bm base kind s s1 H1.out hb1 Q1.out).mono ?_
    rintro e w2 ⟨rfl, hN, fN⟩
    have c4_2 := hN.c4
    have hb2 : NewB base w2 := hb1.mono (fN).size
    have FF2 := FF1.trans fN
    have H2 := Lib.hid hN
    clear hN fN c4_1
    go_wp2_with fail
    refine (IH.wrong _ s1.1 r H2.out.1 Q2.out).mono ?_
    rintro e wN ⟨cs, rfl, ht, hp, hfp⟩
    have HT := Lib.hid ht; have HP := Lib.hid hp; have HFP := Lib.hid hfp
    clear ht hp hfp
    go_wp2_with fail
    refine (addPart_any T _ _ bm base kind s1 s' _ _ cs H2.out hb2 HFP.out HT.out HP.out Q3.out).mono ?_
    rintro e w3 ⟨rfl, hN, fN⟩
    clear HT HP HFP
    have c4_3 := hN.c4
    have hb3 : NewB base w3 := hb2.mono (fN).size
    have FF3 := FF2.trans fN
    have H3 := Lib.hid hN
    clear hN fN c4_2
    go_wp2_with fail
    first | go_end0 | refine bodyPost_ret (results_none rfl _ _ _) rfl ?_
    exact ⟨rfl, H3.out, FF3⟩
  · rw [if_pos hk] at hs
    have hkb : (((stmtOf (kindM T.toks s.1) : Nat) : Int) != 0) = true := by simp; omega
    clear hk
    have HS := Lib.hid hs
    clear hs
    go_enter Tryz.func117, Tryz.ntmps117
    go_wp2_with fail
    refine (kind_any T _ s.1 H.out.1).mono ?_
    rintro e w1 ⟨rfl, fN⟩
    have hN := H.out.move0 fN
    have c4_1 := hN.c4
    have hb1 : NewB base w1 := hb.mono ((FrM.of0S H.out fN)).size
    have FF1 := (FrM.of0S H.out fN)
    have H1 := Lib.hid hN
    clear hN fN c4
    go_wp2_with fail
    refine (statement_any _ _).mono ?_
    rintro e w_ ⟨rfl, rfl⟩
    go_wp2_with fail
    refine (putC_any T f .statement _ bm base kind s s' 59 144 #[.pointer (some ⟨T.bp, 0, none⟩)] #[] H1.out hb1 ent144 HS.out (fun w3 s3 r hf hS hr => IH.statement w3 s3.1 r hS.1 hr)).mono ?_
    rintro e w2 ⟨rfl, hN, fN⟩
    have c4_2 := hN.c4
    have hb2 : NewB base w2 := hb1.mono (fN).size
    have FF2 := FF1.trans fN
    have H2 := Lib.hid hN
    clear hN fN c4_1
    go_wp2_with fail
    first | go_end0 | refine bodyPost_ret (results_none rfl _ _ _) rfl ?_
    exact ⟨rfl, H2.out, FF2⟩

set_option maxRecDepth 100000 in
set_option maxHeartbeats 2000000 in
theorem branch_step (T : Ctx) (f : Nat) (IHs : ∀ g, g ≤ f → Hyp T g) : MSaid T (f + 1) .branch 173 := by
  have IH := IHs f (Nat.le_refl f)
  intro w bm base kind s s' h hb hs
  simp only [runM, bodyM] at hs
  obtain ⟨s1, q1, hs⟩ := Option.bind_eq_some_iff.1 hs
  obtain ⟨s2, q2, hs⟩ := Option.bind_eq_some_iff.1 hs
  obtain ⟨s3, q3, hs⟩ := Option.bind_eq_some_iff.1 hs
  have c4 := h.c4
  have lb : bm < w.heap.size := World.block_lt_of_cell? _ _ c4
  have H := Lib.hid h
  clear h
  by_cases hk : kindM T.toks s3.1 = 13
  · rw [if_neg (by omega)] at hs
    obtain ⟨s4, q4, hs⟩ := Option.bind_eq_some_iff.1 hs
    have hkb : (((kindM T.toks s3.1 : Nat) : Int) != 13) = false := by simp [hk]
    clear hk
    by_cases hj : kindM T.toks s4.1 = 12
    · rw [if_pos hj] at hs
      have hjb : (((kindM T.toks s4.1 : Nat) : Int) == 12) = true := by simp [hj]
      clear hj
      have Q1 := Lib.hid q1
      have Q2 := Lib.hid q2
      have Q3 := Lib.hid q3
      have Q4 := Lib.hid q4
      have HS := Lib.hid hs
      clear q1 q2 q3 q4 hs
      go_enter Tryz.func173, Tryz.ntmps173
      go_wp2_with fail
      refine (take_any T _ bm base kind s s1 H.out hb Q1.out).mono ?_
      rintro e w1 ⟨rfl, hN, fN⟩
      have c4_1 := hN.c4
      have hb1 : NewB base w1 := hb.mono (fN).size
      have FF1 := fN
      have H1 := Lib.hid hN
      clear hN fN c4
      go_wp2_with fail
      refine (IH.expression _ bm base kind s1 s2 H1.out hb1 Q2.out).mono ?_
      rintro e w2 ⟨rfl, hN, fN⟩
      have c4_2 := hN.c4
      have hb2 : NewB base w2 := hb1.mono (fN).size
      have FF2 := FF1.trans fN
      have H2 := Lib.hid hN
      clear hN fN c4_1
      go_wp2_with fail
      refine (IH.block _ bm base kind s2 s3 H2.out hb2 Q3.out).mono ?_
      rintro e w3 ⟨rfl, hN, fN⟩
      have c4_3 := hN.c4
      have hb3 : NewB base w3 := hb2.mono (fN).size
      have FF3 := FF2.trans fN
      have H3 := Lib.hid hN
      clear hN fN c4_2
      go_wp2_with fail
      refine (kind_any T _ s3.1 H3.out.1).mono ?_
      rintro e w4 ⟨rfl, fN⟩
      have hN := H3.out.move0 fN
      have c4_4 := hN.c4
      have hb4 : NewB base w4 := hb3.mono ((FrM.of0S H3.out fN)).size
      have FF4 := FF3.trans (FrM.of0S H3.out fN)
      have H4 := Lib.hid hN
      clear hN fN c4_3
      go_wp2_with fail
      refine (take_any T _ bm base kind s3 s4 H4.out hb4 Q4.out).mono ?_
      rintro e w5 ⟨rfl, hN, fN⟩
      have c4_5 := hN.c4
      have hb5 : NewB base w5 := hb4.mono (fN).size
      have FF5 := FF4.trans fN
      have H5 := Lib.hid hN
      clear hN fN c4_4
      go_wp2_with fail
      refine (kind_any T _ s4.1 H5.out.1).mono ?_
      rintro e w6 ⟨rfl, fN⟩
      have hN := H5.out.move0 fN
      have c4_6 := hN.c4
      have hb6 : NewB base w6 := hb5.mono ((FrM.of0S H5.out fN)).size
      have FF6 := FF5.trans (FrM.of0S H5.out fN)
      have H6 := Lib.hid hN
      clear hN fN c4_5
      go_wp2_with fail
      refine (putC_any T f .statement _ bm base kind s4 s' 59 144 #[.pointer (some ⟨T.bp, 0, none⟩)] #[] H6.out hb6 ent144 HS.out (fun w3 s3 r hf hS hr => IH.statement w3 s3.1 r hS.1 hr)).mono ?_
      rintro e w7 ⟨rfl, hN, fN⟩
      have c4_7 := hN.c4
      have hb7 : NewB base w7 := hb6.mono (fN).size
      have FF7 := FF6.trans fN
      have H7 := Lib.hid hN
      clear hN fN c4_6
      go_wp2_with fail
      first | go_end0 | refine bodyPost_ret (results_none rfl _ _ _) rfl ?_
      exact ⟨rfl, H7.out, FF7⟩
    · rw [if_neg hj] at hs
      have hjb : (((kindM T.toks s4.1 : Nat) : Int) == 12) = false := by simp; omega
      clear hj
      have Q1 := Lib.hid q1
      have Q2 := Lib.hid q2
      have Q3 := Lib.hid q3
      have Q4 := Lib.hid q4
      have HS := Lib.hid hs
      clear q1 q2 q3 q4 hs
      go_enter Tryz.func173, Tryz.ntmps173
      go_wp2_with fail
      refine (take_any T _ bm base kind s s1 H.out hb Q1.out).mono ?_
      rintro e w1 ⟨rfl, hN, fN⟩
      have c4_1 := hN.c4
      have hb1 : NewB base w1 := hb.mono (fN).size
      have FF1 := fN
      have H1 := Lib.hid hN
      clear hN fN c4
      go_wp2_with fail
      refine (IH.expression _ bm base kind s1 s2 H1.out hb1 Q2.out).mono ?_
      rintro e w2 ⟨rfl, hN, fN⟩
      have c4_2 := hN.c4
      have hb2 : NewB base w2 := hb1.mono (fN).size
      have FF2 := FF1.trans fN
      have H2 := Lib.hid hN
      clear hN fN c4_1
      go_wp2_with fail
      refine (IH.block _ bm base kind s2 s3 H2.out hb2 Q3.out).mono ?_
      rintro e w3 ⟨rfl, hN, fN⟩
      have c4_3 := hN.c4
      have hb3 : NewB base w3 := hb2.mono (fN).size
      have FF3 := FF2.trans fN
      have H3 := Lib.hid hN
      clear hN fN c4_2
      go_wp2_with fail
      refine (kind_any T _ s3.1 H3.out.1).mono ?_
      rintro e w4 ⟨rfl, fN⟩
      have hN := H3.out.move0 fN
      have c4_4 := hN.c4
      have hb4 : NewB base w4 := hb3.mono ((FrM.of0S H3.out fN)).size
      have FF4 := FF3.trans (FrM.of0S H3.out fN)
      have H4 := Lib.hid hN
      clear hN fN c4_3
      go_wp2_with fail
      refine (take_any T _ bm base kind s3 s4 H4.out hb4 Q4.out).mono ?_
      rintro e w5 ⟨rfl, hN, fN⟩
      have c4_5 := hN.c4
      have hb5 : NewB base w5 := hb4.mono (fN).size
      have FF5 := FF4.trans fN
      have H5 := Lib.hid hN
      clear hN fN c4_4
      go_wp2_with fail
      refine (kind_any T _ s4.1 H5.out.1).mono ?_
      rintro e w6 ⟨rfl, fN⟩
      have hN := H5.out.move0 fN
      have c4_6 := hN.c4
      have hb6 : NewB base w6 := hb5.mono ((FrM.of0S H5.out fN)).size
      have FF6 := FF5.trans (FrM.of0S H5.out fN)
      have H6 := Lib.hid hN
      clear hN fN c4_5
      go_wp2_with fail
      refine (IH.block _ bm base kind s4 s' H6.out hb6 HS.out).mono ?_
      rintro e w7 ⟨rfl, hN, fN⟩
      have c4_7 := hN.c4
      have hb7 : NewB base w7 := hb6.mono (fN).size
      have FF7 := FF6.trans fN
      have H7 := Lib.hid hN
      clear hN fN c4_6
      go_wp2_with fail
      first | go_end0 | refine bodyPost_ret (results_none rfl _ _ _) rfl ?_
      exact ⟨rfl, H7.out, FF7⟩
  · rw [if_pos hk] at hs
    injection hs with hs
    subst hs
    have hkb : (((kindM T.toks s3.1 : Nat) : Int) != 13) = true := by simp; omega
    clear hk
    have Q1 := Lib.hid q1
    have Q2 := Lib.hid q2
    have Q3 := Lib.hid q3
    clear q1 q2 q3
    go_enter Tryz.func173, Tryz.ntmps173
    go_wp2_with fail
    refine (take_any T _ bm base kind s s1 H.out hb Q1.out).mono ?_
    rintro e w1 ⟨rfl, hN, fN⟩
    have c4_1 := hN.c4
    have hb1 : NewB base w1 := hb.mono (fN).size
    have FF1 := fN
    have H1 := Lib.hid hN
    clear hN fN c4
    go_wp2_with fail
    refine (IH.expression _ bm base kind s1 s2 H1.out hb1 Q2.out).mono ?_
    rintro e w2 ⟨rfl, hN, fN⟩
    have c4_2 := hN.c4
    have hb2 : NewB base w2 := hb1.mono (fN).size
    have FF2 := FF1.trans fN
    have H2 := Lib.hid hN
    clear hN fN c4_1
    go_wp2_with fail
    refine (IH.block _ bm base kind s2 s3 H2.out hb2 Q3.out).mono ?_
    rintro e w3 ⟨rfl, hN, fN⟩
    have c4_3 := hN.c4
    have hb3 : NewB base w3 := hb2.mono (fN).size
    have FF3 := FF2.trans fN
    have H3 := Lib.hid hN
    clear hN fN c4_2
    go_wp2_with fail
    refine (kind_any T _ s3.1 H3.out.1).mono ?_
    rintro e w4 ⟨rfl, fN⟩
    have hN := H3.out.move0 fN
    have c4_4 := hN.c4
    have hb4 : NewB base w4 := hb3.mono ((FrM.of0S H3.out fN)).size
    have FF4 := FF3.trans (FrM.of0S H3.out fN)
    have H4 := Lib.hid hN
    clear hN fN c4_3
    go_wp2_with fail
    first | go_end0 | refine bodyPost_ret (results_none rfl _ _ _) rfl ?_
    exact ⟨rfl, H4.out, FF4⟩

set_option maxRecDepth 100000 in
set_option maxHeartbeats 2000000 in
theorem blockB_step (T : Ctx) (f : Nat) (IHs : ∀ g, g ≤ f → Hyp T g) : MSaid T (f + 1) .blockB 169 := by
  have IH := IHs f (Nat.le_refl f)
  intro w bm base kind s s' h hb hs
  simp only [runM, bodyM] at hs
  obtain ⟨s1, q1, hs⟩ := Option.bind_eq_some_iff.1 hs
  obtain ⟨s2, q2, hs⟩ := Option.bind_eq_some_iff.1 hs
  have c4 := h.c4
  have lb : bm < w.heap.size := World.block_lt_of_cell? _ _ c4
  have H := Lib.hid h
  clear h
  have Q1 := Lib.hid q1
  have Q2 := Lib.hid q2
  have HS := Lib.hid hs
  clear q1 q2 hs
  go_enter Tryz.func169, Tryz.ntmps169
  go_wp2_with fail
  refine (take_any T _ bm base kind s s1 H.out hb Q1.out).mono ?_
  rintro e w1 ⟨rfl, hN, fN⟩
  have c4_1 := hN.c4
  have hb1 : NewB base w1 := hb.mono (fN).size
  have FF1 := fN
  have H1 := Lib.hid hN
  clear hN fN c4
  go_wp2_with fail
  go_loopg [8] f (fun g _ wr => LoopRel T w bm base kind .blockLoop s2 f g wr)
  case atStart => exact ⟨s1, H1.out, FF1, Q2.out, Nat.le_refl _⟩
  case round =>
    obtain ⟨t, hS, hF, hr, hg⟩ := hrel
    cases gk with
    | zero => cases hr
    | succ g =>
      simp only [runM, bodyM] at hr
      have IHg := IHs g (by omega)
      have c4r := hS.c4
      have hbr := hb.mono hF.size
      have HS0 := Lib.hid hS
      clear hS
      clear c4_1
      by_cases hk : kindM T.toks t.1 = 23
      · rw [if_neg (by omega)] at hr
        injection hr with hr
        subst hr
        have hb_0 : (((kindM T.toks t.1 : Nat) : Int) != 23) = false := by simp [hk]
        clear hk
        go_wp2_with fail
        refine (kind_any T _ t.1 HS0.out.1).mono ?_
        rintro e w11 ⟨rfl, fN⟩
        have hN := HS0.out.move0 fN
        have c4_11 := hN.c4
        have hb11 : NewB base w11 := hbr.mono ((FrM.of0S HS0.out fN)).size
        have FF11 := hF.trans (FrM.of0S HS0.out fN)
        have H11 := Lib.hid hN
        clear hN fN c4r
        go_wp2_with fail
        refine (want_any T _ bm base kind t s' 23 H11.out hb11 HS.out).mono ?_
        rintro e w12 ⟨rfl, hN, fN⟩
        have c4_12 := hN.c4
        have hb12 : NewB base w12 := hb11.mono (fN).size
        have FF12 := FF11.trans fN
        have H12 := Lib.hid hN
        clear hN fN c4_11
        go_wp2_with fail
        first | go_end0 | refine bodyPost_ret (results_none rfl _ _ _) rfl ?_
        exact ⟨rfl, H12.out, FF12⟩
      · by_cases hj : kindM T.toks t.1 = 0
        · rw [if_neg (by omega)] at hr
          injection hr with hr
          subst hr
          have hb_0 : (((kindM T.toks t.1 : Nat) : Int) != 23) = true := by simp; omega
          have hb_1 : (((kindM T.toks t.1 : Nat) : Int) != 0) = false := by simp [hj]
          clear hk hj
          go_wp2_with fail
          refine (kind_any T _ t.1 HS0.out.1).mono ?_
          rintro e w11 ⟨rfl, fN⟩
          have hN := HS0.out.move0 fN
          have c4_11 := hN.c4
          have hb11 : NewB base w11 := hbr.mono ((FrM.of0S HS0.out fN)).size
          have FF11 := hF.trans (FrM.of0S HS0.out fN)
          have H11 := Lib.hid hN
          clear hN fN c4r
          go_wp2_with fail
          refine (kind_any T _ t.1 H11.out.1).mono ?_
          rintro e w12 ⟨rfl, fN⟩
          have hN := H11.out.move0 fN
          have c4_12 := hN.c4
          have hb12 : NewB base w12 := hb11.mono ((FrM.of0S H11.out fN)).size
          have FF12 := FF11.trans (FrM.of0S H11.out fN)
          have H12 := Lib.hid hN
          clear hN fN c4_11
          go_wp2_with fail
          refine (want_any T _ bm base kind t s' 23 H12.out hb12 HS.out).mono ?_
          rintro e w13 ⟨rfl, hN, fN⟩
          have c4_13 := hN.c4
          have hb13 : NewB base w13 := hb12.mono (fN).size
          have FF13 := FF12.trans fN
          have H13 := Lib.hid hN
          clear hN fN c4_12
          go_wp2_with fail
          first | go_end0 | refine bodyPost_ret (results_none rfl _ _ _) rfl ?_
          exact ⟨rfl, H13.out, FF13⟩
        · rw [if_pos ⟨hk, hj⟩] at hr
          obtain ⟨t1, p1, p2⟩ := Option.bind_eq_some_iff.1 hr
          have hb_0 : (((kindM T.toks t.1 : Nat) : Int) != 23) = true := by simp; omega
          have hb_1 : (((kindM T.toks t.1 : Nat) : Int) != 0) = true := by simp; omega
          clear hk hj hr
          have P1 := Lib.hid p1
          have P2 := Lib.hid p2
          clear p1 p2
          go_wp2_with fail
          refine (kind_any T _ t.1 HS0.out.1).mono ?_
          rintro e w11 ⟨rfl, fN⟩
          have hN := HS0.out.move0 fN
          have c4_11 := hN.c4
          have hb11 : NewB base w11 := hbr.mono ((FrM.of0S HS0.out fN)).size
          have FF11 := hF.trans (FrM.of0S HS0.out fN)
          have H11 := Lib.hid hN
          clear hN fN c4r
          go_wp2_with fail
          refine (kind_any T _ t.1 H11.out.1).mono ?_
          rintro e w12 ⟨rfl, fN⟩
          have hN := H11.out.move0 fN
          have c4_12 := hN.c4
          have hb12 : NewB base w12 := hb11.mono ((FrM.of0S H11.out fN)).size
          have FF12 := FF11.trans (FrM.of0S H11.out fN)
          have H12 := Lib.hid hN
          clear hN fN c4_11
          go_wp2_with fail
          refine (IHg.inner _ bm base kind t t1 H12.out hb12 P1.out).mono ?_
          rintro e w13 ⟨rfl, hN, fN⟩
          have c4_13 := hN.c4
          have hb13 : NewB base w13 := hb12.mono (fN).size
          have FF13 := FF12.trans fN
          have H13 := Lib.hid hN
          clear hN fN c4_12
          go_wp2_with fail
          go_roundg g
          case measure => omega
          case rel => exact ⟨t1, H13.out, FF13, P2.out, by omega⟩
end Go.Proofs.YtkicpjjfeekopaaGreatDoor

namespace Go.Proofs.YtkicpjjfeekopaaGreatDoor
open Go.RowKit
set_option maxRecDepth 100000 in
set_option maxHeartbeats 2000000 in
theorem params_step (T : Ctx) (f : Nat) (IHs : ∀ g, g ≤ f → Hyp T g) : MSaid T (f + 1) .params 179 := by
  have IH := IHs f (Nat.le_refl f)
  intro w bm base kind s s' h hb hs
  simp only [runM, bodyM] at hs
  obtain ⟨s1, q1, hs⟩ := Option.bind_eq_some_iff.1 hs
  obtain ⟨s2, q2, hs⟩ := Option.bind_eq_some_iff.1 hs
  have c4 := h.c4
  have lb : bm < w.heap.size := World.block_lt_of_cell? _ _ c4
  have H := Lib.hid h
  clear h
  by_cases hk : kindM T.toks s1.1 = 6
  · rw [if_pos hk] at q2
    obtain ⟨s3, q3, q4⟩ := Option.bind_eq_some_iff.1 q2
    have hkb : (((kindM T.toks s1.1 : Nat) : Int) == 6) = true := by simp [hk]
    clear hk q2
    have Q1 := Lib.hid q1
    have Q3 := Lib.hid q3
    have Q4 := Lib.hid q4
    have HS := Lib.hid hs
    clear q1 q3 q4 hs
    go_enter Tryz.func179, Tryz.ntmps179
    go_wp2_with fail
    refine (want_any T _ bm base kind s s1 20 H.out hb Q1.out).mono ?_
    rintro e w1 ⟨rfl, hN, fN⟩
    have c4_1 := hN.c4
    have hb1 : NewB base w1 := hb.mono (fN).size
    have FF1 := fN
    have H1 := Lib.hid hN
    clear hN fN c4
    go_wp2_with fail
    refine (kind_any T _ s1.1 H1.out.1).mono ?_
    rintro e w2 ⟨rfl, fN⟩
    have hN := H1.out.move0 fN
    have c4_2 := hN.c4
    have hb2 : NewB base w2 := hb1.mono ((FrM.of0S H1.out fN)).size
    have FF2 := FF1.trans (FrM.of0S H1.out fN)
    have H2 := Lib.hid hN
    clear hN fN c4_1
    go_wp2_with fail
    refine (take_any T _ bm base kind s1 s3 H2.out hb2 Q3.out).mono ?_
    rintro e w3 ⟨rfl, hN, fN⟩
    have c4_3 := hN.c4
    have hb3 : NewB base w3 := hb2.mono (fN).size
    have FF3 := FF2.trans fN
    have H3 := Lib.hid hN
    clear hN fN c4_2
    go_wp2_with fail
    go_loopg [16] f (fun g _ wr => LoopRel T w bm base kind .paramsLoop s2 f g wr)
    case atStart => exact ⟨s3, H3.out, FF3, Q4.out, Nat.le_refl _⟩
    case round =>
      obtain ⟨t, hS, hF, hr, hg⟩ := hrel
      cases gk with
      | zero => cases hr
      | succ g =>
        simp only [runM, bodyM] at hr
        have IHg := IHs g (by omega)
        have c4r := hS.c4
        have hbr := hb.mono hF.size
        have HS0 := Lib.hid hS
        clear hS
        clear c4_3
        by_cases hk : kindM T.toks t.1 = 24
        · rw [if_pos hk] at hr
          obtain ⟨t1, p1, hr⟩ := Option.bind_eq_some_iff.1 hr
          obtain ⟨t2, p2, p3⟩ := Option.bind_eq_some_iff.1 hr
          have hkb : (((kindM T.toks t.1 : Nat) : Int) == 24) = true := by simp [hk]
          clear hk hr
          have P1 := Lib.hid p1
          have P2 := Lib.hid p2
          have P3 := Lib.hid p3
          clear p1 p2 p3
          go_wp2_with fail
          refine (kind_any T _ t.1 HS0.out.1).mono ?_
          rintro e w11 ⟨rfl, fN⟩
          have hN := HS0.out.move0 fN
          have c4_11 := hN.c4
          have hb11 : NewB base w11 := hbr.mono ((FrM.of0S HS0.out fN)).size
          have FF11 := hF.trans (FrM.of0S HS0.out fN)
          have H11 := Lib.hid hN
          clear hN fN c4r
          go_wp2_with fail
          refine (take_any T _ bm base kind t t1 H11.out hb11 P1.out).mono ?_
          rintro e w12 ⟨rfl, hN, fN⟩
          have c4_12 := hN.c4
          have hb12 : NewB base w12 := hb11.mono (fN).size
          have FF12 := FF11.trans fN
          have H12 := Lib.hid hN
          clear hN fN c4_11
          go_wp2_with fail
          refine (want_any T _ bm base kind t1 t2 6 H12.out hb12 P2.out).mono ?_
          rintro e w13 ⟨rfl, hN, fN⟩
          have c4_13 := hN.c4
          have hb13 : NewB base w13 := hb12.mono (fN).size
          have FF13 := FF12.trans fN
          have H13 := Lib.hid hN
          clear hN fN c4_12
          go_wp2_with fail
          go_roundg g
          case measure => omega
          case rel => exact ⟨t2, H13.out, FF13, P3.out, by omega⟩
        · rw [if_neg hk] at hr
          injection hr with hr
          subst hr
          have hkb : (((kindM T.toks t.1 : Nat) : Int) == 24) = false := by simp; omega
          clear hk
          go_wp2_with fail
          refine (kind_any T _ t.1 HS0.out.1).mono ?_
          rintro e w11 ⟨rfl, fN⟩
          have hN := HS0.out.move0 fN
          have c4_11 := hN.c4
          have hb11 : NewB base w11 := hbr.mono ((FrM.of0S HS0.out fN)).size
          have FF11 := hF.trans (FrM.of0S HS0.out fN)
          have H11 := Lib.hid hN
          clear hN fN c4r
          go_wp2_with fail
          refine (want_any T _ bm base kind t s' 21 H11.out hb11 HS.out).mono ?_
          rintro e w12 ⟨rfl, hN, fN⟩
          have c4_12 := hN.c4
          have hb12 : NewB base w12 := hb11.mono (fN).size
          have FF12 := FF11.trans fN
          have H12 := Lib.hid hN
          clear hN fN c4_11
          go_wp2_with fail
          first | go_end0 | refine bodyPost_ret (results_none rfl _ _ _) rfl ?_
          exact ⟨rfl, H12.out, FF12⟩
  · rw [if_neg hk] at q2
    injection q2 with q2
    subst q2
    have hkb : (((kindM T.toks s1.1 : Nat) : Int) == 6) = false := by simp; omega
    clear hk
    have Q1 := Lib.hid q1
    have HS := Lib.hid hs
    clear q1 hs
    go_enter Tryz.func179, Tryz.ntmps179
    go_wp2_with fail
    refine (want_any T _ bm base kind s s1 20 H.out hb Q1.out).mono ?_
    rintro e w1 ⟨rfl, hN, fN⟩
    have c4_1 := hN.c4
    have hb1 : NewB base w1 := hb.mono (fN).size
    have FF1 := fN
    have H1 := Lib.hid hN
    clear hN fN c4
    go_wp2_with fail
    refine (kind_any T _ s1.1 H1.out.1).mono ?_
    rintro e w2 ⟨rfl, fN⟩
    have hN := H1.out.move0 fN
    have c4_2 := hN.c4
    have hb2 : NewB base w2 := hb1.mono ((FrM.of0S H1.out fN)).size
    have FF2 := FF1.trans (FrM.of0S H1.out fN)
    have H2 := Lib.hid hN
    clear hN fN c4_1
    go_wp2_with fail
    refine (want_any T _ bm base kind s1 s' 21 H2.out hb2 HS.out).mono ?_
    rintro e w3 ⟨rfl, hN, fN⟩
    have c4_3 := hN.c4
    have hb3 : NewB base w3 := hb2.mono (fN).size
    have FF3 := FF2.trans fN
    have H3 := Lib.hid hN
    clear hN fN c4_2
    go_wp2_with fail
    first | go_end0 | refine bodyPost_ret (results_none rfl _ _ _) rfl ?_
    exact ⟨rfl, H3.out, FF3⟩

set_option maxRecDepth 100000 in
set_option maxHeartbeats 2000000 in
theorem args_step (T : Ctx) (f : Nat) (IHs : ∀ g, g ≤ f → Hyp T g) : MSaid T (f + 1) .args 194 := by
  have IH := IHs f (Nat.le_refl f)
  intro w bm base kind s s' h hb hs
  simp only [runM, bodyM] at hs
  obtain ⟨s1, q1, hs⟩ := Option.bind_eq_some_iff.1 hs
  obtain ⟨s2, q2, hs⟩ := Option.bind_eq_some_iff.1 hs
  have c4 := h.c4
  have lb : bm < w.heap.size := World.block_lt_of_cell? _ _ c4
  have H := Lib.hid h
  clear h
  cases hk : beginsK (kindM T.toks s1.1) with
  | true =>
    rw [if_pos hk] at q2
    obtain ⟨s3, q3, q4⟩ := Option.bind_eq_some_iff.1 q2
    clear q2
    have Q1 := Lib.hid q1
    have Q3 := Lib.hid q3
    have Q4 := Lib.hid q4
    have HS := Lib.hid hs
    clear q1 q3 q4 hs
    go_enter Tryz.func194, Tryz.ntmps194
    go_wp2_with fail
    refine (take_any T _ bm base kind s s1 H.out hb Q1.out).mono ?_
    rintro e w1 ⟨rfl, hN, fN⟩
    have c4_1 := hN.c4
    have hb1 : NewB base w1 := hb.mono (fN).size
    have FF1 := fN
    have H1 := Lib.hid hN
    clear hN fN c4
    go_wp2_with fail
    refine (pbegins_any T _ s1.1 H1.out.1).mono ?_
    rintro e w2 ⟨rfl, fN⟩
    have hN := H1.out.move0 fN
    have c4_2 := hN.c4
    have hb2 : NewB base w2 := hb1.mono ((FrM.of0S H1.out fN)).size
    have FF2 := FF1.trans (FrM.of0S H1.out fN)
    have H2 := Lib.hid hN
    clear hN fN c4_1
    go_wp2_with fail
    refine (IH.expression _ bm base kind s1 s3 H2.out hb2 Q3.out).mono ?_
    rintro e w3 ⟨rfl, hN, fN⟩
    have c4_3 := hN.c4
    have hb3 : NewB base w3 := hb2.mono (fN).size
    have FF3 := FF2.trans fN
    have H3 := Lib.hid hN
    clear hN fN c4_2
    go_wp2_with fail
    go_loopg [15] f (fun g _ wr => LoopRel T w bm base kind .argsLoop s2 f g wr)
    case atStart => exact ⟨s3, H3.out, FF3, Q4.out, Nat.le_refl _⟩
    case round =>
      obtain ⟨t, hS, hF, hr, hg⟩ := hrel
      cases gk with
      | zero => cases hr
      | succ g =>
        simp only [runM, bodyM] at hr
        have IHg := IHs g (by omega)
        have c4r := hS.c4
        have hbr := hb.mono hF.size
        have HS0 := Lib.hid hS
        clear hS
        clear c4_3
        clear hk
        by_cases hk : kindM T.toks t.1 = 24
        · rw [if_pos hk] at hr
          obtain ⟨t1, p1, hr⟩ := Option.bind_eq_some_iff.1 hr
          obtain ⟨t2, p2, p3⟩ := Option.bind_eq_some_iff.1 hr
          have hkb : (((kindM T.toks t.1 : Nat) : Int) == 24) = true := by simp [hk]
          clear hk hr
          have P1 := Lib.hid p1
          have P2 := Lib.hid p2
          have P3 := Lib.hid p3
          clear p1 p2 p3
          go_wp2_with fail
          refine (kind_any T _ t.1 HS0.out.1).mono ?_
          rintro e w11 ⟨rfl, fN⟩
          have hN := HS0.out.move0 fN
          have c4_11 := hN.c4
          have hb11 : NewB base w11 := hbr.mono ((FrM.of0S HS0.out fN)).size
          have FF11 := hF.trans (FrM.of0S HS0.out fN)
          have H11 := Lib.hid hN
          clear hN fN c4r
          go_wp2_with fail
          refine (take_any T _ bm base kind t t1 H11.out hb11 P1.out).mono ?_
          rintro e w12 ⟨rfl, hN, fN⟩
          have c4_12 := hN.c4
          have hb12 : NewB base w12 := hb11.mono (fN).size
          have FF12 := FF11.trans fN
          have H12 := Lib.hid hN
          clear hN fN c4_11
          go_wp2_with fail
          refine (IHg.expression _ bm base kind t1 t2 H12.out hb12 P2.out).mono ?_
          rintro e w13 ⟨rfl, hN, fN⟩
          have c4_13 := hN.c4
          have hb13 : NewB base w13 := hb12.mono (fN).size
          have FF13 := FF12.trans fN
          have H13 := Lib.hid hN
          clear hN fN c4_12
          go_wp2_with fail
          go_roundg g
          case measure => omega
          case rel => exact ⟨t2, H13.out, FF13, P3.out, by omega⟩
        · rw [if_neg hk] at hr
          injection hr with hr
          subst hr
          have hkb : (((kindM T.toks t.1 : Nat) : Int) == 24) = false := by simp; omega
          clear hk
          go_wp2_with fail
          refine (kind_any T _ t.1 HS0.out.1).mono ?_
          rintro e w11 ⟨rfl, fN⟩
          have hN := HS0.out.move0 fN
          have c4_11 := hN.c4
          have hb11 : NewB base w11 := hbr.mono ((FrM.of0S HS0.out fN)).size
          have FF11 := hF.trans (FrM.of0S HS0.out fN)
          have H11 := Lib.hid hN
          clear hN fN c4r
          go_wp2_with fail
          refine (want_any T _ bm base kind t s' 21 H11.out hb11 HS.out).mono ?_
          rintro e w12 ⟨rfl, hN, fN⟩
          have c4_12 := hN.c4
          have hb12 : NewB base w12 := hb11.mono (fN).size
          have FF12 := FF11.trans fN
          have H12 := Lib.hid hN
          clear hN fN c4_11
          go_wp2_with fail
          first | go_end0 | refine bodyPost_ret (results_none rfl _ _ _) rfl ?_
          exact ⟨rfl, H12.out, FF12⟩
  | false =>
    rw [if_neg (by rw [hk]; simp)] at q2
    injection q2 with q2
    subst q2
    have Q1 := Lib.hid q1
    have HS := Lib.hid hs
    clear q1 hs
    go_enter Tryz.func194, Tryz.ntmps194
    go_wp2_with fail
    refine (take_any T _ bm base kind s s1 H.out hb Q1.out).mono ?_
    rintro e w1 ⟨rfl, hN, fN⟩
    have c4_1 := hN.c4
    have hb1 : NewB base w1 := hb.mono (fN).size
    have FF1 := fN
    have H1 := Lib.hid hN
    clear hN fN c4
    go_wp2_with fail
    refine (pbegins_any T _ s1.1 H1.out.1).mono ?_
    rintro e w2 ⟨rfl, fN⟩
    have hN := H1.out.move0 fN
    have c4_2 := hN.c4
    have hb2 : NewB base w2 := hb1.mono ((FrM.of0S H1.out fN)).size
    have FF2 := FF1.trans (FrM.of0S H1.out fN)
    have H2 := Lib.hid hN
    clear hN fN c4_1
    go_wp2_with fail
    refine (want_any T _ bm base kind s1 s' 21 H2.out hb2 HS.out).mono ?_
    rintro e w3 ⟨rfl, hN, fN⟩
    have c4_3 := hN.c4
    have hb3 : NewB base w3 := hb2.mono (fN).size
    have FF3 := FF2.trans fN
    have H3 := Lib.hid hN
    clear hN fN c4_2
    go_wp2_with fail
    first | go_end0 | refine bodyPost_ret (results_none rfl _ _ _) rfl ?_
    exact ⟨rfl, H3.out, FF3⟩

set_option maxRecDepth 100000 in
set_option maxHeartbeats 2000000 in
theorem fileB_step (T : Ctx) (f : Nat) (IHs : ∀ g, g ≤ f → Hyp T g) : MSaidP T (f + 1) .fileB 115 := by
  have IH := IHs f (Nat.le_refl f)
  intro w bm base kind s s' bx h hb hx hs
  simp only [runM, bodyM] at hs
  obtain ⟨s1, q1, hs⟩ := Option.bind_eq_some_iff.1 hs
  have c4 := h.c4
  have lb : bm < w.heap.size := World.block_lt_of_cell? _ _ c4
  have H := Lib.hid h
  clear h
  have x0_0 := blkCell hx 0
  have B0_0 := Lib.hid hx
  clear hx
  have Q1 := Lib.hid q1
  have HS := Lib.hid hs
  clear q1 hs
  go_enter Tryz.func115, Tryz.ntmps115
  go_wp2_with fail
  go_loopg [5] f (fun g _ wr => LoopRel T w bm base kind .fileLoop s1 f g wr)
  case atStart => exact ⟨s, H.out, FrM.refl _ _ _, Q1.out, Nat.le_refl _⟩
  case round =>
    obtain ⟨t, hS, hF, hr, hg⟩ := hrel
    cases gk with
    | zero => cases hr
    | succ g =>
      simp only [runM, bodyM] at hr
      have IHg := IHs g (by omega)
      have c4r := hS.c4
      have hbr := hb.mono hF.size
      have hBr := hF.keep H.out B0_0.out ⟨by decide, by decide, by decide⟩
      have x0_10 := blkCell hBr 0
      have B0_10 := Lib.hid hBr
      have HS0 := Lib.hid hS
      clear hS hBr c4 x0_0
      by_cases hk : kindM T.toks t.1 = 0
      · rw [if_neg (by omega)] at hr
        injection hr with hr
        subst hr
        have hkb : (((kindM T.toks t.1 : Nat) : Int) != 0) = false := by simp [hk]
        clear hk
        go_wp2_with fail
        refine (kind_any T _ t.1 HS0.out.1).mono ?_
        rintro e w11 ⟨rfl, fN⟩
        have hN := HS0.out.move0 fN
        have c4_11 := hN.c4
        have hb11 : NewB base w11 := hbr.mono ((FrM.of0S HS0.out fN)).size
        have FF11 := hF.trans (FrM.of0S HS0.out fN)
        have hBn := FrM.keep ((FrM.of0S HS0.out fN)) HS0.out B0_10.out ⟨by decide, by decide, by decide⟩
        have x0_11 := blkCell hBn 0
        have B0_11 := Lib.hid hBn
        clear hBn x0_10
        have H11 := Lib.hid hN
        clear hN fN c4r
        go_wp2_with fail
        refine (gap_any T _ bm base kind t s' H11.out hb11 HS.out).mono ?_
        rintro e w12 ⟨rfl, hN, fN⟩
        have c4_12 := hN.c4
        have hb12 : NewB base w12 := hb11.mono (fN).size
        have FF12 := FF11.trans fN
        have hBn := FrM.keep (fN) H11.out B0_11.out ⟨by decide, by decide, by decide⟩
        have x0_12 := blkCell hBn 0
        have B0_12 := Lib.hid hBn
        clear hBn x0_11
        have H12 := Lib.hid hN
        clear hN fN c4_11
        go_wp2_with fail
        first | go_end0 | refine bodyPost_ret (results_none rfl _ _ _) rfl ?_
        exact ⟨rfl, H12.out, FF12⟩
      · rw [if_pos hk] at hr
        obtain ⟨t1, p1, p2⟩ := Option.bind_eq_some_iff.1 hr
        have hkb : (((kindM T.toks t.1 : Nat) : Int) != 0) = true := by simp; omega
        clear hk hr
        have P1 := Lib.hid p1
        have P2 := Lib.hid p2
        clear p1 p2
        go_wp2_with fail
        refine (kind_any T _ t.1 HS0.out.1).mono ?_
        rintro e w11 ⟨rfl, fN⟩
        have hN := HS0.out.move0 fN
        have c4_11 := hN.c4
        have hb11 : NewB base w11 := hbr.mono ((FrM.of0S HS0.out fN)).size
        have FF11 := hF.trans (FrM.of0S HS0.out fN)
        have hBn := FrM.keep ((FrM.of0S HS0.out fN)) HS0.out B0_10.out ⟨by decide, by decide, by decide⟩
        have x0_11 := blkCell hBn 0
        have B0_11 := Lib.hid hBn
        clear hBn x0_10
        have H11 := Lib.hid hN
        clear hN fN c4r
        go_wp2_with fail
        refine (IHg.inner _ bm base kind t t1 H11.out hb11 P1.out).mono ?_
        rintro e w12 ⟨rfl, hN, fN⟩
        have c4_12 := hN.c4
        have hb12 : NewB base w12 := hb11.mono (fN).size
        have FF12 := FF11.trans fN
        have hBn := FrM.keep (fN) H11.out B0_11.out ⟨by decide, by decide, by decide⟩
        have x0_12 := blkCell hBn 0
        have B0_12 := Lib.hid hBn
        clear hBn x0_11
        have H12 := Lib.hid hN
        clear hN fN c4_11
        go_wp2_with fail
        go_roundg g
        case measure => omega
        case rel => exact ⟨t1, H12.out, FF12, P2.out, by omega⟩

set_option maxRecDepth 100000 in
set_option maxHeartbeats 2000000 in
theorem wrongB_step (T : Ctx) (f : Nat) (IHs : ∀ g, g ≤ f → Hyp T g) : MSaidP T (f + 1) .wrongB 161 := by
  have IH := IHs f (Nat.le_refl f)
  intro w bm base kind s s' bx h hb hx hs
  have c4 := h.c4
  have lb : bm < w.heap.size := World.block_lt_of_cell? _ _ c4
  have H := Lib.hid h
  clear h
  have x0_0 := blkCell hx 0
  have B0_0 := Lib.hid hx
  clear hx
  have HS := Lib.hid hs
  clear hs
  go_enter Tryz.func161, Tryz.ntmps161
  go_wp2_with fail
  go_loopg [3] (f + 1) (fun g _ wr => LoopRel T w bm base kind .wrongB s' (f + 1) g wr)
  case atStart => exact ⟨s, H.out, FrM.refl _ _ _, HS.out, Nat.le_refl _⟩
  case round =>
    obtain ⟨t, hS, hF, hr, hg⟩ := hrel
    cases gk with
    | zero => cases hr
    | succ g =>
      simp only [runM, bodyM] at hr
      obtain ⟨t1, p1, hr⟩ := Option.bind_eq_some_iff.1 hr
      have c4r := hS.c4
      have hbr := hb.mono hF.size
      have hBr := hF.keep H.out B0_0.out ⟨by decide, by decide, by decide⟩
      have x0_10 := blkCell hBr 0
      have B0_10 := Lib.hid hBr
      have HS0 := Lib.hid hS
      have P1 := Lib.hid p1
      clear hS hBr c4 x0_0 p1
      by_cases k0 : kindM T.toks t.1 = 23
      · skip
        rw [if_pos (by omega)] at hr
        injection hr with hr
        subst hr
        have fb0 : (((kindM T.toks t.1 : Nat) : Int) == 23) = true := by simp [k0]
        clear k0
        go_wp2_with fail
        refine (kind_any T _ t.1 HS0.out.1).mono ?_
        rintro e w11 ⟨rfl, fN⟩
        have hN := HS0.out.move0 fN
        have c4_11 := hN.c4
        have hb11 : NewB base w11 := hbr.mono ((FrM.of0S HS0.out fN)).size
        have FF11 := hF.trans (FrM.of0S HS0.out fN)
        have hBn := FrM.keep ((FrM.of0S HS0.out fN)) HS0.out B0_10.out ⟨by decide, by decide, by decide⟩
        have x0_11 := blkCell hBn 0
        have B0_11 := Lib.hid hBn
        clear hBn x0_10
        have H11 := Lib.hid hN
        clear hN fN c4r
        go_wp2_with fail
        refine (take_any T _ bm base kind t t1 H11.out hb11 P1.out).mono ?_
        rintro e w12 ⟨rfl, hN, fN⟩
        have c4_12 := hN.c4
        have hb12 : NewB base w12 := hb11.mono (fN).size
        have FF12 := FF11.trans fN
        have hBn := FrM.keep (fN) H11.out B0_11.out ⟨by decide, by decide, by decide⟩
        have x0_12 := blkCell hBn 0
        have B0_12 := Lib.hid hBn
        clear hBn x0_11
        have H12 := Lib.hid hN
        clear hN fN c4_11
        go_wp2_with fail
        refine (kind_any T _ t1.1 H12.out.1).mono ?_
        rintro e w13 ⟨rfl, fN⟩
        have hN := H12.out.move0 fN
        have c4_13 := hN.c4
        have hb13 : NewB base w13 := hb12.mono ((FrM.of0S H12.out fN)).size
        have FF13 := FF12.trans (FrM.of0S H12.out fN)
        have hBn := FrM.keep ((FrM.of0S H12.out fN)) H12.out B0_12.out ⟨by decide, by decide, by decide⟩
        have x0_13 := blkCell hBn 0
        have B0_13 := Lib.hid hBn
        clear hBn x0_12
        have H13 := Lib.hid hN
        clear hN fN c4_12
        go_wp2_with fail
        first | go_end0 | refine bodyPost_ret (results_none rfl _ _ _) rfl ?_
        exact ⟨rfl, H13.out, FF13⟩
      · skip
        by_cases k1 : kindM T.toks t.1 = 25
        · skip
          rw [if_pos (by omega)] at hr
          injection hr with hr
          subst hr
          have fb0 : (((kindM T.toks t.1 : Nat) : Int) == 23) = false := by simp; omega
          have fb1 : (((kindM T.toks t.1 : Nat) : Int) == 25) = true := by simp [k1]
          clear k0 k1
          go_wp2_with fail
          refine (kind_any T _ t.1 HS0.out.1).mono ?_
          rintro e w11 ⟨rfl, fN⟩
          have hN := HS0.out.move0 fN
          have c4_11 := hN.c4
          have hb11 : NewB base w11 := hbr.mono ((FrM.of0S HS0.out fN)).size
          have FF11 := hF.trans (FrM.of0S HS0.out fN)
          have hBn := FrM.keep ((FrM.of0S HS0.out fN)) HS0.out B0_10.out ⟨by decide, by decide, by decide⟩
          have x0_11 := blkCell hBn 0
          have B0_11 := Lib.hid hBn
          clear hBn x0_10
          have H11 := Lib.hid hN
          clear hN fN c4r
          go_wp2_with fail
          refine (take_any T _ bm base kind t t1 H11.out hb11 P1.out).mono ?_
          rintro e w12 ⟨rfl, hN, fN⟩
          have c4_12 := hN.c4
          have hb12 : NewB base w12 := hb11.mono (fN).size
          have FF12 := FF11.trans fN
          have hBn := FrM.keep (fN) H11.out B0_11.out ⟨by decide, by decide, by decide⟩
          have x0_12 := blkCell hBn 0
          have B0_12 := Lib.hid hBn
          clear hBn x0_11
          have H12 := Lib.hid hN
          clear hN fN c4_11
          go_wp2_with fail
          refine (kind_any T _ t1.1 H12.out.1).mono ?_
          rintro e w13 ⟨rfl, fN⟩
          have hN := H12.out.move0 fN
          have c4_13 := hN.c4
          have hb13 : NewB base w13 := hb12.mono ((FrM.of0S H12.out fN)).size
          have FF13 := FF12.trans (FrM.of0S H12.out fN)
          have hBn := FrM.keep ((FrM.of0S H12.out fN)) H12.out B0_12.out ⟨by decide, by decide, by decide⟩
          have x0_13 := blkCell hBn 0
          have B0_13 := Lib.hid hBn
          clear hBn x0_12
          have H13 := Lib.hid hN
          clear hN fN c4_12
          go_wp2_with fail
          first | go_end0 | refine bodyPost_ret (results_none rfl _ _ _) rfl ?_
          exact ⟨rfl, H13.out, FF13⟩
        · skip
          by_cases k2 : kindM T.toks t1.1 = 0
          · skip
            rw [if_pos (by omega)] at hr
            injection hr with hr
            subst hr
            have fb0 : (((kindM T.toks t.1 : Nat) : Int) == 23) = false := by simp; omega
            have fb1 : (((kindM T.toks t.1 : Nat) : Int) == 25) = false := by simp; omega
            have fb2 : (((kindM T.toks t1.1 : Nat) : Int) == 0) = true := by simp [k2]
            clear k0 k1 k2
            go_wp2_with fail
            refine (kind_any T _ t.1 HS0.out.1).mono ?_
            rintro e w11 ⟨rfl, fN⟩
            have hN := HS0.out.move0 fN
            have c4_11 := hN.c4
            have hb11 : NewB base w11 := hbr.mono ((FrM.of0S HS0.out fN)).size
            have FF11 := hF.trans (FrM.of0S HS0.out fN)
            have hBn := FrM.keep ((FrM.of0S HS0.out fN)) HS0.out B0_10.out ⟨by decide, by decide, by decide⟩
            have x0_11 := blkCell hBn 0
            have B0_11 := Lib.hid hBn
            clear hBn x0_10
            have H11 := Lib.hid hN
            clear hN fN c4r
            go_wp2_with fail
            refine (take_any T _ bm base kind t t1 H11.out hb11 P1.out).mono ?_
            rintro e w12 ⟨rfl, hN, fN⟩
            have c4_12 := hN.c4
            have hb12 : NewB base w12 := hb11.mono (fN).size
            have FF12 := FF11.trans fN
            have hBn := FrM.keep (fN) H11.out B0_11.out ⟨by decide, by decide, by decide⟩
            have x0_12 := blkCell hBn 0
            have B0_12 := Lib.hid hBn
            clear hBn x0_11
            have H12 := Lib.hid hN
            clear hN fN c4_11
            go_wp2_with fail
            refine (kind_any T _ t1.1 H12.out.1).mono ?_
            rintro e w13 ⟨rfl, fN⟩
            have hN := H12.out.move0 fN
            have c4_13 := hN.c4
            have hb13 : NewB base w13 := hb12.mono ((FrM.of0S H12.out fN)).size
            have FF13 := FF12.trans (FrM.of0S H12.out fN)
            have hBn := FrM.keep ((FrM.of0S H12.out fN)) H12.out B0_12.out ⟨by decide, by decide, by decide⟩
            have x0_13 := blkCell hBn 0
            have B0_13 := Lib.hid hBn
            clear hBn x0_12
            have H13 := Lib.hid hN
            clear hN fN c4_12
            go_wp2_with fail
            first | go_end0 | refine bodyPost_ret (results_none rfl _ _ _) rfl ?_
            exact ⟨rfl, H13.out, FF13⟩
          · skip
            by_cases k3 : kindM T.toks t1.1 = 23
            · skip
              rw [if_pos (by omega)] at hr
              injection hr with hr
              subst hr
              have fb0 : (((kindM T.toks t.1 : Nat) : Int) == 23) = false := by simp; omega
              have fb1 : (((kindM T.toks t.1 : Nat) : Int) == 25) = false := by simp; omega
              have fb2 : (((kindM T.toks t1.1 : Nat) : Int) == 0) = false := by simp; omega
              have fb3 : (((kindM T.toks t1.1 : Nat) : Int) == 23) = true := by simp [k3]
              clear k0 k1 k2 k3
              go_wp2_with fail
              refine (kind_any T _ t.1 HS0.out.1).mono ?_
              rintro e w11 ⟨rfl, fN⟩
              have hN := HS0.out.move0 fN
              have c4_11 := hN.c4
              have hb11 : NewB base w11 := hbr.mono ((FrM.of0S HS0.out fN)).size
              have FF11 := hF.trans (FrM.of0S HS0.out fN)
              have hBn := FrM.keep ((FrM.of0S HS0.out fN)) HS0.out B0_10.out ⟨by decide, by decide, by decide⟩
              have x0_11 := blkCell hBn 0
              have B0_11 := Lib.hid hBn
              clear hBn x0_10
              have H11 := Lib.hid hN
              clear hN fN c4r
              go_wp2_with fail
              refine (take_any T _ bm base kind t t1 H11.out hb11 P1.out).mono ?_
              rintro e w12 ⟨rfl, hN, fN⟩
              have c4_12 := hN.c4
              have hb12 : NewB base w12 := hb11.mono (fN).size
              have FF12 := FF11.trans fN
              have hBn := FrM.keep (fN) H11.out B0_11.out ⟨by decide, by decide, by decide⟩
              have x0_12 := blkCell hBn 0
              have B0_12 := Lib.hid hBn
              clear hBn x0_11
              have H12 := Lib.hid hN
              clear hN fN c4_11
              go_wp2_with fail
              refine (kind_any T _ t1.1 H12.out.1).mono ?_
              rintro e w13 ⟨rfl, fN⟩
              have hN := H12.out.move0 fN
              have c4_13 := hN.c4
              have hb13 : NewB base w13 := hb12.mono ((FrM.of0S H12.out fN)).size
              have FF13 := FF12.trans (FrM.of0S H12.out fN)
              have hBn := FrM.keep ((FrM.of0S H12.out fN)) H12.out B0_12.out ⟨by decide, by decide, by decide⟩
              have x0_13 := blkCell hBn 0
              have B0_13 := Lib.hid hBn
              clear hBn x0_12
              have H13 := Lib.hid hN
              clear hN fN c4_12
              go_wp2_with fail
              first | go_end0 | refine bodyPost_ret (results_none rfl _ _ _) rfl ?_
              exact ⟨rfl, H13.out, FF13⟩
            · skip
              by_cases k4 : stmtOf (kindM T.toks t1.1) = 0
              · skip
                rw [if_neg (by omega)] at hr
                have P2 := Lib.hid hr
                clear hr
                have fb0 : (((kindM T.toks t.1 : Nat) : Int) == 23) = false := by simp; omega
                have fb1 : (((kindM T.toks t.1 : Nat) : Int) == 25) = false := by simp; omega
                have fb2 : (((kindM T.toks t1.1 : Nat) : Int) == 0) = false := by simp; omega
                have fb3 : (((kindM T.toks t1.1 : Nat) : Int) == 23) = false := by simp; omega
                have fb4 : (((stmtOf (kindM T.toks t1.1) : Nat) : Int) != 0) = false := by simp [k4]
                clear k0 k1 k2 k3 k4
                go_wp2_with fail
                refine (kind_any T _ t.1 HS0.out.1).mono ?_
                rintro e w11 ⟨rfl, fN⟩
                have hN := HS0.out.move0 fN
                have c4_11 := hN.c4
                have hb11 : NewB base w11 := hbr.mono ((FrM.of0S HS0.out fN)).size
                have FF11 := hF.trans (FrM.of0S HS0.out fN)
                have hBn := FrM.keep ((FrM.of0S HS0.out fN)) HS0.out B0_10.out ⟨by decide, by decide, by decide⟩
                have x0_11 := blkCell hBn 0
                have B0_11 := Lib.hid hBn
                clear hBn x0_10
                have H11 := Lib.hid hN
                clear hN fN c4r
                go_wp2_with fail
                refine (take_any T _ bm base kind t t1 H11.out hb11 P1.out).mono ?_
                rintro e w12 ⟨rfl, hN, fN⟩
                have c4_12 := hN.c4
                have hb12 : NewB base w12 := hb11.mono (fN).size
                have FF12 := FF11.trans fN
                have hBn := FrM.keep (fN) H11.out B0_11.out ⟨by decide, by decide, by decide⟩
                have x0_12 := blkCell hBn 0
                have B0_12 := Lib.hid hBn
                clear hBn x0_11
                have H12 := Lib.hid hN
                clear hN fN c4_11
                go_wp2_with fail
                refine (kind_any T _ t1.1 H12.out.1).mono ?_
                rintro e w13 ⟨rfl, fN⟩
                have hN := H12.out.move0 fN
                have c4_13 := hN.c4
                have hb13 : NewB base w13 := hb12.mono ((FrM.of0S H12.out fN)).size
                have FF13 := FF12.trans (FrM.of0S H12.out fN)
                have hBn := FrM.keep ((FrM.of0S H12.out fN)) H12.out B0_12.out ⟨by decide, by decide, by decide⟩
                have x0_13 := blkCell hBn 0
                have B0_13 := Lib.hid hBn
                clear hBn x0_12
                have H13 := Lib.hid hN
                clear hN fN c4_12
                go_wp2_with fail
                refine (statement_any _ _).mono ?_
                rintro e w_ ⟨rfl, rfl⟩
                go_wp2_with fail
                go_roundg g
                case measure => omega
                case rel => exact ⟨t1, H13.out, FF13, P2.out, by omega⟩
              · skip
                rw [if_pos (by omega)] at hr
                injection hr with hr
                subst hr
                have fb0 : (((kindM T.toks t.1 : Nat) : Int) == 23) = false := by simp; omega
                have fb1 : (((kindM T.toks t.1 : Nat) : Int) == 25) = false := by simp; omega
                have fb2 : (((kindM T.toks t1.1 : Nat) : Int) == 0) = false := by simp; omega
                have fb3 : (((kindM T.toks t1.1 : Nat) : Int) == 23) = false := by simp; omega
                have fb4 : (((stmtOf (kindM T.toks t1.1) : Nat) : Int) != 0) = true := by simp; omega
                clear k0 k1 k2 k3 k4
                go_wp2_with fail
                refine (kind_any T _ t.1 HS0.out.1).mono ?_
                rintro e w11 ⟨rfl, fN⟩
                have hN := HS0.out.move0 fN
                have c4_11 := hN.c4
                have hb11 : NewB base w11 := hbr.mono ((FrM.of0S HS0.out fN)).size
                have FF11 := hF.trans (FrM.of0S HS0.out fN)
                have hBn := FrM.keep ((FrM.of0S HS0.out fN)) HS0.out B0_10.out ⟨by decide, by decide, by decide⟩
                have x0_11 := blkCell hBn 0
                have B0_11 := Lib.hid hBn
                clear hBn x0_10
                have H11 := Lib.hid hN
                clear hN fN c4r
                go_wp2_with fail
                refine (take_any T _ bm base kind t t1 H11.out hb11 P1.out).mono ?_
                rintro e w12 ⟨rfl, hN, fN⟩
                have c4_12 := hN.c4
                have hb12 : NewB base w12 := hb11.mono (fN).size
                have FF12 := FF11.trans fN
                have hBn := FrM.keep (fN) H11.out B0_11.out ⟨by decide, by decide, by decide⟩
                have x0_12 := blkCell hBn 0
                have B0_12 := Lib.hid hBn
                clear hBn x0_11
                have H12 := Lib.hid hN
                clear hN fN c4_11
                go_wp2_with fail
                refine (kind_any T _ t1.1 H12.out.1).mono ?_
                rintro e w13 ⟨rfl, fN⟩
                have hN := H12.out.move0 fN
                have c4_13 := hN.c4
                have hb13 : NewB base w13 := hb12.mono ((FrM.of0S H12.out fN)).size
                have FF13 := FF12.trans (FrM.of0S H12.out fN)
                have hBn := FrM.keep ((FrM.of0S H12.out fN)) H12.out B0_12.out ⟨by decide, by decide, by decide⟩
                have x0_13 := blkCell hBn 0
                have B0_13 := Lib.hid hBn
                clear hBn x0_12
                have H13 := Lib.hid hN
                clear hN fN c4_12
                go_wp2_with fail
                refine (statement_any _ _).mono ?_
                rintro e w_ ⟨rfl, rfl⟩
                go_wp2_with fail
                first | go_end0 | refine bodyPost_ret (results_none rfl _ _ _) rfl ?_
                exact ⟨rfl, H13.out, FF13⟩

set_option maxRecDepth 100000 in
set_option maxHeartbeats 2000000 in
theorem unaryB_step (T : Ctx) (f : Nat) (IHs : ∀ g, g ≤ f → Hyp T g) : MSaidP T (f + 1) .unaryB 191 := by
  have IH := IHs f (Nat.le_refl f)
  intro w bm base kind s s' bx h hb hx hs
  simp only [runM, bodyM] at hs
  obtain ⟨s1, q1, hs⟩ := Option.bind_eq_some_iff.1 hs
  have c4 := h.c4
  have lb : bm < w.heap.size := World.block_lt_of_cell? _ _ c4
  have H := Lib.hid h
  clear h
  have x0_0 := blkCell hx 0
  have B0_0 := Lib.hid hx
  clear hx
  have Q1 := Lib.hid q1
  have HS := Lib.hid hs
  clear q1 hs
  go_enter Tryz.func191, Tryz.ntmps191
  go_wp2_with fail
  refine (take_any T _ bm base kind s s1 H.out hb Q1.out).mono ?_
  rintro e w1 ⟨rfl, hN, fN⟩
  have c4_1 := hN.c4
  have hb1 : NewB base w1 := hb.mono (fN).size
  have FF1 := fN
  have hBn := FrM.keep (fN) H.out B0_0.out ⟨by decide, by decide, by decide⟩
  have x0_1 := blkCell hBn 0
  have B0_1 := Lib.hid hBn
  clear hBn x0_0
  have H1 := Lib.hid hN
  clear hN fN c4
  go_wp2_with fail
  refine (operand_any T f .unary _ bm base kind s1 s' 185 #[.pointer (some ⟨T.bp, 0, none⟩)] #[] H1.out hb1 ent185 HS.out (fun w3 s3 r hf hS hr => IH.unary w3 s3.1 r hS.1 hr)).mono ?_
  rintro e w2 ⟨rfl, hN, fN⟩
  have c4_2 := hN.c4
  have hb2 : NewB base w2 := hb1.mono (fN).size
  have FF2 := FF1.trans fN
  have hBn := FrM.keep (fN) H1.out B0_1.out ⟨by decide, by decide, by decide⟩
  have x0_2 := blkCell hBn 0
  have B0_2 := Lib.hid hBn
  clear hBn x0_1
  have H2 := Lib.hid hN
  clear hN fN c4_1
  go_wp2_with fail
  first | go_end0 | refine bodyPost_ret (results_none rfl _ _ _) rfl ?_
  exact ⟨rfl, H2.out, FF2⟩
end Go.Proofs.YtkicpjjfeekopaaGreatDoor

namespace Go.Proofs.YtkicpjjfeekopaaGreatDoor
open Go.RowKit
set_option maxRecDepth 100000 in
set_option maxHeartbeats 2000000 in
theorem level11_any (T : Ctx) (f : Nat) (IH : Hyp T f) (n : Nat) (hn : n ≤ 5) (w : World) (a bx bn : Nat) (r : Nat × Tree) (h : PS T w a) (hx : w.heap[bx]? = some (.cells #[.pointer (some ⟨T.bp, 0, none⟩)] 164 (0, 0))) (hbn : w.heap[bn]? = some (.cells #[.int .i64 n] 3 (0, 0)))
    (hr : runN T.toks f (.level (n + 1)) a = some r) :
    Calls Tryz.prog 189 #[.pointer (some ⟨bx, 0, none⟩), .pointer (some ⟨bn, 0, none⟩)] w (PartSaid T w r.2 r.1) := by
  have x0 := blkCell hx 0
  have y0 := blkCell hbn 0
  have lx := blkLt hx
  have ly := blkLt hbn
  have H := Lib.hid h; have HR := Lib.hid hr
  clear h hx hbn hr
  go_enter Tryz.func189, Tryz.ntmps189
  go_wp2_with fail
  have hf0 : Fr (fun _ => False) w (w.alloc (.cells #[.int .u8 0, .int .u8 0, .int .i64 0, .slice none 0 0] 27)) := (Fr.refl _ _).alloc _
  have hb0 := blkNew w (.cells #[.int .u8 0, .int .u8 0, .int .i64 0, .slice none 0 0] 27)
  have HB0 := Lib.hid hb0
  have hne : w.heap.size ≠ T.bp := by have := blkLt H.out.blk; omega
  clear hb0
  rw [show ((n : Int) + 1) = ((n + 1 : Nat) : Int) from by omega]
  refine (IH.level (n + 1) _ a r (by omega) (H.out.move0 hf0) HR.out).mono ?_
  rintro e w1 ⟨cs, rfl, ht, hp, hfp⟩
  obtain ⟨k0, k1, k2, aa, m, c, rfl⟩ := ht.form
  have hb1 := Fr.blk hfp HB0.out hne
  have d0 := blkCell hb1 0; have d1 := blkCell hb1 1; have d2 := blkCell hb1 2; have d3 := blkCell hb1 3
  have e0 := blkFree hb1 0; have e1 := blkFree hb1 1; have e2 := blkFree hb1 2; have e3 := blkFree hb1 3
  have HT := Lib.hid ht; have HP := Lib.hid hp; have HFP := Lib.hid hfp; have HB1 := Lib.hid hb1
  clear ht hp hfp hb1
  go_wp2_with fail
  exact partRet Tryz.f189 2 rfl rfl hf0 (Nat.le_refl _) (by simp) HB1.out rfl HT.out HP.out HFP.out rfl

set_option maxRecDepth 100000 in
set_option maxHeartbeats 2000000 in
theorem bin_step (T : Ctx) (f : Nat) (IH : Hyp T f) : BinSaid T (f + 1) := by
  intro n first w bm base kind s s' bf bx bn cs P hn h hb hf ht hP hx hbn hs
  simp only [runM, bodyM] at hs
  obtain ⟨s1, q1, hs⟩ := Option.bind_eq_some_iff.1 hs
  obtain ⟨s2, q2, hs⟩ := Option.bind_eq_some_iff.1 hs
  obtain ⟨hl, hs1⟩ := addM_some q1
  obtain ⟨k0, k1, k2, aa, m, c, rfl⟩ := ht.form
  have d0 := blkCell hf 0; have d1 := blkCell hf 1; have d2 := blkCell hf 2; have d3 := blkCell hf 3
  have c4 := h.c4
  have H := Lib.hid h; have HT := Lib.hid ht; have HP := Lib.hid hP; have HX := Lib.hid hx; have HN := Lib.hid hbn
  have Q2 := Lib.hid q2; have HS := Lib.hid hs; have HS1 := Lib.hid hs1
  clear h ht hP hx hbn q1 q2 hs hs1 hf
  go_enter Tryz.func187, Tryz.ntmps187
  go_wp2_with fail
  refine (add_any T w bm base kind s first _ P H.out HT.out HP.out hb hl).mono ?_
  rintro e w1 ⟨rfl, h1, f1⟩
  rw [← HS1.out] at h1
  have hb1 := hb.mono f1.size
  have hx1 := f1.keep H.out HX.out ⟨by decide, by decide, by decide⟩
  have hn1 := f1.keep H.out HN.out ⟨by decide, by decide, by decide⟩
  have H1 := Lib.hid h1; have HX1 := Lib.hid hx1; have HN1 := Lib.hid hn1
  clear h1 hx1 hn1 c4
  go_wp2_with fail
  refine (take_any T _ bm base kind s1 s2 H1.out hb1 Q2.out).mono ?_
  rintro e w2 ⟨rfl, h2, f2⟩
  have hb2 := hb1.mono f2.size
  have hx2 := f2.keep H1.out HX1.out ⟨by decide, by decide, by decide⟩
  have hn2 := f2.keep H1.out HN1.out ⟨by decide, by decide, by decide⟩
  have H2 := Lib.hid h2; have HX2 := Lib.hid hx2; have HN2 := Lib.hid hn2
  clear h2 hx2 hn2
  go_wp2_with fail
  refine (operand_any T f (.level (n + 1)) _ bm base kind s2 s' 189 #[] #[.pointer (some ⟨bx, 0, none⟩), .pointer (some ⟨bn, 0, none⟩)] H2.out hb2 ent189 HS.out (fun w3 s3 r hf hS hr => level11_any T f IH n hn w3 s3.1 bx bn r hS.1 (hf.keep H2.out HX2.out ⟨by decide, by decide, by decide⟩) (hf.keep H2.out HN2.out ⟨by decide, by decide, by decide⟩) hr)).mono ?_
  rintro e w3 ⟨rfl, h3, f3⟩
  go_wp2_with fail
  go_end0
  exact ⟨rfl, h3, f1.trans (f2.trans f3)⟩

set_option maxRecDepth 100000 in
set_option maxHeartbeats 2000000 in
theorem call_step (T : Ctx) (f : Nat) (IHs : ∀ g, g ≤ f → Hyp T g) : CallSaid T (f + 1) := by
  intro first w bm base kind s s' bf bx cs P h hb hf ht hP hx hs
  simp only [runM, bodyM] at hs
  obtain ⟨s1, q1, hs⟩ := Option.bind_eq_some_iff.1 hs
  obtain ⟨s2, q2, hs⟩ := Option.bind_eq_some_iff.1 hs
  obtain ⟨r, q3, q4⟩ := Option.bind_eq_some_iff.1 hs
  obtain ⟨f', rfl⟩ : ∃ f', f = f' + 1 := by
    cases f with
    | zero => cases q3
    | succ f' => exact ⟨f', rfl⟩
  obtain ⟨hl, hs1⟩ := addM_some q1
  obtain ⟨k0, k1, k2, aa, m, c, rfl⟩ := ht.form
  have d0 := blkCell hf 0; have d1 := blkCell hf 1; have d2 := blkCell hf 2; have d3 := blkCell hf 3
  have c4 := h.c4
  have H := Lib.hid h; have HT := Lib.hid ht; have HP := Lib.hid hP; have HX := Lib.hid hx
  have Q2 := Lib.hid q2; have Q3 := Lib.hid q3; have Q4 := Lib.hid q4; have HS1 := Lib.hid hs1
  clear h ht hP hx q1 q2 q3 q4 hs hs1 hf
  go_enter Tryz.func193, Tryz.ntmps193
  go_wp2_with fail
  refine (add_any T w bm base kind s first _ P H.out HT.out HP.out hb hl).mono ?_
  rintro e w1 ⟨rfl, h1, f1⟩
  rw [← HS1.out] at h1
  have hb1 := hb.mono f1.size
  have hx1 := f1.keep H.out HX.out ⟨by decide, by decide, by decide⟩
  have H1 := Lib.hid h1; have HX1 := Lib.hid hx1
  clear h1 hx1 c4
  go_wp2_with fail
  refine (gap_any T _ bm base kind s1 s2 H1.out hb1 Q2.out).mono ?_
  rintro e w2 ⟨rfl, h2, f2⟩
  have hb2 := hb1.mono f2.size
  have hx2 := f2.keep H1.out HX1.out ⟨by decide, by decide, by decide⟩
  have x2 := blkCell hx2 0
  have H2 := Lib.hid h2; have HX2 := Lib.hid hx2
  clear h2 hx2
  go_wp2_with fail
  refine (makeN (f := f') (fid := 194) (cap := #[]) (body := .args) ent194 _ s2.1 (fun k => w2.heap.size ≤ k) _ H2.out.1 (fun k hk => hk) Q3.out (fun w3 bm1 t1 hbm hf hS hnb hrow hrun => (IHs f' (by omega)).args w3 bm1 _ 64 _ t1 hS hnb hrun)).mono ?_
  rintro e wN ⟨cs, rfl, ht, hp, hfp⟩
  have HT2 := Lib.hid ht; have HP2 := Lib.hid hp; have HFP := Lib.hid hfp
  clear ht hp hfp
  go_wp2_with fail
  refine (addPart_any T _ _ bm base kind s2 s' _ _ cs H2.out hb2 HFP.out HT2.out HP2.out Q4.out).mono ?_
  rintro e w3 ⟨rfl, h3, f3⟩
  go_wp2_with fail
  go_end0
  exact ⟨rfl, h3, f1.trans (f2.trans f3)⟩
end Go.Proofs.YtkicpjjfeekopaaGreatDoor
