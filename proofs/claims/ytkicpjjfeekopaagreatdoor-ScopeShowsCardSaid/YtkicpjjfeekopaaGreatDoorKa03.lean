/- Walks: the parser's levels, unaries, primaries. Walks: unary, primary, wrong. The table of the statements' parts: a map of functions. Walks: a statement. The parser's calls, at every fuel; the whole file. parse.By, parse.File. The lexer, as plain functions. -/
import Derived.Test.YtkicpjjfeekopaaGreatDoorKa02
import Derived.Test.YtkicpjjfeekopaaGreatDoorKa00
import Derived.Maps.Own
import Derived.Maps.OwnOps
import Derived.Test.YtkicpjjfeekopaaGreatDoorKa01
import Derived.Test.YtkicpjjfeekopaaGreatDoorKp00
import Derived.Shelf.Unicode.DecodeSlow
import Derived.Lib.Index
import Derived.Lib.Bytealg
set_option linter.unusedVariables false
set_option linter.unusedSimpArgs false
set_option linter.unusedSectionVars false
namespace Go.Proofs.YtkicpjjfeekopaaGreatDoor
open Go.RowKit
theorem blkNew3 (w : World) (o1 o2 o3 : Obj) : (((w.alloc o1).alloc o2).alloc o3).heap[w.heap.size + 1 + 1]? = some o3 := by simpa using blkNew ((w.alloc o1).alloc o2) o3
/-- Four cells written. -/
theorem put4 {w1 : World} {b : Nat} {zs : Array Value} (hb1 : w1.heap[b]? = some (.cells zs 27 (0, 0))) (hz : zs.size = 4) (c0 c1 c2 c3 : Value) :
    ((((w1.setCell ⟨b, 0, none⟩ c0).setCell ⟨b, 1, none⟩ c1).setCell ⟨b, 2, none⟩ c2).setCell ⟨b, 3, none⟩ c3).heap[b]? = some (.cells #[c0, c1, c2, c3] 27 (0, 0)) ∧
    Fr (fun k => k = b) w1 ((((w1.setCell ⟨b, 0, none⟩ c0).setCell ⟨b, 1, none⟩ c1).setCell ⟨b, 2, none⟩ c2).setCell ⟨b, 3, none⟩ c3) := by
  constructor
  · have := blkSet (blkSet (blkSet (blkSet hb1 0 c0) 1 c1) 2 c2) 3 c3
    rw [this]
    have e : (((zs.setIfInBounds 0 c0).setIfInBounds 1 c1).setIfInBounds 2 c2).setIfInBounds 3 c3 = #[c0, c1, c2, c3] := by
      obtain ⟨zs⟩ := zs
      match zs, hz with
      | [z0, z1, z2, z3], _ => rfl
    rw [e]
  · exact ⟨rfl, rfl, rfl, by simp, fun k _ hk => by
      rw [Below.heap_setCell _ _ _ _ hk, Below.heap_setCell _ _ _ _ hk, Below.heap_setCell _ _ _ _ hk, Below.heap_setCell _ _ _ _ hk]⟩
theorem PS.frBox {T : Ctx} {w1 w2 : World} {at' b : Nat} {zs : Array Value} (hp : PS T w1 at') (hb1 : w1.heap[b]? = some (.cells zs 27 (0, 0))) (hf1 : Fr (fun k => k = b) w1 w2) : PS T w2 at' := by
  have hne : T.bp ≠ b := blkNe hp.blk hb1 (by decide)
  refine ⟨hp.1, hf1.blk hp.blk hne, hp.row.move (fun k hk hl => hf1.block k hl ?_), hp.le⟩
  obtain ⟨cur, hc⟩ := ownBlk hp.row hk
  exact blkNe hc hb1 (by decide)
/-- A part hands its node back by a block of its own, the tree not in it. -/
theorem partRet2 {T : Ctx} {w w1 : World} {b : Nat} {t : Tree} {at' : Nat} {c0 c1 c2 c3 : Value} {zs : Array Value} {a : Act} (fn : Func) (p : Tmp) (hfn : fn.results = #[.cell p 27]) (hp0 : a.tmps.getD p undef = .pointer (some ⟨b, 0, none⟩))
    (hb0 : w.heap.size ≤ b) (hb1 : w1.heap[b]? = some (.cells zs 27 (0, 0))) (hz : zs.size = 4) (ht : RepT w1 (fun k => w.heap.size ≤ k ∧ k ≠ b) t [c0, c1, c2, c3]) (hp : PS T w1 at') (hfp : FrP T w w1) (hd : a.defers = []) :
    bodyPost Tryz.prog fn (PartSaid T w t at') Exit.ret a ((((w1.setCell ⟨b, 0, none⟩ c0).setCell ⟨b, 1, none⟩ c1).setCell ⟨b, 2, none⟩ c2).setCell ⟨b, 3, none⟩ c3) := by
  obtain ⟨hW, hf1⟩ := put4 hb1 hz c0 c1 c2 c3
  generalize (((w1.setCell ⟨b, 0, none⟩ c0).setCell ⟨b, 1, none⟩ c1).setCell ⟨b, 2, none⟩ c2).setCell ⟨b, 3, none⟩ c3 = W at *
  refine bodyPost_ret (v := .agg #[c0, c1, c2, c3]) (results_cell_row hfn _ _ b 27 #[c0, c1, c2, c3] (0, 0) _ hp0 hW Tryz.underlying27 rfl info27s) hd ⟨[c0, c1, c2, c3], rfl, ?_, hp.frBox hb1 hf1, hfp.trans' hf1 (fun i hi e => by omega)⟩
  refine RepT.mono (P := fun k => w.heap.size ≤ k ∧ k ≠ b) (fun k hk _ _ => hk.1) _ _ ?_
  exact ht.fr hf1 (fun k hk _ e => hk.2 e)
/-- A loop over a node at hand (in block b5), its answer to go to b4. -/
def NAt (T : Ctx) (w wA : World) (b4 b5 : Nat) (l : Tree) (a : Nat) (cs : List Value) (wr : World) : Prop :=
  PS T wr a ∧ wr.heap[b5]? = some (.cells cs.toArray 27 (0, 0)) ∧ RepT wr (fun k => w.heap.size ≤ k ∧ k ≠ b4 ∧ k ≠ b5) l cs ∧ Fr (fun k => k = T.bp ∨ k = b5) wA wr
def NRel (T : Ctx) (w wA : World) (b4 b5 : Nat) (c : Tree → NC) (r : Nat × Tree) (F g : Nat) (wr : World) : Prop :=
  ∃ a l cs, NAt T w wA b4 b5 l a cs wr ∧ runN T.toks g (c l) a = some r ∧ g ≤ F
theorem NAt.fr0 {T : Ctx} {w wA wr w3 : World} {b4 b5 : Nat} {l : Tree} {a : Nat} {cs : List Value} (h : NAt T w wA b4 b5 l a cs wr) (hf : Fr (fun _ => False) wr w3) : NAt T w wA b4 b5 l a cs w3 :=
  ⟨h.1.move0 hf, hf.blk h.2.1 (fun h => h), h.2.2.1.fr hf (fun _ _ _ h => h), h.2.2.2.trans' hf (fun _ _ e => e.elim)⟩
theorem NAt.put {T : Ctx} {w wA w3 w' : World} {b4 b5 : Nat} {l t : Tree} {a a' : Nat} {cs : List Value} {c0 c1 c2 c3 : Value} (h : NAt T w wA b4 b5 l a cs w3) 
    (ht : RepT w' (fun k => w.heap.size ≤ k ∧ k ≠ b4 ∧ k ≠ b5) t [c0, c1, c2, c3]) (hp : PS T w' a') (hfp : FrP T w3 w') :
    NAt T w wA b4 b5 t a' [c0, c1, c2, c3] ((((w'.setCell ⟨b5, 0, none⟩ c0).setCell ⟨b5, 1, none⟩ c1).setCell ⟨b5, 2, none⟩ c2).setCell ⟨b5, 3, none⟩ c3) := by
  have hne : b5 ≠ T.bp := blkNe h.2.1 h.1.blk (by decide)
  have hb1 := Fr.blk hfp h.2.1 hne
  obtain ⟨hW, hf1⟩ := put4 hb1 (by simpa using h.2.2.1.len) c0 c1 c2 c3
  exact ⟨hp.frBox hb1 hf1, hW, ht.fr hf1 (fun k hk _ e => hk.2.2 e), (h.2.2.2.trans' hfp (fun _ _ e => .inl e)).trans' hf1 (fun _ _ e => .inr e)⟩
set_option maxRecDepth 100000 in
set_option maxHeartbeats 4000000 in
theorem level_step (T : Ctx) (f : Nat) (IHs : ∀ g, g ≤ f → Hyp T g) : LevelSaid T (f + 1) := by
  have IH := IHs f (Nat.le_refl f)
  intro n w a r hn h hr
  simp only [runN, bodyN] at hr
  have hbp := blkLt h.blk
  have H := Lib.hid h
  clear h
  have hf0 : Fr (fun _ => False) w (((w.alloc (.cells #[.pointer (some ⟨T.bp, 0, none⟩)] 164)).alloc (.cells #[.int .i64 n] 3)).alloc (.cells #[.int .u8 0, .int .u8 0, .int .i64 0, .slice none 0 0] 27)) := (((Fr.refl _ _).alloc _).alloc _).alloc _
  have hB1 := blkAlloc (blkAlloc (blkNew w (.cells #[.pointer (some ⟨T.bp, 0, none⟩)] 164)) (.cells #[.int .i64 n] 3)) (.cells #[.int .u8 0, .int .u8 0, .int .i64 0, .slice none 0 0] 27)
  have hB2 := blkAlloc (blkNew2 w (.cells #[.pointer (some ⟨T.bp, 0, none⟩)] 164) (.cells #[.int .i64 n] 3)) (.cells #[.int .u8 0, .int .u8 0, .int .i64 0, .slice none 0 0] 27)
  have hB4 := blkNew3 w (.cells #[.pointer (some ⟨T.bp, 0, none⟩)] 164) (.cells #[.int .i64 n] 3) (.cells #[.int .u8 0, .int .u8 0, .int .i64 0, .slice none 0 0] 27)
  have HF0 := Lib.hid hf0; have HB1 := Lib.hid hB1; have HB2 := Lib.hid hB2; have HB4 := Lib.hid hB4
  clear hf0 hB1 hB2 hB4
  by_cases h5 : 5 < n
  · rw [if_pos h5] at hr
    have HR := Lib.hid hr
    clear hr
    go_enter Tryz.func183, Tryz.ntmps183
    go_wp2_with fail
    generalize ((w.alloc (.cells #[.pointer (some ⟨T.bp, 0, none⟩)] 164)).alloc (.cells #[.int .i64 n] 3)).alloc (.cells #[.int .u8 0, .int .u8 0, .int .i64 0, .slice none 0 0] 27) = wc at *
    refine (IH.unary _ a r (H.out.move0 HF0.out) HR.out).mono ?_
    rintro e w1 ⟨cs, rfl, ht, hp, hfp⟩
    obtain ⟨k0, k1, k2, aa, m, c, rfl⟩ := ht.form
    have hb1 := Fr.blk hfp HB4.out (by omega)
    have d0 := blkCell hb1 0; have d1 := blkCell hb1 1; have d2 := blkCell hb1 2; have d3 := blkCell hb1 3
    have e0 := blkFree hb1 0; have e1 := blkFree hb1 1; have e2 := blkFree hb1 2; have e3 := blkFree hb1 3
    have HT := Lib.hid ht; have HP := Lib.hid hp; have HFP := Lib.hid hfp; have Hb1 := Lib.hid hb1
    clear ht hp hfp hb1
    go_wp2_with fail
    exact partRet Tryz.f183 4 rfl rfl HF0.out (by omega) (blkLt HB4.out) Hb1.out rfl HT.out HP.out HFP.out rfl
  · rw [if_neg h5] at hr
    obtain ⟨l0, q1, q2⟩ := Option.bind_eq_some_iff.1 hr
    have Q1 := Lib.hid q1; have Q2 := Lib.hid q2
    clear hr q1 q2
    go_enter Tryz.func183, Tryz.ntmps183
    go_wp2_with fail
    generalize ((w.alloc (.cells #[.pointer (some ⟨T.bp, 0, none⟩)] 164)).alloc (.cells #[.int .i64 n] 3)).alloc (.cells #[.int .u8 0, .int .u8 0, .int .i64 0, .slice none 0 0] 27) = wc at *
    rw [show ((n : Int) + 1) = ((n + 1 : Nat) : Int) from by omega]
    refine (IH.level (n + 1) _ a l0 (by omega) (H.out.move0 HF0.out) Q1.out).mono ?_
    rintro e w1 ⟨cs, rfl, ht, hp, hfp⟩
    obtain ⟨k0, k1, k2, aa, m, c, rfl⟩ := ht.form
    have hlt4 := blkLt HB4.out
    have hb1 := Fr.blk hfp HB1.out (by omega)
    have hb2 := Fr.blk hfp HB2.out (by omega)
    have hb4 := Fr.blk hfp HB4.out (by omega)
    have HT := Lib.hid ht; have HP := Lib.hid hp; have HFP := Lib.hid hfp; have Hb1 := Lib.hid hb1; have Hb2 := Lib.hid hb2; have Hb4 := Lib.hid hb4
    clear ht hp hfp hb1 hb2 hb4
    go_wp2_with fail
    have hA : NAt T w (w1.alloc (.cells #[.int .u8 k0, .int .u8 k1, .int .i64 k2, .slice aa m c] 27)) (w.heap.size + 1 + 1) w1.heap.size l0.2 l0.1 [.int .u8 k0, .int .u8 k1, .int .i64 k2, .slice aa m c] (w1.alloc (.cells #[.int .u8 k0, .int .u8 k1, .int .i64 k2, .slice aa m c] 27)) :=
      ⟨HP.out.move0 ((Fr.refl _ _).alloc _), blkNew _ _, (RepT.mono (fun k hk h1 _ => ⟨Nat.le_trans HF0.out.size hk, by omega, by omega⟩) _ _ HT.out).fr ((Fr.refl _ _).alloc _) (fun _ _ _ h => h), Fr.refl _ _⟩
    have hb1 := blkAlloc Hb1.out (.cells #[.int .u8 k0, .int .u8 k1, .int .i64 k2, .slice aa m c] 27)
    have hb2 := blkAlloc Hb2.out (.cells #[.int .u8 k0, .int .u8 k1, .int .i64 k2, .slice aa m c] 27)
    have hb4 := blkAlloc Hb4.out (.cells #[.int .u8 k0, .int .u8 k1, .int .i64 k2, .slice aa m c] 27)
    have hfA : FrP T w (w1.alloc (.cells #[.int .u8 k0, .int .u8 k1, .int .i64 k2, .slice aa m c] 27)) := ((FrP.of0 HF0.out).trans HFP.out).alloc _
    have hl1 := blkLt Hb4.out
    clear Hb1 Hb2 Hb4
    have HA := Lib.hid hA; have Hb1 := Lib.hid hb1; have Hb2 := Lib.hid hb2; have Hb4 := Lib.hid hb4; have HFA := Lib.hid hfA
    clear hA hb1 hb2 hb4 hfA HB1 HB2 HB4
    generalize w1.alloc (.cells #[.int .u8 k0, .int .u8 k1, .int .i64 k2, .slice aa m c] 27) = wA at *
    generalize w1.heap.size = b5 at *
    clear HT HP HFP
    go_loopg [6] f (fun g _ wr => NRel T w wA (w.heap.size + 1 + 1) b5 (fun l => .levelLoop n l) r f g wr)
    case atStart => exact ⟨_, _, _, HA.out, Q2.out, Nat.le_refl _⟩
    case round =>
      obtain ⟨at_, l, cs, hN, hr, hg⟩ := hrel
      cases gk with
      | zero => cases hr
      | succ g =>
        simp only [runN, bodyN] at hr
        have hx := hN.2.2.2.blk Hb1.out (by omega)
        have hn2 := hN.2.2.2.blk Hb2.out (by omega)
        have h4 := hN.2.2.2.blk Hb4.out (by omega)
        obtain ⟨j0, j1, j2, ja, jm, jc, rfl⟩ := hN.2.2.1.form
        have x0 := blkCell hx 0
        have y0 := blkCell hn2 0
        have d0 := blkCell hN.2.1 0; have d1 := blkCell hN.2.1 1; have d2 := blkCell hN.2.1 2; have d3 := blkCell hN.2.1 3
        have e0 := blkFree hN.2.1 0; have e1 := blkFree hN.2.1 1; have e2 := blkFree hN.2.1 2; have e3 := blkFree hN.2.1 3
        by_cases hk : levelOf (kindM T.toks at_) = n
        · rw [if_pos hk] at hr
          obtain ⟨r1, q1, q2⟩ := Option.bind_eq_some_iff.1 hr
          have hkb : (((levelOf (kindM T.toks at_) : Nat) : Int) == n) = true := by simp [hk]
          have HN := Lib.hid hN; have HX := Lib.hid hx; have HN2 := Lib.hid hn2; have Q1 := Lib.hid q1; have Q2' := Lib.hid q2
          clear hN hx hn2 h4 hr hk q1 q2
          go_wp2_with fail
          go_quiet (first
            | (go_at_call 116; exact Calls.quiet_of (kind_q T _ at_ (HN.out.1.move0 ((Fr.refl _ _).drewN _))))
            | (go_at_call 186; exact Calls.quiet_of_same ((level_any _ _).mono fun _ _ h => ⟨h.1, h.2.symm⟩)))
          have hN := HN.out.fr0 ((Fr.refl (fun _ => False) wr).drewN nq)
          have hx : (wr.drewN nq).heap[w.heap.size]? = _ := HX.out
          have hn2 : (wr.drewN nq).heap[w.heap.size + 1]? = _ := HN2.out
          clear HN HX HN2 x0 y0 d0 d1 d2 d3 e0 e1 e2 e3
          generalize wr.drewN nq = wq at *
          have x0 := blkCell hx 0
          have d0 := blkCell hN.2.1 0; have d1 := blkCell hN.2.1 1; have d2 := blkCell hN.2.1 2; have d3 := blkCell hN.2.1 3
          have HN := Lib.hid hN; have HX := Lib.hid hx; have HN2 := Lib.hid hn2
          have hlx := blkLt hx
          have hl4 := blkLt hN.2.1
          clear hN hx hn2
          go_wp2_with fail
          have hN := HN.out.fr0 ((Fr.refl (fun _ => False) wq).alloc (.cells #[.int .u8 j0, .int .u8 j1, .int .i64 j2, .slice ja jm jc] 27))
          have hx := blkAlloc HX.out (.cells #[.int .u8 j0, .int .u8 j1, .int .i64 j2, .slice ja jm jc] 27)
          have hn2 := blkAlloc HN2.out (.cells #[.int .u8 j0, .int .u8 j1, .int .i64 j2, .slice ja jm jc] 27)
          have h6 := blkNew wq (.cells #[.int .u8 j0, .int .u8 j1, .int .i64 j2, .slice ja jm jc] 27)
          have hl6 := blkLt h6
          generalize wq.alloc (.cells #[.int .u8 j0, .int .u8 j1, .int .i64 j2, .slice ja jm jc] 27) = w3 at *
          obtain ⟨g', rfl⟩ : ∃ g', g = g' + 1 := by
            cases g with
            | zero => exact absurd Q1.out (by simp [runN])
            | succ g' => exact ⟨g', rfl⟩
          refine (makeN (f := g') (fid := 187) (cap := #[.pointer (some ⟨wq.heap.size, 0, none⟩), .pointer (some ⟨w.heap.size, 0, none⟩), .pointer (some ⟨w.heap.size + 1, 0, none⟩)]) (body := .binB n l) (fun _ _ => rfl) w3 at_ (fun k => w.heap.size ≤ k ∧ k ≠ w.heap.size + 1 + 1 ∧ k ≠ b5) r1 hN.1 (fun k hk => ⟨by omega, by omega, by omega⟩) Q1.out (fun wm bm sm hbm hf hS hnb hrow hrun =>
            (IHs g' (by omega)).binB n l wm bm _ 61 _ sm wq.heap.size w.heap.size (w.heap.size + 1) _ (fun k => (w.heap.size ≤ k ∧ k ≠ w.heap.size + 1 + 1 ∧ k ≠ b5) ∧ k < w3.heap.size) (by omega) hS hnb
              (hf.blk h6 (fun h => h)) ((RepT.mono (fun k hk hlt _ => ⟨hk, hlt⟩) _ _ hN.2.2.1).fr hf (fun _ _ _ h => h)) (fun k hk _ => ⟨⟨hk.1, by omega⟩, by rw [hrow]; simp⟩) (hf.blk hx (fun h => h)) (hf.blk hn2 (fun h => h)) hrun)).mono ?_
          rintro e wN ⟨cs, rfl, ht, hp, hfp⟩
          obtain ⟨k0', k1', k2', aa', m', c', rfl⟩ := ht.form
          have hN5 := Fr.blk hfp hN.2.1 (by have := blkNe hN.2.1 hN.1.blk (by decide); exact this)
          have hP := hN.put ht hp hfp
          have HP := Lib.hid hP
          have d0 := blkCell hN5 0; have d1 := blkCell hN5 1; have d2 := blkCell hN5 2; have d3 := blkCell hN5 3
          have e0 := blkFree hN5 0; have e1 := blkFree hN5 1; have e2 := blkFree hN5 2; have e3 := blkFree hN5 3
          clear hN ht hp hfp hN5 hP hx hn2 h6
          go_wp2_with fail
          go_roundg (g' + 1)
          case measure => omega
          case rel => exact ⟨_, _, _, HP.out, Q2'.out, by omega⟩
        · rw [if_neg hk] at hr
          injection hr with hr
          subst hr
          have hkb : (((levelOf (kindM T.toks at_) : Nat) : Int) == n) = false := by simp; omega
          have HN := Lib.hid hN
          have f4_ := blkCell h4 0; have f41 := blkCell h4 1; have f42 := blkCell h4 2; have f43 := blkCell h4 3
          have g4_ := blkFree h4 0; have g41 := blkFree h4 1; have g42 := blkFree h4 2; have g43 := blkFree h4 3
          have H4 := Lib.hid h4
          clear hN hx hn2 h4
          go_wp2_with fail
          go_quiet (first
            | (go_at_call 116; exact Calls.quiet_of (kind_q T _ at_ (HN.out.1.move0 ((Fr.refl _ _).drewN _))))
            | (go_at_call 186; exact Calls.quiet_of_same ((level_any _ _).mono fun _ _ h => ⟨h.1, h.2.symm⟩)))
          go_wp2_with fail
          exact partRet2 (w1 := wr.drewN nq) Tryz.f183 4 rfl rfl (by omega) H4.out rfl ((RepT.mono (fun k hk _ _ => ⟨hk.1, hk.2.1⟩) _ _ HN.out.2.2.1).fr ((Fr.refl (fun _ => False) wr).drewN nq) (fun _ _ _ h => h)) (HN.out.1.move0 ((Fr.refl _ _).drewN nq)) ((Fr.trans' HFA.out HN.out.2.2.2 (fun i hi e => by rcases e with e | e; exact e; omega)).drewN nq) rfl
end Go.Proofs.YtkicpjjfeekopaaGreatDoor

namespace Go.Proofs.YtkicpjjfeekopaaGreatDoor
open Go.RowKit
set_option maxRecDepth 100000 in
set_option maxHeartbeats 4000000 in
theorem unary_step (T : Ctx) (f : Nat) (IHs : ∀ g, g ≤ f → Hyp T g) : NSaid T (f + 1) .unary 185 := by
  have IH := IHs f (Nat.le_refl f)
  intro w a r h hr
  simp only [runN, bodyN] at hr
  have hbp := blkLt h.blk
  have H := Lib.hid h
  clear h
  have hf0 : Fr (fun _ => False) w ((w.alloc (.cells #[.pointer (some ⟨T.bp, 0, none⟩)] 164)).alloc (.cells #[.int .u8 0, .int .u8 0, .int .i64 0, .slice none 0 0] 27)) := ((Fr.refl _ _).alloc _).alloc _
  have hB1 := blkAlloc (blkNew w (.cells #[.pointer (some ⟨T.bp, 0, none⟩)] 164)) (.cells #[.int .u8 0, .int .u8 0, .int .i64 0, .slice none 0 0] 27)
  have hB4 := blkNew2 w (.cells #[.pointer (some ⟨T.bp, 0, none⟩)] 164) (.cells #[.int .u8 0, .int .u8 0, .int .i64 0, .slice none 0 0] 27)
  have HF0 := Lib.hid hf0; have HB1 := Lib.hid hB1; have HB4 := Lib.hid hB4
  clear hf0 hB1 hB4
  by_cases hu : kindM T.toks a = 34 ∨ kindM T.toks a = 38
  · rw [if_pos hu] at hr
    have HR := Lib.hid hr
    clear hr
    obtain ⟨f', rfl⟩ : ∃ f', f = f' + 1 := by
      cases f with
      | zero => exact absurd HR.out (by simp [runN])
      | succ f' => exact ⟨f', rfl⟩
    have main : ∀ (wc w1 : World), Fr (fun _ => False) w wc → Fr (fun _ => False) wc w1 → wc.heap[w.heap.size]? = some (.cells #[.pointer (some ⟨T.bp, 0, none⟩)] 164 (0, 0)) →
        Calls Tryz.prog 114 #[.pointer (some ⟨T.bp, 0, none⟩), .int .u8 62, .func (.func 191) #[] #[.pointer (some ⟨w.heap.size, 0, none⟩)]] w1 fun e w' => ∃ cs, e = .returned (.agg cs.toArray) ∧ RepT w' (fun k => w1.heap.size ≤ k) r.2 cs ∧ PS T w' r.1 ∧ FrP T w1 w' := by
      intro wc w1 hf hf1 hb
      exact makeN (f := f') (fid := 191) (cap := #[.pointer (some ⟨w.heap.size, 0, none⟩)]) (body := .unaryB) (fun _ _ => rfl) w1 a (fun k => w1.heap.size ≤ k) r (H.out.move0 (hf.trans hf1)) (fun k hk => hk) HR.out (fun wm bm sm hbm hf2 hS hnb hrow hrun =>
        (IHs f' (by omega)).unaryB wm bm _ 62 _ sm w.heap.size hS hnb (hf2.blk (hf1.blk hb (fun h => h)) (fun h => h)) hrun)
    rcases hu with hu | hu
    · have hu1 : (((kindM T.toks a : Nat) : Int) == 34) = true := by simp [hu]
      clear hu
      go_enter Tryz.func185, Tryz.ntmps185
      go_wp2_with fail
      generalize ((w.alloc (.cells #[.pointer (some ⟨T.bp, 0, none⟩)] 164)).alloc (.cells #[.int .u8 0, .int .u8 0, .int .i64 0, .slice none 0 0] 27)) = wc at *
      refine (kind_any T _ a (H.out.move0 HF0.out)).mono ?_
      rintro e wk ⟨rfl, fN⟩
      have x0 := blkCell (fN.blk HB1.out (fun h => h)) 0
      have FN := Lib.hid fN
      clear fN
      go_wp2_with fail
      refine (main wc wk HF0.out FN.out HB1.out).mono ?_
      rintro e w1 ⟨cs, rfl, ht, hp, hfp⟩
      obtain ⟨k0, k1, k2, aa, m, c, rfl⟩ := ht.form
      have hlt4 := blkLt HB4.out
      have hs := FN.out.size
      have hs0 := HF0.out.size
      have hb4 := Fr.blk hfp (FN.out.blk HB4.out (fun h => h)) (by omega)
      have d0 := blkCell hb4 0; have d1 := blkCell hb4 1; have d2 := blkCell hb4 2; have d3 := blkCell hb4 3
      have e0 := blkFree hb4 0; have e1 := blkFree hb4 1; have e2 := blkFree hb4 2; have e3 := blkFree hb4 3
      have HT := Lib.hid ht; have HP := Lib.hid hp; have HFP := Lib.hid hfp; have Hb4 := Lib.hid hb4
      clear ht hp hfp hb4
      go_wp2_with fail
      exact partRet2 Tryz.f185 2 rfl rfl (by omega) Hb4.out rfl (RepT.mono (fun k hk _ _ => ⟨by omega, by omega⟩) _ _ HT.out) HP.out ((FrP.of0 (HF0.out.trans FN.out)).trans HFP.out) rfl
    · have hu1 : (((kindM T.toks a : Nat) : Int) == 34) = false := by simp [hu]
      have hu2 : (((kindM T.toks a : Nat) : Int) == 38) = true := by simp [hu]
      clear hu
      go_enter Tryz.func185, Tryz.ntmps185
      go_wp2_with fail
      generalize ((w.alloc (.cells #[.pointer (some ⟨T.bp, 0, none⟩)] 164)).alloc (.cells #[.int .u8 0, .int .u8 0, .int .i64 0, .slice none 0 0] 27)) = wc at *
      refine (kind_any T _ a (H.out.move0 HF0.out)).mono ?_
      rintro e wk ⟨rfl, fN⟩
      have x0 := blkCell (fN.blk HB1.out (fun h => h)) 0
      have FN := Lib.hid fN
      clear fN
      go_wp2_with fail
      refine (main wc wk HF0.out FN.out HB1.out).mono ?_
      rintro e w1 ⟨cs, rfl, ht, hp, hfp⟩
      obtain ⟨k0, k1, k2, aa, m, c, rfl⟩ := ht.form
      have hlt4 := blkLt HB4.out
      have hs := FN.out.size
      have hs0 := HF0.out.size
      have hb4 := Fr.blk hfp (FN.out.blk HB4.out (fun h => h)) (by omega)
      have d0 := blkCell hb4 0; have d1 := blkCell hb4 1; have d2 := blkCell hb4 2; have d3 := blkCell hb4 3
      have e0 := blkFree hb4 0; have e1 := blkFree hb4 1; have e2 := blkFree hb4 2; have e3 := blkFree hb4 3
      have HT := Lib.hid ht; have HP := Lib.hid hp; have HFP := Lib.hid hfp; have Hb4 := Lib.hid hb4
      clear ht hp hfp hb4
      go_wp2_with fail
      exact partRet2 Tryz.f185 2 rfl rfl (by omega) Hb4.out rfl (RepT.mono (fun k hk _ _ => ⟨by omega, by omega⟩) _ _ HT.out) HP.out ((FrP.of0 (HF0.out.trans FN.out)).trans HFP.out) rfl
  · rw [if_neg hu] at hr
    obtain ⟨l0, q1, q2⟩ := Option.bind_eq_some_iff.1 hr
    have Q1 := Lib.hid q1; have Q2 := Lib.hid q2
    clear hr q1 q2
    have hu1 : (((kindM T.toks a : Nat) : Int) == 34) = false := by simp; omega
    have hu2 : (((kindM T.toks a : Nat) : Int) == 38) = false := by simp; omega
    clear hu
    go_enter Tryz.func185, Tryz.ntmps185
    go_wp2_with fail
    generalize ((w.alloc (.cells #[.pointer (some ⟨T.bp, 0, none⟩)] 164)).alloc (.cells #[.int .u8 0, .int .u8 0, .int .i64 0, .slice none 0 0] 27)) = wc at *
    refine (kind_any T _ a (H.out.move0 HF0.out)).mono ?_
    rintro e wk ⟨rfl, fN⟩
    have hf0 := HF0.out.trans fN
    have hB1 := fN.blk HB1.out (fun h => h)
    have hB4 := fN.blk HB4.out (fun h => h)
    have x0 := blkCell hB1 0
    clear HF0 HB1 HB4 fN
    have HF0 := Lib.hid hf0; have HB1 := Lib.hid hB1; have HB4 := Lib.hid hB4
    clear hf0 hB1 hB4
    go_wp2_with fail
    refine (IH.primary _ a l0 (H.out.move0 HF0.out) Q1.out).mono ?_
    rintro e w1 ⟨cs, rfl, ht, hp, hfp⟩
    obtain ⟨k0, k1, k2, aa, m, c, rfl⟩ := ht.form
    have hlt4 := blkLt HB4.out
    have hb1 := Fr.blk hfp HB1.out (by omega)
    have hb4 := Fr.blk hfp HB4.out (by omega)
    have HT := Lib.hid ht; have HP := Lib.hid hp; have HFP := Lib.hid hfp; have Hb1 := Lib.hid hb1; have Hb4 := Lib.hid hb4
    clear ht hp hfp hb1 hb4 x0
    go_wp2_with fail
    have hA : NAt T w (w1.alloc (.cells #[.int .u8 k0, .int .u8 k1, .int .i64 k2, .slice aa m c] 27)) (w.heap.size + 1) w1.heap.size l0.2 l0.1 [.int .u8 k0, .int .u8 k1, .int .i64 k2, .slice aa m c] (w1.alloc (.cells #[.int .u8 k0, .int .u8 k1, .int .i64 k2, .slice aa m c] 27)) :=
      ⟨HP.out.move0 ((Fr.refl _ _).alloc _), blkNew _ _, (RepT.mono (fun k hk h1 _ => ⟨Nat.le_trans HF0.out.size hk, by omega, by omega⟩) _ _ HT.out).fr ((Fr.refl _ _).alloc _) (fun _ _ _ h => h), Fr.refl _ _⟩
    have hb1 := blkAlloc Hb1.out (.cells #[.int .u8 k0, .int .u8 k1, .int .i64 k2, .slice aa m c] 27)
    have hb4 := blkAlloc Hb4.out (.cells #[.int .u8 k0, .int .u8 k1, .int .i64 k2, .slice aa m c] 27)
    have hfA : FrP T w (w1.alloc (.cells #[.int .u8 k0, .int .u8 k1, .int .i64 k2, .slice aa m c] 27)) := ((FrP.of0 HF0.out).trans HFP.out).alloc _
    have hl1 := blkLt Hb4.out
    clear Hb1 Hb4
    have HA := Lib.hid hA; have Hb1 := Lib.hid hb1; have Hb4 := Lib.hid hb4; have HFA := Lib.hid hfA
    clear hA hb1 hb4 hfA HB1 HB4
    generalize w1.alloc (.cells #[.int .u8 k0, .int .u8 k1, .int .i64 k2, .slice aa m c] 27) = wA at *
    generalize w1.heap.size = b5 at *
    clear HT HP HFP
    go_loopg [5] f (fun g _ wr => NRel T w wA (w.heap.size + 1) b5 (fun l => .callLoop l) r f g wr)
    case atStart => exact ⟨_, _, _, HA.out, Q2.out, Nat.le_refl _⟩
    case round =>
      obtain ⟨at_, l, cs, hN, hr, hg⟩ := hrel
      cases gk with
      | zero => cases hr
      | succ g =>
        simp only [runN, bodyN] at hr
        have hx := hN.2.2.2.blk Hb1.out (by omega)
        have h4 := hN.2.2.2.blk Hb4.out (by omega)
        obtain ⟨j0, j1, j2, ja, jm, jc, rfl⟩ := hN.2.2.1.form
        have x0 := blkCell hx 0
        by_cases hk : kindM T.toks at_ = 20
        · rw [if_pos hk] at hr
          obtain ⟨r1, q1, q2⟩ := Option.bind_eq_some_iff.1 hr
          have hkb : (((kindM T.toks at_ : Nat) : Int) == 20) = true := by simp [hk]
          have HN := Lib.hid hN; have HX := Lib.hid hx; have Q1 := Lib.hid q1; have Q2' := Lib.hid q2
          clear hN hx h4 hr hk q1 q2
          go_wp2_with fail
          refine (kind_any T _ at_ HN.out.1).mono ?_
          rintro e wq ⟨rfl, fN⟩
          have hN := HN.out.fr0 fN
          have hx := fN.blk HX.out (fun h => h)
          clear HN HX x0 fN
          have x0 := blkCell hx 0
          have d0 := blkCell hN.2.1 0; have d1 := blkCell hN.2.1 1; have d2 := blkCell hN.2.1 2; have d3 := blkCell hN.2.1 3
          have HN := Lib.hid hN; have HX := Lib.hid hx
          have hlx := blkLt hx
          have hl4 := blkLt hN.2.1
          clear hN hx
          go_wp2_with fail
          have hN := HN.out.fr0 ((Fr.refl (fun _ => False) wq).alloc (.cells #[.int .u8 j0, .int .u8 j1, .int .i64 j2, .slice ja jm jc] 27))
          have hx := blkAlloc HX.out (.cells #[.int .u8 j0, .int .u8 j1, .int .i64 j2, .slice ja jm jc] 27)
          have h6 := blkNew wq (.cells #[.int .u8 j0, .int .u8 j1, .int .i64 j2, .slice ja jm jc] 27)
          have hl6 := blkLt h6
          generalize wq.alloc (.cells #[.int .u8 j0, .int .u8 j1, .int .i64 j2, .slice ja jm jc] 27) = w3 at *
          obtain ⟨g', rfl⟩ : ∃ g', g = g' + 1 := by
            cases g with
            | zero => exact absurd Q1.out (by simp [runN])
            | succ g' => exact ⟨g', rfl⟩
          refine (makeN (f := g') (fid := 193) (cap := #[.pointer (some ⟨wq.heap.size, 0, none⟩), .pointer (some ⟨w.heap.size, 0, none⟩)]) (body := .callB l) (fun _ _ => rfl) w3 at_ (fun k => w.heap.size ≤ k ∧ k ≠ w.heap.size + 1 ∧ k ≠ b5) r1 hN.1 (fun k hk => ⟨by omega, by omega, by omega⟩) Q1.out (fun wm bm sm hbm hf hS hnb hrow hrun =>
            (IHs g' (by omega)).callB l wm bm _ 63 _ sm wq.heap.size w.heap.size _ (fun k => (w.heap.size ≤ k ∧ k ≠ w.heap.size + 1 ∧ k ≠ b5) ∧ k < w3.heap.size) hS hnb
              (hf.blk h6 (fun h => h)) ((RepT.mono (fun k hk hlt _ => ⟨hk, hlt⟩) _ _ hN.2.2.1).fr hf (fun _ _ _ h => h)) (fun k hk _ => ⟨⟨hk.1, by omega⟩, by rw [hrow]; simp⟩) (hf.blk hx (fun h => h)) hrun)).mono ?_
          rintro e wN ⟨cs, rfl, ht, hp, hfp⟩
          obtain ⟨k0', k1', k2', aa', m', c', rfl⟩ := ht.form
          have hN5 := Fr.blk hfp hN.2.1 (by have := blkNe hN.2.1 hN.1.blk (by decide); exact this)
          have hP := hN.put ht hp hfp
          have HP := Lib.hid hP
          have d0 := blkCell hN5 0; have d1 := blkCell hN5 1; have d2 := blkCell hN5 2; have d3 := blkCell hN5 3
          have e0 := blkFree hN5 0; have e1 := blkFree hN5 1; have e2 := blkFree hN5 2; have e3 := blkFree hN5 3
          clear hN ht hp hfp hN5 hP hx h6
          go_wp2_with fail
          go_roundg (g' + 1)
          case measure => omega
          case rel => exact ⟨_, _, _, HP.out, Q2'.out, by omega⟩
        · rw [if_neg hk] at hr
          injection hr with hr
          subst hr
          have hkb : (((kindM T.toks at_ : Nat) : Int) == 20) = false := by simp; omega
          have HN := Lib.hid hN
          have H4 := Lib.hid h4
          clear hN hx h4
          go_wp2_with fail
          refine (kind_any T _ at_ HN.out.1).mono ?_
          rintro e wq ⟨rfl, fN⟩
          have hN := HN.out.fr0 fN
          have h4 := fN.blk H4.out (fun h => h)
          have d0 := blkCell hN.2.1 0; have d1 := blkCell hN.2.1 1; have d2 := blkCell hN.2.1 2; have d3 := blkCell hN.2.1 3
          have f4_ := blkCell h4 0; have f41 := blkCell h4 1; have f42 := blkCell h4 2; have f43 := blkCell h4 3
          have g4_ := blkFree h4 0; have g41 := blkFree h4 1; have g42 := blkFree h4 2; have g43 := blkFree h4 3
          clear H4 HN
          have HN := Lib.hid hN
          have H4 := Lib.hid h4
          clear hN h4 fN
          go_wp2_with fail
          exact partRet2 (w1 := wq) Tryz.f185 2 rfl rfl (by omega) H4.out rfl (RepT.mono (fun k hk _ _ => ⟨hk.1, hk.2.1⟩) _ _ HN.out.2.2.1) HN.out.1 (Fr.trans' HFA.out HN.out.2.2.2 (fun i hi e => by rcases e with e | e; exact e; omega)) rfl

set_option maxRecDepth 100000 in
set_option maxHeartbeats 4000000 in
theorem wrong_step (T : Ctx) (f : Nat) (IHs : ∀ g, g ≤ f → Hyp T g) : NSaid T (f + 1) (.make 68 .wrongB) 146 := by
  intro w a r h hr
  have hbp := blkLt h.blk
  have H := Lib.hid h
  have HR := Lib.hid hr
  clear h hr
  have hf0 : Fr (fun _ => False) w ((w.alloc (.cells #[.pointer (some ⟨T.bp, 0, none⟩)] 164)).alloc (.cells #[.int .u8 0, .int .u8 0, .int .i64 0, .slice none 0 0] 27)) := ((Fr.refl _ _).alloc _).alloc _
  have hB1 := blkAlloc (blkNew w (.cells #[.pointer (some ⟨T.bp, 0, none⟩)] 164)) (.cells #[.int .u8 0, .int .u8 0, .int .i64 0, .slice none 0 0] 27)
  have hB4 := blkNew2 w (.cells #[.pointer (some ⟨T.bp, 0, none⟩)] 164) (.cells #[.int .u8 0, .int .u8 0, .int .i64 0, .slice none 0 0] 27)
  have HF0 := Lib.hid hf0; have HB1 := Lib.hid hB1; have HB4 := Lib.hid hB4
  clear hf0 hB1 hB4
  go_enter Tryz.func146, Tryz.ntmps146
  go_wp2_with fail
  generalize ((w.alloc (.cells #[.pointer (some ⟨T.bp, 0, none⟩)] 164)).alloc (.cells #[.int .u8 0, .int .u8 0, .int .i64 0, .slice none 0 0] 27)) = wc at *
  refine (makeN (f := f) (fid := 161) (cap := #[.pointer (some ⟨w.heap.size, 0, none⟩)]) (body := .wrongB) (fun _ _ => rfl) wc a (fun k => wc.heap.size ≤ k) r (H.out.move0 HF0.out) (fun k hk => hk) HR.out (fun wm bm sm hbm hf2 hS hnb hrow hrun =>
        (IHs f (by omega)).wrongB wm bm _ 68 _ sm w.heap.size hS hnb (hf2.blk HB1.out (fun h => h)) hrun)).mono ?_
  rintro e w1 ⟨cs, rfl, ht, hp, hfp⟩
  obtain ⟨k0, k1, k2, aa, m, c, rfl⟩ := ht.form
  have hlt4 := blkLt HB4.out
  have hs0 := HF0.out.size
  have hb4 := Fr.blk hfp HB4.out (by omega)
  have d0 := blkCell hb4 0; have d1 := blkCell hb4 1; have d2 := blkCell hb4 2; have d3 := blkCell hb4 3
  have e0 := blkFree hb4 0; have e1 := blkFree hb4 1; have e2 := blkFree hb4 2; have e3 := blkFree hb4 3
  have HT := Lib.hid ht; have HP := Lib.hid hp; have HFP := Lib.hid hfp; have Hb4 := Lib.hid hb4
  clear ht hp hfp hb4
  go_wp2_with fail
  exact partRet2 Tryz.f146 2 rfl rfl (by omega) Hb4.out rfl (RepT.mono (fun k hk _ _ => ⟨by omega, by omega⟩) _ _ HT.out) HP.out ((FrP.of0 HF0.out).trans HFP.out) rfl

set_option maxRecDepth 100000 in
set_option maxHeartbeats 4000000 in
theorem primary_step (T : Ctx) (f : Nat) (IHs : ∀ g, g ≤ f → Hyp T g) : NSaid T (f + 1) .primary 192 := by
  intro w a r h hr
  simp only [runN, bodyN] at hr
  have hbp := blkLt h.blk
  have H := Lib.hid h
  clear h
  have hf0 : Fr (fun _ => False) w (w.alloc (.cells #[.int .u8 0, .int .u8 0, .int .i64 0, .slice none 0 0] 27)) := (Fr.refl _ _).alloc _
  have hB4 := blkNew w (.cells #[.int .u8 0, .int .u8 0, .int .i64 0, .slice none 0 0] 27)
  have HF0 := Lib.hid hf0; have HB4 := Lib.hid hB4
  clear hf0 hB4
  have main : ∀ (kind fid : Nat) (body : MC), (∀ args w, (callFunc fid args).run Tryz.prog w = .ok (.enter fid args) w) → (∀ g, g ≤ f → MSaid T g body fid) → runN T.toks f (.make kind body) a = some r → ∀ (wc w1 : World), Fr (fun _ => False) w wc → Fr (fun _ => False) wc w1 → 
      Calls Tryz.prog 114 #[.pointer (some ⟨T.bp, 0, none⟩), .int .u8 kind, .func (.func fid) #[] #[]] w1 fun e w' => ∃ cs, e = .returned (.agg cs.toArray) ∧ RepT w' (fun k => w1.heap.size ≤ k) r.2 cs ∧ PS T w' r.1 ∧ FrP T w1 w' := by
    intro kind fid body hent hbody hr wc w1 hf hf1
    obtain ⟨f', rfl⟩ : ∃ f', f = f' + 1 := by
      cases f with
      | zero => exact absurd hr (by simp [runN])
      | succ f' => exact ⟨f', rfl⟩
    exact makeN (f := f') (fid := fid) (cap := #[]) (body := body) hent w1 a (fun k => w1.heap.size ≤ k) r (H.out.move0 (hf.trans hf1)) (fun k hk => hk) hr (fun wm bm sm hbm hf2 hS hnb hrow hrun =>
      hbody f' (by omega) wm bm _ kind _ sm hS hnb hrun)
  by_cases hu : kindM T.toks a = 6
  · rw [if_pos hu] at hr
    have hu1 : (((kindM T.toks a : Nat) : Int) == 6) = true := by simp [hu]
    have HR := Lib.hid hr
    clear hu hr
    go_enter Tryz.func192, Tryz.ntmps192
    go_wp2_with fail
    generalize (w.alloc (.cells #[.int .u8 0, .int .u8 0, .int .i64 0, .slice none 0 0] 27)) = wc at *
    refine (kind_any T _ a (H.out.move0 HF0.out)).mono ?_
    rintro e wk ⟨rfl, fN⟩
    have FN := Lib.hid fN
    clear fN
    go_wp2_with fail
    refine (main 66 162 .nextB (fun _ _ => rfl) (fun g hg => (IHs g hg).nextB) HR.out wc wk HF0.out FN.out).mono ?_
    rintro e w1 ⟨cs, rfl, ht, hp, hfp⟩
    obtain ⟨k0, k1, k2, aa, m, c, rfl⟩ := ht.form
    have hlt4 := blkLt HB4.out
    have hs := FN.out.size
    have hs0 := HF0.out.size
    have hb4 := Fr.blk hfp (FN.out.blk HB4.out (fun h => h)) (by omega)
    have d0 := blkCell hb4 0; have d1 := blkCell hb4 1; have d2 := blkCell hb4 2; have d3 := blkCell hb4 3
    have e0 := blkFree hb4 0; have e1 := blkFree hb4 1; have e2 := blkFree hb4 2; have e3 := blkFree hb4 3
    have HT := Lib.hid ht; have HP := Lib.hid hp; have HFP := Lib.hid hfp; have Hb4 := Lib.hid hb4
    clear ht hp hfp hb4
    go_wp2_with fail
    exact partRet2 Tryz.f192 2 rfl rfl (by omega) Hb4.out rfl (RepT.mono (fun k hk _ _ => ⟨by omega, by omega⟩) _ _ HT.out) HP.out ((FrP.of0 (HF0.out.trans FN.out)).trans HFP.out) rfl
  · rw [if_neg hu] at hr
    have hu1 : (((kindM T.toks a : Nat) : Int) == 6) = false := by simp; omega
    clear hu
    by_cases hv : kindM T.toks a = 20
    · rw [if_pos hv] at hr
      have hu2 : (((kindM T.toks a : Nat) : Int) == 20) = true := by simp [hv]
      have HR := Lib.hid hr
      clear hv hr
      go_enter Tryz.func192, Tryz.ntmps192
      go_wp2_with fail
      generalize (w.alloc (.cells #[.int .u8 0, .int .u8 0, .int .i64 0, .slice none 0 0] 27)) = wc at *
      refine (kind_any T _ a (H.out.move0 HF0.out)).mono ?_
      rintro e wk ⟨rfl, fN⟩
      have FN := Lib.hid fN
      clear fN
      go_wp2_with fail
      refine (main 65 198 .groupB (fun _ _ => rfl) (fun g hg => (IHs g hg).groupB) HR.out wc wk HF0.out FN.out).mono ?_
      rintro e w1 ⟨cs, rfl, ht, hp, hfp⟩
      obtain ⟨k0, k1, k2, aa, m, c, rfl⟩ := ht.form
      have hlt4 := blkLt HB4.out
      have hs := FN.out.size
      have hs0 := HF0.out.size
      have hb4 := Fr.blk hfp (FN.out.blk HB4.out (fun h => h)) (by omega)
      have d0 := blkCell hb4 0; have d1 := blkCell hb4 1; have d2 := blkCell hb4 2; have d3 := blkCell hb4 3
      have e0 := blkFree hb4 0; have e1 := blkFree hb4 1; have e2 := blkFree hb4 2; have e3 := blkFree hb4 3
      have HT := Lib.hid ht; have HP := Lib.hid hp; have HFP := Lib.hid hfp; have Hb4 := Lib.hid hb4
      clear ht hp hfp hb4
      go_wp2_with fail
      exact partRet2 Tryz.f192 2 rfl rfl (by omega) Hb4.out rfl (RepT.mono (fun k hk _ _ => ⟨by omega, by omega⟩) _ _ HT.out) HP.out ((FrP.of0 (HF0.out.trans FN.out)).trans HFP.out) rfl
    · rw [if_neg hv] at hr
      have hu2 : (((kindM T.toks a : Nat) : Int) == 20) = false := by simp; omega
      have HR := Lib.hid hr
      clear hv hr
      go_enter Tryz.func192, Tryz.ntmps192
      go_wp2_with fail
      generalize (w.alloc (.cells #[.int .u8 0, .int .u8 0, .int .i64 0, .slice none 0 0] 27)) = wc at *
      refine (kind_any T _ a (H.out.move0 HF0.out)).mono ?_
      rintro e wk ⟨rfl, fN⟩
      have FN := Lib.hid fN
      clear fN
      go_wp2_with fail
      refine (main 67 162 .nextB (fun _ _ => rfl) (fun g hg => (IHs g hg).nextB) HR.out wc wk HF0.out FN.out).mono ?_
      rintro e w1 ⟨cs, rfl, ht, hp, hfp⟩
      obtain ⟨k0, k1, k2, aa, m, c, rfl⟩ := ht.form
      have hlt4 := blkLt HB4.out
      have hs := FN.out.size
      have hs0 := HF0.out.size
      have hb4 := Fr.blk hfp (FN.out.blk HB4.out (fun h => h)) (by omega)
      have d0 := blkCell hb4 0; have d1 := blkCell hb4 1; have d2 := blkCell hb4 2; have d3 := blkCell hb4 3
      have e0 := blkFree hb4 0; have e1 := blkFree hb4 1; have e2 := blkFree hb4 2; have e3 := blkFree hb4 3
      have HT := Lib.hid ht; have HP := Lib.hid hp; have HFP := Lib.hid hfp; have Hb4 := Lib.hid hb4
      clear ht hp hfp hb4
      go_wp2_with fail
      exact partRet2 Tryz.f192 2 rfl rfl (by omega) Hb4.out rfl (RepT.mono (fun k hk _ _ => ⟨by omega, by omega⟩) _ _ HT.out) HP.out ((FrP.of0 (HF0.out.trans FN.out)).trans HFP.out) rfl
end Go.Proofs.YtkicpjjfeekopaaGreatDoor

namespace Go.Proofs.YtkicpjjfeekopaaGreatDoor
open Go.RowKit Go.Maps
/-- How a function without captures reads. -/
def funR (v : Value) : Option (DataW Nat × List MemPlace) := match v with
  | .func (.func f) a b => if a.size = 0 ∧ b.size = 0 then some (.lit (.int .i64 f), []) else some (.lit (.int .i64 0), [])
  | _ => some (.lit (.int .i64 0), [])
theorem funR_inv {v : Value} {d : DataW Nat} {ps : List MemPlace} {f : Nat} (h : funR v = some (d, ps)) (hd : d = .lit (.int .i64 f)) (hf : f ≠ 0) : v = .func (.func f) #[] #[] := by
  unfold funR at h
  split at h
  · rename_i g a b
    by_cases hab : a.size = 0 ∧ b.size = 0
    · rw [if_pos hab] at h
      injection h with h
      injection h with h _
      rw [← h] at hd
      injection hd with hd
      injection hd with _ hd
      have := Int.ofNat.inj hd
      subst this
      rw [Array.size_eq_zero_iff.1 hab.1, Array.size_eq_zero_iff.1 hab.2]
    · rw [if_neg hab] at h
      injection h with h
      injection h with h _
      rw [← h] at hd
      injection hd with hd
      injection hd with _ hd
      omega
  · injection h with h
    injection h with h _
    rw [← h] at hd
    injection hd with hd
    injection hd with _ hd
    omega
def stD : DataW Nat := ((((((DataW.map []).put (.int .u8 53) (.lit (.int .i64 171))).put (.int .u8 54) (.lit (.int .i64 172))).put (.int .u8 56) (.lit (.int .i64 173))).put (.int .u8 57) (.lit (.int .i64 174))).put (.int .u8 58) (.lit (.int .i64 175))).put (.int .u8 59) (.lit (.int .i64 176))
theorem wpList_insert_own {H : Type} {P : Program} (w : World) {ops : Array Oper} {rest : List Oper} {o : Oper} {a : Act} {Q : Exit → Act → World → Prop}
    (hg : o.guard = none) (m x v : Operand) (t : TypeId) (hop : o.op = Op.insert t m x v)
    (k e : TypeId) (K : Keyed P k) (ht : P.underlying t = some (.map k e)) (R : Value → Option (DataW H × List MemPlace)) (b n : Nat) (D : DataW H)
    (hm : a.eval m = .map (some b)) (hown : w.ownsMap P k R b n D) (hn : n < maxLen) (key val : Value) (kl : Lit) (hx : a.eval x = key) (hv : a.eval v = val) (hkey : keyOf P k key = some kl)
    (d : DataW H) (ps : List MemPlace) (hval : R val = some (d, ps))
    (hK : ∀ w', w'.ownsMap P k R b (n + 1) (D.put kl d) → w.grownBy w' (some b) → wpList P ops Q rest (a.put o.dst undef) w') :
    wpList P ops Q (o :: rest) a w := by
  refine wpList_plain hg fun K' hK' => ?_
  obtain ⟨w', hrun, r1, r2⟩ := hown.update K ht hn hkey hval
  unfold Oper.wp
  simp [execOp, hop, hm, hx, hv, hrun, Result.andThen]
  exact hK' _ _ (hK w' r1 r2)
theorem keyed5 : Keyed Tryz.prog 5 := int_keyed Tryz.underlying5
set_option maxRecDepth 100000 in
theorem stmts_any (w : World) : Calls Tryz.prog 160 #[] w fun e w' => e = .returned (.map (some w.heap.size)) ∧ Fr (fun _ => False) w w' ∧ w'.ownsMap Tryz.prog 5 funR w.heap.size 6 stD := by
  have hmm := @run_makeMap Tryz.prog
  go_enter Tryz.func160, Tryz.ntmps160
  have hown := World.ownsMap_made w Tryz.prog 5 funR
  have hf : Fr (fun _ => False) w (w.alloc (.map #[] 0)) := (Fr.refl _ _).alloc _
  go_wp2_with (first
    | (refine wpList_insert_own _ rfl _ _ _ 241 rfl 5 203 keyed5 Tryz.underlying241 _ w.heap.size _ _ rfl (by assumption) (by unfold maxLen; omega) _ _ _ rfl rfl (keyOf_int_mk Tryz.underlying5 (by decide)) _ [] rfl ?_; clear hown; intro w1 hown hgrow1; have hf := Fr.trans' hf (Fr.of_grown (S := fun k => k = w.heap.size) hgrow1 (fun k e => by injection e with e; exact e.symm)) (fun i hi e => absurd e (by omega)); clear hgrow1)
    | go_in)
  go_ret
  exact ⟨rfl, hf, hown⟩
theorem stmts_look1 {w : World} {b n : Nat} (h : w.ownsMap Tryz.prog 5 funR b n stD) (k f : Nat) (hwf : (Lit.int .u8 (k : Int)).wf = true) (hat : stD.atKey (.int .u8 (k : Int)) (.lit (.int .i64 0)) = .lit (.int .i64 f)) (hf : f ≠ 0) :
    (Instr.lookup 241 (.map (some b)) (.int .u8 k) false).run Tryz.prog w = .ok (.func (.func f) #[] #[]) w := by
  have hz : (zeroValue 203).run Tryz.prog w = .ok .nilFunc w := by kernel_rfl
  obtain ⟨v, ps, hrun, hv⟩ := h.lookup keyed5 Tryz.underlying241 hz (zd := .lit (.int .i64 0)) rfl (keyOf_int_mk Tryz.underlying5 hwf)
  rw [hrun, funR_inv hv hat hf]
/-- What stands in the table under a statement's kind. -/
theorem stmts_look {w : World} {b n : Nat} (h : w.ownsMap Tryz.prog 5 funR b n stD) (k f : Nat) (hk : (k, f) ∈ [(53, 171), (54, 172), (56, 173), (57, 174), (58, 175), (59, 176)]) :
    (Instr.lookup 241 (.map (some b)) (.int .u8 k) false).run Tryz.prog w = .ok (.func (.func f) #[] #[]) w := by
  simp only [List.mem_cons, Prod.mk.injEq, List.not_mem_nil, or_false] at hk
  rcases hk with ⟨rfl, rfl⟩ | ⟨rfl, rfl⟩ | ⟨rfl, rfl⟩ | ⟨rfl, rfl⟩ | ⟨rfl, rfl⟩ | ⟨rfl, rfl⟩ <;> exact stmts_look1 h _ _ (by decide) (by rfl) (by decide)
end Go.Proofs.YtkicpjjfeekopaaGreatDoor

namespace Go.Proofs.YtkicpjjfeekopaaGreatDoor
open Go.RowKit
/-- The statements' parts, at a fuel. -/
theorem stmt_bodies (T : Ctx) (g : Nat) (IH : Hyp T g) (k : Nat) (h52 : stmtOf k ≠ 52) (h0 : stmtOf k ≠ 0) : ∃ fid, (stmtOf k, fid) ∈ [(53, 171), (54, 172), (56, 173), (57, 174), (58, 175), (59, 176)] ∧ MSaid T g (stmtBody (stmtOf k)) fid := by
  have h : stmtOf k = 53 ∨ stmtOf k = 54 ∨ stmtOf k = 56 ∨ stmtOf k = 57 ∨ stmtOf k = 58 ∨ stmtOf k = 59 := by
    revert h52 h0
    unfold stmtOf
    repeat' split
    all_goals simp
  rcases h with h | h | h | h | h | h <;> rw [h]
  · exact ⟨171, by simp, IH.letB⟩
  · exact ⟨172, by simp, IH.fnB⟩
  · exact ⟨173, by simp, IH.branch⟩
  · exact ⟨174, by simp, IH.loopB⟩
  · exact ⟨175, by simp, IH.back⟩
  · exact ⟨176, by simp, IH.doB⟩
set_option maxRecDepth 100000 in
theorem entM (fid : Nat) (h : (fid = 171 ∨ fid = 172 ∨ fid = 173 ∨ fid = 174 ∨ fid = 175 ∨ fid = 176)) : ∀ args w, (callFunc fid args).run Tryz.prog w = .ok (.enter fid args) w := by
  intro args w
  rcases h with h | h | h | h | h | h <;> subst h <;> rfl
set_option maxRecDepth 100000 in
set_option maxHeartbeats 4000000 in
theorem statement_step (T : Ctx) (f : Nat) (IHs : ∀ g, g ≤ f → Hyp T g) : NSaid T (f + 1) .statement 144 := by
  have IH := IHs f (Nat.le_refl f)
  intro w a r h hr
  simp only [runN, bodyN] at hr
  have hbp := blkLt h.blk
  have H := Lib.hid h
  clear h
  have hf0 : Fr (fun _ => False) w (w.alloc (.cells #[.int .u8 0, .int .u8 0, .int .i64 0, .slice none 0 0] 27)) := (Fr.refl _ _).alloc _
  have hB4 := blkNew w (.cells #[.int .u8 0, .int .u8 0, .int .i64 0, .slice none 0 0] 27)
  have HF0 := Lib.hid hf0; have HB4 := Lib.hid hB4
  clear hf0 hB4
  by_cases hk : stmtOf (kindM T.toks a) = 52
  · rw [if_pos hk] at hr
    obtain ⟨s1, q1, q2⟩ := Option.bind_eq_some_iff.1 hr
    have hkb : (((stmtOf (kindM T.toks a) : Nat) : Int) == 52) = true := by simp [hk]
    obtain ⟨t, ht0, rfl⟩ : ∃ t, s1.2[0]? = some t ∧ r = (s1.1, t) := by
      cases h0 : s1.2[0]? with
      | none => rw [h0] at q2; cases q2
      | some t => rw [h0] at q2; injection q2 with q2; exact ⟨t, rfl, q2.symm⟩
    have Q1 := Lib.hid q1; have HT0 := Lib.hid ht0
    clear hr hk q1 q2 ht0
    go_enter Tryz.func144, Tryz.ntmps144
    go_wp2_with fail
    generalize (w.alloc (.cells #[.int .u8 0, .int .u8 0, .int .i64 0, .slice none 0 0] 27)) = wc at *
    refine (kind_any T _ a (H.out.move0 HF0.out)).mono ?_
    rintro e wk ⟨rfl, fN⟩
    have hf1 := HF0.out.trans fN
    have hb4 := fN.blk HB4.out (fun h => h)
    have hl4 := blkLt hb4
    have Hf1 := Lib.hid hf1; have Hb4 := Lib.hid hb4
    clear fN hf1 hb4
    go_wp2_with fail
    refine (statement_any _ _).mono ?_
    rintro e w_ ⟨rfl, rfl⟩
    go_wp2_with fail
    have hfm : Fr (fun _ => False) w (wk.alloc (.cells #[.int .u8 0, .int .u8 0, .int .i64 0, .slice none 0 0, .pointer (some ⟨T.bp, 0, none⟩)] 225)) := Hf1.out.alloc _
    have hm := blkNew wk (.cells #[.int .u8 0, .int .u8 0, .int .i64 0, .slice none 0 0, .pointer (some ⟨T.bp, 0, none⟩)] 225)
    have hb4 := blkAlloc Hb4.out (.cells #[.int .u8 0, .int .u8 0, .int .i64 0, .slice none 0 0, .pointer (some ⟨T.bp, 0, none⟩)] 225)
    generalize wk.alloc (.cells #[.int .u8 0, .int .u8 0, .int .i64 0, .slice none 0 0, .pointer (some ⟨T.bp, 0, none⟩)] 225) = wm at *
    have hS : SS T wm wk.heap.size (fun k => w.heap.size ≤ k ∧ k ≠ w.heap.size) 0 (a, []) := ⟨H.out.move0 hfm, .slice none 0 0, [], hm, World.ownsRow_nil _ _ _ _, rfl, fun g h => by simp [Value.ownBlock] at h⟩
    have hrow : rowOf wm wk.heap.size = none := by unfold rowOf; rw [blkCell hm 3]; rfl
    have hsz := hfm.size
    have hl5 := blkLt hb4
    refine (IH.block wm wk.heap.size _ 0 _ s1 hS (fun k hk => ⟨by omega, by omega⟩) Q1.out).mono ?_
    rintro e w2 ⟨rfl, h2, hf2⟩
    have hb42 := hf2.1.blk hb4 (by
      rintro (e | e | e)
      · omega
      · omega
      · rw [hrow] at e; cases e)
    obtain ⟨v, xs, k1, k2, k3, k4⟩ := h2.2
    obtain ⟨tc, htc, hcell⟩ := k3.get HT0.out
    obtain ⟨j0, j1, j2, ja, jm, jc, rfl⟩ := htc.form
    have hlen : 0 < s1.2.length := by
      have := (List.getElem?_eq_some_iff.1 HT0.out).1
      exact this
    have hxl := k2.1
    obtain ⟨g0, c0, rfl, hc0, r0⟩ := ownAt k2 0 (by omega)
    obtain ⟨_, _, e1, _, r1⟩ := ownAt k2 1 (by omega)
    obtain ⟨_, _, e2, _, r2⟩ := ownAt k2 2 (by omega)
    obtain ⟨_, _, e3, _, r3⟩ := ownAt k2 3 (by omega)
    injection e1 with e1; injection e1 with e1; injection e1 with e1 _ _; subst e1
    injection e2 with e2; injection e2 with e2; injection e2 with e2 _ _; subst e2
    injection e3 with e3; injection e3 with e3; injection e3 with e3 _ _; subst e3
    have y0 := hcell 0 (by omega)
    have y1 := hcell 1 (by omega)
    have y2 := hcell 2 (by omega)
    have y3 := hcell 3 (by omega)
    simp only [Nat.zero_mul, Nat.zero_add] at y0 y1 y2 y3
    rw [y0] at r0; rw [y1] at r1; rw [y2] at r2; rw [y3] at r3
    simp only [List.getElem?_cons_zero, List.getElem?_cons_succ] at r0 r1 r2 r3
    have m3 := blkCell k1 3
    have d0 := blkCell hb42 0; have d1 := blkCell hb42 1; have d2 := blkCell hb42 2; have d3 := blkCell hb42 3
    have e0 := blkFree hb42 0; have e1 := blkFree hb42 1; have e2 := blkFree hb42 2; have e3 := blkFree hb42 3
    have HT := Lib.hid htc; have H2 := Lib.hid h2; have HF2 := Lib.hid hf2; have HB42 := Lib.hid hb42; have HFM := Lib.hid hfm; have HROW := Lib.hid hrow
    have i0 : (0 : Int) < (s1.2.length : Int) := by omega
    obtain ⟨len, hln⟩ : ∃ len, len = s1.2.length := ⟨_, rfl⟩
    rw [← hln] at m3 i0
    have i1 : len ≤ c0 := by omega
    clear htc h2 hf2 hb42 k1 k2 k3 k4 hcell y0 y1 y2 y3 hxl hS hm hb4 hfm hrow hc0 hln
    go_wp2_with fail
    exact partRet2 Tryz.f144 2 rfl rfl (by omega) HB42.out rfl (RepT.mono (fun k hk _ _ => ⟨hk.1.1, hk.1.2⟩) _ _ HT.out) H2.out.1 ((FrP.of0 HFM.out).trans' HF2.out.1 (fun i hi e => by
      rcases e with e | e | e
      · exact e
      · omega
      · rw [HROW.out] at e; cases e)) rfl
  · rw [if_neg hk] at hr
    by_cases h0 : stmtOf (kindM T.toks a) = 0
    · rw [if_pos h0] at hr; cases hr
    rw [if_neg h0] at hr
    have hkb : (((stmtOf (kindM T.toks a) : Nat) : Int) == 52) = false := by simp; omega
    obtain ⟨f', rfl⟩ : ∃ f', f = f' + 1 := by
      cases f with
      | zero => exact absurd hr (by simp [runN])
      | succ f' => exact ⟨f', rfl⟩
    obtain ⟨fid, hfid, hbody⟩ := stmt_bodies T f' (IHs f' (by omega)) _ hk h0
    have main : ∀ (w1 : World), Fr (fun _ => False) w w1 → 
      Calls Tryz.prog 114 #[.pointer (some ⟨T.bp, 0, none⟩), .int .u8 (stmtOf (kindM T.toks a) : Nat), .func (.func fid) #[] #[]] w1 fun e w' => ∃ cs, e = .returned (.agg cs.toArray) ∧ RepT w' (fun k => w1.heap.size ≤ k) r.2 cs ∧ PS T w' r.1 ∧ FrP T w1 w' := by
      intro w1 hf
      refine makeN (f := f') (fid := fid) (cap := #[]) (body := stmtBody (stmtOf (kindM T.toks a))) (entM fid ?_) w1 a (fun k => w1.heap.size ≤ k) r (H.out.move0 hf) (fun k hk => hk) hr (fun wm bm sm hbm hf2 hS hnb hrow hrun =>
        hbody wm bm _ _ _ sm hS hnb hrun)
      simp only [List.mem_cons, Prod.mk.injEq, List.not_mem_nil, or_false] at hfid
      omega
    have Hfid := Lib.hid hfid
    clear hr hk h0 hbody hfid
    obtain ⟨sk, hsk⟩ : ∃ sk, sk = stmtOf (kindM T.toks a) := ⟨_, rfl⟩
    have HM := Lib.hid main
    clear main
    go_enter Tryz.func144, Tryz.ntmps144
    go_wp2_with fail
    generalize (w.alloc (.cells #[.int .u8 0, .int .u8 0, .int .i64 0, .slice none 0 0] 27)) = wc at *
    refine (kind_any T _ a (H.out.move0 HF0.out)).mono ?_
    rintro e wk ⟨rfl, fN⟩
    have hf1 := HF0.out.trans fN
    have hb4 := fN.blk HB4.out (fun h => h)
    have hl4 := blkLt hb4
    have Hf1 := Lib.hid hf1; have Hb4 := Lib.hid hb4
    clear fN hf1 hb4
    go_wp2_with fail
    refine (statement_any _ _).mono ?_
    rintro e w_ ⟨rfl, rfl⟩
    go_wp2_with fail
    refine (stmts_any _).mono ?_
    rintro e w2 ⟨rfl, hf2, hmap⟩
    have hlook := stmts_look hmap _ _ Hfid.out
    have hf2' := Hf1.out.trans hf2
    have hb4 := hf2.blk Hb4.out (fun h => h)
    have HF2 := Lib.hid hf2'; have HB42 := Lib.hid hb4
    clear hf2 hmap hf2' hb4 hsk
    go_wp2_with fail
    refine (HM.out w2 HF2.out).mono ?_
    rintro e w1 ⟨cs, rfl, ht, hp, hfp⟩
    obtain ⟨k0, k1, k2, aa, m, c, rfl⟩ := ht.form
    have hlt4 := blkLt HB42.out
    have hs := HF2.out.size
    have hb4 := Fr.blk hfp HB42.out (by omega)
    have d0 := blkCell hb4 0; have d1 := blkCell hb4 1; have d2 := blkCell hb4 2; have d3 := blkCell hb4 3
    have e0 := blkFree hb4 0; have e1 := blkFree hb4 1; have e2 := blkFree hb4 2; have e3 := blkFree hb4 3
    have HT := Lib.hid ht; have HP := Lib.hid hp; have HFP := Lib.hid hfp; have Hb4' := Lib.hid hb4
    clear ht hp hfp hb4
    go_wp2_with fail
    exact partRet2 Tryz.f144 2 rfl rfl (by omega) Hb4'.out rfl (RepT.mono (fun k hk _ _ => ⟨by omega, by omega⟩) _ _ HT.out) HP.out ((FrP.of0 HF2.out).trans HFP.out) rfl
end Go.Proofs.YtkicpjjfeekopaaGreatDoor

namespace Go.Proofs.YtkicpjjfeekopaaGreatDoor
open Go.RowKit
theorem hyp_zero (T : Ctx) : Hyp T 0 := by
  constructor
  all_goals first
    | (intro w bm base kind s s' h hb hs; exact absurd hs (by simp [runM]))
    | (intro w bm base kind s s' bx h hb hx hs; exact absurd hs (by simp [runM]))
    | (intro n w a r hn h hs; exact absurd hs (by simp [runN]))
    | (intro w a r h hs; exact absurd hs (by simp [runN]))
    | (intro n first w bm base kind s s' bf bx bn cs P hn h hb hf ht hP hx hbn hs; exact absurd hs (by simp [runM]))
    | (intro first w bm base kind s s' bf bx cs P h hb hf ht hP hx hs; exact absurd hs (by simp [runM]))
theorem hyp_succ (T : Ctx) (f : Nat) (IHs : ∀ g, g ≤ f → Hyp T g) : Hyp T (f + 1) where
  inner := inner_step T f IHs
  letB := let_step T f IHs
  fnB := fn_step T f IHs
  params := params_step T f IHs
  branch := branch_step T f IHs
  loopB := loop_step T f IHs
  back := back_step T f IHs
  doB := do_step T f IHs
  block := block_step T f IHs
  blockB := blockB_step T f IHs
  expression := expression_step T f IHs
  exprB := exprB_step T f IHs
  args := args_step T f IHs
  groupB := group_step T f IHs
  nextB := nextB_step T f
  wrongB := wrongB_step T f IHs
  unaryB := unaryB_step T f IHs
  binB := bin_step T f (IHs f (Nat.le_refl f))
  callB := call_step T f IHs
  statement := statement_step T f IHs
  level := level_step T f IHs
  unary := unary_step T f IHs
  primary := primary_step T f IHs
  wrong := wrong_step T f IHs
theorem hyp_le (T : Ctx) : ∀ f g, g ≤ f → Hyp T g
  | 0, g, h => by obtain rfl : g = 0 := by omega
                  exact hyp_zero T
  | f + 1, g, h => by
    by_cases hg : g = f + 1
    · subst hg; exact hyp_succ T f (hyp_le T f)
    · exact hyp_le T f g (by omega)
theorem hyp_all (T : Ctx) (f : Nat) : Hyp T f := hyp_le T f f (Nat.le_refl f)
set_option maxRecDepth 100000 in
set_option maxHeartbeats 4000000 in
theorem file_any (T : Ctx) (f : Nat) (w : World) (r : Nat × Tree) (h : PS T w 0) (hr : fileM T.toks f = some r) : Calls Tryz.prog 85 #[.pointer (some ⟨T.bp, 0, none⟩)] w (PartSaid T w r.2 r.1) := by
  have hbp := blkLt h.blk
  have H := Lib.hid h
  obtain ⟨f', rfl⟩ : ∃ f', f = f' + 1 := by
    cases f with
    | zero => exact absurd hr (by simp [fileM, runN])
    | succ f' => exact ⟨f', rfl⟩
  obtain ⟨f'', rfl⟩ : ∃ f'', f' = f'' + 1 := by
    cases f' with
    | zero => exact absurd hr (by simp [fileM, runN, bodyN, runM])
    | succ f'' => exact ⟨f'', rfl⟩
  have HR := Lib.hid hr
  clear h hr
  have hf0 : Fr (fun _ => False) w ((w.alloc (.cells #[.pointer (some ⟨T.bp, 0, none⟩)] 164)).alloc (.cells #[.int .u8 0, .int .u8 0, .int .i64 0, .slice none 0 0] 27)) := ((Fr.refl _ _).alloc _).alloc _
  have hB1 := blkAlloc (blkNew w (.cells #[.pointer (some ⟨T.bp, 0, none⟩)] 164)) (.cells #[.int .u8 0, .int .u8 0, .int .i64 0, .slice none 0 0] 27)
  have hB4 := blkNew2 w (.cells #[.pointer (some ⟨T.bp, 0, none⟩)] 164) (.cells #[.int .u8 0, .int .u8 0, .int .i64 0, .slice none 0 0] 27)
  have HF0 := Lib.hid hf0; have HB1 := Lib.hid hB1; have HB4 := Lib.hid hB4
  clear hf0 hB1 hB4
  go_enter Tryz.func85, Tryz.ntmps85
  go_wp2_with fail
  generalize ((w.alloc (.cells #[.pointer (some ⟨T.bp, 0, none⟩)] 164)).alloc (.cells #[.int .u8 0, .int .u8 0, .int .i64 0, .slice none 0 0] 27)) = wc at *
  refine (makeN (f := f'' + 1) (fid := 115) (cap := #[.pointer (some ⟨w.heap.size, 0, none⟩)]) (body := .fileB) (fun _ _ => rfl) wc 0 (fun k => wc.heap.size ≤ k) r (H.out.move0 HF0.out) (fun k hk => hk) HR.out (fun wm bm sm hbm hf2 hS hnb hrow hrun =>
        fileB_step T f'' (hyp_le T f'') wm bm _ 51 _ sm w.heap.size hS hnb (hf2.blk HB1.out (fun h => h)) hrun)).mono ?_
  rintro e w1 ⟨cs, rfl, ht, hp, hfp⟩
  obtain ⟨k0, k1, k2, aa, m, c, rfl⟩ := ht.form
  have hlt4 := blkLt HB4.out
  have hs0 := HF0.out.size
  have hb4 := Fr.blk hfp HB4.out (by omega)
  have d0 := blkCell hb4 0; have d1 := blkCell hb4 1; have d2 := blkCell hb4 2; have d3 := blkCell hb4 3
  have e0 := blkFree hb4 0; have e1 := blkFree hb4 1; have e2 := blkFree hb4 2; have e3 := blkFree hb4 3
  have HT := Lib.hid ht; have HP := Lib.hid hp; have HFP := Lib.hid hfp; have Hb4 := Lib.hid hb4
  clear ht hp hfp hb4
  go_wp2_with fail
  exact partRet2 Tryz.f85 2 rfl rfl (by omega) Hb4.out rfl (RepT.mono (fun k hk _ _ => ⟨by omega, by omega⟩) _ _ HT.out) HP.out ((FrP.of0 HF0.out).trans HFP.out) rfl
end Go.Proofs.YtkicpjjfeekopaaGreatDoor

namespace Go.Proofs.YtkicpjjfeekopaaGreatDoor
open Go.RowKit
theorem resultsCT {P : Program} {fn : Func} {p u : Tmp} {ty : TypeId} (h : fn.results = #[.cell p ty, .tmp u]) (tmps : Array Value) (w : World) (g : Nat) (t : TypeId) (cs : Array Value) (fr : Nat × Nat) (d : TypeDesc)
    (hp : tmps.getD p undef = .pointer (some ⟨g, 0, none⟩)) (hg : w.heap[g]? = some (.cells cs t fr))
    (hu : P.underlying ty = some d) (hd : (match d with | .struct _ | .array _ _ => true | _ => false) = true) (hi : (P.info? ty).map (·.size) = some cs.size) :
    (results fn tmps).run P w = .ok (.tuple #[.agg cs, tmps.getD u undef]) w := by
  have hp' : tmps[p]?.getD undef = .pointer (some ⟨g, 0, none⟩) := by simpa using hp
  simp [results, h, hp', asAddr, run_loadVar_row w g t ty cs fr d hg hu hd hi]
set_option maxHeartbeats 1000000 in
theorem on_new (T : Ctx) (w : World) (hok : T.ok) (hb : w.heap[T.bp]? = some (.cells #[T.tv, .int .i64 0, .int .i64 0, .func (.func 83) #[] #[]] 167 (0, 0))) (hrow : TokRow w T.tv T.toks) :
    Calls Tryz.prog 84 #[.pointer (some ⟨T.bp, 0, none⟩), .int .i64 0] w fun e w' => e = .returned (.tuple #[]) ∧ PS T w' 0 ∧ FrP T w w' := by
  have h0 := blkCell hb 0
  have hlen := hok.1
  have Hb := Lib.hid hb
  have Hrow := Lib.hid hrow
  clear hb
  go_enter Tryz.func84, Tryz.ntmps84
  go_wp2_with (go_at_call 113; refine (next_any _ T.toks 0 _ (Nat.zero_le _) (by omega) hrow).mono ?_; rintro e w1 ⟨rfl, hf⟩; have h1 := hf.blk Hb.out (fun h => h); have k1 := blkCell h1 1; have k2 := blkCell h1 2; have f1 := blkFree h1 1; have f2 := blkFree h1 2; have H1 := Lib.hid h1; clear h1)
  go_end0
  have hr1 : TokRow w1 T.tv T.toks := Hrow.out.move (fun k hk hl => hf.block k hl (fun h => h))
  refine ⟨rfl, ⟨hok, ?_, ?_, Nat.zero_le _⟩, ?_⟩
  · exact blkSet (blkSet H1.out 1 _) 2 _
  · refine hr1.move (fun k hk hl => ?_)
    obtain ⟨cur, hc⟩ := ownBlk hr1 hk
    have hne : k ≠ T.bp := blkNe hc H1.out (by decide)
    rw [Below.heap_setCell _ _ _ _ hne, Below.heap_setCell _ _ _ _ hne]
  · exact ((FrP.of0 hf).setCell (fun _ => rfl) _).setCell (fun _ => rfl) _
theorem nil_eq (w : World) : Sem.run Tryz.prog (binOp BinOp.eql 162 Value.nilFunc Value.nilFunc) w = .ok (.bool true) w := by kernel_rfl
def goodTok (t : Tok) : Prop := tokenK t.kind = true ∧ 1 ≤ t.width ∧ t.width ≤ 67108864
set_option maxRecDepth 100000 in
set_option maxHeartbeats 4000000 in
theorem by_any (v : Value) (l : List Tok) (w : World) (f : Nat) (r : Nat × Tree) (hl : l.length ≤ 16384) (hg : ∀ t ∈ l, goodTok t) (hk : ∀ t ∈ l, t.kind < 256) (H : TokRow w v l) (hr : fileM l f = some r) :
    Calls Tryz.prog 51 #[v, .nilFunc] w fun e w' => ∃ cs, e = .returned (.tuple #[.agg cs.toArray, .int .i64 0]) ∧ RepT w' (fun k => w.heap.size ≤ k) r.2 cs ∧ Fr (fun _ => False) w w' := by
  obtain ⟨a, c, rfl, hc⟩ := H.shape
  have HT := Lib.hid H; have HR := Lib.hid hr; have HG := Lib.hid hg; have HK := Lib.hid hk
  obtain ⟨len, hln⟩ : ∃ len, len = l.length := ⟨_, rfl⟩
  rw [← hln] at hl hc
  have HL := Lib.hid hln
  clear H hr hg hk
  rw [← hln]
  clear hln
  go_enter Tryz.func51, Tryz.ntmps51
  go_wp2_with fail
  have hb4 := blkNew w (.cells #[.int .u8 0, .int .u8 0, .int .i64 0, .slice none 0 0] 27)
  have hf0 : Fr (fun _ => False) w (w.alloc (.cells #[.int .u8 0, .int .u8 0, .int .i64 0, .slice none 0 0] 27)) := (Fr.refl _ _).alloc _
  generalize (w.alloc (.cells #[.int .u8 0, .int .u8 0, .int .i64 0, .slice none 0 0] 27)) = wA at *
  go_loopw [15] (fun x wr => ∃ i : Nat, i ≤ len ∧ x = .int .i64 i ∧ Fr (fun _ => False) wA wr) (fun x _ => len - (intOf x).toNat)
  case atStart => exact ⟨0, Nat.zero_le _, rfl, Fr.refl _ _⟩
  case round =>
    obtain ⟨i, hi, rfl, hF⟩ := hrel
    by_cases hlt : i < len
    · obtain ⟨t, ht⟩ : ∃ t, l[i]? = some t := ⟨_, List.getElem?_eq_getElem (by rw [← HL.out]; exact hlt)⟩
      have hrow := HT.out.move (w' := wr) (fun k _ hl => (hf0.trans hF).block k hl (fun h => h))
      obtain ⟨g, ha, r0, r1, r2⟩ := hrow.get i t ht
      have e : a = some ⟨g, 0, none⟩ := ha
      subst e
      obtain ⟨tk, tw, tl⟩ := t
      obtain ⟨gk, g1, g2⟩ := HG.out _ (List.mem_of_getElem? ht)
      simp only at gk g1 g2 r0 r1 r2
      have hFH := Lib.hid hF
      have Hht := Lib.hid ht
      clear hrow hF ht
      go_wp2_with fail
      refine (ptoken_any _ _).mono ?_
      rintro e w_ ⟨rfl, rfl⟩
      go_wp2_with fail
      refine ⟨⟨i + 1, by omega, by go_num, hFH.out.alloc _⟩, by simp [intOf]; omega⟩
    · obtain rfl : i = len := by omega
      have hl4 := blkLt hb4
      have hne := nil_eq wr
      go_wp2_with fail
      have hbp := blkNew wr (.cells #[.slice a i c, .int .i64 0, .int .i64 0, .func (.func 83) #[] #[]] 167)
      have hf1 := (hf0.trans hF).alloc (.cells #[.slice a i c, .int .i64 0, .int .i64 0, .func (.func 83) #[] #[]] 167)
      have hb4' := blkAlloc (hF.blk hb4 (fun h => h)) (.cells #[.slice a i c, .int .i64 0, .int .i64 0, .func (.func 83) #[] #[]] 167)
      generalize wr.alloc (.cells #[.slice a i c, .int .i64 0, .int .i64 0, .func (.func 83) #[] #[]] 167) = w1 at *
      have hrow1 : TokRow w1 (.slice a i c) l := by
        have := HT.out.move (w' := w1) (fun k _ hl => hf1.block k hl (fun h => h))
        rw [← HL.out] at this
        exact this
      have hsz := hF.size
      obtain ⟨T, hT⟩ : ∃ T : Ctx, T = ⟨wr.heap.size, .slice a i c, l⟩ := ⟨_, rfl⟩
      have hok : T.ok := by
        subst hT
        exact ⟨by simp only; have := HL.out; omega, fun t ht => ⟨HK.out t ht, (HG.out t ht).2.2⟩⟩
      have hbp' : T.bp = wr.heap.size := by rw [hT]
      refine (show Calls Tryz.prog 84 #[.pointer (some ⟨wr.heap.size, 0, none⟩), .int .i64 0] w1 _ from ?_)
      rw [← hbp']
      refine (on_new T w1 hok (by subst hT; exact hbp) (by subst hT; exact hrow1)).mono ?_
      rintro e w2 ⟨rfl, hP, hfp⟩
      have hb42 := Fr.blk hfp hb4' (by omega)
      have HP := Lib.hid hP; have HFP := Lib.hid hfp; have HB4 := Lib.hid hb42; have HF1 := Lib.hid hf1
      have hR : fileM T.toks f = some r := by subst hT; exact HR.out
      have HR2 := Lib.hid hR
      clear hP hfp hb42 hf1 hbp hrow1 hb4' hF hb4 hf0 hok hR hT
      go_wp2_with fail
      rw [← hbp']
      refine (file_any T f w2 r HP.out HR2.out).mono ?_
      rintro e w3 ⟨cs, rfl, ht, hp, hfp3⟩
      obtain ⟨k0, k1, k2, aa, m, c', rfl⟩ := ht.form
      have hb43 := Fr.blk hfp3 HB4.out (by omega)
      have d0 := blkCell hb43 0; have d1 := blkCell hb43 1; have d2 := blkCell hb43 2; have d3 := blkCell hb43 3
      have e0 := blkFree hb43 0; have e1 := blkFree hb43 1; have e2 := blkFree hb43 2; have e3 := blkFree hb43 3
      have HT3 := Lib.hid ht; have HFP3 := Lib.hid hfp3; have HB43 := Lib.hid hb43
      clear ht hfp3 hb43 hp
      go_wp2_with fail
      have hlb := blkLt HB4.out
      have hs1 := HF1.out.size
      have hs2 := Fr.size HFP.out
      have hfall : Fr (fun _ => False) w w3 := by
        refine (HF1.out.trans' HFP.out (fun j hj e => ?_)).trans' HFP3.out (fun j hj e => ?_)
        · have : j = T.bp := e
          omega
        · have : j = T.bp := e
          omega
      obtain ⟨hW, hf4⟩ := put4 HB43.out rfl (.int .u8 k0) (.int .u8 k1) (.int .i64 k2) (.slice aa m c')
      generalize (((w3.setCell ⟨w.heap.size, 0, none⟩ (.int .u8 k0)).setCell ⟨w.heap.size, 1, none⟩ (.int .u8 k1)).setCell ⟨w.heap.size, 2, none⟩ (.int .i64 k2)).setCell ⟨w.heap.size, 3, none⟩ (.slice aa m c') = W at *
      refine bodyPost_ret (v := .tuple #[.agg #[.int .u8 k0, .int .u8 k1, .int .i64 k2, .slice aa m c'], .int .i64 0]) (resultsCT (fn := Tryz.f51) (p := 4) (u := 5) rfl _ _ w.heap.size 27 #[.int .u8 k0, .int .u8 k1, .int .i64 k2, .slice aa m c'] (0, 0) _ rfl hW Tryz.underlying27 rfl info27s) rfl ⟨_, rfl, ?_, hfall.trans' hf4 (fun j hj e => by omega)⟩
      refine RepT.mono (P := fun k => w2.heap.size ≤ k) (fun k hk _ _ => by omega) _ _ ?_
      exact HT3.out.fr hf4 (fun k hk _ e => by omega)
set_option maxRecDepth 100000 in
set_option maxHeartbeats 4000000 in
theorem pfile_any (v : Value) (l : List Tok) (w : World) (f : Nat) (r : Nat × Tree) (hl : l.length ≤ 16384) (hg : ∀ t ∈ l, goodTok t) (hk : ∀ t ∈ l, t.kind < 256) (H : TokRow w v l) (hr : fileM l f = some r) :
    Calls Tryz.prog 17 #[v] w fun e w' => ∃ cs, e = .returned (.tuple #[.agg cs.toArray, .int .i64 0]) ∧ RepT w' (fun k => w.heap.size ≤ k) r.2 cs ∧ Fr (fun _ => False) w w' := by
  obtain ⟨a, c, rfl, hc⟩ := H.shape
  have HT := Lib.hid H
  clear H
  go_enter Tryz.func17, Tryz.ntmps17
  go_wp2_with fail
  have hb4 := blkNew w (.cells #[.int .u8 0, .int .u8 0, .int .i64 0, .slice none 0 0] 27)
  have hf0 : Fr (fun _ => False) w (w.alloc (.cells #[.int .u8 0, .int .u8 0, .int .i64 0, .slice none 0 0] 27)) := (Fr.refl _ _).alloc _
  generalize (w.alloc (.cells #[.int .u8 0, .int .u8 0, .int .i64 0, .slice none 0 0] 27)) = wA at *
  refine (by_any _ l wA f r hl hg hk (HT.out.move (fun k _ hl => hf0.block k hl (fun h => h))) hr).mono ?_
  rintro e w3 ⟨cs, rfl, ht, hf3⟩
  obtain ⟨k0, k1, k2, aa, m, c', rfl⟩ := ht.form
  have hb43 := hf3.blk hb4 (fun h => h)
  have d0 := blkCell hb43 0; have d1 := blkCell hb43 1; have d2 := blkCell hb43 2; have d3 := blkCell hb43 3
  have e0 := blkFree hb43 0; have e1 := blkFree hb43 1; have e2 := blkFree hb43 2; have e3 := blkFree hb43 3
  have HT3 := Lib.hid ht; have HB43 := Lib.hid hb43
  have hl4 := blkLt hb4
  clear ht hb43
  go_wp2_with fail
  obtain ⟨hW, hf4⟩ := put4 HB43.out rfl (.int .u8 k0) (.int .u8 k1) (.int .i64 k2) (.slice aa m c')
  generalize (((w3.setCell ⟨w.heap.size, 0, none⟩ (.int .u8 k0)).setCell ⟨w.heap.size, 1, none⟩ (.int .u8 k1)).setCell ⟨w.heap.size, 2, none⟩ (.int .i64 k2)).setCell ⟨w.heap.size, 3, none⟩ (.slice aa m c') = W at *
  have hs := hf0.size
  refine bodyPost_ret (v := .tuple #[.agg #[.int .u8 k0, .int .u8 k1, .int .i64 k2, .slice aa m c'], .int .i64 0]) (resultsCT (fn := Tryz.f17) (p := 2) (u := 3) rfl _ _ w.heap.size 27 #[.int .u8 k0, .int .u8 k1, .int .i64 k2, .slice aa m c'] (0, 0) _ rfl hW Tryz.underlying27 rfl info27s) rfl ⟨_, rfl, ?_, (hf0.trans hf3).trans' hf4 (fun j hj e => by omega)⟩
  refine RepT.mono (P := fun k => wA.heap.size ≤ k) (fun k hk _ _ => by omega) _ _ ?_
  exact HT3.out.fr hf4 (fun k hk _ e => by omega)
end Go.Proofs.YtkicpjjfeekopaaGreatDoor

namespace Go.Proofs.YtkicpjjfeekopaaGreatDoor
/-- A character's class. -/
def signT : List Nat := [34, 92, 47, 42, 61, 33, 60, 62, 38, 124, 40, 41, 123, 125, 44, 59, 43, 45, 37]
def clsM (r : Nat) : Nat :=
  if r = 32 ∨ r = 9 then 1 else if r = 10 ∨ r = 13 then 2 else if r = 95 ∨ 97 ≤ r ∧ r ≤ 122 ∨ 65 ≤ r ∧ r ≤ 90 then 3 else if 48 ≤ r ∧ r ≤ 57 then 4
  else if signT.idxOf r < 19 then 5 + signT.idxOf r else 0
def heldM (st c : Nat) : Option (Option Nat) :=
  if st = 3 then (if c = 2 then some none else some (some 3))
  else if st = 4 ∨ st = 5 then (if c = 8 then some (some 5) else if c = 7 ∧ st = 5 then some (some 6) else some (some 4))
  else if st = 9 then (if c = 5 then some (some 11) else if c = 6 then some (some 10) else if c = 2 then some none else some (some 9))
  else if st = 10 then (if c = 2 then some none else some (some 9)) else none
def begunT : List Nat := [34, 1, 1, 7, 8, 9, 34, 2, 32, 12, 14, 16, 18, 20, 22, 24, 25, 26, 27, 28, 29, 30, 31, 33]
def kindT : List Nat := [0, 1, 36, 2, 4, 4, 3, 6, 7, 9, 9, 8, 26, 27, 38, 28, 29, 30, 31, 32, 5, 39, 5, 40, 20, 21, 22, 23, 24, 25, 33, 34, 35, 37, 5]
def restM (st c : Nat) : Option Nat :=
  if st = 0 then some (begunT.getD c 0) else if st = 1 ∧ (c = 1 ∨ c = 2) then some 1 else if st = 2 ∧ c = 7 then some 3 else if st = 2 ∧ c = 8 then some 4
  else if st = 7 ∧ (c = 3 ∨ c = 4) then some 7 else if st = 8 ∧ c = 4 then some 8 else if (12 ≤ st ∧ st ≤ 18 ∧ (st - 12) % 2 = 0) ∧ c = 9 then some (st + 1)
  else if st = 20 ∧ c = 13 then some 21 else if st = 22 ∧ c = 14 then some 23 else none
def goesM (st c : Nat) : Option Nat := match heldM st c with | some x => x | none => restM st c
def goI : Option Nat → Int | some n => n | none => -1
def looksM (st : Nat) : Bool := (List.range 24).any fun c => (goesM st c).isSome
/-- What the decoder says of bytes. -/
def decL (bs : List UInt8) : Nat × Nat := Lib.decodeGo ⟨bs.toArray⟩
/-- From a state on: the state that is reached, how many bytes are taken, is the first one wrong? -/
def scanM : Nat → Nat → List UInt8 → Bool → Nat × Nat × Bool
  | 0, st, _, wr => (st, 0, wr)
  | f + 1, st, bs, wr => if bs = [] then (st, 0, wr) else match goesM st (clsM (decL bs).1) with
    | none => (st, 0, wr)
    | some st' =>
      let x := scanM f st' (bs.drop (decL bs).2) (st = 0 && (decL bs).1 = 65533 && (decL bs).2 = 1)
      (x.1, (decL bs).2 + x.2.1, x.2.2)
def wordsB : List UInt8 := " let fn if else while return true false ".toUTF8.data.toList
def plainW (bs : List UInt8) : Bool := (bs.zipIdx.all fun (b, i) => clsM b.toNat = 3 || (clsM b.toNat = 4 && i ≠ 0)) && bs ≠ []
def wordM (bs : List UInt8) : Nat := if plainW bs then
    (if 0 ≤ Lib.index wordsB ([32] ++ bs ++ [32]) then (10 + (Lib.countByte (wordsB.take (Lib.index wordsB ([32] ++ bs ++ [32])).toNat) 32)) % 256 else 6) else 0
/-- The token that begins a text. -/
def tokM (bs : List UInt8) : Tok :=
  let x := scanM bs.length 0 bs false
  { kind := if x.1 = 7 then wordM (bs.take x.2.1) else kindT.getD x.1 0, width := x.2.1, look := if looksM x.1 then 1 else if x.2.2 then min 3 (bs.length - x.2.1 + 1) else 0 }
/-- A text's tokens. -/
def lexM : Nat → List UInt8 → List Tok
  | 0, _ => []
  | f + 1, bs => if bs = [] then [] else tokM bs :: lexM f (bs.drop (tokM bs).width)
end Go.Proofs.YtkicpjjfeekopaaGreatDoor
