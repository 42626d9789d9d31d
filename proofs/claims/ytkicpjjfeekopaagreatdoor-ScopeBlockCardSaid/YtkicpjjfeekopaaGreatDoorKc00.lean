/- Maps that are keyed by names, in memory. The finder of names in memory. Walks: the finder: what a name means. Walks: the finder: a declaration is noted. The finder: a declaration is noted. The finder: a declaration is let count. Walks: the finder: declarations are let count. -/
import Derived.Test.YtkicpjjfeekopaaGreatDoorKa00
import Derived.Test.YtkicpjjfeekopaaGreatDoorKs00
import Derived.Maps.OwnSet
import Derived.Maps.Views
import Derived.Test.YtkicpjjfeekopaaGreatDoorKa06
import Derived.Test.YtkicpjjfeekopaaGreatDoorKa01
import Derived.Test.YtkicpjjfeekopaaGreatDoorKa04
import Derived.Deep.RegionHeld3
set_option linter.unusedVariables false
set_option linter.unusedSimpArgs false
set_option linter.unusedSectionVars false
namespace Go.Proofs.YtkicpjjfeekopaaGreatDoor
open Go.RowKit Go.Maps
open Go.ChangeMaps Go.MapKept Go.WideShapes Go.WideMaps
open Go.WideElems (Fit rd rg pl rd_val elemAt)
theorem keyed9 : Keyed Tryz.prog 9 := string_keyed Tryz.underlying9
theorem nodup_len {α : Type} : ∀ (l L : List α), l.Pairwise (fun a b => a ≠ b) → (∀ x ∈ l, x ∈ L) → l.length ≤ L.length
  | [], _, _, _ => Nat.zero_le _
  | a :: l, L, h, hs => by
    obtain ⟨h1, h2⟩ := List.pairwise_cons.1 h
    obtain ⟨s, t, rfl⟩ := List.append_of_mem (hs a (List.mem_cons_self ..))
    have := nodup_len l (s ++ t) h2 (fun x hx => by
      have hx' := hs x (List.mem_cons_of_mem _ hx)
      simp only [List.mem_append, List.mem_cons] at hx' ⊢
      rcases hx' with h | h | h
      · exact .inl h
      · exact absurd h.symm (h1 x hx)
      · exact .inr h)
    simp only [List.length_append, List.length_cons] at this ⊢
    omega
section
variable {H : Type}
theorem ownsMap_shrink {P : Program} {k : TypeId} {R : Value → Option (DataW H × List MemPlace)} {w : World} {b n : Nat} {D : DataW H} (h : w.ownsMap P k R b n D) (K : Keyed P k) (L : List Nam) (hk : ∀ kl, has D kl = true → ∃ x ∈ L, kl = .string x) : w.ownsMap P k R b L.length D := by
  obtain ⟨es, clock, hb, F, hs, hD⟩ := h
  refine ⟨es, clock, hb, F, ?_, hD⟩
  have hap := Maps.fit_apart K F
  have h1 : (es.toList.map (rg P k R)).length ≤ L.length := by
    have := nodup_len ((es.toList.map (rg P k R)).map (·.1)) (L.map Lit.string) (by rw [List.pairwise_map]; exact hap) (by
      intro kl hkl
      obtain ⟨p, hp, rfl⟩ := List.mem_map.1 hkl
      obtain ⟨x, hx, e⟩ := hk p.1 (by
        rw [hD, has_eq, List.any_eq_true]
        refine ⟨p, (sorted_perm _).mem_iff.2 hp, ?_⟩
        obtain ⟨key, hkey⟩ := Maps.fit_keys F p hp
        exact WideAt.sameKey_self (K.key hkey))
      exact List.mem_map.2 ⟨x, hx, e.symm⟩)
    simpa using this
  simpa using h1
/-- A map keyed by names: L: where its keys come from; z: what a name that is not there reads as; g: what each name reads as. -/
structure NMap (w : World) (R : Value → Option (DataW H × List MemPlace)) (b : Nat) (L : List Nam) (z : DataW H) (g : Nam → DataW H) (D : DataW H) : Prop where
  own : w.ownsMap Tryz.prog 9 R b L.length D
  at_ : ∀ x, D.atKey (.string x) z = g x
  keys : ∀ kl, has D kl = true → ∃ x ∈ L, kl = .string x
variable {w : World} {R : Value → Option (DataW H × List MemPlace)} {b : Nat} {L : List Nam} {z : DataW H} {g : Nam → DataW H} {D : DataW H}
theorem keyOf9 (s : ByteArray) (hs : s.size ≤ maxLen) : keyOf Tryz.prog 9 (.string s) = some (.string s.data.toList) := keyOf_string_mk Tryz.underlying9 hs
theorem NMap.moreKeys (h : NMap w R b L z g D) {L' : List Nam} (hL : ∀ x ∈ L, x ∈ L') : NMap w R b L' z g D := by
  have hk : ∀ kl, has D kl = true → ∃ x ∈ L', kl = .string x := fun kl h' => by
    obtain ⟨x, hx, e⟩ := h.keys kl h'
    exact ⟨x, hL x hx, e⟩
  exact ⟨ownsMap_shrink h.own keyed9 L' hk, h.at_, hk⟩
theorem NMap.kept (h : NMap w R b L z g D) {w' : World} {row : Option Nat} (hg : w.grownBy w' row) (hne : some b ≠ row) : NMap w' R b L z g D := ⟨h.own.kept hg hne, h.at_, h.keys⟩
theorem NMap.move (h : NMap w R b L z g D) {w' : World} (hm : w'.heap[b]? = w.heap[b]?) : NMap w' R b L z g D := by
  obtain ⟨es, clock, hb, F, hs, hD⟩ := h.own
  exact ⟨⟨es, clock, hm.trans hb, F, hs, hD⟩, h.at_, h.keys⟩
theorem NMap.lt (h : NMap w R b L z g D) : b < w.heap.size := h.own.lt
theorem NMap.isMapBlk (h : NMap w R b L z g D) : ∃ es clock, w.heap[b]? = some (.map es clock) := by
  obtain ⟨es, clock, hb, _⟩ := h.own
  exact ⟨es, clock, hb⟩
/-- What a store brings about. -/
theorem NMap.stored {w2 : World} {n : Nat} {x : Nam} {d : DataW H} (h : NMap w R b L z g D) (hx : x ∈ L) (hxl : x.length ≤ maxLen) (hn : w2.ownsMap Tryz.prog 9 R b n (D.put (.string x) d)) :
    NMap w2 R b L z (updN g x d) (D.put (.string x) d) := by
  have hkey : keyOf Tryz.prog 9 (.string ⟨x.toArray⟩) = some (.string x) := keyOf9 _ (by simpa [ByteArray.size] using hxl)
  have hkl := keyed9.key hkey
  have ht := (h.own.tidy keyed9).isMap
  have hk : ∀ kl, has (D.put (.string x) d) kl = true → ∃ y ∈ L, kl = .string y := by
    intro kl hkl'
    by_cases e : kl = .string x
    · exact ⟨x, hx, e⟩
    · rw [has_put_other e] at hkl'
      exact h.keys kl hkl'
  refine ⟨ownsMap_shrink hn keyed9 L hk, ?_, hk⟩
  intro y
  unfold updN
  by_cases e : y = x
  · rw [if_pos e, e, atKey_put_same ht hkl]
  · rw [if_neg e, atKey_put_other (fun h' => e (by injection h')), h.at_]
theorem NMap.made (w : World) (R : Value → Option (DataW H × List MemPlace)) (L : List Nam) (z : DataW H) : NMap (w.alloc (.map #[] 0)) R w.heap.size L z (fun _ => z) (.map []) :=
  ⟨(World.ownsMap_made w Tryz.prog 9 R).mono (Nat.zero_le _), fun _ => rfl, fun kl h => by simp [has] at h⟩
end
/-- A reader that takes each element as it stands. -/
def heldR (v : Value) : Option (DataW Value × List MemPlace) := some (.held v, [])
/-- A map whose elements are told as they stand. -/
def VMap (w : World) (b : Nat) (L : List Nam) (z : Value) (val : Nam → Value) : Prop := ∃ D, NMap w heldR b L (.held z) (fun x => .held (val x)) D
theorem VMap.look {w : World} {b : Nat} {L : List Nam} {z : Value} {val : Nam → Value} (h : VMap w b L z val) {t e : TypeId} (ht : Tryz.prog.underlying t = some (.map 9 e)) (hz : (zeroValue e).run Tryz.prog w = .ok z w) (s : ByteArray) (hs : s.size ≤ maxLen) :
    (Instr.lookup t (.map (some b)) (.string s) false).run Tryz.prog w = .ok (val s.data.toList) w := by
  obtain ⟨D, h⟩ := h
  obtain ⟨v, ps, hrun, hv⟩ := h.own.lookup keyed9 ht hz (zd := .held z) rfl (keyOf9 s hs)
  rw [h.at_] at hv
  simp only [heldR, Option.some.injEq, Prod.mk.injEq, DataW.held.injEq] at hv
  rw [hrun, hv.1]
theorem VMap.move {w w' : World} {b : Nat} {L : List Nam} {z : Value} {val : Nam → Value} (h : VMap w b L z val) (hm : w'.heap[b]? = w.heap[b]?) : VMap w' b L z val := by
  obtain ⟨D, h⟩ := h
  exact ⟨D, h.move hm⟩
theorem VMap.moreKeys {w : World} {b : Nat} {L L' : List Nam} {z : Value} {val : Nam → Value} (h : VMap w b L z val) (hL : ∀ x ∈ L, x ∈ L') : VMap w b L' z val := by
  obtain ⟨D, h⟩ := h
  exact ⟨D, h.moreKeys hL⟩
theorem VMap.isMapBlk {w : World} {b : Nat} {L : List Nam} {z : Value} {val : Nam → Value} (h : VMap w b L z val) : ∃ es clock, w.heap[b]? = some (.map es clock) := by
  obtain ⟨D, h⟩ := h
  exact h.isMapBlk
theorem VMap.made (w : World) (L : List Nam) (z : Value) : VMap (w.alloc (.map #[] 0)) w.heap.size L z (fun _ => z) := ⟨_, NMap.made w heldR L (.held z)⟩
/-- 'm[k] = v' at the operation. -/
theorem wpList_put_V {P : Program} (hP : P = Tryz.prog) (w : World) {ops : Array Oper} {rest : List Oper} {o : Oper} {a : Act} {Q : Exit → Act → World → Prop}
    (hg : o.guard = none) (m x v : Operand) (t : TypeId) (hop : o.op = Op.mapUpdate t m x v) (e : TypeId) (ht : Tryz.prog.underlying t = some (.map 9 e)) (b : Nat) (L : List Nam) (z : Value) (val : Nam → Value)
    (hm : a.eval m = .map (some b)) (h : VMap w b L z val) (hL : L.length < maxLen) (s : ByteArray) (hs : s.size ≤ maxLen) (hx : a.eval x = .string s) (hin : s.data.toList ∈ L) (u : Value) (hv : a.eval v = u)
    (hK : ∀ w', VMap w' b L z (updN val s.data.toList u) → w.grownBy w' (some b) → wpList P ops Q rest (a.put o.dst undef) w') :
    wpList P ops Q (o :: rest) a w := by
  subst hP
  obtain ⟨D, h⟩ := h
  refine wpList_mapUpdate_own w hg m x v t hop 9 e keyed9 ht heldR b L.length D hm h.own hL (.string s) u (.string s.data.toList) hx hv (keyOf9 s hs) (.held u) [] rfl ?_
  intro w' hown hgr
  have := h.stored hin (by rw [Array.length_toList]; exact hs) hown
  have e : updN (fun x => DataW.held (val x)) s.data.toList (.held u) = fun x => .held (updN val s.data.toList u x) := by
    funext y
    unfold updN
    split <;> rfl
  rw [e] at this
  exact hK w' ⟨_, this⟩ hgr
end Go.Proofs.YtkicpjjfeekopaaGreatDoor

namespace Go.Proofs.YtkicpjjfeekopaaGreatDoor
open Go.RowKit
def dCells (d : Dcl) : List Value := [.int .i64 d.frm, .int .i64 d.to, .int .u8 d.kind, .bool d.again]
def declCells : List Dcl → List Value
  | [] => []
  | d :: ds => dCells d ++ declCells ds
def dfnI : Option Nat → Int
  | none => -1
  | some k => k
def bCells (b : Bnd) : List Value := [.int .i64 b.frm, .int .i64 b.to, .int .i64 (dfnI b.dfn)]
def bindCells : List Bnd → List Value
  | [] => []
  | b :: bs => bCells b ++ bindCells bs
def strV (x : Nam) : Value := .string ⟨x.toArray⟩
def intV (k : Nat) : Value := .int .i64 k
def nilV : Value := .slice none 0 0
theorem declCells_append (a b : List Dcl) : declCells (a ++ b) = declCells a ++ declCells b := by
  induction a with
  | nil => rfl
  | cons x a ih => simp [declCells, ih]
theorem bindCells_append (a b : List Bnd) : bindCells (a ++ b) = bindCells a ++ bindCells b := by
  induction a with
  | nil => rfl
  | cons x a ih => simp [bindCells, ih]
theorem declCells_get : ∀ (l : List Dcl) (i : Nat) (d : Dcl), l[i]? = some d → ∀ j, j < 4 → (declCells l)[i * 4 + j]? = (dCells d)[j]?
  | [], _, _, h, _, _ => by simp at h
  | x :: l, 0, d, h, j, hj => by
    simp at h; subst h
    simp only [declCells, Nat.zero_mul, Nat.zero_add]
    rw [List.getElem?_append_left (by simp [dCells]; omega)]
  | x :: l, i + 1, d, h, j, hj => by
    simp only [declCells]
    rw [List.getElem?_append_right (by simp [dCells]; omega)]
    have : (i + 1) * 4 + j - (dCells x).length = i * 4 + j := by simp [dCells]; omega
    rw [this]
    exact declCells_get l i d (by simpa using h) j hj
theorem bindCells_get : ∀ (l : List Bnd) (i : Nat) (d : Bnd), l[i]? = some d → ∀ j, j < 3 → (bindCells l)[i * 3 + j]? = (bCells d)[j]?
  | [], _, _, h, _, _ => by simp at h
  | x :: l, 0, d, h, j, hj => by
    simp at h; subst h
    simp only [bindCells, Nat.zero_mul, Nat.zero_add]
    rw [List.getElem?_append_left (by simp [bCells]; omega)]
  | x :: l, i + 1, d, h, j, hj => by
    simp only [bindCells]
    rw [List.getElem?_append_right (by simp [bCells]; omega)]
    have : (i + 1) * 3 + j - (bCells x).length = i * 3 + j := by simp [bCells]; omega
    rw [this]
    exact bindCells_get l i d (by simpa using h) j hj
/-- The bytes between two places. -/
def nmT (bs : List UInt8) (a b : Nat) : Nam := (bs.drop a).take (b - a)
/-- The names of declarations. -/
def dNames (bs : List UInt8) (ds : List Dcl) : List Nam := ds.map (nmD (nmT bs))
/-- What a finder stands over. -/
structure FC where
  fb : Nat
  kb : Nat
  bs : List UInt8
  stop : Int
/-- The finder in memory. hb: the homes of the layer that is open last; rc: the cells of the layers below; F: its blocks. -/
structure FRep (C : FC) (hb : Nat) (rc : List Value) (F : Nat → Prop) (w : World) (s : FS) (vD vB vL vS vN : Value) (val : Nam → Value) (l : Lay) (r : List Lay) : Prop where
  blk : w.heap[C.fb]? = some (.cells #[.string ⟨C.bs.toArray⟩, vD, vB, .map (some C.kb), vL, .int .i64 C.stop, vS] 119 (0, 0))
  D : w.ownsRow 0 43 4 vD s.decls.length (declCells s.decls)
  B : w.ownsRow 0 45 3 vB s.binds.length (bindCells s.binds)
  L : w.ownsRow 0 206 2 vL s.layers.length (rc ++ [vN, .map (some hb)])
  S : w.ownsRow 0 43 4 vS s.shown.length (declCells s.shown)
  lay : s.layers = l :: r
  N : w.ownsRow 0 9 1 vN l.names.length (l.names.map strV)
  H : VMap w hb (dNames C.bs s.decls) (.int .i64 0) (fun x => intV (l.homes x))
  K : VMap w C.kb (dNames C.bs s.decls) nilV val
  R : ∀ x, w.ownsRow 0 3 1 (val x) (s.known x).length ((s.known x).map intV)
  sepK : ∀ x y, x ≠ y → (val x).ownBlock = none ∨ (val x).ownBlock ≠ (val y).ownBlock
  sepD : vD.ownBlock = none ∨ vD.ownBlock ≠ vS.ownBlock
  sepM : C.kb ≠ hb
  fK : ∀ x k, (val x).ownBlock = some k → F k
  fV : ∀ k, vD.ownBlock = some k ∨ vB.ownBlock = some k ∨ vL.ownBlock = some k ∨ vS.ownBlock = some k ∨ vN.ownBlock = some k → F k
  f0 : F C.fb ∧ F C.kb ∧ F hb
  lt : ∀ k, F k → k < w.heap.size
  no27 : ∀ k, F k → ∀ cs fr, w.heap[k]? ≠ some (.cells cs 27 fr)
def FRE (C : FC) (hb : Nat) (rc : List Value) (F : Nat → Prop) (w : World) (s : FS) : Prop := ∃ vD vB vL vS vN val l r, FRep C hb rc F w s vD vB vL vS vN val l r
/-- What a call may turn: the blocks of F; what is then the finder's was so, or is new. -/
structure FrF (F F' : Nat → Prop) (w w' : World) : Prop where
  fr : Fr F w w'
  ext : ∀ k, F' k → F k ∨ w.heap.size ≤ k
theorem FrF.refl (F : Nat → Prop) (w : World) : FrF F F w w := ⟨Fr.refl _ _, fun _ h => .inl h⟩
theorem FrF.trans {F F1 F2 : Nat → Prop} {a b c : World} (h : FrF F F1 a b) (k : FrF F1 F2 b c) : FrF F F2 a c := by
  refine ⟨h.fr.trans' k.fr (fun i hi hs => ?_), fun i hi => ?_⟩
  · rcases h.ext i hs with h' | h'
    · exact h'
    · omega
  · rcases k.ext i hi with h' | h'
    · exact h.ext i h'
    · exact .inr (Nat.le_trans h.fr.size h')
theorem FrF.of0 {F : Nat → Prop} {w w' : World} (h : Fr (fun _ => False) w w') : FrF F F w w' := ⟨h.mono (fun _ _ h => h.elim), fun _ h => .inl h⟩
theorem FrF.size {F F' : Nat → Prop} {w w' : World} (h : FrF F F' w w') : w.heap.size ≤ w'.heap.size := h.fr.size
section
variable {C : FC} {hb : Nat} {rc : List Value} {F : Nat → Prop} {w w' : World} {s : FS} {vD vB vL vS vN : Value} {val : Nam → Value} {l : Lay} {r : List Lay}
theorem FRep.move (h : FRep C hb rc F w s vD vB vL vS vN val l r) (hm : ∀ k, F k → w'.heap[k]? = w.heap[k]?) (hs : w.heap.size ≤ w'.heap.size) : FRep C hb rc F w' s vD vB vL vS vN val l r where
  blk := (hm _ h.f0.1).trans h.blk
  D := ownMove h.D (fun k hk _ => hm k (h.fV k (.inl hk)))
  B := ownMove h.B (fun k hk _ => hm k (h.fV k (.inr (.inl hk))))
  L := ownMove h.L (fun k hk _ => hm k (h.fV k (.inr (.inr (.inl hk)))))
  S := ownMove h.S (fun k hk _ => hm k (h.fV k (.inr (.inr (.inr (.inl hk))))))
  lay := h.lay
  N := ownMove h.N (fun k hk _ => hm k (h.fV k (.inr (.inr (.inr (.inr hk))))))
  H := h.H.move (hm _ h.f0.2.2)
  K := h.K.move (hm _ h.f0.2.1)
  R := fun x => ownMove (h.R x) (fun k hk _ => hm k (h.fK x k hk))
  sepK := h.sepK
  sepD := h.sepD
  sepM := h.sepM
  fK := h.fK
  fV := h.fV
  f0 := h.f0
  lt := fun k hk => Nat.lt_of_lt_of_le (h.lt k hk) hs
  no27 := fun k hk cs fr => by rw [hm k hk]; exact h.no27 k hk cs fr
theorem FRep.fr0 (h : FRep C hb rc F w s vD vB vL vS vN val l r) (hf : Fr (fun _ => False) w w') : FRep C hb rc F w' s vD vB vL vS vN val l r :=
  h.move (fun k hk => hf.block k (h.lt k hk) (fun h => h)) hf.size
/-- A tree is no part of the finder. -/
theorem FRep.tree (h : FRep C hb rc F w s vD vB vL vS vN val l r) {F' : Nat → Prop} (hf : FrF F F' w w') {P : Nat → Prop} {t : Tree} {cs : List Value} (ht : RepT w P t cs) : RepT w' P t cs := by
  refine RepT.mono (P := fun k => P k ∧ ¬ F k) (fun k hk _ _ => hk.1) _ _ ?_
  refine RepT.fr (S := F) (RepT.mono (fun k hk _ hc => ⟨hk, fun hF => ?_⟩) _ _ ht) hf.fr (fun k hk _ => hk.2)
  obtain ⟨cur, hcur⟩ := hc
  exact h.no27 k hF _ _ hcur
theorem FRep.trees (h : FRep C hb rc F w s vD vB vL vS vN val l r) {F' : Nat → Prop} (hf : FrF F F' w w') {P : Nat → Prop} {t : List Tree} {cs : List Value} (ht : RepL w P t cs) : RepL w' P t cs := by
  refine RepL.mono (P := fun k => P k ∧ ¬ F k) (fun k hk _ _ => hk.1) _ _ ?_
  refine RepL.fr (S := F) (RepL.mono (fun k hk _ hc => ⟨hk, fun hF => ?_⟩) _ _ ht) hf.fr (fun k hk _ => hk.2)
  obtain ⟨cur, hcur⟩ := hc
  exact h.no27 k hF _ _ hcur
/-- What distinguishes the blocks. -/
theorem FRep.neD (h : FRep C hb rc F w s vD vB vL vS vN val l r) {k : Nat} {cs : Array Value} {t : TypeId} {fr : Nat × Nat} (hk : w.heap[k]? = some (.cells cs t fr)) (ht : t ≠ 43) : vD.ownBlock ≠ some k := fun e => by
  obtain ⟨cur, hc⟩ := ownBlk h.D e
  exact blkNe hc hk (fun e => ht e.symm) rfl
end
theorem rowNe {w : World} {b1 b2 e1 e2 s1 s2 n1 n2 : Nat} {v1 v2 : Value} {x1 x2 : List Value} (h1 : w.ownsRow b1 e1 s1 v1 n1 x1) (h2 : w.ownsRow b2 e2 s2 v2 n2 x2) (hne : e1 ≠ e2) {k : Nat} (hk : v1.ownBlock = some k) : v2.ownBlock ≠ some k := fun e => by
  obtain ⟨c1, hc1⟩ := ownBlk h1 hk
  obtain ⟨c2, hc2⟩ := ownBlk h2 e
  exact blkNe hc1 hc2 hne rfl
theorem rowNeBlk {w : World} {b1 e1 s1 n1 : Nat} {v1 : Value} {x1 : List Value} (h1 : w.ownsRow b1 e1 s1 v1 n1 x1) {k : Nat} {cs : Array Value} {t : TypeId} {fr : Nat × Nat} (hk : w.heap[k]? = some (.cells cs t fr)) (ht : e1 ≠ t) : v1.ownBlock ≠ some k := fun e => by
  obtain ⟨c1, hc1⟩ := ownBlk h1 e
  exact blkNe hc1 hk ht rfl
theorem rowNeMap {w : World} {b1 e1 s1 n1 : Nat} {v1 : Value} {x1 : List Value} (h1 : w.ownsRow b1 e1 s1 v1 n1 x1) {k : Nat} (hk : ∃ es clock, w.heap[k]? = some (.map es clock)) : v1.ownBlock ≠ some k := fun e => by
  obtain ⟨c1, hc1⟩ := ownBlk h1 e
  obtain ⟨es, clock, hm⟩ := hk
  rw [hc1] at hm
  cases hm
theorem blkNeMap {w : World} {b k : Nat} {cs : Array Value} {t : TypeId} {fr : Nat × Nat} (h1 : w.heap[b]? = some (.cells cs t fr)) (hk : ∃ es clock, w.heap[k]? = some (.map es clock)) : b ≠ k := fun e => by
  obtain ⟨es, clock, hm⟩ := hk
  subst e
  rw [h1] at hm
  cases hm
end Go.Proofs.YtkicpjjfeekopaaGreatDoor

namespace Go.Proofs.YtkicpjjfeekopaaGreatDoor
open Go.RowKit
theorem zero53 (w : World) : (zeroValue 53).run Tryz.prog w = .ok nilV w := by kernel_rfl
theorem zero3 (w : World) : (zeroValue 3).run Tryz.prog w = .ok (.int .i64 0) w := by kernel_rfl
set_option maxHeartbeats 1000000 in
theorem means_any {C : FC} {hb : Nat} {rc : List Value} {F : Nat → Prop} {w : World} {s : FS} {vD vB vL vS vN : Value} {val : Nam → Value} {l : Lay} {r : List Lay}
    (h : FRep C hb rc F w s vD vB vL vS vN val l r) (x : ByteArray) (hx : x.size ≤ maxLen) (hl : (s.known x.data.toList).length ≤ 1099511627776) :
    Calls Tryz.prog 119 #[.pointer (some ⟨C.fb, 0, none⟩), .string x] w fun e w' => e = .returned (.int .i64 (dfnI (meansS s x.data.toList))) ∧ w = w' := by
  have c3 := blkCell h.blk 3
  have hlook := h.K.look Tryz.underlying116 (zero53 w) x hx
  have hrow := h.R x.data.toList
  obtain ⟨a, c, hv, hnc, _⟩ := ownShape hrow
  rw [hv] at hlook
  obtain ⟨n, hn⟩ : ∃ n, n = (s.known x.data.toList).length := ⟨_, rfl⟩
  rw [← hn] at hlook hl hnc
  by_cases h0 : n = 0
  · subst h0
    have hm : meansS s x.data.toList = none := by unfold meansS; rw [List.getLast?_eq_none_iff]; exact List.length_eq_zero_iff.1 hn.symm
    rw [hm]
    clear hm hn hv hrow h hx
    go_enter Tryz.func119, Tryz.ntmps119
    go_wp2_with fail
    go_ret
    exact ⟨rfl, rfl⟩
  · have hlt : n - 1 < (s.known x.data.toList).length := by omega
    have hm : meansS s x.data.toList = some ((s.known x.data.toList)[n - 1]) := by
      unfold meansS
      rw [List.getLast?_eq_getElem?, ← hn, List.getElem?_eq_getElem hlt]
    obtain ⟨k, hk⟩ : ∃ k, k = (s.known x.data.toList)[n - 1] := ⟨_, rfl⟩
    rw [← hk] at hm
    rw [hm]
    obtain ⟨g, c', hv', _, hc⟩ := ownAt hrow (n - 1) (by simp; omega)
    rw [hv] at hv'
    injection hv' with e1 _ _
    subst e1
    rw [List.getElem?_map, List.getElem?_eq_getElem hlt, ← hk] at hc
    obtain ⟨m, rfl⟩ : ∃ m, n = m + 1 := ⟨n - 1, by omega⟩
    have hc' : w.cell? ⟨g, m, none⟩ = some (.int .i64 k) := hc
    have hz : ((m : Int) + 1 == 0) = false := by simp; omega
    clear hm hn hv hrow h hx hk hc hlt h0
    go_enter Tryz.func119, Tryz.ntmps119
    go_wp2_with fail
    go_ret
    exact ⟨rfl, rfl⟩
end Go.Proofs.YtkicpjjfeekopaaGreatDoor

namespace Go.Proofs.YtkicpjjfeekopaaGreatDoor
open Go.RowKit
theorem info43 : (Tryz.prog.info? 43).map (fun i => (i.zero, i.size, i.bytes)) = some (some (.agg #[.int .i64 0, .int .i64 0, .int .u8 0, .bool false]), 4, 24) := by kernel_rfl
/-- A row that a field of a block held, one element longer; the field stored anew. -/
structure Grew (fb j : Nat) (vD : Value) (e size n : Nat) (xs new : List Value) (o : Array Value) (t : TypeId) (w wx : World) (v' : Value) : Prop where
  blk : wx.heap[fb]? = some (.cells (o.setIfInBounds j v') t (0, 0))
  own : wx.ownsRow 0 e size v' (n + 1) (xs ++ new)
  fr : Fr (fun k => k = fb ∨ vD.ownBlock = some k) w wx
  loc : ∃ g, v'.ownBlock = some g ∧ (vD.ownBlock = some g ∨ w.heap.size ≤ g) ∧ g < wx.heap.size
  shape : ∃ g cap, v' = .slice (some ⟨g, 0, none⟩) (n + 1) cap ∧ n + 1 ≤ cap
theorem Grew.mk' {fb j : Nat} {vD : Value} {e size n : Nat} {xs new : List Value} {o : Array Value} {t : TypeId} {w X w2 W : World} {g cap : Nat} {a : Option Addr} {m c : Nat} (hb : w.heap[fb]? = some (.cells o t (0, 0))) (hD : w.ownsRow 0 e size vD n xs) (het : e ≠ t) (hv : vD = .slice a m c)
    (hX : Fr (fun _ => False) w X) (hO : w2.ownsRow 0 e size (.slice (some ⟨g, 0, none⟩) (n + 1) cap) (n + 1) (xs ++ new)) (hG : X.grownBy w2 (Value.slice a m c).ownBlock) (hat : (Value.slice a m c).ownBlock = some g ∨ g = X.heap.size) (hlt : g < w2.heap.size)
    (hW : W = w2.setCell ⟨fb, j, none⟩ (.slice (some ⟨g, 0, none⟩) (n + 1) cap)) : ∃ v', Grew fb j vD e size n xs new o t w W v' := by
  rw [← hv] at hG hat
  have hne : vD.ownBlock ≠ some fb := rowNeBlk hD hb het
  have hb2 : w2.heap[fb]? = some (.cells o t (0, 0)) := grownBlk hG (hX.blk hb (fun h => h)) (fun h => hne h.symm)
  have hgf : g ≠ fb := blkNe (ownBlk (k := g) hO rfl).choose_spec hb2 het
  have hloc : vD.ownBlock = some g ∨ w.heap.size ≤ g := by
    rcases hat with h | h
    · exact .inl h
    · have := hX.size; exact .inr (by omega)
  subst hW
  refine ⟨_, blkSet hb2 j _, ownMove hO (fun k hk _ => Below.heap_setCell _ _ _ _ (by
    have : g = k := by simpa [Value.ownBlock] using hk
    subst this; exact hgf)), ?_, ⟨g, rfl, hloc, by simpa using hlt⟩, ⟨g, cap, rfl, ?_⟩⟩
  · refine ⟨?_, ?_, ?_, ?_, ?_⟩
    · rw [setCell_os, hG.os, hX.os]
    · rw [setCell_tape, hG.tape, hX.tape]
    · rw [setCell_output, hG.output, hX.output]
    · have h1 := hX.size; have h2 := hG.size; simp; omega
    · intro k hk hn
      have h1 : k ≠ fb := fun e => hn (.inl e)
      have h2 : vD.ownBlock ≠ some k := fun e => hn (.inr e)
      rw [Below.heap_setCell _ _ _ _ h1, hG.block k (Nat.lt_of_lt_of_le hk hX.size) (fun e => h2 e.symm), hX.block k hk (fun h => h)]
  · obtain ⟨a', c', h1, h2, _⟩ := ownShape hO
    injection h1 with _ _ h1
    subst h1
    exact h2
def DRel (fb : Nat) (vD : Value) (n : Nat) (xs new : List Value) (o : Array Value) (w wx : World) : Prop := ∃ v', Grew fb 1 vD 43 4 n xs new o 119 w wx v'
structure DPost (fb ab : Nat) (bs : List UInt8) (vD vB vL vS : Value) (kb : Nat) (stop : Int) (decls : List Dcl) (L : List Nam) (g : Nam → Nat) (frm en kind : Nat) (w w' : World) (v' : Value) : Prop where
  blk : w'.heap[fb]? = some (.cells #[.string ⟨bs.toArray⟩, v', vB, .map (some kb), vL, .int .i64 stop, vS] 119 (0, 0))
  own : w'.ownsRow 0 43 4 v' (decls.length + 1) (declCells (decls ++ [⟨frm, en, kind, decide (0 < g (nmT bs frm en))⟩]))
  A : VMap w' ab L (.int .i64 0) (fun x => intV (bumpH (nmT bs) frm en g x))
  fr : Fr (fun k => k = fb ∨ vD.ownBlock = some k ∨ k = ab) w w'
  loc : ∃ g, v'.ownBlock = some g ∧ (vD.ownBlock = some g ∨ w.heap.size ≤ g) ∧ g < w'.heap.size
theorem DPost.of {fb ab : Nat} {bs : List UInt8} {vD vB vL vS : Value} {kb : Nat} {stop : Int} {decls : List Dcl} {L : List Nam} {g : Nam → Nat} {frm en kind n gx : Nat} {w w1 wc w3 : World} {v' : Value} {o : Array Value} {x : ByteArray} {bq : Bool}
    (hb : w.heap[fb]? = some (.cells #[.string ⟨bs.toArray⟩, vD, vB, .map (some kb), vL, .int .i64 stop, vS] 119 (0, 0))) (hA : VMap w ab L (.int .i64 0) (fun x => intV (g x))) (hq : Fr (fun _ => False) w w1)
    (hA2 : VMap wc ab L (.int .i64 0) (fun x => intV (g x))) (hG : Grew fb 1 vD 43 4 n (declCells decls) [.int .i64 frm, .int .i64 en, .int .u8 kind, .bool bq] o 119 w1 wc v') (hA3 : VMap w3 ab L (.int .i64 0) (updN (fun x => intV (g x)) x.data.toList (.int .i64 ((gx : Int) + 1)))) (hg3 : wc.grownBy w3 (some ab))
    (hb3 : w3.heap[fb]? = some (.cells #[.string ⟨bs.toArray⟩, v', vB, .map (some kb), vL, .int .i64 stop, vS] 119 (0, 0))) (hx : x.data.toList = nmT bs frm en) (hgx : gx = g (nmT bs frm en)) (hbq : bq = decide (0 < gx)) (hn : n = decls.length) :
    DPost fb ab bs vD vB vL vS kb stop decls L g frm en kind w w3 v' := by
  subst hn
  subst hbq
  obtain ⟨g', hg', hloc, hlt⟩ := hG.loc
  have hne : v'.ownBlock ≠ some ab := rowNeMap hG.own hA2.isMapBlk
  have hs := hq.size
  refine ⟨hb3, ?_, ?_, ?_, ⟨g', hg', ?_, Nat.lt_of_lt_of_le hlt hg3.size⟩⟩
  · have h0 := hG.own
    rw [declCells_append, ← hgx]
    exact ownMove h0 (fun k hk hl => hg3.block k hl (fun e => hne (by rw [hk, e])))
  · have e : updN (fun x => intV (g x)) x.data.toList (.int .i64 ((gx : Int) + 1)) = fun x => intV (bumpH (nmT bs) frm en g x) := by
      funext y
      unfold bumpH updN intV
      rw [hx]
      split
      · rw [← hgx]; rfl
      · rfl
    rw [e] at hA3
    exact hA3
  · refine ((hq.mono (S' := fun k => k = fb ∨ vD.ownBlock = some k ∨ k = ab) (fun _ _ h => h.elim)).trans (hG.fr.mono (fun i _ h => ?_))).trans ((Fr.of_grown (S := fun k => k = ab) hg3 (fun k e => by injection e with e; exact e.symm)).mono (fun i _ h => .inr (.inr h)))
    rcases h with h | h
    · exact .inl h
    · exact .inr (.inl h)
  · rcases hloc with h | h
    · exact .inl h
    · exact .inr (Nat.le_trans hs h)
set_option maxRecDepth 100000 in
set_option maxHeartbeats 4000000 in
theorem declare_walk (w : World) (fb ab : Nat) (bs : List UInt8) (vD vB vL vS : Value) (kb : Nat) (stop : Int) (decls : List Dcl) (L : List Nam) (val : Nam → Value) (g : Nam → Nat) (frm en kind : Nat)
    (hblk : w.heap[fb]? = some (.cells #[.string ⟨bs.toArray⟩, vD, vB, .map (some kb), vL, .int .i64 stop, vS] 119 (0, 0)))
    (hD : w.ownsRow 0 43 4 vD decls.length (declCells decls)) (hA : VMap w ab L (.int .i64 0) (fun x => intV (g x))) (hft : frm ≤ en) (hto : en ≤ bs.length) (hbs : bs.length < 100000) (hlen : decls.length ≤ 1099511627776) (hLL : L.length ≤ 1099511627776)
    (hin : nmT bs frm en ∈ L) (hg : g (nmT bs frm en) ≤ 1099511627776) :
    Calls Tryz.prog 120 #[.pointer (some ⟨fb, 0, none⟩), .agg #[.int .i64 frm, .int .i64 en], .int .u8 kind, .map (some ab)] w fun e w' => e = .returned (.int .i64 decls.length) ∧ ∃ v', DPost fb ab bs vD vB vL vS kb stop decls L g frm en kind w w' v' := by
  obtain ⟨a, c, hv, hnc, _⟩ := ownShape hD
  obtain ⟨n, hn⟩ : ∃ n, n = decls.length := ⟨_, rfl⟩
  have c0 := blkCell hblk 0
  have c1 := blkCell hblk 1
  have hlb := blkLt hblk
  rw [hv] at c1
  rw [← hn] at c1 hlen hnc ⊢
  have HD := Lib.hid hD; have HV := Lib.hid hv; have HN := Lib.hid hn; have HA := Lib.hid hA; have HB := Lib.hid hblk; have HIN := Lib.hid hin; have HG := Lib.hid hg
  clear hD hv hn hA hblk hin hg
  have hsz : (⟨bs.toArray⟩ : ByteArray).size = bs.length := by simp [ByteArray.size]
  obtain ⟨txt, htxt⟩ : ∃ txt : ByteArray, txt = ⟨bs.toArray⟩ := ⟨_, rfl⟩
  rw [← htxt] at c0 hsz
  have HT := Lib.hid htxt
  have h1 : frm ≤ en := hft
  have h2 : (en : Int) ≤ (txt.size : Int) := by omega
  have HSZ := Lib.hid hsz
  clear htxt hsz hto
  go_enter Tryz.func120, Tryz.ntmps120
  go_wp2_with fail
  go_quiet (fail)
  go_wp2_with fail
  obtain ⟨i0, hi, hz0, hz1, hz2⟩ := info_parts info43
  have hext : txt.extract frm en = ⟨(nmT bs frm en).toArray⟩ := by rw [HT.out]; exact ext_take bs frm en (by have := HSZ.out; omega)
  obtain ⟨x, hx⟩ : ∃ x : ByteArray, x = txt.extract frm en := ⟨_, rfl⟩
  rw [← hx] at hext ⊢
  have hxl : x.data.toList = nmT bs frm en := by rw [hext]
  have hxs : x.size ≤ maxLen := by
    have : x.data.toList.length ≤ bs.length := by rw [hxl]; unfold nmT; rw [List.length_take, List.length_drop]; omega
    have e : x.size = x.data.toList.length := (Array.length_toList).symm
    unfold maxLen; omega
  have hq : Fr (fun _ => False) w ((w.alloc (.cells #[.int .i64 frm, .int .i64 en] 41)).drewN nq) := ((Fr.refl _ _).alloc _).drewN _
  have hbx : ((w.alloc (.cells #[.int .i64 frm, .int .i64 en] 41)).drewN nq).heap[w.heap.size]? = some (.cells #[.int .i64 frm, .int .i64 en] 41 (0, 0)) := blkNew w _
  generalize ((w.alloc (.cells #[.int .i64 frm, .int .i64 en] 41)).drewN nq) = w1 at *
  have hb1 := hq.blk HB.out (fun h => h)
  have hA1 : VMap w1 ab L (.int .i64 0) (fun x => intV (g x)) := HA.out.move (hq.block _ (by obtain ⟨es, ck, h⟩ := HA.out.isMapBlk; exact blkLt h) (fun h => h))
  have hA1' : VMap w1.drew ab L (.int .i64 0) (fun x => intV (g x)) := hA1.move rfl
  have hD1 : w1.ownsRow 0 43 4 vD decls.length (declCells decls) := ownMove HD.out (fun k _ hl => hq.block k hl (fun h => h))
  obtain ⟨gx, hgx⟩ : ∃ gx, gx = g (nmT bs frm en) := ⟨_, rfl⟩
  have hl1 := hA1.look Tryz.underlying136 (zero3 w1) x hxs
  have hl2 := hA1'.look Tryz.underlying136 (zero3 w1.drew) x hxs
  rw [hxl] at hl1 hl2
  simp only [intV, ← hgx] at hl1 hl2
  obtain ⟨bq, hbq⟩ : ∃ bq : Bool, decide (0 < gx) = bq := ⟨_, rfl⟩
  have d0 := blkCell hb1 0; have d1 := blkCell hb1 1; have x0 := blkCell hbx 0; have x1 := blkCell hbx 1
  rw [HV.out, ← HN.out] at d1
  have lb1 := blkLt hb1
  have lbx := blkLt hbx
  have HX := Lib.hid hx; have HXT := Lib.hid hext; have HXL := Lib.hid hxl; have HXS := Lib.hid hxs; have HQ := Lib.hid hq; have HBX := Lib.hid hbx; have HB1 := Lib.hid hb1; have HA1 := Lib.hid hA1; have HD1 := Lib.hid hD1; have HGX := Lib.hid hgx
  clear hx hext hxl hxs hq hbx hb1 hA1 hA1' hD1 hgx c0 c1
  go_upto_region 2 with (fail)
  go_cut [] (fun wx => DRel fb vD n (declCells decls) [.int .i64 frm, .int .i64 en, .int .u8 kind, .bool bq] #[.string txt, vD, vB, .map (some kb), vL, .int .i64 stop, vS] w1 wx)
  case first =>
    go_region_law ((refine step_append_lies _ (by rfl) (.tmp 24) (.tmp 32) 34 (by rfl) 0 43 i0 (.agg #[.int .i64 0, .int .i64 0, .int .u8 0, .bool false]) 4 24 Tryz.underlying34 hi hz0 hz1 hz2 rfl (by decide) (.slice a n c) n (declCells decls) (by simp [Act.eval, Act.put]) (by rw [HN.out, ← HV.out]; exact (HD1.out.alloc _).drew) _ 1 1 [.int .i64 frm, .int .i64 en, .int .u8 kind, .bool bq] (by simp [Act.eval, Act.put]; rfl) rfl (by exact cells4 (blkNew w1 _)) (by intro u hu; simp at hu; rcases hu with rfl | rfl | rfl | rfl <;> rfl) (by decide) (by unfold maxLen; omega) (by omega) (Nat.zero_le _) _ rfl ?_; intro gq cap w2 hown hgr hat hlt; have hb2 := grownBlk hgr (blkAlloc HB1.out _) (by rw [HN.out, ← HV.out]; exact fun e => rowNeBlk HD1.out HB1.out (by decide) e.symm); have m0 := blkCell hb2 1; have m1 := blkFree hb2 1; have m2 := blkLt hb2; have HG2 := Lib.hid hgr; have HO2 := Lib.hid hown; have HAT2 := Lib.hid hat; have HLT2 := Lib.hid hlt; clear hgr hown hat hb2 hlt))
    all_goals go_wp2_with fail
    all_goals go_meet
    all_goals exact Grew.mk' (by rw [HT.out]; exact HB1.out) (by rw [HN.out]; exact HD1.out) (by decide) (by rw [HN.out]; exact HV.out) (((Fr.refl (fun _ => False) w1).alloc _).drew) HO2.out HG2.out HAT2.out HLT2.out rfl
  case rest =>
  obtain ⟨v', hGr⟩ := hcut
  obtain ⟨gq, cap, rfl, hcap⟩ := hGr.shape
  have e1 := blkCell hGr.blk 1
  have hAne : ab ≠ fb := (blkNeMap HB1.out HA1.out.isMapBlk).symm
  have hAr : vD.ownBlock ≠ some ab := rowNeMap HD1.out HA1.out.isMapBlk
  have hA2 : VMap wc ab L (.int .i64 0) (fun x => intV (g x)) := HA1.out.move (hGr.fr.block _ (by obtain ⟨es, ck, h⟩ := HA1.out.isMapBlk; exact blkLt h) (by rintro (e | e); exact hAne e; exact hAr e))
  have hl3 := hA2.look Tryz.underlying136 (zero3 wc) x HXS.out
  rw [HXL.out] at hl3
  simp only [intV, ← HGX.out] at hl3
  have hgb : gx ≤ 1099511627776 := by rw [HGX.out]; exact HG.out
  have HGr := Lib.hid hGr; have HA2 := Lib.hid hA2
  clear hGr hA2 hl1 hl2 hAne hAr
  go_wp2_with (at_mapUpdate; refine wpList_put_V rfl _ rfl _ _ _ 136 rfl 3 Tryz.underlying136 ab L (.int .i64 0) (fun x => intV (g x)) rfl HA2.out (by unfold maxLen; omega) x HXS.out rfl (by rw [HXL.out]; exact HIN.out) _ rfl ?_; intro w3 hA3 hg3; have hb3 := grownBlk hg3 HGr.out.blk (fun e => blkNeMap HGr.out.blk HA2.out.isMapBlk (by injection e)); have e3 := blkCell hb3 1; have HA3 := Lib.hid hA3; have HG3 := Lib.hid hg3; have HB3 := Lib.hid hb3; clear hA3 hg3 hb3)
  go_ret
  exact ⟨rfl, _, DPost.of (n := n) HB.out HA.out HQ.out HA2.out HGr.out HA3.out HG3.out (by rw [← HT.out]; exact HB3.out) HXL.out HGX.out hbq.symm HN.out⟩
end Go.Proofs.YtkicpjjfeekopaaGreatDoor

namespace Go.Proofs.YtkicpjjfeekopaaGreatDoor
open Go.RowKit
theorem dNames_append (bs : List UInt8) (a b : List Dcl) : dNames bs (a ++ b) = dNames bs a ++ dNames bs b := List.map_append ..
theorem FRep.declared {C : FC} {hb : Nat} {rc : List Value} {F : Nat → Prop} {w w' : World} {s s' : FS} {vD vB vL vS vN v' : Value} {val : Nam → Value} {l l' : Lay} {r : List Lay} {ab : Nat} {L : List Nam} {g : Nam → Nat} {frm en kind : Nat}
    (h : FRep C hb rc F w s vD vB vL vS vN val l r) (hP : DPost C.fb ab C.bs vD vB vL vS C.kb C.stop s.decls L g frm en kind w w' v') (hab : ab = hb ∨ (¬ F ab ∧ ∃ es ck, w.heap[ab]? = some (.map es ck)))
    (hd : s'.decls = s.decls ++ [⟨frm, en, kind, decide (0 < g (nmT C.bs frm en))⟩]) (hb' : s'.binds = s.binds) (hk' : s'.known = s.known) (hl' : s'.layers = l' :: r) (hs' : s'.shown = s.shown) (hnm : l'.names = l.names)
    (hH : VMap w' hb (dNames C.bs s'.decls) (.int .i64 0) (fun x => intV (l'.homes x))) :
    ∃ F', FRep C hb rc F' w' s' v' vB vL vS vN val l' r ∧ FrF (fun k => F k ∨ k = ab) F' w w' ∧ (∀ k, F' k → F k ∨ v'.ownBlock = some k) := by
  obtain ⟨gq, hgq, hloc, hlt⟩ := hP.loc
  have habm : ∃ es ck, w.heap[ab]? = some (.map es ck) := by
    rcases hab with rfl | ⟨_, h⟩
    · exact h.H.isMapBlk
    · exact h
  have hgF : F gq ∨ w.heap.size ≤ gq := by
    rcases hloc with h' | h'
    · exact .inl (h.fV gq (.inl h'))
    · exact .inr h'
  -- what is left alone
  have keep : ∀ k, k < w.heap.size → k ≠ C.fb → vD.ownBlock ≠ some k → k ≠ ab → w'.heap[k]? = w.heap[k]? := fun k hk h1 h2 h3 => hP.fr.block k hk (by rintro (e | e | e); exact h1 e; exact h2 e; exact h3 e)
  have keepRow : ∀ {e sz n : Nat} {v : Value} {xs : List Value}, w.ownsRow 0 e sz v n xs → e ≠ 119 → (∀ k, v.ownBlock = some k → vD.ownBlock ≠ some k) → w'.ownsRow 0 e sz v n xs := by
    intro e sz n v xs hr h119 hDk
    refine ownMove hr (fun k hk hl => keep k hl ?_ (hDk k hk) ?_)
    · rintro rfl; exact rowNeBlk hr h.blk h119 hk
    · rintro rfl; exact rowNeMap hr habm hk
  have hD43 : ∀ {e sz n : Nat} {v : Value} {xs : List Value}, w.ownsRow 0 e sz v n xs → e ≠ 43 → ∀ k, v.ownBlock = some k → vD.ownBlock ≠ some k := fun hr he k hk => rowNe hr h.D he hk
  have hsz := hP.fr.size
  refine ⟨fun k => (F k ∧ vD.ownBlock ≠ some k) ∨ k = gq, ⟨hP.blk, ?_, ?_, ?_, ?_, hl', ?_, hH, ?_, ?_, h.sepK, ?_, h.sepM, ?_, ?_, ⟨.inl ⟨h.f0.1, rowNeBlk h.D h.blk (by decide)⟩, .inl ⟨h.f0.2.1, rowNeMap h.D h.K.isMapBlk⟩, .inl ⟨h.f0.2.2, rowNeMap h.D h.H.isMapBlk⟩⟩, ?_, ?_⟩, ⟨?_, ?_⟩, ?_⟩
  · rw [hd, List.length_append, List.length_singleton]; exact hP.own
  · rw [hb']; exact keepRow h.B (by decide) (hD43 h.B (by decide))
  · have : s'.layers.length = s.layers.length := by rw [hl', h.lay]; rfl
    rw [this]; exact keepRow h.L (by decide) (hD43 h.L (by decide))
  · rw [hs']
    refine keepRow h.S (by decide) (fun k hk e => ?_)
    rcases h.sepD with h' | h'
    · rw [h'] at e; cases e
    · exact h' (by rw [e, hk])
  · rw [hnm]; exact keepRow h.N (by decide) (hD43 h.N (by decide))
  · have h1 : VMap w C.kb (dNames C.bs s'.decls) nilV val := h.K.moreKeys (fun x hx => by rw [hd, dNames_append]; exact List.mem_append_left _ hx)
    refine h1.move (keep _ (h.lt _ h.f0.2.1) ?_ ?_ ?_)
    · rintro e; exact blkNeMap h.blk h.K.isMapBlk e.symm
    · exact rowNeMap h.D h.K.isMapBlk
    · rintro rfl
      rcases hab with h' | h'
      · exact h.sepM h'
      · exact h'.1 h.f0.2.1
  · intro x; rw [hk']; exact keepRow (h.R x) (by decide) (hD43 (h.R x) (by decide))
  · right
    rw [hgq]
    intro e
    have e' := e.symm
    rcases hloc with h1 | h1
    · rcases h.sepD with h2 | h2
      · rw [h2] at h1; cases h1
      · exact h2 (by rw [h1, e'])
    · have := h.lt gq (h.fV gq (.inr (.inr (.inr (.inl e')))))
      omega
  · exact fun x k hk => .inl ⟨h.fK x k hk, hD43 (h.R x) (by decide) k hk⟩
  · rintro k (h1 | h1 | h1 | h1 | h1)
    · rw [hgq] at h1; injection h1 with h1; exact .inr h1.symm
    · exact .inl ⟨h.fV k (.inr (.inl h1)), hD43 h.B (by decide) k h1⟩
    · exact .inl ⟨h.fV k (.inr (.inr (.inl h1))), hD43 h.L (by decide) k h1⟩
    · refine .inl ⟨h.fV k (.inr (.inr (.inr (.inl h1)))), fun e => ?_⟩
      rcases h.sepD with h2 | h2
      · rw [h2] at e; cases e
      · exact h2 (by rw [e, h1])
    · exact .inl ⟨h.fV k (.inr (.inr (.inr (.inr h1)))), hD43 h.N (by decide) k h1⟩
  · rintro k (h1 | rfl)
    · exact Nat.lt_of_lt_of_le (h.lt k h1.1) hsz
    · exact hlt
  · have hown := hP.own
    obtain ⟨cur, hc⟩ := ownBlk hown hgq
    rintro k h1 cs fr hcs
    rcases h1 with ⟨h1, hvD⟩ | rfl
    · by_cases hfb : k = C.fb
      · subst hfb; rw [hP.blk] at hcs; injection hcs with hcs; injection hcs with _ hcs _; cases hcs
      · by_cases hab' : k = ab
        · subst hab'
          rcases hab with rfl | h'
          · obtain ⟨es, ck, hm⟩ := hH.isMapBlk; rw [hm] at hcs; cases hcs
          · exact h'.1 h1
        · exact h.no27 k h1 cs fr (by rw [← keep k (h.lt k h1) hfb hvD hab']; exact hcs)
    · rw [hc] at hcs; injection hcs with hcs; injection hcs with _ hcs _; cases hcs
  · exact hP.fr.mono (fun i _ h' => by
      rcases h' with h' | h' | h'
      · exact .inl (h' ▸ h.f0.1)
      · exact .inl (h.fV i (.inl h'))
      · exact .inr h')
  · rintro k (h1 | rfl)
    · exact .inl (.inl h1.1)
    · rcases hgF with h2 | h2
      · exact .inl (.inl h2)
      · exact .inr h2
  · rintro k (h1 | rfl)
    · exact .inl h1.1
    · exact .inr hgq
end Go.Proofs.YtkicpjjfeekopaaGreatDoor

namespace Go.Proofs.YtkicpjjfeekopaaGreatDoor
open Go.RowKit Go.Maps
/-- What a name's row and the map come to when one is let count. -/
structure KRel (kb : Nat) (L : List Nam) (val : Nam → Value) (x : Nam) (kn : List Nat) (m : Int) (w wx : World) (v' : Value) : Prop where
  map : VMap wx kb L nilV (updN val x v')
  row : wx.ownsRow 0 3 1 v' (kn.length + 1) (kn.map intV ++ [.int .i64 m])
  fr : Fr (fun k => k = kb ∨ (val x).ownBlock = some k) w wx
  loc : ∃ g, v'.ownBlock = some g ∧ ((val x).ownBlock = some g ∨ w.heap.size ≤ g) ∧ g < wx.heap.size
theorem max_means (k : Nat) (l : List Nat) : max (k : Int) (dfnI l.getLast?) = ((max k (l.getLastD 0) : Nat) : Int) := by
  rw [List.getLastD_eq_getLast?]
  cases l.getLast? with
  | none => simp [dfnI]; omega
  | some m => simp [dfnI]; omega
theorem FRep.counted {C : FC} {hb : Nat} {rc : List Value} {F : Nat → Prop} {w1 wc w5 W : World} {s1 : FS} {vD vB vL vS vN1 v' vN' : Value} {val1 : Nam → Value} {l1 : Lay} {r : List Lay} {k nn nr gL cL : Nat} {d : Dcl} {x : Nam} {m : Int} {o : Obj}
    (h : FRep C hb rc F w1 s1 vD vB vL vS vN1 val1 l1 r) (hd : s1.decls[k]? = some d) (hx : x = nmD (nmT C.bs) d) (hm : m = ((max k ((s1.known x).getLastD 0) : Nat) : Int)) (hK : KRel C.kb (dNames C.bs s1.decls) val1 x (s1.known x) m w1 wc v')
    (hnn : nn = l1.names.length) (hnr : nr = r.length) (hrc : rc.length = nr * 2) (hvL : vL = .slice (some ⟨gL, 0, none⟩) (nr + 1) cL)
    (hN5 : w5.ownsRow 0 9 1 vN' (nn + 1) (l1.names.map strV ++ [strV x])) (hG5 : (wc.alloc o).grownBy w5 vN1.ownBlock) (hat : vN'.ownBlock = vN1.ownBlock ∨ vN'.ownBlock = some (wc.alloc o).heap.size)
    (hL5 : w5.ownsRow 0 206 2 vL (nr + 1) (rc ++ [vN1, .map (some hb)])) (hW : W = w5.setCell ⟨gL, nr * 2, none⟩ vN') :
    ∃ F' l', FRep C hb rc F' W (count1 (nmT C.bs) s1 k) vD vB vL vS vN' (updN val1 x v') l' r ∧ FrF F F' w1 W := by
  subst hW
  have hgLo : vL.ownBlock = some gL := by rw [hvL]; rfl
  have hvxK : ∀ j, (val1 x).ownBlock = some j → ∃ cur, w1.heap[j]? = some (.cells cur 3 (0, 0)) := fun j hj => ownBlk (h.R x) hj
  obtain ⟨g', hg', hloc, hlt⟩ := hK.loc
  have s1c := hK.fr.size
  have sc5 : wc.heap.size + 1 ≤ w5.heap.size := by have := hG5.size; simpa using this
  -- what is left alone
  have keep : ∀ j, j < w1.heap.size → j ≠ C.kb → (val1 x).ownBlock ≠ some j → vN1.ownBlock ≠ some j → j ≠ gL → (w5.setCell ⟨gL, nr * 2, none⟩ vN').heap[j]? = w1.heap[j]? := by
    intro j hj h1 h2 h3 h4
    rw [Below.heap_setCell _ _ _ _ h4, hG5.block j (by simp; omega) (fun e => h3 e.symm), Below.heap_alloc wc o j (by omega), hK.fr.block j hj (by rintro (e | e); exact h1 e; exact h2 e)]
  have keepRow : ∀ {e sz n : Nat} {v : Value} {xs : List Value}, w1.ownsRow 0 e sz v n xs → e ≠ 3 → e ≠ 9 → e ≠ 206 → (w5.setCell ⟨gL, nr * 2, none⟩ vN').ownsRow 0 e sz v n xs := by
    intro e sz n v xs hr h3 h9 h206
    refine ownMove hr (fun j hj hl => keep j hl ?_ ?_ ?_ ?_)
    · rintro rfl; exact rowNeMap hr h.K.isMapBlk hj
    · exact rowNe hr (h.R x) h3 hj
    · exact rowNe hr h.N h9 hj
    · rintro rfl; exact rowNe hr h.L h206 hj hgLo
  have keepRow3 : ∀ {n : Nat} {v : Value} {xs : List Value}, w1.ownsRow 0 3 1 v n xs → (∀ j, v.ownBlock = some j → (val1 x).ownBlock ≠ some j) → (w5.setCell ⟨gL, nr * 2, none⟩ vN').ownsRow 0 3 1 v n xs := by
    intro n v xs hr hne
    refine ownMove hr (fun j hj hl => keep j hl ?_ (hne j hj) ?_ ?_)
    · rintro rfl; exact rowNeMap hr h.K.isMapBlk hj
    · exact rowNe hr h.N (by decide) hj
    · rintro rfl; exact rowNe hr h.L (by decide) hj hgLo
  have hc1 : count1 (nmT C.bs) s1 k = { s1 with ops := s1.ops + 1, known := updN s1.known x (s1.known x ++ [max k ((s1.known x).getLastD 0)]), layers := { l1 with names := l1.names ++ [x] } :: r } := by
    unfold count1
    rw [hd]
    simp only [h.lay, ← hx]
  have hNgL : vN'.ownBlock ≠ some gL := rowNe hL5 hN5 (by decide) hgLo
  -- the names' row, where it lies
  obtain ⟨aN, cN, hvN', _, hposN⟩ := ownShape hN5
  obtain ⟨gN, hgN⟩ := hposN (by omega)
  have hgNo : vN'.ownBlock = some gN := by rw [hvN', hgN]; rfl
  have hNloc : vN1.ownBlock = some gN ∨ w1.heap.size ≤ gN := by
    rcases hat with h1 | h1
    · exact .inl (h1 ▸ hgNo)
    · rw [hgNo] at h1; injection h1 with h1; simp at h1; exact .inr (by omega)
  have hgN5 : gN < w5.heap.size := by obtain ⟨c, hc⟩ := ownBlk hN5 hgNo; exact blkLt hc
  have hv'c : ∃ cur, wc.heap[g']? = some (.cells cur 3 (0, 0)) := ownBlk hK.row hg'
  have hv'1 : vN1.ownBlock ≠ some g' := by
    intro e
    obtain ⟨cur, hc⟩ := hv'c
    rcases hloc with h1 | h1
    · exact rowNe h.N (h.R x) (by decide) e h1
    · obtain ⟨c2, hc2⟩ := ownBlk h.N e; have := blkLt hc2; omega
  have hv'L : g' ≠ gL := by
    rintro rfl
    rcases hloc with h1 | h1
    · exact rowNe h.L (h.R x) (by decide) hgLo h1
    · obtain ⟨c2, hc2⟩ := ownBlk h.L hgLo; have := blkLt hc2; omega
  have hv'N : g' ≠ gN := by
    rintro rfl
    rcases hNloc with h1 | h1
    · exact hv'1 h1
    · rcases hat with h2 | h2
      · exact hv'1 (by rw [← h2, hgNo])
      · rw [hgNo] at h2; injection h2 with h2; simp at h2; omega
  have keepW : ∀ j, j < wc.heap.size → vN1.ownBlock ≠ some j → j ≠ gL → (w5.setCell ⟨gL, nr * 2, none⟩ vN').heap[j]? = wc.heap[j]? := by
    intro j hj h3 h4
    rw [Below.heap_setCell _ _ _ _ h4, hG5.block j (by simp; omega) (fun e => h3 e.symm), Below.heap_alloc wc o j hj]
  have hfK : ∀ y j, (updN val1 x v' y).ownBlock = some j → (y = x ∧ j = g') ∨ (y ≠ x ∧ (val1 y).ownBlock = some j) := by
    intro y j hj
    unfold updN at hj
    by_cases e : y = x
    · rw [if_pos e, hg'] at hj; injection hj with hj; exact .inl ⟨e, hj.symm⟩
    · rw [if_neg e] at hj; exact .inr ⟨e, hj⟩
  have hsepx : ∀ y, y ≠ x → ∀ j, (val1 y).ownBlock = some j → (val1 x).ownBlock ≠ some j := by
    intro y hy j hj e
    rcases h.sepK y x hy with h1 | h1
    · rw [h1] at hj; cases hj
    · exact h1 (by rw [hj, e])
  have hne' : ∀ y, y ≠ x → ∀ j, (val1 y).ownBlock = some j → j ≠ g' := by
    rintro y hy j hj rfl
    rcases hloc with h1 | h1
    · exact hsepx y hy j hj h1
    · have := h.lt j (h.fK y j hj); omega
  refine ⟨fun j => (F j ∧ (val1 x).ownBlock ≠ some j ∧ vN1.ownBlock ≠ some j) ∨ j = g' ∨ j = gN, { l1 with names := l1.names ++ [x] }, ?_, ?_⟩
  · rw [hc1]
    have f3 : ∀ {e sz n : Nat} {v : Value} {xs : List Value}, w1.ownsRow 0 e sz v n xs → e ≠ 3 → e ≠ 9 → ∀ j, v.ownBlock = some j → (val1 x).ownBlock ≠ some j ∧ vN1.ownBlock ≠ some j := fun hr h3 h9 j hj => ⟨rowNe hr (h.R x) h3 hj, rowNe hr h.N h9 hj⟩
    have hfb : (val1 x).ownBlock ≠ some C.fb ∧ vN1.ownBlock ≠ some C.fb := ⟨rowNeBlk (h.R x) h.blk (by decide), rowNeBlk h.N h.blk (by decide)⟩
    have hkb : (val1 x).ownBlock ≠ some C.kb ∧ vN1.ownBlock ≠ some C.kb := ⟨rowNeMap (h.R x) h.K.isMapBlk, rowNeMap h.N h.K.isMapBlk⟩
    have hhb : (val1 x).ownBlock ≠ some hb ∧ vN1.ownBlock ≠ some hb := ⟨rowNeMap (h.R x) h.H.isMapBlk, rowNeMap h.N h.H.isMapBlk⟩
    have gLfb : C.fb ≠ gL := by rintro e; exact rowNeBlk h.L h.blk (by decide) (by rw [hgLo, e])
    have gLkb : C.kb ≠ gL := by rintro e; exact rowNeMap h.L h.K.isMapBlk (by rw [hgLo, e])
    have gLhb : hb ≠ gL := by rintro e; exact rowNeMap h.L h.H.isMapBlk (by rw [hgLo, e])
    refine ⟨?_, ?_, ?_, ?_, ?_, rfl, ?_, ?_, ?_, ?_, ?_, h.sepD, h.sepM, ?_, ?_, ⟨.inl ⟨h.f0.1, hfb⟩, .inl ⟨h.f0.2.1, hkb⟩, .inl ⟨h.f0.2.2, hhb⟩⟩, ?_, ?_⟩
    · rw [keep _ (h.lt _ h.f0.1) (fun e => blkNeMap h.blk h.K.isMapBlk e) hfb.1 hfb.2 gLfb]; exact h.blk
    · exact keepRow h.D (by decide) (by decide) (by decide)
    · exact keepRow h.B (by decide) (by decide) (by decide)
    · simp only [List.length_cons, ← hnr]
      have := (hvL ▸ hL5 : w5.ownsRow 0 206 2 (.slice (some ⟨gL, 0, none⟩) (nr + 1) cL) (nr + 1) (rc ++ [vN1, .map (some hb)]))
      have h2 := (this.stored (nr * 2) vN').1
      have e : (rc ++ [vN1, .map (some hb)]).set (nr * 2) vN' = rc ++ [vN', .map (some hb)] := by
        rw [List.set_append_right _ _ (by omega), hrc, Nat.sub_self]; rfl
      rw [e] at h2
      rw [hvL]
      exact h2
    · exact keepRow h.S (by decide) (by decide) (by decide)
    · simp only [List.length_append, List.length_singleton, List.map_append, List.map_cons, List.map_nil, ← hnn]
      exact ownMove hN5 (fun j hj _ => Below.heap_setCell _ _ _ _ (by rintro rfl; exact hNgL hj))
    · exact h.H.move (keep _ (h.lt _ h.f0.2.2) (fun e => h.sepM e.symm) hhb.1 hhb.2 gLhb)
    · refine hK.map.move (keepW _ ?_ hkb.2 gLkb)
      exact Nat.lt_of_lt_of_le (h.lt _ h.f0.2.1) s1c
    · intro y
      simp only [updN]
      by_cases e : y = x
      · rw [if_pos e, if_pos e]
        have h1 := hK.row
        rw [hm] at h1
        simp only [List.length_append, List.length_singleton, List.map_append, List.map_cons, List.map_nil]
        refine ownMove h1 (fun j hj hl => keepW j hl ?_ ?_)
        · rw [hg'] at hj; injection hj with hj; subst hj; exact hv'1
        · rw [hg'] at hj; injection hj with hj; subst hj; exact hv'L
      · rw [if_neg e, if_neg e]
        exact keepRow3 (h.R y) (hsepx y e)
    · intro y z hyz
      by_cases ey : y = x
      · subst ey
        right
        have hz : updN val1 y v' z = val1 z := by unfold updN; rw [if_neg (fun e => hyz e.symm)]
        have hy' : updN val1 y v' y = v' := by unfold updN; rw [if_pos rfl]
        rw [hz, hy', hg']
        intro e
        exact hne' z (fun e => hyz e.symm) g' e.symm rfl
      · have hy' : updN val1 x v' y = val1 y := by unfold updN; rw [if_neg ey]
        rw [hy']
        by_cases ez : z = x
        · subst ez
          have hz : updN val1 z v' z = v' := by unfold updN; rw [if_pos rfl]
          rw [hz, hg']
          cases hb' : (val1 y).ownBlock with
          | none => exact .inl rfl
          | some j => exact .inr (fun e => hne' y ey j hb' (by injection e))
        · have hz : updN val1 x v' z = val1 z := by unfold updN; rw [if_neg ez]
          rw [hz]
          exact h.sepK y z hyz
    · intro y j hj
      rcases hfK y j hj with ⟨_, rfl⟩ | ⟨hy, hj⟩
      · exact .inr (.inl rfl)
      · exact .inl ⟨h.fK y j hj, hsepx y hy j hj, rowNe (h.R y) h.N (by decide) hj⟩
    · rintro j (h1 | h1 | h1 | h1 | h1)
      · exact .inl ⟨h.fV j (.inl h1), f3 h.D (by decide) (by decide) j h1⟩
      · exact .inl ⟨h.fV j (.inr (.inl h1)), f3 h.B (by decide) (by decide) j h1⟩
      · exact .inl ⟨h.fV j (.inr (.inr (.inl h1))), f3 h.L (by decide) (by decide) j h1⟩
      · exact .inl ⟨h.fV j (.inr (.inr (.inr (.inl h1)))), f3 h.S (by decide) (by decide) j h1⟩
      · rw [hgNo] at h1; injection h1 with h1; exact .inr (.inr h1.symm)
    · rintro j (h1 | rfl | rfl)
      · have := h.lt j h1.1; simp; omega
      · simp; omega
      · simpa using hgN5
    · rintro j (h1 | rfl | rfl) cs fr hcs
      · by_cases hj : j = gL
        · subst hj
          obtain ⟨cur, hc⟩ := ownBlk hL5 hgLo
          rw [blkSet hc] at hcs
          injection hcs with hcs; injection hcs with _ hcs _; cases hcs
        · by_cases hj2 : j = C.kb
          · subst hj2
            obtain ⟨es, ck, hm'⟩ := hK.map.isMapBlk
            rw [keepW _ (Nat.lt_of_lt_of_le (h.lt _ h.f0.2.1) s1c) hkb.2 gLkb, hm'] at hcs
            cases hcs
          · exact h.no27 j h1.1 cs fr (by rw [← keep j (h.lt j h1.1) hj2 h1.2.1 h1.2.2 hj]; exact hcs)
      · obtain ⟨cur, hc⟩ := hv'c
        rw [keepW _ (blkLt hc) hv'1 hv'L, hc] at hcs
        injection hcs with hcs; injection hcs with _ hcs _; cases hcs
      · obtain ⟨cur, hc⟩ := ownBlk hN5 hgNo
        rw [Below.heap_setCell _ _ _ _ (by rintro rfl; exact hNgL hgNo), hc] at hcs
        injection hcs with hcs; injection hcs with _ hcs _; cases hcs
  · refine ⟨?_, ?_⟩
    · refine ((hK.fr.mono (S' := F) (fun j _ hj => ?_)).trans' (S' := fun j => vN1.ownBlock = some j) ?_ (fun j _ hj => h.fV j (.inr (.inr (.inr (.inr hj)))))).trans' (S' := fun j => j = gL) (Fr.setCell (S := fun j => j = gL) (Fr.refl _ _) (p := ⟨gL, nr * 2, none⟩) (fun _ => rfl) _) (fun j _ hj => h.fV j (.inr (.inr (.inl (by rw [hgLo, hj])))))
      · rcases hj with rfl | hj
        · exact h.f0.2.1
        · exact h.fK x j hj
      · exact ((Fr.refl (fun j => vN1.ownBlock = some j) wc).alloc o).trans (Fr.of_grown hG5 (fun j e => e))
    · rintro j (h1 | rfl | rfl)
      · exact .inl h1.1
      · rcases hloc with h1 | h1
        · exact .inl (h.fK x _ h1)
        · exact .inr h1
      · rcases hNloc with h1 | h1
        · exact .inl (h.fV _ (.inr (.inr (.inr (.inr h1)))))
        · exact .inr h1
end Go.Proofs.YtkicpjjfeekopaaGreatDoor

namespace Go.Proofs.YtkicpjjfeekopaaGreatDoor
open Go.RowKit Go.Maps
/-- A store at a name, as an equation. -/
theorem VMap.put {w : World} {b : Nat} {L : List Nam} {z : Value} {val : Nam → Value} (h : VMap w b L z val) {t e : TypeId} (ht : Tryz.prog.underlying t = some (.map 9 e)) (hL : L.length < maxLen) (s : ByteArray) (hs : s.size ≤ maxLen) (hin : s.data.toList ∈ L) (u : Value) :
    ∃ w', (Instr.mapUpdate t (.map (some b)) (.string s) u).run Tryz.prog w = .ok () w' ∧ VMap w' b L z (updN val s.data.toList u) ∧ w.grownBy w' (some b) := by
  obtain ⟨D, h⟩ := h
  obtain ⟨w', hrun, r1, r2⟩ := h.own.update keyed9 ht hL (keyOf9 s hs) (val := u) (d := .held u) (ps := []) rfl
  have hst := h.stored hin (by rw [Array.length_toList]; exact hs) r1
  have e' : updN (fun x => DataW.held (val x)) s.data.toList (.held u) = fun x => .held (updN val s.data.toList u x) := by
    funext y
    unfold updN
    split <;> rfl
  rw [e'] at hst
  exact ⟨w', hrun, ⟨_, hst⟩, r2⟩
theorem info3 : (Tryz.prog.info? 3).map (fun i => (i.zero, i.size, i.bytes)) = some (some (.int .i64 0), 1, 8) := by kernel_rfl
theorem info9 : (Tryz.prog.info? 9).map (fun i => (i.zero, i.size, i.bytes)) = some (some (.string ⟨#[]⟩), 1, 16) := by kernel_rfl
/-- The greatest number of operations. -/
def bigN : Nat := 1000000000000
theorem countS_take (nm : Nat → Nat → Nam) (ns : List Nat) (s : FS) (i k : Nat) (h : ns[i]? = some k) : countS nm (ns.take (i + 1)) s = count1 nm (countS nm (ns.take i) s) k := by
  obtain ⟨hlt, he⟩ := List.getElem?_eq_some_iff.1 h
  unfold countS
  rw [List.take_succ_eq_append_getElem hlt, List.foldl_append, he]
  rfl
theorem count1_decls (nm : Nat → Nat → Nam) (s : FS) (k : Nat) : (count1 nm s k).decls = s.decls ∧ (count1 nm s k).binds = s.binds ∧ (count1 nm s k).shown = s.shown := by unfold count1; split <;> exact ⟨rfl, rfl, rfl⟩
theorem countS_decls (nm : Nat → Nat → Nam) : ∀ (l : List Nat) (s : FS), (countS nm l s).decls = s.decls ∧ (countS nm l s).binds = s.binds ∧ (countS nm l s).shown = s.shown
  | [], _ => ⟨rfl, rfl, rfl⟩
  | k :: l, s => by
    have h1 := countS_decls nm l (count1 nm s k)
    have h2 := count1_decls nm s k
    exact ⟨h1.1.trans h2.1, h1.2.1.trans h2.2.1, h1.2.2.trans h2.2.2⟩
theorem cells1 {W : World} {b0 : Nat} {a : Value} {t : TypeId} {fr : Nat × Nat} (hb : W.heap[b0]? = some (.cells #[a] t fr)) : ∀ j u, [a][j]? = some u → W.cell? ((⟨b0, 0, none⟩ : Addr).add j) = some u := by
  intro j u hj
  have hadd : (⟨b0, 0, none⟩ : Addr).add j = ⟨b0, j, none⟩ := by unfold Addr.add; split <;> simp_all
  rw [hadd, blkCell hb j]
  match j, hj with
  | 0, hj => simpa using hj
theorem blkOld {w : World} (o : Obj) {k : Nat} (hk : k < w.heap.size) : (w.alloc o).drew.heap[k]? = w.heap[k]? := Below.heap_alloc w o k hk
theorem grownOld {w w' : World} {row : Option Nat} (h : w.grownBy w' row) {k : Nat} (hk : k < w.heap.size) (hr : some k ≠ row) : w'.heap[k]? = w.heap[k]? := h.block k hk hr
theorem grownRow {w w' : World} {row : Option Nat} (h : w.grownBy w' row) {e sz n : Nat} {v : Value} {xs : List Value} (hr : w.ownsRow 0 e sz v n xs) (hne : ∀ k, v.ownBlock = some k → row ≠ some k) : w'.ownsRow 0 e sz v n xs :=
  ownMove hr (fun k hk hl => h.block k hl (fun e => hne k hk e.symm))
theorem KRel.mk' {kb : Nat} {L : List Nam} {val : Nam → Value} {x : ByteArray} {kn : List Nat} {m : Int} {w X w2 w3 : World} {a : Option Addr} {n c g cap : Nat} (hv : val x.data.toList = .slice a n c) (hn : n = kn.length) (hX : Fr (fun _ => False) w X)
    (hO : w2.ownsRow 0 3 1 (.slice (some ⟨g, 0, none⟩) (n + 1) cap) (n + 1) (kn.map intV ++ [.int .i64 m])) (hG : X.grownBy w2 (Value.slice a n c).ownBlock) (hat : (Value.slice a n c).ownBlock = some g ∨ g = X.heap.size) (hlt : g < w2.heap.size)
    (hm : VMap w3 kb L nilV (updN val x.data.toList (.slice (some ⟨g, 0, none⟩) (n + 1) cap))) (hg3 : w2.grownBy w3 (some kb)) (hkm : ∃ es ck, w2.heap[kb]? = some (.map es ck)) : ∃ v', KRel kb L val x.data.toList kn m w w3 v' := by
  subst hn
  rw [← hv] at hG hat
  have hne : (Value.slice (some ⟨g, 0, none⟩) (kn.length + 1) cap).ownBlock ≠ some kb := rowNeMap hO hkm
  refine ⟨_, hm, ownMove hO (fun k hk hl => hg3.block k hl (fun e => hne (by rw [hk, e]))), ?_, ⟨g, rfl, ?_, Nat.lt_of_lt_of_le hlt hg3.size⟩⟩
  · refine ((hX.mono (S' := fun k => k = kb ∨ (val x.data.toList).ownBlock = some k) (fun _ _ h => h.elim)).trans (Fr.of_grown hG (fun k e => .inr e))).trans (Fr.of_grown hg3 (fun k e => by injection e with e; exact .inl e.symm))
  · rcases hat with h | h
    · exact .inl h
    · have := hX.size; exact .inr (by omega)
theorem KRel.keepRow {kb : Nat} {L : List Nam} {val : Nam → Value} {x : Nam} {kn : List Nat} {m : Int} {w wx : World} {v' : Value} (h : KRel kb L val x kn m w wx v') (hk : ∃ es ck, w.heap[kb]? = some (.map es ck)) {n : Nat} {xs : List Value} (hx : w.ownsRow 0 3 1 (val x) n xs)
    {e sz n' : Nat} {v : Value} {xs' : List Value} (hr : w.ownsRow 0 e sz v n' xs') (he : e ≠ 3) : wx.ownsRow 0 e sz v n' xs' := by
  refine ownMove hr (fun k hk' hl => h.fr.block k hl ?_)
  rintro (rfl | h2)
  · exact rowNeMap hr hk hk'
  · exact rowNe hx hr (fun e' => he e'.symm) h2 hk'
theorem lastPair {w : World} {g nr cap : Nat} {rc : List Value} {a b : Value} (h : w.ownsRow 0 206 2 (.slice (some ⟨g, 0, none⟩) (nr + 1) cap) (nr + 1) (rc ++ [a, b])) (hrc : rc.length = nr * 2) :
    w.cell? ⟨g, nr * 2, none⟩ = some a ∧ w.cell? ⟨g, nr * 2 + 1, none⟩ = some b ∧ (∀ j, w.frozen? ⟨g, j, none⟩ = false) ∧ g < w.heap.size := by
  obtain ⟨cur, hb⟩ := ownBlk (k := g) h rfl
  have hadd : ∀ j, (⟨g, 0, none⟩ : Addr).add j = ⟨g, j, none⟩ := fun j => by unfold Addr.add; split <;> simp_all
  have hc := h.cells (g := g) rfl
  simp only [hadd] at hc
  refine ⟨hc _ _ ?_, hc _ _ ?_, fun j => blkFree hb j, blkLt hb⟩
  · rw [List.getElem?_append_right (by omega), hrc, Nat.sub_self]; rfl
  · rw [List.getElem?_append_right (by omega), hrc, Nat.add_sub_cancel_left]; rfl
/-- The loop over the numbers: what a round stands in. -/
def CRel (C : FC) (hb : Nat) (rc : List Value) (F : Nat → Prop) (ns : List Nat) (s : FS) (vD vB vL vS : Value) (r : List Lay) (w : World) (i : Nat) (wr : World) : Prop :=
  ∃ F' vN val l, FRep C hb rc F' wr (countS (nmT C.bs) (ns.take i) s) vD vB vL vS vN val l r ∧ FrF F F' w wr
set_option maxRecDepth 100000 in
set_option maxHeartbeats 4000000 in
theorem count_walk {C : FC} {hb : Nat} {rc : List Value} {F : Nat → Prop} {w : World} {s : FS} {vD vB vL vS vN : Value} {val : Nam → Value} {l : Lay} {r : List Lay}
    (h : FRep C hb rc F w s vD vB vL vS vN val l r) (hrc : rc.length = r.length * 2) (vn : Value) (ns : List Nat) (hn : w.ownsRow 0 3 1 vn ns.length (ns.map intV)) (hnF : ∀ k, vn.ownBlock = some k → ¬ F k) (hix : ∀ k ∈ ns, k < s.decls.length)
    (hsp : ∀ d ∈ s.decls, d.frm ≤ d.to ∧ d.to ≤ C.bs.length) (hbs : C.bs.length < 100000) (hlen : LenI s) (hops : (countS (nmT C.bs) ns s).ops ≤ bigN) (hnl : ns.length ≤ 1000000000) :
    Calls Tryz.prog 88 #[.pointer (some ⟨C.fb, 0, none⟩), vn] w fun e w' => e = .returned (.tuple #[]) ∧ CRel C hb rc F ns s vD vB vL vS r w ns.length w' := by
  obtain ⟨a, c, hv, hnc, _⟩ := ownShape hn
  obtain ⟨aL, cL, hvL, hncL, haL⟩ := ownShape h.L
  have hll : s.layers.length = r.length + 1 := by rw [h.lay]; rfl
  obtain ⟨gL, hgL⟩ := haL (by omega)
  obtain ⟨len, hln⟩ : ∃ len, len = ns.length := ⟨_, rfl⟩
  obtain ⟨nr, hnr⟩ : ∃ nr, nr = r.length := ⟨_, rfl⟩
  rw [hll, ← hnr, hgL] at hvL
  rw [hll, ← hnr] at hncL
  rw [← hln] at hv hnc hnl
  rw [hv]
  have c4 := blkCell h.blk 4
  rw [hvL] at c4
  have r0 : CRel C hb rc F ns s vD vB vL vS r w 0 w := ⟨F, vN, val, l, h, FrF.refl _ _⟩
  have HH := Lib.hid h; have HN := Lib.hid hn; have HNF := Lib.hid hnF; have HIX := Lib.hid hix; have HSP := Lib.hid hsp; have HBS := Lib.hid hbs; have HLEN := Lib.hid hlen; have HOPS := Lib.hid hops; have HLN := Lib.hid hln; have HVL := Lib.hid hvL; have HV := Lib.hid hv; have HNR := Lib.hid hnr; have HRC := Lib.hid hrc; have HLL := Lib.hid hll
  have hnrb : nr ≤ 1099511627776 := by have := hlen.layers; have := (countS_ops (nm := nmT C.bs) ns s).1; unfold bigN at hops; omega
  clear h hn hnF hix hsp hbs hlen hops hvL hv hnr hrc hll hgL
  rw [← hln]
  clear hln
  go_enter Tryz.func88, Tryz.ntmps88
  go_wp2_with fail
  go_quiet (fail)
  go_wp2_with fail
  have r1 : CRel C hb rc F ns s vD vB vL vS r w 0 (w.drewN nq) := by
    obtain ⟨F', vN', val', l', q1, q2⟩ := r0
    have hd : Fr (fun _ => False) w (w.drewN nq) := (Fr.refl _ _).drewN _
    exact ⟨F', vN', val', l', q1.fr0 hd, q2.trans (FrF.of0 hd)⟩
  clear r0
  go_loopw [22] (fun x wr => ∃ i : Nat, i ≤ len ∧ x = .int .i64 i ∧ CRel C hb rc F ns s vD vB vL vS r w i wr) (fun x _ => len - (intOf x).toNat)
  case atStart => exact ⟨0, Nat.zero_le _, rfl, r1⟩
  case round =>
    obtain ⟨i, hi, rfl, F1, vN1, val1, l1, hR, hF⟩ := hrel
    by_cases hlt : i < len
    · obtain ⟨k, hk⟩ : ∃ k, ns[i]? = some k := ⟨_, List.getElem?_eq_getElem (by rw [← HLN.out]; exact hlt)⟩
      have hkd : k < s.decls.length := HIX.out k (List.mem_of_getElem? hk)
      obtain ⟨s1, hs1⟩ : ∃ s1, s1 = countS (nmT C.bs) (ns.take i) s := ⟨_, rfl⟩
      have hsd : s1.decls = s.decls := by rw [hs1]; exact (countS_decls _ _ _).1
      rw [← hs1] at hR
      obtain ⟨d, hd⟩ : ∃ d, s1.decls[k]? = some d := ⟨_, List.getElem?_eq_getElem (by rw [hsd]; exact hkd)⟩
      obtain ⟨hd1, hd2⟩ := HSP.out d (by rw [← hsd]; exact List.mem_of_getElem? hd)
      -- the number
      have hnw : wr.ownsRow 0 3 1 vn ns.length (ns.map intV) := ownMove HN.out (fun k hk hl => hF.fr.block k hl (HNF.out k hk))
      obtain ⟨g0, c0, hv0, _, hc0⟩ := ownAt hnw i (by rw [List.length_map, ← HLN.out]; exact hlt)
      rw [HV.out] at hv0
      injection hv0 with e1 e3 e2
      clear e3
      subst e1; subst e2
      rw [List.getElem?_map, hk] at hc0
      have hc0' : wr.cell? ⟨g0, i, none⟩ = some (.int .i64 k) := hc0
      -- the declaration
      obtain ⟨frm, en, kd, ag⟩ := d
      simp only at hd1 hd2
      have hDr := hR.D
      have hdl : (declCells s1.decls).length = s1.decls.length * 4 := hDr.1
      obtain ⟨gD, cD, hvD, hcD, hx0⟩ := ownAt hDr (k * 4) (by rw [hdl, hsd]; omega)
      obtain ⟨gD1, _, hvD1, _, hx1⟩ := ownAt hDr (k * 4 + 1) (by rw [hdl, hsd]; omega)
      rw [hvD] at hvD1
      injection hvD1 with e1 _ _
      simp only [Option.some.injEq, Addr.mk.injEq, and_true] at e1
      subst e1
      rw [show k * 4 = k * 4 + 0 from rfl, declCells_get _ _ _ hd 0 (by omega)] at hx0
      rw [declCells_get _ _ _ hd 1 (by omega)] at hx1
      have hx0' : wr.cell? ⟨gD, k * 4, none⟩ = some (.int .i64 frm) := hx0
      have hx1' : wr.cell? ⟨gD, k * 4 + 1, none⟩ = some (.int .i64 en) := hx1
      have f0 := blkCell hR.blk 0; have f1 := blkCell hR.blk 1; have f3 := blkCell hR.blk 3
      rw [hvD, hsd] at f1
      obtain ⟨nD, hnD⟩ : ∃ nD, nD = s.decls.length := ⟨_, rfl⟩
      rw [← hnD] at f1 hkd
      have hkd' : (k : Int) < (nD : Int) := by omega
      have hcD' : nD ≤ cD := by rw [hnD, ← hsd]; exact hcD
      obtain ⟨txt, htxt⟩ : ∃ txt : ByteArray, txt = ⟨C.bs.toArray⟩ := ⟨_, rfl⟩
      rw [← htxt] at f0
      have hsz : txt.size = C.bs.length := by rw [htxt]; simp [ByteArray.size]
      have hd2' : (en : Int) ≤ (txt.size : Int) := by omega
      have lfb := blkLt hR.blk
      have HT := Lib.hid htxt; have HSZ := Lib.hid hsz; have HND := Lib.hid hnD; have HVD := Lib.hid hvD; have HD := Lib.hid hd; have HS1 := Lib.hid hs1; have HSD := Lib.hid hsd; have HR := Lib.hid hR; have HF := Lib.hid hF; have HK := Lib.hid hk
      clear htxt hsz hnD hvD hd hs1 hsd hR hF hk hx0 hx1 hc0 hnw hDr hdl hcD hd2
      go_wp2_with fail
      go_quiet (fail)
      go_wp2_with fail
      have hbxF : Fr (fun _ => False) wr ((wr.alloc (.cells #[.int .i64 frm, .int .i64 en] 41)).drewN nq) := ((Fr.refl _ _).alloc _).drewN _
      obtain ⟨x, hx⟩ : ∃ x : ByteArray, x = txt.extract frm en := ⟨_, rfl⟩
      rw [← hx]
      generalize ((wr.alloc (.cells #[.int .i64 frm, .int .i64 en] 41)).drewN nq) = w1 at *
      have hxl : x.data.toList = nmT C.bs frm en := by rw [hx, HT.out]; rw [ext_take C.bs frm en (by have := HSZ.out; omega)]; rfl
      have hxs : x.size ≤ maxLen := by
        have : x.data.toList.length ≤ C.bs.length := by rw [hxl]; unfold nmT; rw [List.length_take, List.length_drop]; omega
        have e : x.size = x.data.toList.length := (Array.length_toList).symm
        have := HBS.out
        unfold maxLen; omega
      have hR1 := HR.out.fr0 hbxF
      have g3 := blkCell hR1.blk 3
      have lfb1 := blkLt hR1.blk
      have g3' : ∀ o : Obj, (w1.alloc o).drew.cell? ⟨C.fb, 3, none⟩ = some (.map (some C.kb)) := fun o => blkCell (blkAlloc hR1.blk o) 3
      have G3' := Lib.hid g3'
      clear g3'
      have hl1 := hR1.K.look Tryz.underlying116 (zero53 w1) x hxs
      have hl2 := (hR1.fr0 (Fr.refl (fun _ => False) w1).drew).K.look Tryz.underlying116 (zero53 w1.drew) x hxs
      obtain ⟨mI, hmI⟩ : ∃ mI, mI = dfnI (meansS s1 x.data.toList) := ⟨_, rfl⟩
      have hl3 := (hR1.fr0 ((Fr.refl (fun _ => False) w1).alloc (.cells #[.int .i64 (max (k : Int) mI)] 3)).drew).K.look Tryz.underlying116 (zero53 (w1.alloc (.cells #[.int .i64 (max (k : Int) mI)] 3)).drew) x hxs
      obtain ⟨vx, hvx⟩ : ∃ vx, vx = val1 x.data.toList := ⟨_, rfl⟩
      have hrow := hR1.R x.data.toList
      rw [← hvx] at hl1 hl2 hl3 hrow
      obtain ⟨ax, cx, hvs, hncx, _⟩ := ownShape hrow
      obtain ⟨nx, hnx⟩ : ∃ nx, nx = (s1.known x.data.toList).length := ⟨_, rfl⟩
      rw [← hnx] at hvs hncx hrow
      rw [hvs] at hl1 hl2 hl3
      have hks := LenI.known (countS_len (nm := nmT C.bs) (ns.take i) HLEN.out) x.data.toList
      have hopsi : s1.ops ≤ bigN := by
        have h1 := HOPS.out
        have h2 : countS (nmT C.bs) ns s = countS (nmT C.bs) (ns.drop i) s1 := by
          rw [HS1.out]; unfold countS; rw [← List.foldl_append, List.take_append_drop]
        have h3 := (countS_ops (nm := nmT C.bs) (ns.drop i) s1).1
        rw [h2] at h1
        omega
      obtain ⟨i0, hi0, hz0, hz1, hz2⟩ := info_parts info3
      have hnxb : nx ≤ 1099511627776 := by rw [← HS1.out, ← hnx] at hks; unfold bigN at hopsi; omega
      have hxin : x.data.toList ∈ dNames C.bs s1.decls := by rw [hxl]; exact List.mem_map.2 ⟨_, List.mem_of_getElem? HD.out, rfl⟩
      have hLM : (dNames C.bs s1.decls).length < maxLen := by
        have h1 : (dNames C.bs s1.decls).length = s1.decls.length := List.length_map ..
        have h2 := (countS_len (nm := nmT C.bs) (ns.take i) HLEN.out).decls
        rw [← HS1.out] at h2
        unfold bigN at hopsi
        unfold maxLen
        omega
      have HXIN := Lib.hid hxin; have HLM := Lib.hid hLM; clear hxin hLM
      have HX := Lib.hid hx; have HXL := Lib.hid hxl; have HXS := Lib.hid hxs; have HR1 := Lib.hid hR1; have HVX := Lib.hid hvx; have HROW := Lib.hid hrow; have HVS := Lib.hid hvs; have HNX := Lib.hid hnx; have HMI := Lib.hid hmI; have HBX := Lib.hid hbxF; have HOPSI := Lib.hid hopsi
      clear hx hxl hxs hR1 hvx hrow hvs hnx hmI hbxF hks hopsi f0 f1 f3 hc0' hx0' hx1'
      go_upto_region 6 with (fail)
      go_cut [] (fun wx => ∃ v', KRel C.kb (dNames C.bs s1.decls) val1 x.data.toList (s1.known x.data.toList) (max (k : Int) mI) w1 wx v')
      case first =>
        go_region_held3 (fun w' => w'.cell? ⟨C.fb, 3, none⟩ = some (.map (some C.kb))) (first | assumption | exact G3'.out _ | (simp [*]; done)) (first
          | (refine step_append_lies _ (by rfl) (.tmp 54) (.tmp 60) 53 (by rfl) 0 3 i0 (.int .i64 0) 1 8 Tryz.underlying53 hi0 hz0 hz1 hz2 rfl (by decide) (.slice ax nx cx) nx ((s1.known x.data.toList).map intV) (by simp [Act.eval, Act.put]) (by rw [← HVS.out]; exact (HROW.out.alloc _).drew) _ 1 1 [.int .i64 (max (k : Int) mI)] (by simp [Act.eval, Act.put]; rfl) rfl (by exact cells1 (blkNew w1 _)) (by intro u hu; simp at hu; rcases hu with rfl; rfl) (by decide) (by unfold maxLen; omega) (by omega) (Nat.zero_le _) _ rfl ?_; intro gq cap w2 hown hgr hat hlt; have hkm2 : VMap w2 C.kb (dNames C.bs s1.decls) nilV val1 := (HR1.out.K.move (w' := (w1.alloc (.cells #[.int .i64 (max (k : Int) mI)] 3)).drew) (blkOld _ (by obtain ⟨es, ck, h⟩ := HR1.out.K.isMapBlk; exact blkLt h))).move (grownOld hgr (by obtain ⟨es, ck, h⟩ := HR1.out.K.isMapBlk; exact blkLt (blkAlloc h _)) (by rw [← HVS.out]; exact fun e => rowNeMap HROW.out HR1.out.K.isMapBlk e.symm)); have HG2 := Lib.hid hgr; have HO2 := Lib.hid hown; have HAT2 := Lib.hid hat; have HLT2 := Lib.hid hlt; have hfb2 := (grownOld hgr (by have := blkLt HR1.out.blk; simp; omega) (by rw [← HVS.out]; exact fun e => rowNeBlk HROW.out HR1.out.blk (by decide) e.symm)).trans ((blkOld _ (blkLt HR1.out.blk)).trans HR1.out.blk); have m3 := blkCell hfb2 3; obtain ⟨w3, hrun3, hm3, hg3⟩ := VMap.put hkm2 Tryz.underlying116 HLM.out x HXS.out HXIN.out (.slice (some ⟨gq, 0, none⟩) (nx + 1) cap); have m3' := blkCell (grownBlk hg3 hfb2 (fun e => blkNeMap hfb2 hkm2.isMapBlk (by injection e))) 3; have HKM2 := Lib.hid hkm2; have HM3 := Lib.hid hm3; have HG3 := Lib.hid hg3; clear hgr hown hat hlt hkm2 hm3 hg3 hfb2)
          | (go_simp; go_at_call 119; refine (means_any (by first | exact HR1.out | exact HR1.out.fr0 (Fr.refl (fun _ => False) w1).drew) x HXS.out (by rw [← HNX.out]; exact hnxb)).mono ?_; rintro e w' ⟨rfl, rfl⟩; rw [← HMI.out]))
        all_goals go_wp2_with fail
        all_goals go_meet
        all_goals exact KRel.mk' (by rw [← HVX.out]; exact HVS.out) HNX.out (((Fr.refl (fun _ => False) w1).alloc _).drew) HO2.out HG2.out HAT2.out HLT2.out HM3.out HG3.out HKM2.out.isMapBlk
      case rest =>
        obtain ⟨v', hK'⟩ := hcut
        have hLw := hK'.keepRow HR1.out.K.isMapBlk (HR1.out.R x.data.toList) HR1.out.L (by decide)
        have hNw := hK'.keepRow HR1.out.K.isMapBlk (HR1.out.R x.data.toList) HR1.out.N (by decide)
        have hl1' : s1.layers.length = nr + 1 := by rw [HR1.out.lay, List.length_cons, HNR.out]
        rw [hl1', HVL.out] at hLw
        obtain ⟨b0, b1, bf, lgL⟩ := lastPair hLw (by rw [HRC.out, HNR.out])
        have bf0 := bf (nr * 2)
        obtain ⟨aN, cN, hvN, hncN, _⟩ := ownShape hNw
        obtain ⟨nn, hnn⟩ : ∃ nn, nn = l1.names.length := ⟨_, rfl⟩
        rw [← hnn] at hvN hncN hNw
        rw [hvN] at b0
        have hnnb : nn ≤ 1099511627776 := by
          have h1 := (countS_len (nm := nmT C.bs) (ns.take i) HLEN.out).names l1
          rw [← HS1.out, HR1.out.lay] at h1
          have h2 := h1 (List.mem_cons_self ..)
          have h3 := HOPSI.out
          unfold bigN at h3
          omega
        obtain ⟨i9, hi9, hy0, hy1, hy2⟩ := info_parts info9
        have HKR := Lib.hid hK'; have HLW := Lib.hid hLw; have HNW := Lib.hid hNw; have HVN := Lib.hid hvN; have HNN := Lib.hid hnn; have HL1 := Lib.hid hl1'
        clear hK' hLw hNw hvN hnn hl1' bf hl1 hl2 hl3
        go_wp2_with (at_builtin; refine wpList_append_own_at _ rfl (.tmp 66) (.tmp 68) 204 rfl 0 9 i9 (.string ⟨#[]⟩) 1 16 Tryz.underlying204 hi9 hy0 hy1 hy2 rfl (by decide) (.slice aN nn cN) nn (l1.names.map strV) rfl (by rw [← HVN.out]; exact HNW.out.alloc _) ⟨wc.heap.size, 0, none⟩ 1 1 [.string x] rfl rfl (by exact cells1 (blkNew wc _)) (by intro u hu; simp at hu; rcases hu with rfl; rfl) (by unfold maxLen; omega) (by omega) (Nat.zero_le _) ?_; intro vN' w5 hN5 hg5 _ hat5; obtain ⟨a5, c5, rfl, hnc5, _⟩ := ownShape hN5; have hL5 := grownRow hg5 (HLW.out.alloc _) (by rw [← HVN.out]; exact fun k hk e => rowNe HLW.out HNW.out (by decide) hk e); obtain ⟨d0, d1, df, ld⟩ := lastPair hL5 (by rw [HRC.out, HNR.out]); have df0 := df (nr * 2); have HL5 := Lib.hid hL5; have HN5 := Lib.hid hN5; have HG5 := Lib.hid hg5; have HAT5 := Lib.hid hat5; clear hL5 hN5 hg5 hat5 df)
        have hw1 : Fr (fun _ => False) wr w1 := HBX.out
        obtain ⟨F2, l2, hR2, hF2⟩ := FRep.counted (k := k) (d := ⟨frm, en, kd, ag⟩) (x := x.data.toList) (m := max (k : Int) mI) (nn := nn) (nr := nr) (gL := gL) (cL := cL) HR1.out HD.out HXL.out (by rw [HMI.out]; unfold meansS; exact max_means k _) HKR.out HNN.out HNR.out (by rw [HRC.out, HNR.out]) HVL.out HN5.out (by rw [HVN.out]; exact HG5.out) (by rw [HVN.out]; exact HAT5.out) (by rw [HVL.out]; exact HL5.out) rfl
        have hst : count1 (nmT C.bs) s1 k = countS (nmT C.bs) (ns.take (i + 1)) s := by rw [countS_take _ _ _ _ _ HK.out, ← HS1.out]
        rw [hst] at hR2
        have hC : CRel C hb rc F ns s vD vB vL vS r w (i + 1) _ := ⟨F2, _, _, l2, hR2, (HF.out.trans (FrF.of0 hw1)).trans hF2⟩
        refine ⟨⟨i + 1, by omega, by go_num, hC⟩, ?_⟩
        · simp [intOf]; omega
    · obtain rfl : i = len := by omega
      have HR := Lib.hid hR; have HF := Lib.hid hF
      clear hR hF
      go_wp2_with fail
      go_end0
      exact ⟨rfl, F1, vN1, val1, l1, HR.out, HF.out⟩
end Go.Proofs.YtkicpjjfeekopaaGreatDoor
