/- The parser, on tokens in a block of their own. The parser, on tokens in a block of their own: all parts. More fuel answers the same. The tree of tokens in a block of their own. A text in a block of its own: its tokens, its tree, its names. Walks: glossatorlaw20.shut. Walks: glossatorlaw20.ScopeBlock. -/
import Derived.Test.YtkicpjjfeekopaaGreatDoorKa00
import Derived.Test.YtkicpjjfeekopaaGreatDoorKe00
import Derived.Test.YtkicpjjfeekopaaGreatDoorKs00
set_option linter.unusedVariables false
set_option linter.unusedSimpArgs false
set_option linter.unusedSectionVars false
namespace Go.Proofs.YtkicpjjfeekopaaGreatDoor
mutual
/-- No Error, nothing missing. -/
def shutT : Tree → Bool
  | .node k _ _ kids => decide (k ≠ 50 ∧ k ≠ 68) && shutL kids
def shutL : List Tree → Bool
  | [] => true
  | t :: ts => shutT t && shutL ts
end
theorem shutL_append (a b : List Tree) : shutL (a ++ b) = (shutL a && shutL b) := by
  induction a with
  | nil => simp [shutL]
  | cons x a ih => simp [shutL, ih, Bool.and_assoc]
theorem shutL_mem {l : List Tree} {t : Tree} (h : shutL l = true) (ht : t ∈ l) : shutT t = true := by
  induction l with
  | nil => cases ht
  | cons x l ih =>
    simp only [shutL, Bool.and_eq_true] at h
    rcases List.mem_cons.1 ht with rfl | ht
    · exact h.1
    · exact ih h.2 ht
section
variable (toks toks' : List Tok)
/-- The same tokens, one place further on, with a closing brace behind. -/
structure Braced : Prop where
  nx : ∀ a, a ≤ toks.length → next toks' (a + 1) = next toks a + 1
  get : ∀ a, a < toks.length → toks'[a + 1]? = toks[a]?
  seg : ∀ a n, a + n ≤ toks.length → (toks'.drop (a + 1)).take n = (toks.drop a).take n
  last : ∃ t, toks'[toks.length + 1]? = some t ∧ t.kind = 23
theorem nextGo_braced (r : Tok) (hr : countsK r.kind = true) : ∀ (x : List Tok) (i : Nat), nextGo (x ++ [r]) (i + 1) = nextGo x i + 1
  | [], i => by simp only [List.nil_append, nextGo]; rw [if_pos hr]
  | t :: x, i => by
    simp only [List.cons_append, nextGo]
    rw [nextGo_braced r hr x (i + 1)]
    split <;> rfl
theorem braced_of {toks : List Tok} {l r : Tok} (hr : r.kind = 23) : Braced toks (l :: (toks ++ [r])) := by
  refine ⟨fun a ha => ?_, fun a ha => ?_, fun a n h => ?_, ⟨r, ?_, hr⟩⟩
  · unfold next
    rw [List.drop_succ_cons, List.drop_append_of_le_length ha]
    exact nextGo_braced r (by rw [hr]; decide) _ _
  · rw [List.getElem?_cons_succ, List.getElem?_append_left ha]
  · rw [List.drop_succ_cons, List.drop_append_of_le_length (by omega), List.take_append_of_le_length (by rw [List.length_drop]; omega)]
  · rw [List.getElem?_cons_succ, List.getElem?_append_right (Nat.le_refl _), Nat.sub_self]; rfl
variable {toks toks'}
theorem Braced.kind (B : Braced toks toks') {a : Nat} (ha : a ≤ toks.length) : kindM toks' (a + 1) = if next toks a < toks.length then kindM toks a else 23 := by
  unfold kindM
  rw [B.nx a ha]
  have h := next_ge toks a ha
  by_cases hlt : next toks a < toks.length
  · rw [if_pos hlt, B.get _ hlt]
  · rw [if_neg hlt]
    obtain ⟨t, h1, h2⟩ := B.last
    rw [show next toks a = toks.length by omega, h1]
    exact h2
theorem kind_end {a : Nat} (h : ¬ next toks a < toks.length) : kindM toks a = 0 := by
  unfold kindM
  rw [List.getElem?_eq_none (by omega)]
/-- What asks of a kind, and takes the end as it takes a closing brace, answers the same. -/
theorem Braced.ask (B : Braced toks toks') {α : Type} (c : Nat → α) (h : c 23 = c 0) {a : Nat} (ha : a ≤ toks.length) : c (kindM toks' (a + 1)) = c (kindM toks a) := by
  rw [B.kind ha]
  split
  · rfl
  · rename_i hn
    rw [kind_end hn, h]
/-- A command, on the tokens and on the braced ones. -/
def SimA (H : Prop) (A A' : St → Option St) : Prop := ∀ a p s', a ≤ toks.length → A (a, p) = some s' → ∃ new, s'.2 = p ++ new ∧ s'.1 ≤ toks.length ∧
  (shutL new = true → H ∧ ∀ q : List Tree, q.length + new.length ≤ 1000000 → A' (a + 1, q) = some (s'.1 + 1, q ++ new))
def SimN (H : Prop) (N N' : Nat → Option (Nat × Tree)) : Prop := ∀ a r, a ≤ toks.length → N a = some r → r.1 ≤ toks.length ∧ (shutT r.2 = true → H ∧ N' (a + 1) = some (r.1 + 1, r.2))
theorem SimA.bind {H : Prop} {A A' B B' : St → Option St} (h : SimA (toks := toks) H A A') (k : SimA (toks := toks) True B B') : SimA (toks := toks) H (fun s => (A s).bind B) (fun s => (A' s).bind B') := by
  intro a p s' ha hs
  obtain ⟨s1, h1, h2⟩ := Option.bind_eq_some_iff.1 hs
  obtain ⟨n1, e1, l1, g1⟩ := h a p s1 ha h1
  obtain ⟨a1, p1⟩ := s1
  simp only at e1 l1 g1
  subst e1
  obtain ⟨n2, e2, l2, g2⟩ := k a1 _ s' l1 h2
  refine ⟨n1 ++ n2, by rw [e2, List.append_assoc], l2, fun hsh => ?_⟩
  rw [shutL_append, Bool.and_eq_true] at hsh
  obtain ⟨hH, q1⟩ := g1 hsh.1
  obtain ⟨_, q2⟩ := g2 hsh.2
  refine ⟨hH, fun q hq => ?_⟩
  rw [List.length_append] at hq
  simp only
  rw [q1 q (by omega), Option.bind_some, q2 (q ++ n1) (by rw [List.length_append]; omega), List.append_assoc]
theorem SimA.some (p : True) : SimA (toks := toks) True (fun s => some s) (fun s => some s) := by
  intro a p s' ha hs
  injection hs with hs
  subst hs
  exact ⟨[], by simp, ha, fun _ => ⟨trivial, fun q _ => by simp⟩⟩
theorem SimA.ask (B : Braced toks toks') {c : Nat → Prop} [DecidablePred c] (h : c 23 ↔ c 0) {H : Prop} {A A' D D' : St → Option St} (h1 : SimA (toks := toks) H A A') (h2 : SimA (toks := toks) H D D') :
    SimA (toks := toks) H (fun s => if c (kindM toks s.1) then A s else D s) (fun s => if c (kindM toks' s.1) then A' s else D' s) := by
  intro a p s' ha hs
  have hc : c (kindM toks' (a + 1)) ↔ c (kindM toks a) := by
    have := B.ask (fun k => decide (c k)) (by simp [h]) ha
    simpa using this
  simp only at hs ⊢
  by_cases hk : c (kindM toks a)
  · rw [if_pos hk] at hs
    obtain ⟨new, e1, e2, e3⟩ := h1 a p s' ha hs
    refine ⟨new, e1, e2, fun hsh => ?_⟩
    obtain ⟨q1, q2⟩ := e3 hsh
    exact ⟨q1, fun q hq => by rw [if_pos (hc.2 hk)]; exact q2 q hq⟩
  · rw [if_neg hk] at hs
    obtain ⟨new, e1, e2, e3⟩ := h2 a p s' ha hs
    refine ⟨new, e1, e2, fun hsh => ?_⟩
    obtain ⟨q1, q2⟩ := e3 hsh
    exact ⟨q1, fun q hq => by rw [if_neg (fun h => hk (hc.1 h))]; exact q2 q hq⟩
theorem SimA.add (t : Tree) : SimA (toks := toks) (shutT t = true) (fun s => addM s t) (fun s => addM s t) := by
  intro a p s' ha hs
  change addM (a, p) t = Option.some s' at hs
  unfold addM at hs
  split at hs
  · injection hs with hs
    subst hs
    refine ⟨[t], rfl, ha, fun hsh => ?_⟩
    simp only [shutL, Bool.and_true] at hsh
    refine ⟨hsh, fun q hq => ?_⟩
    change addM (a + 1, q) t = _
    unfold addM
    simp only [List.length_singleton] at hq
    rw [if_pos (by simp only; omega)]
  · cases hs
theorem SimA.weak {H : Prop} {A A' : St → Option St} (h : SimA (toks := toks) H A A') : SimA (toks := toks) True A A' := by
  intro a p s' ha hs
  obtain ⟨new, e1, e2, e3⟩ := h a p s' ha hs
  exact ⟨new, e1, e2, fun hsh => ⟨trivial, (e3 hsh).2⟩⟩
/-- What is not shut need not be followed. -/
theorem SimA.open_ {H : Prop} {A A' : St → Option St} (h : ∀ a p s', a ≤ toks.length → A (a, p) = Option.some s' → ∃ new, s'.2 = p ++ new ∧ s'.1 ≤ toks.length ∧ shutL new = false) : SimA (toks := toks) H A A' := by
  intro a p s' ha hs
  obtain ⟨new, e1, e2, e3⟩ := h a p s' ha hs
  exact ⟨new, e1, e2, fun hsh => by rw [e3] at hsh; cases hsh⟩
theorem SimA.miss {H : Prop} (w : Nat) {A' : St → Option St} : SimA (toks := toks) H (fun s => addM s (missT w)) A' := by
  refine SimA.open_ (fun a p s' ha hs => ?_)
  change addM (a, p) (missT w) = Option.some s' at hs
  unfold addM at hs
  split at hs
  · injection hs with hs
    subst hs
    exact ⟨[missT w], rfl, ha, rfl⟩
  · cases hs
theorem gapNew (B : Braced toks toks') : SimA (toks := toks) True (gapM toks) (gapM toks') := by
  intro a p s' ha hs
  unfold gapM at hs
  split at hs
  · injection hs with hs
    subst hs
    have hg := next_ge toks a ha
    refine ⟨_, rfl, hg.2, fun _ => ⟨trivial, fun q hq => ?_⟩⟩
    simp only [List.length_map, List.length_take, List.length_drop] at hq
    unfold gapM
    simp only
    rw [B.nx a ha, Nat.add_sub_add_right, if_pos (by omega), B.seg a _ (by omega)]
  · cases hs
theorem nextNew (B : Braced toks toks') : SimA (toks := toks) True (nextM toks) (nextM toks') := by
  intro a p s' ha hs
  unfold nextM at hs
  obtain ⟨s1, h1, h2⟩ := Option.bind_eq_some_iff.1 hs
  obtain ⟨n1, e1, l1, g1⟩ := gapNew B a p s1 ha h1
  obtain ⟨a1, p1⟩ := s1
  simp only at e1 l1 g1 h2
  subst e1
  cases ht : toks[a1]? with
  | none => rw [ht] at h2; cases h2
  | some t =>
    rw [ht] at h2
    simp only at h2
    have hlt := (List.getElem?_eq_some_iff.1 ht).1
    unfold addM at h2
    split at h2
    · simp only [Option.map_some, Option.some.injEq] at h2
      subst h2
      refine ⟨n1 ++ [leafT t], by rw [List.append_assoc], by simp only; omega, fun hsh => ⟨trivial, fun q hq => ?_⟩⟩
      rw [shutL_append, Bool.and_eq_true] at hsh
      rw [List.length_append, List.length_singleton] at hq
      unfold nextM
      rw [(g1 hsh.1).2 q (by omega), Option.bind_some]
      simp only
      rw [B.get a1 hlt, ht]
      simp only
      unfold addM
      rw [if_pos (by simp only [List.length_append]; omega)]
      simp
    · cases h2
theorem wantNew (B : Braced toks toks') (k : Nat) (hk : k ≠ 0) : SimA (toks := toks) True (wantM toks k) (wantM toks' k) := by
  intro a p s' ha hs
  unfold wantM at hs
  simp only at hs
  by_cases h : kindM toks a = k
  · rw [if_pos h] at hs
    obtain ⟨new, e1, e2, e3⟩ := nextNew B a p s' ha hs
    refine ⟨new, e1, e2, fun hsh => ⟨trivial, fun q hq => ?_⟩⟩
    unfold wantM
    simp only
    have hlt : next toks a < toks.length := by
      by_cases hn : next toks a < toks.length
      · exact hn
      · rw [kind_end hn] at h; omega
    rw [if_pos (by rw [B.kind ha, if_pos hlt]; exact h)]
    exact (e3 hsh).2 q hq
  · rw [if_neg h] at hs
    obtain ⟨new, e1, e2, e3⟩ := SimA.miss (toks := toks) (H := True) k (A' := wantM toks' k) a p s' ha hs
    exact ⟨new, e1, e2, e3⟩
theorem SimN.put {H : Prop} {N N' : Nat → Option (Nat × Tree)} (h : SimN (toks := toks) H N N') : SimA (toks := toks) H (fun s => (N s.1).bind fun r => addM (r.1, s.2) r.2) (fun s => (N' s.1).bind fun r => addM (r.1, s.2) r.2) := by
  intro a p s' ha hs
  obtain ⟨r, h1, h2⟩ := Option.bind_eq_some_iff.1 hs
  obtain ⟨l1, g1⟩ := h a r ha h1
  unfold addM at h2
  split at h2
  · injection h2 with h2
    subst h2
    refine ⟨[r.2], rfl, l1, fun hsh => ?_⟩
    simp only [shutL, Bool.and_true] at hsh
    obtain ⟨hH, q1⟩ := g1 hsh
    refine ⟨hH, fun q hq => ?_⟩
    simp only
    rw [q1, Option.bind_some]
    unfold addM
    simp only [List.length_singleton] at hq
    rw [if_pos (by simp only; omega)]
  · cases h2
/-- Behind a gap nothing lies ahead of what counts. -/
def SimG (H : Prop) (N N' : Nat → Option (Nat × Tree)) : Prop := ∀ a r, a ≤ toks.length → next toks a = a → N a = some r → r.1 ≤ toks.length ∧ (shutT r.2 = true → H ∧ N' (a + 1) = some (r.1 + 1, r.2))
theorem SimG.put (B : Braced toks toks') {N N' : Nat → Option (Nat × Tree)} (h : SimG (toks := toks) True N N') :
    SimA (toks := toks) True (fun s => (gapM toks s).bind fun s1 => (N s1.1).bind fun r => addM (r.1, s1.2) r.2) (fun s => (gapM toks' s).bind fun s1 => (N' s1.1).bind fun r => addM (r.1, s1.2) r.2) := by
  intro a p s' ha hs
  obtain ⟨s1, h1, h2⟩ := Option.bind_eq_some_iff.1 hs
  obtain ⟨n1, e1, l1, g1⟩ := gapNew B a p s1 ha h1
  have hnn : next toks s1.1 = s1.1 := by
    unfold gapM at h1
    split at h1
    · injection h1 with h1
      rw [← h1]
      exact next_next toks a ha
    · cases h1
  obtain ⟨r, h3, h4⟩ := Option.bind_eq_some_iff.1 h2
  obtain ⟨l3, g3⟩ := h s1.1 r l1 hnn h3
  unfold addM at h4
  split at h4
  · injection h4 with h4
    subst h4
    refine ⟨n1 ++ [r.2], by simp only; rw [e1, List.append_assoc], l3, fun hsh => ⟨trivial, fun q hq => ?_⟩⟩
    rw [shutL_append, Bool.and_eq_true] at hsh
    simp only [shutL, Bool.and_true] at hsh
    rw [List.length_append, List.length_singleton] at hq
    simp only
    rw [(g1 hsh.1).2 q (by omega), Option.bind_some]
    simp only
    rw [(g3 hsh.2).2, Option.bind_some]
    unfold addM
    rw [if_pos (by simp only [List.length_append]; omega)]
    simp
  · cases h4
theorem SimN.gap {H : Prop} {N N' : Nat → Option (Nat × Tree)} (h : SimN (toks := toks) H N N') : SimG (toks := toks) H N N' := fun a r ha _ hs => h a r ha hs
theorem SimA.make {H : Prop} {A A' : St → Option St} (h : SimA (toks := toks) H A A') (kind : Nat) : SimN (toks := toks) H (fun a => (A (a, [])).bind fun s => sumM kind s) (fun a => (A' (a, [])).bind fun s => sumM kind s) := by
  intro a r ha hs
  obtain ⟨s, h1, h2⟩ := Option.bind_eq_some_iff.1 hs
  obtain ⟨new, e1, l1, g1⟩ := h a [] s ha h1
  rw [List.nil_append] at e1
  unfold sumM at h2
  split at h2
  · rename_i hc
    injection h2 with h2
    subst h2
    refine ⟨l1, fun hsh => ?_⟩
    simp only [shutT, Bool.and_eq_true] at hsh
    obtain ⟨hH, q1⟩ := g1 (by rw [← e1]; exact hsh.2)
    refine ⟨hH, ?_⟩
    simp only
    rw [q1 [] (by rw [← e1, List.length_nil]; omega), Option.bind_some, List.nil_append, ← e1]
    unfold sumM
    rw [if_pos hc]
  · cases h2
end
end Go.Proofs.YtkicpjjfeekopaaGreatDoor

namespace Go.Proofs.YtkicpjjfeekopaaGreatDoor
variable {toks toks' : List Tok}
/-- What stands first among what a command adds. -/
def headM : MC → Prop
  | .binB _ first => shutT first = true
  | .callB first => shutT first = true
  | _ => True
def headN : NC → Prop
  | .levelLoop _ left => shutT left = true
  | .callLoop left => shutT left = true
  | .make _ c => headM c
  | _ => True
/-- What a round of the file does, the round of a block does. -/
structure SimF (toks toks' : List Tok) (f : Nat) : Prop where
  wn : ∀ a r, a ≤ toks.length → runN toks f (.make 68 .wrongB) a = some r → r.1 ≤ toks.length ∧ shutT r.2 = false
  wr : ∀ a p s', a ≤ toks.length → runM toks f .wrongB (a, p) = some s' → ∃ new, s'.2 = p ++ new ∧ s'.1 ≤ toks.length
  m : ∀ c, c ≠ .wrongB → c ≠ .fileB → c ≠ .fileLoop → SimA (toks := toks) (headM c) (runM toks f c) (runM toks' f c)
  n : ∀ c, c ≠ .statement → (∀ k, c ≠ .make k .wrongB) → (∀ k, c ≠ .make k .fileB) → (∀ k, c ≠ .make k .fileLoop) → SimN (toks := toks) (headN c) (runN toks f c) (runN toks' f c)
  s : SimG (toks := toks) True (runN toks f .statement) (runN toks' f .statement)
  w : SimA (toks := toks) True (runM toks f .fileLoop) (runM toks' f .blockLoop)
theorem SimN.to {H : Prop} {N N' M M' : Nat → Option (Nat × Tree)} (h : SimN (toks := toks) H N N') (e : ∀ a, M a = N a) (e' : ∀ a, M' a = N' a) : SimN (toks := toks) H M M' := by
  have h1 : M = N := funext e
  have h2 : M' = N' := funext e'
  rw [h1, h2]; exact h
theorem SimA.to {H : Prop} {N N' M M' : St → Option St} (h : SimA (toks := toks) H N N') (e : ∀ a, M a = N a) (e' : ∀ a, M' a = N' a) : SimA (toks := toks) H M M' := by
  have h1 : M = N := funext e
  have h2 : M' = N' := funext e'
  rw [h1, h2]; exact h
theorem SimN.ask (B : Braced toks toks') {c : Nat → Prop} [DecidablePred c] (h : c 23 ↔ c 0) {H : Prop} {A A' D D' : Nat → Option (Nat × Tree)} (h1 : SimN (toks := toks) H A A') (h2 : SimN (toks := toks) H D D') :
    SimN (toks := toks) H (fun a => if c (kindM toks a) then A a else D a) (fun a => if c (kindM toks' a) then A' a else D' a) := by
  intro a r ha hs
  have hc : c (kindM toks' (a + 1)) ↔ c (kindM toks a) := by
    have := B.ask (fun k => decide (c k)) (by simp [h]) ha
    simpa using this
  simp only at hs ⊢
  by_cases hk : c (kindM toks a)
  · rw [if_pos hk] at hs
    rw [if_pos (hc.2 hk)]
    exact h1 a r ha hs
  · rw [if_neg hk] at hs
    rw [if_neg (fun h => hk (hc.1 h))]
    exact h2 a r ha hs
theorem SimN.loop {H : Prop} {N N' : Nat → Option (Nat × Tree)} {C C' : Tree → Nat → Option (Nat × Tree)} (h : SimN (toks := toks) H N N') (k : ∀ t, SimN (toks := toks) (shutT t = true) (C t) (C' t)) :
    SimN (toks := toks) H (fun a => (N a).bind fun r => C r.2 r.1) (fun a => (N' a).bind fun r => C' r.2 r.1) := by
  intro a r ha hs
  obtain ⟨r1, h1, h2⟩ := Option.bind_eq_some_iff.1 hs
  obtain ⟨l1, g1⟩ := h a r1 ha h1
  obtain ⟨l2, g2⟩ := k r1.2 r1.1 r l1 h2
  refine ⟨l2, fun hsh => ?_⟩
  obtain ⟨hl, q2⟩ := g2 hsh
  obtain ⟨hH, q1⟩ := g1 hl
  refine ⟨hH, ?_⟩
  simp only
  rw [q1, Option.bind_some]
  exact q2
theorem SimN.left (t : Tree) : SimN (toks := toks) (shutT t = true) (fun a => some (a, t)) (fun a => some (a, t)) := by
  intro a r ha hs
  injection hs with hs
  subst hs
  exact ⟨ha, fun h => ⟨h, rfl⟩⟩
theorem SimN.weak {H : Prop} {N N' : Nat → Option (Nat × Tree)} (h : SimN (toks := toks) H N N') : SimN (toks := toks) True N N' := fun a r ha hs => by
  obtain ⟨l, g⟩ := h a r ha hs
  exact ⟨l, fun hsh => ⟨trivial, (g hsh).2⟩⟩
/-- A node that is an Error need not be followed. -/
theorem simA_wrong (B : Braced toks toks') {f : Nat} (F : SimF toks toks' f) (H : Prop) (A' : St → Option St) : SimA (toks := toks) H (fun s => (gapM toks s).bind fun s1 => nodeM (runN toks f) (.make 68 .wrongB) s1) A' := by
  refine SimA.open_ (fun a p s' ha hs => ?_)
  obtain ⟨s1, h1, h2⟩ := Option.bind_eq_some_iff.1 hs
  obtain ⟨n1, e1, l1, _⟩ := gapNew B a p s1 ha h1
  unfold nodeM at h2
  obtain ⟨r, h3, h4⟩ := Option.bind_eq_some_iff.1 h2
  have hr := F.wn _ _ l1 h3
  unfold addM at h4
  split at h4
  · injection h4 with h4
    subst h4
    refine ⟨n1 ++ [r.2], by simp only; rw [e1, List.append_assoc], hr.1, ?_⟩
    rw [shutL_append]
    simp [shutL, hr.2]
  · cases h4
theorem nextBnd (B : Braced toks toks') {a : Nat} {p : List Tree} {s' : St} (ha : a ≤ toks.length) (h : nextM toks (a, p) = some s') : ∃ new, s'.2 = p ++ new ∧ s'.1 ≤ toks.length := by
  obtain ⟨n, h1, h2, _⟩ := nextNew B a p s' ha h
  exact ⟨n, h1, h2⟩
/-- What one command of a block answers, where nothing lies ahead of it: one node. -/
theorem block_one {f a : Nat} {p : List Tree} {s' : St} (hg : next toks a = a) (h : runM toks f .block (a, p) = some s') : ∃ t, s'.2 = p ++ [t] := by
  cases f with
  | zero => simp [runM] at h
  | succ f =>
    simp only [runM, bodyM] at h
    split at h
    · unfold addM at h
      split at h
      · injection h with h; subst h; exact ⟨_, rfl⟩
      · cases h
    · unfold putM at h
      obtain ⟨s1, h1, h2⟩ := Option.bind_eq_some_iff.1 h
      unfold gapM at h1
      simp only [hg, Nat.sub_self, List.take_zero, List.map_nil, List.append_nil] at h1
      split at h1
      · injection h1 with h1
        subst h1
        obtain ⟨r, _, h4⟩ := Option.bind_eq_some_iff.1 h2
        unfold addM at h4
        split at h4
        · injection h4 with h4; subst h4; exact ⟨_, rfl⟩
        · cases h4
      · cases h1
theorem kind_lt {a : Nat} (ha : a ≤ toks.length) (h : kindM toks a ≠ 0) : next toks a < toks.length := by
  by_cases hn : next toks a < toks.length
  · exact hn
  · exact absurd (kind_end hn) h
theorem stmtBody_ne (k : Nat) : stmtBody k ≠ .wrongB ∧ stmtBody k ≠ .fileB ∧ stmtBody k ≠ .fileLoop := by
  unfold stmtBody
  refine ⟨?_, ?_, ?_⟩ <;> ((repeat' split) <;> simp)
theorem sim_all (B : Braced toks toks') : ∀ f, SimF toks toks' f
  | 0 => by
    refine ⟨?_, ?_, ?_, ?_, ?_, ?_⟩
    · intro a r _ h; simp [runN] at h
    · intro a p s' _ h; simp [runM] at h
    · intro c _ _ _ a p s' _ h; simp [runM] at h
    · intro c _ _ _ _ a r _ h; simp [runN] at h
    · intro a r _ _ h; simp [runN] at h
    · intro a p s' _ h; simp [runM] at h
  | f + 1 => by
    have F := sim_all B f
    have E := F.m .expression (by simp) (by simp) (by simp)
    have BL := F.m .block (by simp) (by simp) (by simp)
    refine ⟨?_, ?_, ?_, ?_, ?_, ?_⟩
    · intro a r ha h
      simp only [runN, bodyN] at h
      obtain ⟨s, h1, h2⟩ := Option.bind_eq_some_iff.1 h
      obtain ⟨new, e1, l1⟩ := F.wr _ _ _ ha h1
      unfold sumM at h2
      split at h2
      · injection h2 with h2
        subst h2
        exact ⟨l1, by simp [shutT]⟩
      · cases h2
    · intro a p s' ha h
      simp only [runM, bodyM] at h
      obtain ⟨s1, h1, h2⟩ := Option.bind_eq_some_iff.1 h
      obtain ⟨n1, e1, l1⟩ := nextBnd B ha h1
      split at h2
      · injection h2 with h2
        subst h2
        exact ⟨n1, e1, l1⟩
      · obtain ⟨n2, e2, l2⟩ := F.wr _ s1.2 _ l1 h2
        exact ⟨n1 ++ n2, by rw [e2, e1, List.append_assoc], l2⟩
    · intro c hw hfb hfl
      cases c with
      | inner => exact SimA.to (SimA.ask B (c := fun k => stmtOf k ≠ 0) (by decide) (F.s.put B) (simA_wrong B F _ (fun s => (gapM toks' s).bind fun s1 => nodeM (runN toks' f) (.make 68 .wrongB) s1))) (fun s => by rw [runM]; rfl) (fun s => by rw [runM]; rfl)
      | letB => exact SimA.to ((nextNew B).bind ((wantNew B 6 (by decide)).bind ((wantNew B 26 (by decide)).bind (E.bind (wantNew B 25 (by decide)))))) (fun s => by rw [runM]; rfl) (fun s => by rw [runM]; rfl)
      | fnB => exact SimA.to ((nextNew B).bind ((wantNew B 6 (by decide)).bind ((gapNew B).bind ((SimN.put (F.n (.make 55 .params) (by simp) (by simp) (by simp) (by simp))).bind BL)))) (fun s => by rw [runM]; rfl) (fun s => by rw [runM]; rfl)
      | params => exact SimA.to ((wantNew B 20 (by decide)).bind ((SimA.ask B (c := fun k => k = 6) (by decide) ((nextNew B).bind (F.m .paramsLoop (by simp) (by simp) (by simp))) (SimA.some trivial)).bind (wantNew B 21 (by decide)))) (fun s => by rw [runM]; rfl) (fun s => by rw [runM]; rfl)
      | paramsLoop => exact SimA.to (SimA.ask B (c := fun k => k = 24) (by decide) ((nextNew B).bind ((wantNew B 6 (by decide)).bind (F.m .paramsLoop (by simp) (by simp) (by simp)))) (SimA.some trivial)) (fun s => by rw [runM]; rfl) (fun s => by rw [runM]; rfl)
      | branch => exact SimA.to ((nextNew B).bind (E.bind (BL.bind (SimA.ask B (c := fun k => k ≠ 13) (by decide) (SimA.some trivial) ((nextNew B).bind (SimA.ask B (c := fun k => k = 12) (by decide) (F.s.put B) BL)))))) (fun s => by rw [runM]; rfl) (fun s => by rw [runM]; rfl)
      | loopB => exact SimA.to ((nextNew B).bind (E.bind BL)) (fun s => by rw [runM]; rfl) (fun s => by rw [runM]; rfl)
      | back => exact SimA.to ((nextNew B).bind ((SimA.ask B (c := fun k => beginsK k = true) (by decide) E (SimA.some trivial)).bind (wantNew B 25 (by decide)))) (fun s => by rw [runM]; rfl) (fun s => by rw [runM]; rfl)
      | doB => exact SimA.to (E.bind ((SimA.ask B (c := fun k => k = 26) (by decide) ((nextNew B).bind E) (SimA.some trivial)).bind (wantNew B 25 (by decide)))) (fun s => by rw [runM]; rfl) (fun s => by rw [runM]; rfl)
      | block => exact SimA.to (SimA.ask B (c := fun k => k ≠ 22) (by decide) (SimA.miss 52 (A' := fun s => addM s (missT 52))) ((F.n (.make 52 .blockB) (by simp) (by simp) (by simp) (by simp)).gap.put B)) (fun s => by rw [runM]; rfl) (fun s => by rw [runM]; rfl)
      | blockB => exact SimA.to ((nextNew B).bind ((F.m .blockLoop (by simp) (by simp) (by simp)).bind (wantNew B 23 (by decide)))) (fun s => by rw [runM]; rfl) (fun s => by rw [runM]; rfl)
      | blockLoop => exact SimA.to (SimA.ask B (c := fun k => k ≠ 23 ∧ k ≠ 0) (by decide) ((F.m .inner (by simp) (by simp) (by simp)).bind (F.m .blockLoop (by simp) (by simp) (by simp))) (SimA.some trivial)) (fun s => by rw [runM]; rfl) (fun s => by rw [runM]; rfl)
      | expression => exact SimA.to (SimA.ask B (c := fun k => beginsK k = true) (by decide) ((F.n (.make 60 .exprB) (by simp) (by simp) (by simp) (by simp)).gap.put B) (SimA.miss 60 (A' := fun s => addM s (missT 60)))) (fun s => by rw [runM]; rfl) (fun s => by rw [runM]; rfl)
      | exprB => exact SimA.to (SimN.put (F.n (.level 1) (by simp) (by simp) (by simp) (by simp))) (fun s => by rw [runM]; rfl) (fun s => by rw [runM]; rfl)
      | args => exact SimA.to ((nextNew B).bind ((SimA.ask B (c := fun k => beginsK k = true) (by decide) (E.bind (F.m .argsLoop (by simp) (by simp) (by simp))) (SimA.some trivial)).bind (wantNew B 21 (by decide)))) (fun s => by rw [runM]; rfl) (fun s => by rw [runM]; rfl)
      | argsLoop => exact SimA.to (SimA.ask B (c := fun k => k = 24) (by decide) ((nextNew B).bind (E.bind (F.m .argsLoop (by simp) (by simp) (by simp)))) (SimA.some trivial)) (fun s => by rw [runM]; rfl) (fun s => by rw [runM]; rfl)
      | fileB => exact absurd rfl hfb
      | fileLoop => exact absurd rfl hfl
      | wrongB => exact absurd rfl hw
      | unaryB => exact SimA.to ((nextNew B).bind (SimA.ask B (c := fun k => beginsK k = true) (by decide) ((F.n .unary (by simp) (by simp) (by simp) (by simp)).gap.put B) (SimA.miss 60 (A' := fun s => addM s (missT 60))))) (fun s => by rw [runM]; rfl) (fun s => by rw [runM]; rfl)
      | groupB => exact SimA.to ((nextNew B).bind (E.bind (wantNew B 21 (by decide)))) (fun s => by rw [runM]; rfl) (fun s => by rw [runM]; rfl)
      | nextB => exact SimA.to (nextNew B) (fun s => by rw [runM]; rfl) (fun s => by rw [runM]; rfl)
      | binB n first => exact SimA.to ((SimA.add first).bind ((nextNew B).bind (SimA.ask B (c := fun k => beginsK k = true) (by decide) ((F.n (.level (n + 1)) (by simp) (by simp) (by simp) (by simp)).gap.put B) (SimA.miss 60 (A' := fun s => addM s (missT 60)))))) (fun s => by rw [runM]; rfl) (fun s => by rw [runM]; rfl)
      | callB first => exact SimA.to ((SimA.add first).bind ((gapNew B).bind (SimN.put (F.n (.make 64 .args) (by simp) (by simp) (by simp) (by simp))))) (fun s => by rw [runM]; rfl) (fun s => by rw [runM]; rfl)
    · intro c hs hw hfb hfl
      cases c with
      | statement => exact absurd rfl hs
      | level n =>
        by_cases hn : 5 < n
        · exact SimN.to (F.n .unary (by simp) (by simp) (by simp) (by simp)) (fun a => by rw [runN]; simp only [bodyN]; rw [if_pos hn]) (fun a => by rw [runN]; simp only [bodyN]; rw [if_pos hn])
        · exact SimN.to (SimN.loop (F.n (.level (n + 1)) (by simp) (by simp) (by simp) (by simp)) (fun t => F.n (.levelLoop n t) (by simp) (by simp) (by simp) (by simp))) (fun a => by rw [runN]; simp only [bodyN]; rw [if_neg hn]) (fun a => by rw [runN]; simp only [bodyN]; rw [if_neg hn])
      | levelLoop n left => exact SimN.to (SimN.ask B (c := fun k => levelOf k = n) (by simp [levelOf]) (SimN.loop (F.n (.make 61 (.binB n left)) (by simp) (by simp) (by simp) (by simp)) (fun t => F.n (.levelLoop n t) (by simp) (by simp) (by simp) (by simp))) (SimN.left left)) (fun a => by rw [runN]; rfl) (fun a => by rw [runN]; rfl)
      | unary => exact SimN.to (SimN.ask B (c := fun k => k = 34 ∨ k = 38) (by decide) (F.n (.make 62 .unaryB) (by simp) (by simp) (by simp) (by simp)) (SimN.loop (F.n .primary (by simp) (by simp) (by simp) (by simp)) (fun t => F.n (.callLoop t) (by simp) (by simp) (by simp) (by simp)))) (fun a => by rw [runN]; rfl) (fun a => by rw [runN]; rfl)
      | callLoop left => exact SimN.to (SimN.ask B (c := fun k => k = 20) (by decide) (SimN.loop (F.n (.make 63 (.callB left)) (by simp) (by simp) (by simp) (by simp)) (fun t => F.n (.callLoop t) (by simp) (by simp) (by simp) (by simp))) (SimN.left left)) (fun a => by rw [runN]; rfl) (fun a => by rw [runN]; rfl)
      | primary => exact SimN.to (SimN.ask B (c := fun k => k = 6) (by decide) (F.n (.make 66 .nextB) (by simp) (by simp) (by simp) (by simp)) (SimN.ask B (c := fun k => k = 20) (by decide) (F.n (.make 65 .groupB) (by simp) (by simp) (by simp) (by simp)) (F.n (.make 67 .nextB) (by simp) (by simp) (by simp) (by simp)))) (fun a => by rw [runN]; rfl) (fun a => by rw [runN]; rfl)
      | make k body => exact SimN.to (SimA.make (F.m body (fun e => hw k (by rw [e])) (fun e => hfb k (by rw [e])) (fun e => hfl k (by rw [e]))) k) (fun a => by rw [runN]; rfl) (fun a => by rw [runN]; rfl)
    · intro a r ha hg h
      have hk0 : stmtOf (kindM toks a) ≠ 0 := by
        intro e
        simp only [runN, bodyN] at h
        rw [if_neg (by omega), if_pos e] at h
        cases h
      have hlt : next toks a < toks.length := kind_lt ha (fun e => hk0 (by rw [e]; rfl))
      have hk' : kindM toks' (a + 1) = kindM toks a := by rw [B.kind ha, if_pos hlt]
      rw [runN] at h
      simp only [bodyN] at h
      by_cases h52 : stmtOf (kindM toks a) = 52
      · rw [if_pos h52] at h
        obtain ⟨s, h1, h2⟩ := Option.bind_eq_some_iff.1 h
        obtain ⟨t, ht⟩ := block_one hg h1
        rw [List.nil_append] at ht
        obtain ⟨new, e1, l1, g1⟩ := BL a [] s ha h1
        rw [List.nil_append] at e1
        rw [ht] at h2 e1
        simp only [List.getElem?_cons_zero, Option.some.injEq] at h2
        subst h2
        refine ⟨l1, fun hsh => ⟨trivial, ?_⟩⟩
        rw [runN]
        simp only [bodyN]
        rw [hk', if_pos h52]
        rw [← e1] at g1
        have := (g1 (by simp only [shutL, Bool.and_true]; exact hsh)).2 [] (by simp)
        rw [this]
        rfl
      · rw [if_neg h52, if_neg hk0] at h
        obtain ⟨b1, b2, b3⟩ := stmtBody_ne (stmtOf (kindM toks a))
        have hN := F.n (.make (stmtOf (kindM toks a)) (stmtBody (stmtOf (kindM toks a)))) (by simp) (fun k e => by injection e with _ e; exact b1 e) (fun k e => by injection e with _ e; exact b2 e) (fun k e => by injection e with _ e; exact b3 e)
        obtain ⟨l1, g1⟩ := hN a r ha h
        refine ⟨l1, fun hsh => ⟨trivial, ?_⟩⟩
        rw [runN]
        simp only [bodyN]
        rw [hk', if_neg h52, if_neg hk0]
        exact (g1 hsh).2
    · intro a p s' ha h
      rw [runM] at h
      simp only [bodyM] at h
      by_cases h0 : kindM toks a ≠ 0
      · rw [if_pos h0] at h
        have hlt := kind_lt ha h0
        have hk' : kindM toks' (a + 1) = kindM toks a := by rw [B.kind ha, if_pos hlt]
        by_cases h23 : kindM toks a = 23
        · obtain ⟨s1, h1, h2⟩ := Option.bind_eq_some_iff.1 h
          have hi : ∃ n1, s1.2 = p ++ n1 ∧ s1.1 ≤ toks.length ∧ shutL n1 = false := by
            cases f with
            | zero => simp [runM] at h1
            | succ g =>
              rw [runM] at h1
              simp only [bodyM] at h1
              rw [if_neg (by rw [h23]; decide)] at h1
              obtain ⟨n1, e1, l1, g1⟩ := simA_wrong B (sim_all B g) False (fun _ => none) a p s1 ha h1
              refine ⟨n1, e1, l1, ?_⟩
              cases hsh : shutL n1 with
              | false => rfl
              | true => exact (g1 hsh).1.elim
          obtain ⟨n1, e1, l1, k1⟩ := hi
          obtain ⟨n2, e2, l2, _⟩ := F.w s1.1 s1.2 s' l1 h2
          refine ⟨n1 ++ n2, by rw [e2, e1, List.append_assoc], l2, fun hsh => ?_⟩
          rw [shutL_append, k1] at hsh
          cases hsh
        · obtain ⟨new, e1, l1, g1⟩ := ((F.m .inner (by simp) (by simp) (by simp)).bind F.w) a p s' ha h
          refine ⟨new, e1, l1, fun hsh => ⟨trivial, fun q hq => ?_⟩⟩
          rw [runM]
          simp only [bodyM]
          rw [hk', if_pos ⟨h23, h0⟩]
          exact (g1 hsh).2 q hq
      · rw [if_neg h0] at h
        injection h with h
        subst h
        refine ⟨[], by simp, ha, fun _ => ⟨trivial, fun q hq => ?_⟩⟩
        rw [runM]
        simp only [bodyM]
        rw [if_neg (by
          rw [B.kind ha]
          split
          · intro hh; exact h0 hh.2
          · intro hh; exact hh.1 rfl)]
        simp
end Go.Proofs.YtkicpjjfeekopaaGreatDoor

namespace Go.Proofs.YtkicpjjfeekopaaGreatDoor
/-- Whatever the one answers, the other answers. -/
def Le {α : Type} (x y : Option α) : Prop := ∀ r, x = some r → y = some r
theorem Le.rfl' {α : Type} (x : Option α) : Le x x := fun _ h => h
theorem Le.bind {α β : Type} {x y : Option α} {f g : α → Option β} (h : Le x y) (k : ∀ a, Le (f a) (g a)) : Le (x.bind f) (y.bind g) := by
  intro r hr
  obtain ⟨a, h1, h2⟩ := Option.bind_eq_some_iff.1 hr
  rw [h a h1, Option.bind_some]
  exact k a r h2
theorem Le.ite {α : Type} {c : Prop} [Decidable c] {x y x' y' : Option α} (h : Le x y) (k : Le x' y') : Le (if c then x else x') (if c then y else y') := by
  split
  · exact h
  · exact k
variable {toks : List Tok}
theorem body_le {M M' : MC → St → Option St} {N N' : NC → Nat → Option (Nat × Tree)} (hM : ∀ c s, Le (M c s) (M' c s)) (hN : ∀ c a, Le (N c a) (N' c a)) :
    (∀ c s, Le (bodyM toks M N c s) (bodyM toks M' N' c s)) ∧ (∀ c a, Le (bodyN toks M N c a) (bodyN toks M' N' c a)) := by
  constructor
  · intro c s
    cases c <;> simp only [bodyM, putM, nodeM, operandM] <;>
      (repeat' (first | exact hM _ _ | exact hN _ _ | exact Le.rfl' _ | refine Le.ite ?_ ?_ | refine Le.bind ?_ (fun _ => ?_)))
  · intro c s
    cases c <;> simp only [bodyN] <;>
      (repeat' (first | exact hM _ _ | exact hN _ _ | exact Le.rfl' _ | refine Le.ite ?_ ?_ | refine Le.bind ?_ (fun _ => ?_)))
theorem run_le : ∀ f, (∀ c s, Le (runM toks f c s) (runM toks (f + 1) c s)) ∧ (∀ c a, Le (runN toks f c a) (runN toks (f + 1) c a))
  | 0 => ⟨fun c s r h => by simp [runM] at h, fun c a r h => by simp [runN] at h⟩
  | f + 1 => by
    obtain ⟨h1, h2⟩ := body_le (toks := toks) (run_le f).1 (run_le f).2
    refine ⟨fun c s => ?_, fun c a => ?_⟩
    · rw [runM, runM]; exact h1 c s
    · rw [runN, runN]; exact h2 c a
theorem runN_more {f : Nat} (d : Nat) {c : NC} {a : Nat} {r : Nat × Tree} (h : runN toks f c a = some r) : runN toks (f + d) c a = some r := by
  induction d with
  | zero => exact h
  | succ d ih => exact (run_le (f + d)).2 c a r ih
theorem file_same {f g : Nat} {r r' : Nat × Tree} (h : fileM toks f = some r) (k : fileM toks g = some r') : r = r' := by
  unfold fileM at h k
  have h1 := runN_more g h
  have k1 := runN_more f k
  rw [Nat.add_comm g f, h1] at k1
  injection k1
end Go.Proofs.YtkicpjjfeekopaaGreatDoor

namespace Go.Proofs.YtkicpjjfeekopaaGreatDoor
theorem loop_end {toks : List Tok} : ∀ (f : Nat) (s s' : St), runM toks f .fileLoop s = some s' → kindM toks s'.1 = 0
  | 0, s, s', h => by simp [runM] at h
  | f + 1, s, s', h => by
    simp only [runM, bodyM] at h
    by_cases hk : kindM toks s.1 ≠ 0
    · rw [if_pos hk] at h
      obtain ⟨s1, _, h2⟩ := Option.bind_eq_some_iff.1 h
      exact loop_end f s1 s' h2
    · rw [if_neg hk] at h
      injection h with h
      rw [← h]
      omega
theorem addM_below {s : St} {t : Tree} (h : s.2.length < 1000000) : addM s t = some (s.1, s.2 ++ [t]) := by unfold addM; rw [if_pos h]
theorem gap_none {toks : List Tok} {s : St} (h : next toks s.1 = s.1) (hl : s.2.length ≤ 1000000) : gapM toks s = some s := by
  unfold gapM
  rw [h, Nat.sub_self, if_pos (by omega)]
  simp
theorem file_braced {toks : List Tok} {l r : Tok} (hl : l.kind = 22) (hr : r.kind = 23) (hg : ∀ t ∈ toks, t.kind ≠ 0) {f n w : Nat} {kids : List Tree} (h : fileM toks f = some (n, .node 51 0 w kids)) (hsh : shutL kids = true) (hk : kids.length ≤ 999990) (hw : w + l.width + r.width ≤ 4611686018427387904) :
    ∃ g w1 w2, fileM (l :: (toks ++ [r])) g = some (toks.length + 2, .node 51 0 w1 [.node 52 0 w2 (leafT l :: (kids ++ [leafT r]))]) := by
  obtain ⟨g, rfl⟩ : ∃ g, f = g + 2 := by
    match f, h with
    | 0, h => simp [fileM, runN] at h
    | 1, h => simp [fileM, runN, bodyN, runM] at h
    | g + 2, _ => exact ⟨g, rfl⟩
  unfold fileM at h
  rw [runN] at h
  simp only [bodyN] at h
  obtain ⟨s2, h1, h2⟩ := Option.bind_eq_some_iff.1 h
  rw [runM] at h1
  simp only [bodyM] at h1
  obtain ⟨s1, h3, h4⟩ := Option.bind_eq_some_iff.1 h1
  obtain ⟨toks', ht'⟩ : ∃ toks', toks' = l :: (toks ++ [r]) := ⟨_, rfl⟩
  have B : Braced toks toks' := by rw [ht']; exact braced_of hr
  have hlen' : toks'.length = toks.length + 2 := by rw [ht']; simp
  obtain ⟨n1, e1, l1, g1⟩ := (sim_all B g).w 0 [] s1 (Nat.zero_le _) h3
  obtain ⟨a1, p1⟩ := s1
  simp only [List.nil_append] at e1 l1 g1
  subst e1
  obtain ⟨n2, e2, l2, g2⟩ := gapNew B a1 p1 s2 l1 h4
  have hend := loop_end _ _ _ h3
  simp only at hend
  have hnx : next toks a1 = toks.length := by
    have hn := next_ge toks a1 l1
    rcases Nat.lt_or_ge (next toks a1) toks.length with hlt | hge
    · exfalso
      unfold kindM at hend
      rw [List.getElem?_eq_getElem hlt] at hend
      exact hg _ (List.getElem_mem hlt) hend
    · omega
  have hs21 : s2.1 = toks.length := by
    unfold gapM at h4
    split at h4
    · injection h4 with h4
      rw [← h4]; exact hnx
    · cases h4
  have hsum : w = sumW s2.2 ∧ kids = s2.2 := by
    unfold sumM at h2
    split at h2
    · injection h2 with h2
      injection h2 with _ h2
      injection h2 with _ _ h2 h3
      exact ⟨h2.symm, h3.symm⟩
    · cases h2
  obtain ⟨hw1, hk1⟩ := hsum
  have hkn : kids = p1 ++ n2 := hk1.trans e2
  rw [hkn, shutL_append, Bool.and_eq_true] at hsh
  have hkl : p1.length + n2.length ≤ 999990 := by rw [hkn, List.length_append] at hk; exact hk
  have q1 := (g1 hsh.1).2 [leafT l] (by simp; omega)
  have q2 := (g2 hsh.2).2 ([leafT l] ++ p1) (by simp; omega)
  rw [hs21] at q2
  have k23 : kindM toks' (a1 + 1) = 23 := by rw [B.kind l1, if_neg (by omega)]
  have n0 : next toks' 0 = 0 := by
    rw [ht', next_step _ 0 (by simp)]
    rw [if_pos]
    show countsK l.kind = true
    rw [hl]; decide
  have k0 : kindM toks' 0 = 22 := by unfold kindM; rw [n0, ht']; exact hl
  have a0 : nextM toks' (0, []) = some (1, [leafT l]) := by
    unfold nextM
    rw [gap_none (by exact n0) (by simp), Option.bind_some]
    have : toks'[0]? = some l := by rw [ht']; rfl
    simp only [this]
    rw [addM_below (by simp)]
    rfl
  have aE : wantM toks' 23 (a1 + 1, [leafT l] ++ p1) = some (toks.length + 2, leafT l :: (kids ++ [leafT r])) := by
    unfold wantM
    rw [if_pos (by exact k23)]
    unfold nextM
    rw [q2, Option.bind_some]
    have : toks'[toks.length + 1]? = some r := by rw [ht', List.getElem?_cons_succ, List.getElem?_append_right (Nat.le_refl _), Nat.sub_self]; rfl
    simp only [this]
    rw [addM_below (by simp; omega)]
    simp only [Option.map_some, hkn]
    simp
  have bB : runM toks' (g + 1) .blockB (0, []) = some (toks.length + 2, leafT l :: (kids ++ [leafT r])) := by
    rw [runM]
    simp only [bodyM]
    rw [a0, Option.bind_some, q1, Option.bind_some, aE]
  have hsl : sumW (leafT l :: (kids ++ [leafT r])) = w + l.width + r.width := by
    simp only [sumW, sumW_append, leafT, Tree.width]
    rw [hw1, hk1]; omega
  obtain ⟨N52, hN52⟩ : ∃ N52, N52 = Tree.node 52 0 (sumW (leafT l :: (kids ++ [leafT r]))) (leafT l :: (kids ++ [leafT r])) := ⟨_, rfl⟩
  have b52 : runN toks' (g + 2) (.make 52 .blockB) 0 = some (toks.length + 2, N52) := by
    rw [runN]
    simp only [bodyN]
    rw [bB, Option.bind_some]
    unfold sumM
    rw [if_pos ⟨by rw [hsl]; exact hw, by simp; omega⟩, hN52]
  have bl : runM toks' (g + 3) .block (0, []) = some (toks.length + 2, [N52]) := by
    rw [runM]
    simp only [bodyM]
    rw [if_neg (by rw [k0]; decide)]
    unfold putM
    rw [gap_none (by exact n0) (by simp), Option.bind_some]
    simp only
    rw [b52, Option.bind_some, addM_below (by simp)]
    rfl
  have bs : runN toks' (g + 4) .statement 0 = some (toks.length + 2, N52) := by
    rw [runN]
    simp only [bodyN]
    rw [if_pos (by rw [k0]; decide), bl, Option.bind_some]
    rfl
  have bi : runM toks' (g + 5) .inner (0, []) = some (toks.length + 2, [N52]) := by
    rw [runM]
    simp only [bodyM]
    rw [if_pos (by rw [k0]; decide)]
    unfold putM
    rw [gap_none (by exact n0) (by simp), Option.bind_some]
    simp only
    rw [bs, Option.bind_some, addM_below (by simp)]
    rfl
  have nE : next toks' (toks.length + 2) = toks.length + 2 := by rw [← hlen', next_end]
  have kE : kindM toks' (toks.length + 2) = 0 := by
    unfold kindM
    rw [nE, List.getElem?_eq_none (by omega)]
  have fl : runM toks' (g + 6) .fileLoop (0, []) = some (toks.length + 2, [N52]) := by
    rw [runM]
    simp only [bodyM]
    rw [if_pos (by rw [k0]; decide), bi, Option.bind_some, runM]
    simp only [bodyM]
    rw [if_neg (by rw [kE]; decide)]
  have fb : runM toks' (g + 7) .fileB (0, []) = some (toks.length + 2, [N52]) := by
    rw [runM]
    simp only [bodyM]
    rw [fl, Option.bind_some]
    exact gap_none nE (by simp)
  refine ⟨g + 8, sumW [N52], sumW (leafT l :: (kids ++ [leafT r])), ?_⟩
  unfold fileM
  rw [← ht', runN]
  simp only [bodyN]
  rw [fb, Option.bind_some]
  unfold sumM
  rw [if_pos ⟨by rw [hN52]; show sumW (leafT l :: (kids ++ [leafT r])) + 0 ≤ _; rw [hsl]; omega, by simp⟩, hN52]
end Go.Proofs.YtkicpjjfeekopaaGreatDoor

namespace Go.Proofs.YtkicpjjfeekopaaGreatDoor
theorem cont_end (r : List UInt8) (i : Nat) : contAt (r ++ [125]) i = contAt r i := by
  unfold contAt
  by_cases hi : i < r.length
  · rw [List.getElem?_append_left hi]
  · rw [List.getElem?_append_right (by omega), List.getElem?_eq_none (show r.length ≤ i by omega)]
    cases hj : i - r.length with
    | zero => rfl
    | succ j => simp
theorem dec_end {r : List UInt8} (h : r ≠ []) : decL (r ++ [125]) = decL r := by
  obtain ⟨b, q, rfl⟩ : ∃ b q, r = b :: q := by cases r with | nil => exact absurd rfl h | cons b q => exact ⟨b, q, rfl⟩
  rw [List.cons_append]
  exact decL_loc b _ _ (fun i _ => cont_end q i)
theorem scan_state {bs : List UInt8} (h : bs ≠ []) : (scanM bs.length 0 bs false).1 ≠ 0 := by
  obtain ⟨n, hn⟩ : ∃ n, bs.length = n + 1 := ⟨bs.length - 1, by have := List.length_pos_iff.2 h; omega⟩
  obtain ⟨st', hst⟩ := goes0 _ (cls_lt (decL bs).1)
  have hst35 := goes_lt 0 _ st' (by omega) (cls_lt _) hst
  have hst0 : st' ≠ 0 := goes_ne0' ⟨0, by omega⟩ ⟨_, cls_lt _⟩ st' hst
  rw [hn]
  simp only [scanM]
  rw [if_neg h, hst]
  exact scan_ne _ _ _ _ hst35 hst0
theorem tok_end : (tokM [125]).kind = 23 ∧ (tokM [125]).width = 1 := by decide +kernel
/-- Where a token has ended, a closing brace ends it, too, but in a comment or a text. -/
theorem stop_end : ∀ st : Fin 35, kindT.getD st.val 0 ≠ 2 → kindT.getD st.val 0 ≠ 4 → kindT.getD st.val 0 ≠ 9 → st.val ≠ 0 → goesM st.val (clsM (decL [125]).1) = none := by decide +kernel
/-- The kind of the last token. -/
def lastK (l : List Tok) : Nat := match l.getLast? with | some t => t.kind | none => 0
theorem lex_end : ∀ (f : Nat) (bs : List UInt8), bs.length ≤ f → lastK (lexM f bs) ≠ 2 → lastK (lexM f bs) ≠ 4 → lastK (lexM f bs) ≠ 9 → kw (lexM (f + 1) (bs ++ [125])) = kw (lexM f bs) ++ [(23, 1)]
  | 0, bs, h, _, _, _ => by
    have : bs = [] := List.length_eq_zero_iff.1 (by omega)
    subst this
    decide +kernel
  | f + 1, bs, h, k2, k4, k9 => by
    by_cases hb : bs = []
    · subst hb
      have e : lexM (f + 1 + 1) [125] = tokM [125] :: lexM (f + 1) (([125] : List UInt8).drop (tokM [125]).width) := by rw [lexM, if_neg (by decide)]
      rw [List.nil_append, e, tok_end.2]
      simp only [List.drop_succ_cons, List.drop_nil, lexM, if_true, kw, List.map_cons, List.map_nil, List.nil_append, tok_end.1, tok_end.2]
    · obtain ⟨w1, w2⟩ := tok_width bs hb
      obtain ⟨n, hn⟩ : ∃ n, n = (tokM bs).width := ⟨_, rfl⟩
      rw [← hn] at w1 w2
      obtain ⟨p, hp⟩ : ∃ p, p = bs.take n := ⟨_, rfl⟩
      obtain ⟨r, hr⟩ : ∃ r, r = bs.drop n := ⟨_, rfl⟩
      have hbs : bs = p ++ r := by rw [hp, hr, List.take_append_drop]
      have hpl : p.length = n := by rw [hp, List.length_take]; omega
      have hlx : lexM (f + 1) bs = tokM bs :: lexM f r := by simp only [lexM]; rw [if_neg hb, ← hn, ← hr]
      have hstop := scan_stop bs.length 0 bs false (Nat.le_refl _)
      have hwn : (scanM bs.length 0 bs false).2.1 = n := hn.symm
      rw [hwn, ← hr] at hstop
      have h35 : (scanM bs.length 0 bs false).1 < 35 := scan_st _ _ _ _ (by omega)
      have hkd : (scanM bs.length 0 bs false).1 ≠ 7 → (tokM bs).kind = kindT.getD (scanM bs.length 0 bs false).1 0 := by
        intro h7
        show (if (scanM bs.length 0 bs false).1 = 7 then _ else _) = _
        rw [if_neg h7]
      have hst0 := scan_state hb
      have hs2 : (r ++ [125]) = [] ∨ goesM (scanM (p ++ r).length 0 (p ++ r) false).1 (clsM (decL (r ++ [125])).1) = none := by
        right
        rw [← hbs]
        by_cases hr0 : r = []
        · subst hr0
          rw [List.nil_append]
          rw [hlx] at k2 k4 k9
          have hl0 : lexM f ([] : List UInt8) = [] := by cases f <;> simp [lexM]
          rw [hl0] at k2 k4 k9
          simp only [lastK, List.getLast?_singleton] at k2 k4 k9
          by_cases h7 : (scanM bs.length 0 bs false).1 = 7
          · rw [h7]; decide +kernel
          · have e := hkd h7
            rw [e] at k2 k4 k9
            exact stop_end ⟨_, h35⟩ k2 k4 k9 hst0
        · rw [dec_end hr0]
          rcases hstop with h1 | h1
          · exact absurd h1 hr0
          · exact h1
      have hw : (tokM (p ++ r)).width = p.length := by rw [← hbs, ← hn, hpl]
      obtain ⟨t1, t2⟩ := tok_loc (r' := r ++ [125]) (fun i => (cont_end r i).symm) hw hs2
      have e1 : bs ++ [125] = p ++ (r ++ [125]) := by rw [hbs, List.append_assoc]
      have hne : bs ++ [125] ≠ [] := by simp
      have ih := lex_end f r (by rw [hr, List.length_drop]; omega)
      have hkk : kw (lexM (f + 1) (r ++ [125])) = kw (lexM f r) ++ [(23, 1)] := by
        by_cases hr0 : lexM f r = []
        · have hr00 : r = [] := by
            cases f with
            | zero => have := h; rw [hr]; exact List.length_eq_zero_iff.1 (by rw [List.length_drop]; omega)
            | succ f =>
              by_cases h0 : r = []
              · exact h0
              · simp only [lexM] at hr0
                rw [if_neg h0] at hr0
                cases hr0
          exact ih (by rw [hr0]; decide) (by rw [hr0]; decide) (by rw [hr0]; decide)
        · have hl : lastK (tokM bs :: lexM f r) = lastK (lexM f r) := by
            unfold lastK
            rw [List.getLast?_cons_of_ne_nil hr0]
          rw [hlx, hl] at k2 k4 k9
          exact ih k2 k4 k9
      rw [hlx]
      rw [show lexM (f + 1 + 1) (bs ++ [125]) = tokM (bs ++ [125]) :: lexM (f + 1) ((bs ++ [125]).drop (tokM (bs ++ [125])).width) from by rw [lexM, if_neg hne]]
      have ew : (tokM (bs ++ [125])).width = p.length := by rw [e1]; exact t2
      have ek : (tokM (bs ++ [125])).kind = (tokM bs).kind := by rw [e1, t1, ← hbs]
      have ed : (bs ++ [125]).drop (tokM (bs ++ [125])).width = r ++ [125] := by rw [ew, e1, List.drop_left]
      rw [ed]
      simp only [kw, List.map_cons, List.cons_append]
      rw [ek, ew, hpl, hn]
      congr 1
theorem tok_begin (bs : List UInt8) : (tokM (123 :: bs)).kind = 22 ∧ (tokM (123 :: bs)).width = 1 := by
  have hd : decL (123 :: bs) = (123, 1) := (decL_cons 123 bs).1 (by decide)
  have h26 : ∀ c : Fin 24, goesM 26 c.val = none := by decide +kernel
  have hc : goesM 0 (clsM 123) = some 26 := by decide +kernel
  have hS : ∃ wr, scanM (bs.length + 1) 0 (123 :: bs) false = (26, 1, wr) := by
    simp only [scanM]
    rw [if_neg (by simp), hd]
    simp only
    rw [hc]
    simp only [List.drop_succ_cons, List.drop_zero]
    cases hb : bs with
    | nil => exact ⟨_, by simp [scanM]; rfl⟩
    | cons b r =>
      simp only [List.length_cons, scanM]
      rw [if_neg (by simp), h26 ⟨_, cls_lt _⟩]
      exact ⟨_, rfl⟩
  obtain ⟨wr, hS⟩ := hS
  constructor
  · show (if (scanM (123 :: bs).length 0 (123 :: bs) false).1 = 7 then _ else kindT.getD (scanM (123 :: bs).length 0 (123 :: bs) false).1 0) = _
    rw [List.length_cons, hS, if_neg (show ¬ (26 : Nat) = 7 by decide)]
    rfl
  · show (scanM (123 :: bs).length 0 (123 :: bs) false).2.1 = 1
    rw [List.length_cons, hS]
theorem toks_block {bs : List UInt8} (k2 : lastK (toksM bs) ≠ 2) (k4 : lastK (toksM bs) ≠ 4) (k9 : lastK (toksM bs) ≠ 9) : kw (toksM (123 :: (bs ++ [125]))) = (22, 1) :: (kw (toksM bs) ++ [(23, 1)]) := by
  unfold toksM
  obtain ⟨h1, h2⟩ := tok_begin (bs ++ [125])
  have e : lexM (123 :: (bs ++ [125])).length (123 :: (bs ++ [125])) = tokM (123 :: (bs ++ [125])) :: lexM (bs.length + 1) ((123 :: (bs ++ [125])).drop (tokM (123 :: (bs ++ [125]))).width) := by
    rw [show (123 :: (bs ++ [125])).length = bs.length + 1 + 1 from by simp, lexM, if_neg (by simp)]
  rw [e, h2, List.drop_succ_cons, List.drop_zero]
  have := lex_end bs.length bs (Nat.le_refl _) k2 k4 k9
  simp only [kw, List.map_cons] at this ⊢
  rw [this, h1, h2]
/-- THE LAW: the names of a text in a block of its own. -/
theorem names_block {bs : List UInt8} (hl : bs.length ≤ 4990) (k2 : lastK (toksM bs) ≠ 2) (k4 : lastK (toksM bs) ≠ 4) (k9 : lastK (toksM bs) ≠ 9) (hsh : shutT (treeM bs) = true) :
    (namesM (-1) (123 :: (bs ++ [125]))).decls = (namesM (-1) bs).decls.map (shD 1) ∧ (namesM (-1) (123 :: (bs ++ [125]))).binds = (namesM (-1) bs).binds.map (shB 1) := by
  obtain ⟨n, hf, hT, hC, hlv⟩ := tree_facts (bs := bs) (by omega)
  obtain ⟨n', hf', hT', _, _⟩ := tree_facts (bs := 123 :: (bs ++ [125])) (by simp; omega)
  obtain ⟨_, hTl, _, hTg⟩ := toks_facts (bs := bs) (by omega)
  obtain ⟨kids, hk⟩ : ∃ kids, treeM bs = .node 51 0 bs.length kids := by
    obtain ⟨h1, h2, h3⟩ : (treeM bs).kind = 51 ∧ (treeM bs).want = 0 ∧ (treeM bs).width = bs.length := by
      refine ⟨hT.file, ?_, hT.width⟩
      have := hT.right.good
      have hk := hT.file
      generalize treeM bs = t at this hk
      obtain ⟨k, w, wd, ks⟩ := t
      simp only [Tree.kind] at hk
      subst hk
      unfold goodT at this
      simp at this
      exact this.1.1.1
    refine ⟨(treeM bs).kids, ?_⟩
    rw [← h1, ← h2, ← h3]
    exact Tree.eta _
  have hkl : kids.length ≤ 999990 := by
    have h1 := hC
    rw [hk] at h1
    simp only [cntT] at h1
    have := cntL_ge kids
    omega
  rw [hk] at hf hsh
  simp only [shutT, Bool.and_eq_true] at hsh
  obtain ⟨g, w1, w2, hB⟩ := file_braced (toks := toksM bs) (l := ⟨22, 1, 0⟩) (r := ⟨23, 1, 0⟩) rfl rfl (fun t ht e => by
    have := (hTg t ht).1.1
    rw [e] at this
    exact absurd this (by decide)) hf hsh.2 hkl (by simp only; omega)
  have hkw := toks_block k2 k4 k9
  have hkw2 : kw (⟨22, 1, 0⟩ :: (toksM bs ++ [⟨23, 1, 0⟩])) = kw (toksM (123 :: (bs ++ [125]))) := by
    rw [hkw]; simp [kw]
  rw [fileM_kw hkw2] at hB
  have e := file_same hf' hB
  have et : treeM (123 :: (bs ++ [125])) = Tree.node 51 0 w1 [Tree.node 52 0 w2 (leafT ⟨22, 1, 0⟩ :: (kids ++ [leafT ⟨23, 1, 0⟩]))] := (Prod.mk.inj e).2
  unfold namesM
  rw [et, hk]
  refine block_law kids w1 w2 bs.length ?_
  refine namesL_of kids 0 ?_ ?_
  · have := hT.right.good
    rw [hk] at this
    exact (goodT_inner this (by decide)).2
  · intro A w B he
    have hA : sw A + w ≤ bs.length := by
      have h1 : sw (lvL kids) = sumW kids := sw_lvL kids (by have := hT.right.good; rw [hk] at this; exact (goodT_inner this (by decide)).2)
      have h2 := hT.width
      rw [hk] at h2
      have h3 := hT.right.good
      rw [hk] at h3
      have h4 := (goodT_inner h3 (by decide)).1
      rw [he, sw_append] at h1
      have h5 : sw ((6, w) :: B) = w + sw B := by simp [sw]
      omega
    unfold nmT
    rw [Nat.zero_add]
    rw [show sw A + w + 1 - (sw A + 1) = w by omega, show sw A + w - sw A = w by omega, List.drop_succ_cons, List.drop_append_of_le_length (by omega), List.take_append_of_le_length (by rw [List.length_drop]; omega)]
end Go.Proofs.YtkicpjjfeekopaaGreatDoor

namespace Go.Proofs.YtkicpjjfeekopaaGreatDoor
open Go.RowKit Go.Maps
theorem shutL_take_succ (ts : List Tree) (i : Nat) (t : Tree) (h : ts[i]? = some t) : shutL (ts.take (i + 1)) = (shutL (ts.take i) && shutT t) := by
  obtain ⟨hlt, he⟩ := List.getElem?_eq_some_iff.1 h
  rw [List.take_succ_eq_append_getElem hlt, shutL_append, he]
  simp [shutL]
theorem shutL_split (ts : List Tree) (i : Nat) : shutL ts = (shutL (ts.take i) && shutL (ts.drop i)) := by
  rw [← shutL_append, List.take_append_drop]
set_option maxRecDepth 100000 in
set_option maxHeartbeats 4000000 in
theorem shut_all : ∀ (n : Nat) (t : Tree), cntT t ≤ n → n ≤ 1000000 → ∀ (cs : List Value) (P : Nat → Prop) (w : World), RepT w P t cs → Calls Tryz.prog 18 #[.agg cs.toArray] w fun e w' => e = .returned (.bool (shutT t)) ∧ Fr (fun _ => False) w w'
  | 0, t, h, _, _, _, _, _ => by cases t; simp [cntT] at h
  | n + 1, t, hc, hn, cs, P, w, hr => by
    have ih := shut_all n
    obtain ⟨k, wt, wd, kids⟩ := t
    have hr' := hr
    simp only [RepT] at hr'
    obtain ⟨v, xs, rfl, hxo, _, hxl⟩ := hr'
    obtain ⟨a, cp, rfl, hcp, _⟩ := ownShape hxo
    simp only [cntT] at hc
    have hkl := cntL_ge kids
    obtain ⟨len, hln⟩ : ∃ len, len = kids.length := ⟨_, rfl⟩
    rw [← hln] at hcp hkl
    have hlb : len ≤ 1000000 := by omega
    have HIH := Lib.hid ih; have HXO := Lib.hid hxo; have HXL := Lib.hid hxl; have HLN := Lib.hid hln; have HC := Lib.hid hc; have HNN := Lib.hid hn
    clear ih hxo hxl hr hc hkl hn
    rw [← hln]
    clear hln
    by_cases h50 : k = 50
    · subst h50
      go_enter Tryz.func18, Tryz.ntmps18
      go_wp2_with fail
      go_ret
      exact ⟨rfl, (Fr.refl _ _).alloc _⟩
    · by_cases h68 : k = 68
      · subst h68
        go_enter Tryz.func18, Tryz.ntmps18
        go_wp2_with fail
        go_ret
        exact ⟨rfl, (Fr.refl _ _).alloc _⟩
      · have e50 : ((k : Int) == 50) = false := by simp; omega
        have e68 : ((k : Int) == 68) = false := by simp; omega
        have hsk : shutT (.node k wt wd kids) = shutL kids := by simp [shutT, h50, h68]
        rw [hsk]
        clear hsk h50 h68
        have hal : Fr (fun _ => False) w (w.alloc (.cells #[.int .u8 k, .int .u8 wt, .int .i64 wd, .slice a len cp] 27)) := (Fr.refl _ _).alloc _
        have hbx := blkNew w (.cells #[.int .u8 k, .int .u8 wt, .int .i64 wd, .slice a len cp] 27)
        have HAL := Lib.hid hal; have HBX := Lib.hid hbx
        clear hal hbx
        go_enter Tryz.func18, Tryz.ntmps18
        go_wp2_with fail
        generalize w.alloc (.cells #[.int .u8 k, .int .u8 wt, .int .i64 wd, .slice a len cp] 27) = w1 at *
        go_loopw [3] (fun x wr => ∃ i : Nat, i ≤ len ∧ x = .int .i64 i ∧ shutL (kids.take i) = true ∧ Fr (fun _ => False) w1 wr) (fun x _ => len - (intOf x).toNat)
        case atStart => exact ⟨0, Nat.zero_le _, rfl, rfl, Fr.refl _ _⟩
        case round =>
          obtain ⟨i, hi, rfl, hsh, hf⟩ := hrel
          have hbx := hf.blk HBX.out (fun h => h)
          have x3 := blkCell hbx 3
          have lbx := blkLt hbx
          have HF := Lib.hid hf; have HSH := Lib.hid hsh
          by_cases hlt : i < len
          · have q1 : decide ((i : Int) < (len : Int)) = true := by simp; omega
            obtain ⟨t, ht⟩ : ∃ t, kids[i]? = some t := ⟨_, List.getElem?_eq_getElem (by rw [← HLN.out]; exact hlt)⟩
            obtain ⟨g, cp', k0, k1, k2, k3, hv, _, hrt, g0, g1, g2, g3⟩ := kidCells (ownMove HXO.out (fun k _ hl => (HAL.out.trans hf).block k hl (fun h => h))) (HXL.out.fr (HAL.out.trans hf) (fun _ _ _ h => h)) ht
            have hag := sliceAt hv
            subst hag
            have lg := World.block_lt_of_cell? wr _ g0
            have hct := (mem_facts kids t (List.mem_of_getElem? ht)).2.2.2
            have hst := shutL_take_succ kids i t ht
            have hsp := shutL_split kids (i + 1)
            rw [hsh, Bool.true_and] at hst
            have hil : (i : Int) < (len : Int) := by omega
            have HRT := Lib.hid hrt; have HCT := Lib.hid hct; have HST := Lib.hid hst; have HSP := Lib.hid hsp
            clear hf hbx hsh hrt hv ht hct hst hsp
            go_wp2_with fail
            refine (HIH.out t (by have := HC.out; have := HCT.out; omega) (by have := HNN.out; omega) _ P wr HRT.out).mono ?_
            rintro e w2 ⟨rfl, hf2⟩
            cases hs : shutT t with
            | true =>
              have HS := Lib.hid hs
              clear hs
              go_wp2_with fail
              go_roundw
              case rel => exact ⟨i + 1, by omega, by go_num, by rw [HST.out]; exact HS.out, HF.out.trans hf2⟩
              case measure => simp [intOf]; omega
            | false =>
              have HS := Lib.hid hs
              clear hs
              go_wp2_with fail
              go_ret
              exact ⟨by rw [HSP.out, HST.out, HS.out]; rfl, (HAL.out.trans HF.out).trans hf2⟩
          · have q1 : decide ((i : Int) < (len : Int)) = false := by simp; omega
            have hil : i = len := by omega
            have hall : shutL kids = true := by rw [← hsh, hil, HLN.out, List.take_length]
            have HALL := Lib.hid hall
            clear hf hbx hsh hall hil
            go_wp2_with fail
            go_ret
            exact ⟨by rw [HALL.out]; rfl, HAL.out.trans HF.out⟩
end Go.Proofs.YtkicpjjfeekopaaGreatDoor

namespace Go.Proofs.YtkicpjjfeekopaaGreatDoor
open Go.RowKit Go.Maps
set_option maxRecDepth 100000 in
set_option maxHeartbeats 8000000 in
theorem block_long (s : ByteArray) (w : World) (hG : Glob w) (hl : 3000 < s.size) : Calls Tryz.prog 3 #[.string s] w fun e w' => e = .returned (.bool true) ∧ Fr (fun _ => False) w w' := by
  have HG := Lib.hid hG
  clear hG
  have q : decide ((3000 : Int) < (s.size : Int)) = true := by simp; omega
  clear hl
  go_enter Tryz.func3, Tryz.ntmps3
  go_wp2_with fail
  refine (awake_any w HG.out).mono ?_
  rintro e w1 ⟨rfl, hf⟩
  go_wp2_with fail
  go_ret
  exact ⟨rfl, hf⟩
theorem braces_eq (bs : List UInt8) : ((⟨#[123]⟩ : ByteArray) ++ ⟨bs.toArray⟩) ++ ⟨#[125]⟩ = ⟨(123 :: (bs ++ [125])).toArray⟩ := by
  apply ByteArray.ext
  apply Array.toList_inj.1
  simp [ByteArray.data_append]
theorem lastK_get (l : List Tok) (h : 0 < l.length) : ∃ t, l[l.length - 1]? = some t ∧ lastK l = t.kind := by
  refine ⟨l[l.length - 1], List.getElem?_eq_getElem (by omega), ?_⟩
  unfold lastK
  rw [List.getLast?_eq_getElem?, List.getElem?_eq_getElem (by omega)]
set_option maxRecDepth 100000 in
set_option maxHeartbeats 8000000 in
theorem block_short (bs : List UInt8) (w : World) (hG : Glob w) (hl : bs.length ≤ 3000) : Calls Tryz.prog 3 #[.string ⟨bs.toArray⟩] w fun e w' => e = .returned (.bool true) ∧ Fr (fun _ => False) w w' := by
  have HG := Lib.hid hG
  clear hG
  obtain ⟨txt, htx⟩ : ∃ txt : ByteArray, txt = ⟨bs.toArray⟩ := ⟨_, rfl⟩
  have hsz : txt.size = bs.length := by rw [htx]; simp [ByteArray.size]
  rw [← htx]
  have HTX := Lib.hid htx
  have q : decide ((3000 : Int) < (txt.size : Int)) = false := by simp; omega
  clear htx
  obtain ⟨toks, htoks⟩ : ∃ toks, toks = toksM bs := ⟨_, rfl⟩
  obtain ⟨n, hn⟩ : ∃ n, n = toks.length := ⟨_, rfl⟩
  have hTl := (toks_facts (bs := bs) (by omega)).2.1
  rw [← htoks, ← hn] at hTl
  go_enter Tryz.func3, Tryz.ntmps3
  go_wp2_with fail
  rw [HTX.out]
  refine (all_any bs w (by omega) HG.out).mono ?_
  rintro e w1 ⟨⟨v, rfl, hv⟩, hf1⟩
  rw [← HTX.out]
  have hv0 : w1.ownsRow 0 33 3 v (toksM bs).length (toksCells (toksM bs)) := rowBase hv
  have HF1 := Lib.hid hf1; have HV0 := Lib.hid hv0; have HTK := Lib.hid htoks; have HN := Lib.hid hn
  clear hv hf1 hv0 htoks hn
  go_wp2_with fail
  refine (file_said bs v w1 (by omega) HV0.out).mono ?_
  rintro e w2 ⟨cs, rfl, hr, hf2⟩
  obtain ⟨k0, k1, k2, a, m, c, rfl⟩ := hr.form
  obtain ⟨nn, _, hT, hC, _⟩ := tree_facts (bs := bs) (by omega)
  have hV2 : TokRow w2 v toks := by rw [HTK.out]; exact ownMove HV0.out (fun k _ hl => hf2.block k hl (fun h => h))
  obtain ⟨av, cv, hv, hcv⟩ := hV2.shape
  rw [← HN.out] at hv hcv
  subst hv
  have hal : Fr (fun _ => False) w2 (w2.alloc (.cells #[.int .u8 k0, .int .u8 k1, .int .i64 k2, .slice a m c] 27)) := (Fr.refl _ _).alloc _
  have hb0 := blkNew w2 (.cells #[.int .u8 k0, .int .u8 k1, .int .i64 k2, .slice a m c] 27)
  have HR := Lib.hid hr; have HF2 := Lib.hid hf2; have HV2 := Lib.hid hV2; have HC := Lib.hid hC; have HAL := Lib.hid hal
  have c0 := blkCell hb0 0; have c1 := blkCell hb0 1; have c2 := blkCell hb0 2; have c3 := blkCell hb0 3
  have lb0 := blkLt hb0
  clear hr hf2 hV2 hC hal hb0 hT
  go_wp2_with fail
  generalize (w2.alloc (.cells #[.int .u8 k0, .int .u8 k1, .int .i64 k2, .slice a m c] 27)) = w3 at *
  refine (shut_all 700000 (treeM bs) HC.out (by omega) _ _ w3 (HR.out.fr HAL.out (fun _ _ _ h => h))).mono ?_
  rintro e w4 ⟨rfl, hf4⟩
  have hfw4 : Fr (fun _ => False) w w4 := ((HF1.out.trans HF2.out).trans HAL.out).trans hf4
  have hV4 : TokRow w4 (.slice av n cv) toks := HV2.out.move (fun k _ hl => (HAL.out.trans hf4).block k hl (fun h => h))
  have HFW4 := Lib.hid hfw4; have HV4 := Lib.hid hV4
  clear c0 c1 c2 c3 lb0 hf4 hfw4 hV4
  cases hsh : shutT (treeM bs) with
  | false =>
    clear hsh
    go_wp2_with fail
    refine (awake_any w4 (HG.out.move HFW4.out)).mono ?_
    rintro e w5 ⟨rfl, hf5⟩
    go_wp2_with fail
    go_ret
    exact ⟨rfl, HFW4.out.trans hf5⟩
  | true =>
    have HSH := Lib.hid hsh
    clear hsh
    by_cases hn0 : 0 < n
    · have q2 : decide ((0 : Int) < (n : Int)) = true := by simp; omega
      obtain ⟨tl, htl, hlk⟩ := lastK_get toks (by rw [← HN.out]; exact hn0)
      rw [← HN.out] at htl
      obtain ⟨gt, rfl, h0, h1, h2⟩ := TokRow.get HV4.out (n - 1) tl htl
      have lgt := blkLt (ownBlk (k := gt) (show w4.ownsRow 0 33 3 _ _ _ from HV4.out) rfl).choose_spec
      obtain ⟨tk, tw, tlk⟩ := tl
      simp only at h0 h1 h2 hlk
      have hnat : ((n : Int) - 1).toNat = n - 1 := by omega
      have HLK := Lib.hid hlk
      clear hlk htl
      by_cases hbad : tk = 4 ∨ tk = 2 ∨ tk = 9
      · have hb : ((tk : Int) == 4) = decide (tk = 4) ∧ ((tk : Int) == 2) = decide (tk = 2) ∧ ((tk : Int) == 9) = decide (tk = 9) := by
          refine ⟨?_, ?_, ?_⟩ <;> (rw [Bool.eq_iff_iff]; simp; omega)
        rcases hbad with rfl | rfl | rfl
        all_goals
          clear hb
          go_wp2_with fail
          refine (awake_any w4 (HG.out.move HFW4.out)).mono ?_
          rintro e w5 ⟨rfl, hf5⟩
          go_wp2_with fail
          go_ret
          exact ⟨rfl, HFW4.out.trans hf5⟩
      · have b4 : ((tk : Int) == 4) = false := by simp; omega
        have b2 : ((tk : Int) == 2) = false := by simp; omega
        have b9 : ((tk : Int) == 9) = false := by simp; omega
        have hlk : lastK toks ≠ 2 ∧ lastK toks ≠ 4 ∧ lastK toks ≠ 9 := by rw [HLK.out]; exact ⟨fun e => hbad (.inr (.inl e)), fun e => hbad (.inl e), fun e => hbad (.inr (.inr e))⟩
        have HLAST := Lib.hid hlk
        clear hlk hbad
        go_wp2_with fail
        rw [HTX.out]
        refine (names_any bs w4 (HG.out.move HFW4.out) (by omega)).mono ?_
        rintro e w6 ⟨vD, vB, rfl, hN1, hf7⟩
        rw [← HTX.out]
        obtain ⟨e1, e2⟩ := names_block (bs := bs) (by omega) (by rw [← HTK.out]; exact HLAST.out.1) (by rw [← HTK.out]; exact HLAST.out.2.1) (by rw [← HTK.out]; exact HLAST.out.2.2) HSH.out
        have hD1 := hN1.D; have hB1 := hN1.B
        have hnd := rowMax hD1; have hnb := rowMax hB1
        obtain ⟨ds, hds⟩ : ∃ ds, ds = (namesM (-1) bs).decls := ⟨_, rfl⟩
        obtain ⟨bd, hbd⟩ : ∃ bd, bd = (namesM (-1) bs).binds := ⟨_, rfl⟩
        rw [← hds] at hD1 hnd e1
        rw [← hbd] at hB1 hnb e2
        obtain ⟨nd, hnd'⟩ : ∃ nd, nd = ds.length := ⟨_, rfl⟩
        obtain ⟨nb, hnb'⟩ : ∃ nb, nb = bd.length := ⟨_, rfl⟩
        rw [← hnd'] at hD1 hnd
        rw [← hnb'] at hB1 hnb
        unfold maxLen at hnd hnb
        obtain ⟨aD, cD, rfl, _, _⟩ := ownShape hD1
        obtain ⟨aB, cB, rfl, _, _⟩ := ownShape hB1
        have hbn := blkNew w6 (.cells #[.slice aD nd cD, .slice aB nb cB] 37)
        have hal7 : Fr (fun _ => False) w6 (w6.alloc (.cells #[.slice aD nd cD, .slice aB nb cB] 37)) := (Fr.refl _ _).alloc _
        have hts : txt.size ≤ 3000 := by omega
        have hbr : (⟨#[123]⟩ : ByteArray) ++ txt ++ ⟨#[125]⟩ = ⟨(123 :: (bs ++ [125])).toArray⟩ := by rw [HTX.out]; exact braces_eq bs
        have hspb : SpB bs.length (namesM (-1) bs) := by
          obtain ⟨_, _, hT, _, _⟩ := tree_facts (bs := bs) (by omega)
          have := scopeS_spb (nm := nmT bs) (stop := -1) (treeM bs) hT.right.good
          rw [hT.width] at this
          exact this
        have hsp1 := hspb.dec; have hsp2 := hspb.bn
        rw [← hds] at hsp1
        rw [← hbd] at hsp2
        have HSP := Lib.hid hsp1; have HSQ := Lib.hid hsp2
        clear hspb hsp1 hsp2
        have HD1 := Lib.hid hD1; have HB1 := Lib.hid hB1; have HF7 := Lib.hid hf7; have HE1 := Lib.hid e1; have HE2 := Lib.hid e2; have HND2 := Lib.hid hnd'; have HNB2 := Lib.hid hnb'; have HBN := Lib.hid hbn; have HAL7 := Lib.hid hal7; have HBR := Lib.hid hbr
        clear hD1 hB1 hN1 hf7 e1 e2 hnd' hnb' hbn hal7 hbr hds hbd
        go_wp2_with fail
        rw [HBR.out]
        generalize w6.alloc (.cells #[.slice aD nd cD, .slice aB nb cB] 37) = w7 at *
        refine (names_any (123 :: (bs ++ [125])) w7 (HG.out.move ((HFW4.out.trans HF7.out).trans HAL7.out)) (by simp; omega)).mono ?_
        rintro e w8 ⟨vE, vC, rfl, hN2, hf8⟩
        have hD2 := hN2.D; have hB2 := hN2.B
        rw [HE1.out, List.length_map, ← HND2.out] at hD2
        rw [HE2.out, List.length_map, ← HNB2.out] at hB2
        obtain ⟨aE, cE, rfl, _, _⟩ := ownShape hD2
        obtain ⟨aC, cC, rfl, _, _⟩ := ownShape hB2
        have hbn8 := hf8.blk HBN.out (fun h => h)
        have lbn8 := blkLt hbn8
        have hbo := blkNew w8 (.cells #[.slice aE nd cE, .slice aC nb cC] 37)
        have hal9 : Fr (fun _ => False) w8 (w8.alloc (.cells #[.slice aE nd cE, .slice aC nb cC] 37)) := (Fr.refl _ _).alloc _
        have hbn9 := hal9.blk hbn8 (fun h => h)
        have b0 := blkCell hbn9 0; have b1 := blkCell hbn9 1; have c0 := blkCell hbo 0; have c1 := blkCell hbo 1
        have lo9 := blkLt hbo; have lb9 := blkLt hbn9
        have HD2 := Lib.hid hD2; have HB2 := Lib.hid hB2; have HF8 := Lib.hid hf8; have HAL9 := Lib.hid hal9; have HBO := Lib.hid hbo; have HBN9 := Lib.hid hbn9
        clear hD2 hB2 hN2 hf8 hal9 hbo hbn9 hbn8
        go_wp2_with fail
        clear b0 b1 c0 c1 lo9 lb9
        obtain ⟨ga, hga⟩ : ∃ ga, ga = w6.heap.size := ⟨_, rfl⟩
        obtain ⟨gb, hgb⟩ : ∃ gb, gb = w8.heap.size := ⟨_, rfl⟩
        rw [← hga] at HBN9 lbn8 ⊢
        rw [← hgb] at HBO lbn8 ⊢
        clear hga hgb HBN
        generalize w8.alloc (.cells #[.slice aE nd cE, .slice aC nb cC] 37) = w9 at *
        go_loopw [10, 11] (fun x _ wr => ∃ k : Nat, k ≤ nd ∧ x = .int .i64 k ∧ Fr (fun _ => False) w9 wr) (fun x _ _ => nd - (intOf x).toNat)
        case atStart => exact ⟨0, Nat.zero_le _, rfl, Fr.refl _ _⟩
        case round =>
          obtain ⟨k, hk, rfl, hf⟩ := hrel
          have hx1 := hf.blk HBN9.out (fun h => h)
          have hx2 := hf.blk HBO.out (fun h => h)
          have y0 := blkCell hx1 0; have y1 := blkCell hx1 1; have z0 := blkCell hx2 0; have z1 := blkCell hx2 1
          have l1 := blkLt hx1; have l2 := blkLt hx2
          have HF := Lib.hid hf
          by_cases hlt : k < nd
          · have q4 : decide ((k : Int) < (nd : Int)) = true := by simp; omega
            obtain ⟨d, hd⟩ : ∃ d, ds[k]? = some d := ⟨_, List.getElem?_eq_getElem (by rw [← HND2.out]; exact hlt)⟩
            have hD1 : wr.ownsRow 0 43 4 (.slice aD nd cD) nd (declCells ds) := ownMove HD1.out (fun k _ hl => (((HAL7.out.trans HF8.out).trans HAL9.out).trans hf).block k hl (fun h => h))
            have hD2 : wr.ownsRow 0 43 4 (.slice aE nd cE) nd (declCells (ds.map (shD 1))) := ownMove HD2.out (fun k _ hl => (HAL9.out.trans hf).block k hl (fun h => h))
            obtain ⟨g1, rfl, lg1, p0, p1, p2, p3⟩ := declRow_at hD1 hd
            obtain ⟨g2, rfl, lg2, r0, r1, r2, r3⟩ := declRow_at hD2 (show (ds.map (shD 1))[k]? = some (shD 1 d) by rw [List.getElem?_map, hd]; rfl)
            have hkn : (k : Int) < (nd : Int) := by omega
            obtain ⟨df, dt, dk, da⟩ := d
            simp only [shD] at p0 p1 p2 p3 r0 r1 r2 r3
            have hsp : dt ≤ bs.length ∧ df ≤ bs.length := by
              have := (HSP.out ⟨df, dt, dk, da⟩ (List.mem_of_getElem? hd))
              simp only at this
              omega
            rw [show ((df + 1 : Nat) : Int) = (df : Int) + 1 from by omega] at r0
            rw [show ((dt + 1 : Nat) : Int) = (dt : Int) + 1 from by omega] at r1
            clear hf hD1 hD2 hx1 hx2 hd
            go_wp2_with fail
            go_quiet (fail)
            go_wp2_with fail
            go_roundw
            case rel => exact ⟨k + 1, by omega, by go_num, (HF.out.alloc _).drewN _⟩
            case measure => simp [intOf]; omega
          · have q4 : decide ((k : Int) < (nd : Int)) = false := by simp; omega
            clear hf hx1 hx2
            go_wp2_with fail
            go_loopw [12] (fun x wx => ∃ k : Nat, k ≤ nb ∧ x = .int .i64 k ∧ Fr (fun _ => False) w9 wx) (fun x _ => nb - (intOf x).toNat)
            case atStart => exact ⟨0, Nat.zero_le _, rfl, HF.out⟩
            case round =>
              obtain ⟨j, hj, rfl, hf⟩ := hrel
              have hx1 := hf.blk HBN9.out (fun h => h)
              have hx2 := hf.blk HBO.out (fun h => h)
              have y0 := blkCell hx1 0; have y1 := blkCell hx1 1; have z0 := blkCell hx2 0; have z1 := blkCell hx2 1
              have l1 := blkLt hx1; have l2 := blkLt hx2
              have HF2 := Lib.hid hf
              by_cases hlt2 : j < nb
              · have q5 : decide ((j : Int) < (nb : Int)) = true := by simp; omega
                obtain ⟨d, hd⟩ : ∃ d, bd[j]? = some d := ⟨_, List.getElem?_eq_getElem (by rw [← HNB2.out]; exact hlt2)⟩
                have hD1 : wr.ownsRow 0 45 3 (.slice aB nb cB) nb (bindCells bd) := ownMove HB1.out (fun k _ hl => (((HAL7.out.trans HF8.out).trans HAL9.out).trans hf).block k hl (fun h => h))
                have hD2 : wr.ownsRow 0 45 3 (.slice aC nb cC) nb (bindCells (bd.map (shB 1))) := ownMove HB2.out (fun k _ hl => (HAL9.out.trans hf).block k hl (fun h => h))
                obtain ⟨g1, rfl, lg1, p0, p1, p2⟩ := bindRow_at hD1 hd
                obtain ⟨g2, rfl, lg2, r0, r1, r2⟩ := bindRow_at hD2 (show (bd.map (shB 1))[j]? = some (shB 1 d) by rw [List.getElem?_map, hd]; rfl)
                have hkn : (j : Int) < (nb : Int) := by omega
                obtain ⟨df, dt, dd⟩ := d
                simp only [shB] at p0 p1 p2 r0 r1 r2
                have hsp : df ≤ bs.length := by
                  have := (HSQ.out ⟨df, dt, dd⟩ (List.mem_of_getElem? hd))
                  simp only at this
                  omega
                rw [show ((df + 1 : Nat) : Int) = (df : Int) + 1 from by omega] at r0
                have qe : (dfnI dd == dfnI dd) = true := by simp
                clear hf hD1 hD2 hx1 hx2 hd
                go_wp2_with fail
                go_quiet (fail)
                go_wp2_with fail
                go_roundw
                case rel => exact ⟨j + 1, by omega, by go_num, HF2.out.trans ((Fr.refl _ _).drewN _)⟩
                case measure => simp [intOf]; omega
              · have q5 : decide ((j : Int) < (nb : Int)) = false := by simp; omega
                clear hf hx1 hx2
                have hfw9 : Fr (fun _ => False) w wr := ((((HFW4.out.trans HF7.out).trans HAL7.out).trans HF8.out).trans HAL9.out).trans HF2.out
                have HFW9 := Lib.hid hfw9
                clear hfw9
                go_wp2_with fail
                refine (awake_any wr (HG.out.move HFW9.out)).mono ?_
                rintro e w11 ⟨rfl, hf11⟩
                go_wp2_with fail
                go_ret
                exact ⟨rfl, HFW9.out.trans hf11⟩
    · have q2 : decide ((0 : Int) < (n : Int)) = false := by simp; omega
      have hlk : lastK toks ≠ 2 ∧ lastK toks ≠ 4 ∧ lastK toks ≠ 9 := by
        have : toks = [] := List.length_eq_zero_iff.1 (by have := HN.out; omega)
        rw [this]
        decide
      have HLAST := Lib.hid hlk
      clear hlk
      go_wp2_with fail
      rw [HTX.out]
      refine (names_any bs w4 (HG.out.move HFW4.out) (by omega)).mono ?_
      rintro e w6 ⟨vD, vB, rfl, hN1, hf7⟩
      rw [← HTX.out]
      obtain ⟨e1, e2⟩ := names_block (bs := bs) (by omega) (by rw [← HTK.out]; exact HLAST.out.1) (by rw [← HTK.out]; exact HLAST.out.2.1) (by rw [← HTK.out]; exact HLAST.out.2.2) HSH.out
      have hD1 := hN1.D; have hB1 := hN1.B
      have hnd := rowMax hD1; have hnb := rowMax hB1
      obtain ⟨ds, hds⟩ : ∃ ds, ds = (namesM (-1) bs).decls := ⟨_, rfl⟩
      obtain ⟨bd, hbd⟩ : ∃ bd, bd = (namesM (-1) bs).binds := ⟨_, rfl⟩
      rw [← hds] at hD1 hnd e1
      rw [← hbd] at hB1 hnb e2
      obtain ⟨nd, hnd'⟩ : ∃ nd, nd = ds.length := ⟨_, rfl⟩
      obtain ⟨nb, hnb'⟩ : ∃ nb, nb = bd.length := ⟨_, rfl⟩
      rw [← hnd'] at hD1 hnd
      rw [← hnb'] at hB1 hnb
      unfold maxLen at hnd hnb
      obtain ⟨aD, cD, rfl, _, _⟩ := ownShape hD1
      obtain ⟨aB, cB, rfl, _, _⟩ := ownShape hB1
      have hbn := blkNew w6 (.cells #[.slice aD nd cD, .slice aB nb cB] 37)
      have hal7 : Fr (fun _ => False) w6 (w6.alloc (.cells #[.slice aD nd cD, .slice aB nb cB] 37)) := (Fr.refl _ _).alloc _
      have hts : txt.size ≤ 3000 := by omega
      have hbr : (⟨#[123]⟩ : ByteArray) ++ txt ++ ⟨#[125]⟩ = ⟨(123 :: (bs ++ [125])).toArray⟩ := by rw [HTX.out]; exact braces_eq bs
      have hspb : SpB bs.length (namesM (-1) bs) := by
        obtain ⟨_, _, hT, _, _⟩ := tree_facts (bs := bs) (by omega)
        have := scopeS_spb (nm := nmT bs) (stop := -1) (treeM bs) hT.right.good
        rw [hT.width] at this
        exact this
      have hsp1 := hspb.dec; have hsp2 := hspb.bn
      rw [← hds] at hsp1
      rw [← hbd] at hsp2
      have HSP := Lib.hid hsp1; have HSQ := Lib.hid hsp2
      clear hspb hsp1 hsp2
      have HD1 := Lib.hid hD1; have HB1 := Lib.hid hB1; have HF7 := Lib.hid hf7; have HE1 := Lib.hid e1; have HE2 := Lib.hid e2; have HND2 := Lib.hid hnd'; have HNB2 := Lib.hid hnb'; have HBN := Lib.hid hbn; have HAL7 := Lib.hid hal7; have HBR := Lib.hid hbr
      clear hD1 hB1 hN1 hf7 e1 e2 hnd' hnb' hbn hal7 hbr hds hbd
      go_wp2_with fail
      rw [HBR.out]
      generalize w6.alloc (.cells #[.slice aD nd cD, .slice aB nb cB] 37) = w7 at *
      refine (names_any (123 :: (bs ++ [125])) w7 (HG.out.move ((HFW4.out.trans HF7.out).trans HAL7.out)) (by simp; omega)).mono ?_
      rintro e w8 ⟨vE, vC, rfl, hN2, hf8⟩
      have hD2 := hN2.D; have hB2 := hN2.B
      rw [HE1.out, List.length_map, ← HND2.out] at hD2
      rw [HE2.out, List.length_map, ← HNB2.out] at hB2
      obtain ⟨aE, cE, rfl, _, _⟩ := ownShape hD2
      obtain ⟨aC, cC, rfl, _, _⟩ := ownShape hB2
      have hbn8 := hf8.blk HBN.out (fun h => h)
      have lbn8 := blkLt hbn8
      have hbo := blkNew w8 (.cells #[.slice aE nd cE, .slice aC nb cC] 37)
      have hal9 : Fr (fun _ => False) w8 (w8.alloc (.cells #[.slice aE nd cE, .slice aC nb cC] 37)) := (Fr.refl _ _).alloc _
      have hbn9 := hal9.blk hbn8 (fun h => h)
      have b0 := blkCell hbn9 0; have b1 := blkCell hbn9 1; have c0 := blkCell hbo 0; have c1 := blkCell hbo 1
      have lo9 := blkLt hbo; have lb9 := blkLt hbn9
      have HD2 := Lib.hid hD2; have HB2 := Lib.hid hB2; have HF8 := Lib.hid hf8; have HAL9 := Lib.hid hal9; have HBO := Lib.hid hbo; have HBN9 := Lib.hid hbn9
      clear hD2 hB2 hN2 hf8 hal9 hbo hbn9 hbn8
      go_wp2_with fail
      clear b0 b1 c0 c1 lo9 lb9
      obtain ⟨ga, hga⟩ : ∃ ga, ga = w6.heap.size := ⟨_, rfl⟩
      obtain ⟨gb, hgb⟩ : ∃ gb, gb = w8.heap.size := ⟨_, rfl⟩
      rw [← hga] at HBN9 lbn8 ⊢
      rw [← hgb] at HBO lbn8 ⊢
      clear hga hgb HBN
      generalize w8.alloc (.cells #[.slice aE nd cE, .slice aC nb cC] 37) = w9 at *
      go_loopw [10, 11] (fun x _ wr => ∃ k : Nat, k ≤ nd ∧ x = .int .i64 k ∧ Fr (fun _ => False) w9 wr) (fun x _ _ => nd - (intOf x).toNat)
      case atStart => exact ⟨0, Nat.zero_le _, rfl, Fr.refl _ _⟩
      case round =>
        obtain ⟨k, hk, rfl, hf⟩ := hrel
        have hx1 := hf.blk HBN9.out (fun h => h)
        have hx2 := hf.blk HBO.out (fun h => h)
        have y0 := blkCell hx1 0; have y1 := blkCell hx1 1; have z0 := blkCell hx2 0; have z1 := blkCell hx2 1
        have l1 := blkLt hx1; have l2 := blkLt hx2
        have HF := Lib.hid hf
        by_cases hlt : k < nd
        · have q4 : decide ((k : Int) < (nd : Int)) = true := by simp; omega
          obtain ⟨d, hd⟩ : ∃ d, ds[k]? = some d := ⟨_, List.getElem?_eq_getElem (by rw [← HND2.out]; exact hlt)⟩
          have hD1 : wr.ownsRow 0 43 4 (.slice aD nd cD) nd (declCells ds) := ownMove HD1.out (fun k _ hl => (((HAL7.out.trans HF8.out).trans HAL9.out).trans hf).block k hl (fun h => h))
          have hD2 : wr.ownsRow 0 43 4 (.slice aE nd cE) nd (declCells (ds.map (shD 1))) := ownMove HD2.out (fun k _ hl => (HAL9.out.trans hf).block k hl (fun h => h))
          obtain ⟨g1, rfl, lg1, p0, p1, p2, p3⟩ := declRow_at hD1 hd
          obtain ⟨g2, rfl, lg2, r0, r1, r2, r3⟩ := declRow_at hD2 (show (ds.map (shD 1))[k]? = some (shD 1 d) by rw [List.getElem?_map, hd]; rfl)
          have hkn : (k : Int) < (nd : Int) := by omega
          obtain ⟨df, dt, dk, da⟩ := d
          simp only [shD] at p0 p1 p2 p3 r0 r1 r2 r3
          have hsp : dt ≤ bs.length ∧ df ≤ bs.length := by
            have := (HSP.out ⟨df, dt, dk, da⟩ (List.mem_of_getElem? hd))
            simp only at this
            omega
          rw [show ((df + 1 : Nat) : Int) = (df : Int) + 1 from by omega] at r0
          rw [show ((dt + 1 : Nat) : Int) = (dt : Int) + 1 from by omega] at r1
          clear hf hD1 hD2 hx1 hx2 hd
          go_wp2_with fail
          go_quiet (fail)
          go_wp2_with fail
          go_roundw
          case rel => exact ⟨k + 1, by omega, by go_num, (HF.out.alloc _).drewN _⟩
          case measure => simp [intOf]; omega
        · have q4 : decide ((k : Int) < (nd : Int)) = false := by simp; omega
          clear hf hx1 hx2
          go_wp2_with fail
          go_loopw [12] (fun x wx => ∃ k : Nat, k ≤ nb ∧ x = .int .i64 k ∧ Fr (fun _ => False) w9 wx) (fun x _ => nb - (intOf x).toNat)
          case atStart => exact ⟨0, Nat.zero_le _, rfl, HF.out⟩
          case round =>
            obtain ⟨j, hj, rfl, hf⟩ := hrel
            have hx1 := hf.blk HBN9.out (fun h => h)
            have hx2 := hf.blk HBO.out (fun h => h)
            have y0 := blkCell hx1 0; have y1 := blkCell hx1 1; have z0 := blkCell hx2 0; have z1 := blkCell hx2 1
            have l1 := blkLt hx1; have l2 := blkLt hx2
            have HF2 := Lib.hid hf
            by_cases hlt2 : j < nb
            · have q5 : decide ((j : Int) < (nb : Int)) = true := by simp; omega
              obtain ⟨d, hd⟩ : ∃ d, bd[j]? = some d := ⟨_, List.getElem?_eq_getElem (by rw [← HNB2.out]; exact hlt2)⟩
              have hD1 : wr.ownsRow 0 45 3 (.slice aB nb cB) nb (bindCells bd) := ownMove HB1.out (fun k _ hl => (((HAL7.out.trans HF8.out).trans HAL9.out).trans hf).block k hl (fun h => h))
              have hD2 : wr.ownsRow 0 45 3 (.slice aC nb cC) nb (bindCells (bd.map (shB 1))) := ownMove HB2.out (fun k _ hl => (HAL9.out.trans hf).block k hl (fun h => h))
              obtain ⟨g1, rfl, lg1, p0, p1, p2⟩ := bindRow_at hD1 hd
              obtain ⟨g2, rfl, lg2, r0, r1, r2⟩ := bindRow_at hD2 (show (bd.map (shB 1))[j]? = some (shB 1 d) by rw [List.getElem?_map, hd]; rfl)
              have hkn : (j : Int) < (nb : Int) := by omega
              obtain ⟨df, dt, dd⟩ := d
              simp only [shB] at p0 p1 p2 r0 r1 r2
              have hsp : df ≤ bs.length := by
                have := (HSQ.out ⟨df, dt, dd⟩ (List.mem_of_getElem? hd))
                simp only at this
                omega
              rw [show ((df + 1 : Nat) : Int) = (df : Int) + 1 from by omega] at r0
              have qe : (dfnI dd == dfnI dd) = true := by simp
              clear hf hD1 hD2 hx1 hx2 hd
              go_wp2_with fail
              go_quiet (fail)
              go_wp2_with fail
              go_roundw
              case rel => exact ⟨j + 1, by omega, by go_num, HF2.out.trans ((Fr.refl _ _).drewN _)⟩
              case measure => simp [intOf]; omega
            · have q5 : decide ((j : Int) < (nb : Int)) = false := by simp; omega
              clear hf hx1 hx2
              have hfw9 : Fr (fun _ => False) w wr := ((((HFW4.out.trans HF7.out).trans HAL7.out).trans HF8.out).trans HAL9.out).trans HF2.out
              have HFW9 := Lib.hid hfw9
              clear hfw9
              go_wp2_with fail
              refine (awake_any wr (HG.out.move HFW9.out)).mono ?_
              rintro e w11 ⟨rfl, hf11⟩
              go_wp2_with fail
              go_ret
              exact ⟨rfl, HFW9.out.trans hf11⟩
theorem scopeBlock_any (s : ByteArray) (w : World) (hG : Glob w) : Calls Tryz.prog 3 #[.string s] w fun e w' => e = .returned (.bool true) ∧ Fr (fun _ => False) w w' := by
  by_cases h : 3000 < s.size
  · exact block_long s w hG h
  · have e : s = ⟨s.data.toList.toArray⟩ := by cases s; rfl
    have := block_short s.data.toList w hG (by have : s.data.toList.length = s.size := Array.length_toList; omega)
    rw [← e] at this
    exact this
end Go.Proofs.YtkicpjjfeekopaaGreatDoor
