/- What names mean, as plain functions over trees. What names mean: two runs that go alike. What names mean: a use means what is shown where it begins. What names mean: how long the rows are. What names mean: each name that counts is in a layer; the numbers are those of declarations. What names mean: declarations are only added. What names mean: names called otherwise; a text in a block of its own. -/
import Derived.Test.YtkicpjjfeekopaaGreatDoorKp00
set_option linter.unusedVariables false
set_option linter.unusedSimpArgs false
set_option linter.unusedSectionVars false
namespace Go.Proofs.YtkicpjjfeekopaaGreatDoor
abbrev Nam := List UInt8
structure Dcl where
  frm : Nat
  to : Nat
  kind : Nat
  again : Bool
  deriving DecidableEq
structure Bnd where
  frm : Nat
  to : Nat
  dfn : Option Nat
  deriving DecidableEq
/-- A layer: the names of what counts in it; of each name how often it was declared there. -/
structure Lay where
  names : List Nam
  homes : Nam → Nat
/-- The finder: its layers, the one that is open last ahead. -/
structure FS where
  decls : List Dcl
  binds : List Bnd
  known : Nam → List Nat
  layers : List Lay
  shown : List Dcl
  ops : Nat
/-- What a node's loop holds: what it declares itself, a function's parameters so far, what is handed out, and the names of a list of parameters. -/
structure Loc where
  mine : List Nat
  given : List Nat
  pars : List Nat
  hm : Nam → Nat
def updN {α : Type} (f : Nam → α) (x : Nam) (v : α) : Nam → α := fun y => if y = x then v else f y
def zeroH : Nam → Nat := fun _ => 0
def homesS (s : FS) : Nam → Nat := match s.layers with | l :: _ => l.homes | [] => zeroH
def setHomes (s : FS) (h : Nam → Nat) : FS := match s.layers with | l :: r => { s with layers := { l with homes := h } :: r } | [] => s
def openS (s : FS) : FS := { s with layers := ⟨[], zeroH⟩ :: s.layers, ops := s.ops + 1 }
def popK (kn : Nam → List Nat) (x : Nam) : Nam → List Nat := updN kn x (kn x).dropLast
def closeS (s : FS) : FS := match s.layers with
  | l :: r => { s with layers := r, known := l.names.foldl popK s.known }
  | [] => s
def meansS (s : FS) (x : Nam) : Option Nat := (s.known x).getLast?
section
variable (nm : Nat → Nat → Nam) (stop : Int)
def nmD (d : Dcl) : Nam := nm d.frm d.to
def count1 (s : FS) (k : Nat) : FS :=
  match s.decls[k]? with
  | none => s
  | some d => { s with
      ops := s.ops + 1
      known := updN s.known (nmD nm d) (s.known (nmD nm d) ++ [max k ((s.known (nmD nm d)).getLastD 0)])
      layers := match s.layers with | l :: r => { l with names := l.names ++ [nmD nm d] } :: r | [] => [] }
def countS (l : List Nat) (s : FS) : FS := l.foldl (count1 nm) s
/-- A declaration is noted. -/
def declS (frm to kind : Nat) (again : Nam → Nat) (s : FS) : FS := { s with decls := s.decls ++ [⟨frm, to, kind, decide (0 < again (nm frm to))⟩], ops := s.ops + 1 }
def bumpH (frm to : Nat) (again : Nam → Nat) : Nam → Nat := updN again (nm frm to) (again (nm frm to) + 1)
/-- What counts. -/
def shownS (s : FS) : List Dcl := (s.decls.zipIdx.filter fun x => decide (meansS s (nmD nm x.1) = some x.2) && decide ((x.1.to : Int) ≤ stop)).map (·.1)
def lookS (frm to : Nat) (s : FS) : FS := if stop < frm ∨ (to : Int) ≤ stop then s else { s with shown := shownS nm stop s }
/-- A leaf that is a token. -/
def leafS (pk kk frm to : Nat) (s : FS) (lc : Loc) : FS × Loc :=
  if kk = 6 ∧ pk = 53 then
    (lookS nm stop frm to (setHomes (declS nm frm to 1 (homesS s) s) (bumpH nm frm to (homesS s))), { lc with mine := lc.mine ++ [s.decls.length] })
  else if kk = 6 ∧ pk = 54 then
    (countS nm [s.decls.length] (setHomes (declS nm frm to 2 (homesS s) (lookS nm stop frm to s)) (bumpH nm frm to (homesS s))), lc)
  else if kk = 6 ∧ pk = 55 then
    (declS nm frm to 3 lc.hm (lookS nm stop frm to s), { lc with pars := lc.pars ++ [s.decls.length], hm := bumpH nm frm to lc.hm })
  else if kk = 6 ∧ pk = 66 then
    ({ lookS nm stop frm to s with binds := s.binds ++ [⟨frm, to, meansS s (nm frm to)⟩], ops := s.ops + 1 }, lc)
  else (lookS nm stop frm to s, lc)
mutual
/-- A node's kids; what it lets count itself. -/
def nodeS : Tree → Nat → FS → List Nat → FS × List Nat
  | .node kk _ _ sub, frm, s, pars =>
    let r := kidsS kk sub frm s ⟨[], [], pars, zeroH⟩
    (if kk = 53 then countS nm r.2.mine r.1 else r.1, r.2.pars)
def kidsS (pk : Nat) : List Tree → Nat → FS → Loc → FS × Loc
  | [], _, s, lc => (s, lc)
  | t :: ts, frm, s, lc =>
    let r : FS × Loc :=
      if t.kind < 50 then leafS nm stop pk t.kind frm (frm + t.width) s lc
      else if t.kind = 52 then (closeS (nodeS t frm (countS nm (if pk = 54 then lc.given else []) (openS s)) []).1, lc)
      else if t.kind = 55 ∧ pk = 54 then ((nodeS t frm s lc.given).1, { lc with given := (nodeS t frm s lc.given).2 })
      else ((nodeS t frm s []).1, lc)
    kidsS pk ts (frm + t.width) r.1 r.2
end
def withinS (t : Tree) (frm : Nat) (s : FS) (params : List Nat) : FS := closeS (nodeS nm stop t frm (countS nm params (openS s)) []).1
end
def emptyS : FS := ⟨[], [], fun _ => [], [], [], 0⟩
/-- The whole. -/
def scopeS (nm : Nat → Nat → Nam) (stop : Int) (t : Tree) : FS := withinS nm stop t 0 emptyS []
end Go.Proofs.YtkicpjjfeekopaaGreatDoor

namespace Go.Proofs.YtkicpjjfeekopaaGreatDoor
def shD (δ : Nat) (d : Dcl) : Dcl := ⟨d.frm + δ, d.to + δ, d.kind, d.again⟩
def shB (δ : Nat) (d : Bnd) : Bnd := ⟨d.frm + δ, d.to + δ, d.dfn⟩
def LayOne (f : Nam → Nam) (P : Nam → Prop) (l m : Lay) : Prop := m.names = l.names.map f ∧ (∀ x ∈ l.names, P x) ∧ ∀ x, P x → m.homes (f x) = l.homes x
def LayRel (f : Nam → Nam) (P : Nam → Prop) (X : List Lay) : List Lay → List Lay → Prop
  | [], ms => ms = X
  | l :: ls, m :: ms => LayOne f P l m ∧ LayRel f P X ls ms
  | _ :: _, [] => False
structure Sim (nm nm' : Nat → Nat → Nam) (δ : Nat) (f : Nam → Nam) (P : Nam → Prop) (H : Nat → Nat → Prop) (X : List Lay) (n : Nat) (s s' : FS) : Prop where
  decls : s'.decls = s.decls.map (shD δ)
  binds : s'.binds = s.binds.map (shB δ)
  known : ∀ x, P x → s'.known (f x) = s.known x
  layers : LayRel f P X s.layers s'.layers
  len : s.layers.length = n
  spans : ∀ d ∈ s.decls, H d.frm d.to
mutual
/-- Something holds of every name's leaf. -/
def NamesOk (H : Nat → Nat → Prop) : Tree → Nat → Prop
  | .node kk _ wd sub, frm => (kk = 6 → H frm (frm + wd)) ∧ NamesL H sub frm
def NamesL (H : Nat → Nat → Prop) : List Tree → Nat → Prop
  | [], _ => True
  | t :: ts, frm => NamesOk H t frm ∧ NamesL H ts (frm + t.width)
end
structure LocRel (f : Nam → Nam) (P : Nam → Prop) (lc lc' : Loc) : Prop where
  mine : lc'.mine = lc.mine
  given : lc'.given = lc.given
  pars : lc'.pars = lc.pars
  hm : ∀ x, P x → lc'.hm (f x) = lc.hm x
variable {nm nm' : Nat → Nat → Nam} {δ : Nat} {f : Nam → Nam} {P : Nam → Prop} {H : Nat → Nat → Prop} {X : List Lay} {stop stop' : Int}
theorem updN_rel {α : Type} (hinj : ∀ x y, P x → P y → f x = f y → x = y) {g g' : Nam → α} {x : Nam} {v : α} (hx : P x) (h : ∀ y, P y → g' (f y) = g y) : ∀ y, P y → updN g' (f x) v (f y) = updN g x v y := by
  intro y hy
  unfold updN
  by_cases he : y = x
  · rw [if_pos he, he, if_pos rfl]
  · rw [if_neg he, if_neg (fun e => he (hinj y x hy hx e)), h y hy]
variable (hinj : ∀ x y, P x → P y → f x = f y → x = y) (hH : ∀ a b, H a b → P (nm a b) ∧ nm' (a + δ) (b + δ) = f (nm a b))
include hinj hH
theorem count1_sim {n : Nat} {s s' : FS} (hn : 1 ≤ n) (h : Sim nm nm' δ f P H X n s s') (k : Nat) : Sim nm nm' δ f P H X n (count1 nm s k) (count1 nm' s' k) := by
  obtain ⟨h1, h2, h3, h4, h5, h6⟩ := h
  unfold count1
  rw [h1, List.getElem?_map]
  cases hd : s.decls[k]? with
  | none => exact ⟨h1, h2, h3, h4, h5, h6⟩
  | some d =>
    obtain ⟨p1, p2⟩ := hH _ _ (h6 d (List.mem_of_getElem? hd))
    simp only [Option.map_some]
    have e : nmD nm' (shD δ d) = f (nmD nm d) := p2
    have p1' : P (nmD nm d) := p1
    refine ⟨rfl, h2, ?_, ?_, ?_, h6⟩
    · simp only [e]
      rw [h3 _ p1']
      exact updN_rel hinj p1' h3
    · simp only [e]
      cases hs : s.layers with
      | nil => rw [hs] at h5; simp at h5; omega
      | cons l ls =>
        rw [hs] at h4
        cases hs' : s'.layers with
        | nil => rw [hs'] at h4; exact h4.elim
        | cons m ms =>
          rw [hs'] at h4
          obtain ⟨⟨q1, q2, q3⟩, q4⟩ := h4
          refine ⟨⟨by simp [q1], ?_, q3⟩, q4⟩
          intro x hx
          rcases List.mem_append.1 hx with hx | hx
          · exact q2 x hx
          · simp at hx; rw [hx]; exact p1'
    · simp only
      cases hs : s.layers with
      | nil => rw [hs] at h5; exact h5
      | cons l ls => rw [hs] at h5; exact h5
theorem countS_sim {n : Nat} (hn : 1 ≤ n) : ∀ (l : List Nat) {s s' : FS}, Sim nm nm' δ f P H X n s s' → Sim nm nm' δ f P H X n (countS nm l s) (countS nm' l s')
  | [], _, _, h => h
  | k :: l, _, _, h => countS_sim hn l (count1_sim hinj hH hn h k)
omit hinj hH in
theorem homes_sim {n : Nat} {s s' : FS} (hn : 1 ≤ n) (h : Sim nm nm' δ f P H X n s s') : ∀ x, P x → homesS s' (f x) = homesS s x := by
  intro x hx
  unfold homesS
  have h4 := h.layers
  have h5 := h.len
  cases hs : s.layers with
  | nil => rw [hs] at h5; simp at h5; omega
  | cons l ls =>
    rw [hs] at h4
    cases hs' : s'.layers with
    | nil => rw [hs'] at h4; exact h4.elim
    | cons m ms =>
      rw [hs'] at h4
      exact h4.1.2.2 x hx
omit hinj hH in
theorem setHomes_sim {n : Nat} {s s' : FS} (hn : 1 ≤ n) (h : Sim nm nm' δ f P H X n s s') {g g' : Nam → Nat} (hg : ∀ x, P x → g' (f x) = g x) : Sim nm nm' δ f P H X n (setHomes s g) (setHomes s' g') := by
  obtain ⟨h1, h2, h3, h4, h5, h6⟩ := h
  unfold setHomes
  cases hs : s.layers with
  | nil => rw [hs] at h5; simp at h5; omega
  | cons l ls =>
    rw [hs] at h4 h5
    cases hs' : s'.layers with
    | nil => rw [hs'] at h4; exact h4.elim
    | cons m ms =>
      rw [hs'] at h4
      obtain ⟨⟨q1, q2, q3⟩, q4⟩ := h4
      exact ⟨h1, h2, h3, ⟨⟨q1, q2, hg⟩, q4⟩, h5, h6⟩
omit hinj in
theorem declS_sim {n : Nat} {s s' : FS} (h : Sim nm nm' δ f P H X n s s') {g g' : Nam → Nat} (hg : ∀ x, P x → g' (f x) = g x) {frm to kind : Nat} (hs : H frm to) : Sim nm nm' δ f P H X n (declS nm frm to kind g s) (declS nm' (frm + δ) (to + δ) kind g' s') := by
  obtain ⟨h1, h2, h3, h4, h5, h6⟩ := h
  obtain ⟨p1, p2⟩ := hH _ _ hs
  refine ⟨?_, h2, h3, h4, h5, ?_⟩
  · unfold declS
    simp only [h1, List.map_append, p2, hg _ p1]
    rfl
  · intro d hd
    rcases List.mem_append.1 hd with hd | hd
    · exact h6 d hd
    · simp at hd; rw [hd]; exact hs
theorem bump_sim {g g' : Nam → Nat} (hg : ∀ x, P x → g' (f x) = g x) {frm to : Nat} (hs : H frm to) : ∀ x, P x → bumpH nm' (frm + δ) (to + δ) g' (f x) = bumpH nm frm to g x := by
  obtain ⟨p1, p2⟩ := hH _ _ hs
  unfold bumpH
  rw [p2, hg _ p1]
  exact updN_rel hinj p1 hg
omit hinj hH in
theorem lookS_sim {n : Nat} {s s' : FS} (h : Sim nm nm' δ f P H X n s s') (frm to frm' to' : Nat) : Sim nm nm' δ f P H X n (lookS nm stop frm to s) (lookS nm' stop' frm' to' s') := by
  obtain ⟨h1, h2, h3, h4, h5, h6⟩ := h
  unfold lookS
  split <;> split <;> exact ⟨h1, h2, h3, h4, h5, h6⟩
omit hinj hH in
theorem lookS_layers (frm to : Nat) (s : FS) : (lookS nm stop frm to s).layers = s.layers := by unfold lookS; split <;> rfl
omit hinj hH in
theorem lookS_decls (frm to : Nat) (s : FS) : (lookS nm stop frm to s).decls = s.decls := by unfold lookS; split <;> rfl
omit hinj hH in
theorem lookS_binds (frm to : Nat) (s : FS) : (lookS nm stop frm to s).binds = s.binds := by unfold lookS; split <;> rfl
omit hinj hH in
theorem lookS_known (frm to : Nat) (s : FS) : (lookS nm stop frm to s).known = s.known := by unfold lookS; split <;> rfl
omit hinj hH in
theorem openS_sim {n : Nat} {s s' : FS} (h : Sim nm nm' δ f P H X n s s') : Sim nm nm' δ f P H X (n + 1) (openS s) (openS s') := by
  obtain ⟨h1, h2, h3, h4, h5, h6⟩ := h
  exact ⟨h1, h2, h3, ⟨⟨rfl, by simp, fun _ _ => rfl⟩, h4⟩, by simp [openS, h5], h6⟩
omit hH in
theorem pop_sim : ∀ (l : List Nam), (∀ x ∈ l, P x) → ∀ {g g' : Nam → List Nat}, (∀ x, P x → g' (f x) = g x) → ∀ x, P x → (l.map f).foldl popK g' (f x) = l.foldl popK g x
  | [], _, _, _, h => h
  | y :: l, hl, g, g', h => by
    simp only [List.map_cons, List.foldl_cons]
    have hy := hl y (List.mem_cons_self ..)
    refine pop_sim l (fun x hx => hl x (List.mem_cons_of_mem _ hx)) ?_
    unfold popK
    rw [h y hy]
    exact updN_rel hinj hy h
omit hH in
theorem closeS_sim {n : Nat} {s s' : FS} (h : Sim nm nm' δ f P H X (n + 1) s s') : Sim nm nm' δ f P H X n (closeS s) (closeS s') := by
  obtain ⟨h1, h2, h3, h4, h5, h6⟩ := h
  unfold closeS
  cases hs : s.layers with
  | nil => rw [hs] at h5; simp at h5
  | cons l ls =>
    rw [hs] at h4 h5
    cases hs' : s'.layers with
    | nil => rw [hs'] at h4; exact h4.elim
    | cons m ms =>
      rw [hs'] at h4
      obtain ⟨⟨q1, q2, q3⟩, q4⟩ := h4
      refine ⟨h1, h2, ?_, q4, by simpa using h5, h6⟩
      simp only [q1]
      exact pop_sim hinj l.names q2 h3
theorem leafS_sim {n : Nat} (hn : 1 ≤ n) {pk kk frm to : Nat} {s s' : FS} {lc lc' : Loc} (h : Sim nm nm' δ f P H X n s s') (hl : LocRel f P lc lc') (hs : kk = 6 → H frm to) :
    Sim nm nm' δ f P H X n (leafS nm stop pk kk frm to s lc).1 (leafS nm' stop' pk kk (frm + δ) (to + δ) s' lc').1 ∧ LocRel f P (leafS nm stop pk kk frm to s lc).2 (leafS nm' stop' pk kk (frm + δ) (to + δ) s' lc').2 := by
  have hlen : s'.decls.length = s.decls.length := by rw [h.decls, List.length_map]
  unfold leafS
  by_cases h6 : kk = 6
  · have hsp := hs h6
    by_cases h53 : pk = 53
    · rw [if_pos ⟨h6, h53⟩, if_pos ⟨h6, h53⟩]
      refine ⟨lookS_sim (setHomes_sim hn (declS_sim hH h (homes_sim hn h) hsp) (bump_sim hinj hH (homes_sim hn h) hsp)) _ _ _ _, ?_⟩
      exact ⟨by simp [hl.mine, hlen], hl.given, hl.pars, hl.hm⟩
    · have n53 : ¬ (kk = 6 ∧ pk = 53) := fun h => h53 h.2
      rw [if_neg n53, if_neg n53]
      by_cases h54 : pk = 54
      · rw [if_pos ⟨h6, h54⟩, if_pos ⟨h6, h54⟩, hlen]
        refine ⟨countS_sim hinj hH hn _ ?_, hl⟩
        exact setHomes_sim hn (declS_sim hH (lookS_sim h _ _ _ _) (homes_sim hn h) hsp) (bump_sim hinj hH (homes_sim hn h) hsp)
      · have n54 : ¬ (kk = 6 ∧ pk = 54) := fun h => h54 h.2
        rw [if_neg n54, if_neg n54]
        by_cases h55 : pk = 55
        · rw [if_pos ⟨h6, h55⟩, if_pos ⟨h6, h55⟩, hlen]
          exact ⟨declS_sim hH (lookS_sim h _ _ _ _) hl.hm hsp, ⟨hl.mine, hl.given, by simp [hl.pars], bump_sim hinj hH hl.hm hsp⟩⟩
        · have n55 : ¬ (kk = 6 ∧ pk = 55) := fun h => h55 h.2
          rw [if_neg n55, if_neg n55]
          by_cases h66 : pk = 66
          · rw [if_pos ⟨h6, h66⟩, if_pos ⟨h6, h66⟩]
            refine ⟨?_, hl⟩
            obtain ⟨h1, h2, h3, h4, h5, h6'⟩ := lookS_sim (stop := stop) (stop' := stop') h frm to (frm + δ) (to + δ)
            obtain ⟨p1, p2⟩ := hH _ _ hsp
            refine ⟨h1, ?_, h3, h4, h5, h6'⟩
            simp only [List.map_append, h.binds]
            congr 1
            simp only [List.map_cons, List.map_nil, shB]
            unfold meansS
            rw [p2, h.known _ p1]
          · have n66 : ¬ (kk = 6 ∧ pk = 66) := fun h => h66 h.2
            rw [if_neg n66, if_neg n66]
            exact ⟨lookS_sim h _ _ _ _, hl⟩
  · have nn : ∀ k, ¬ (kk = 6 ∧ pk = k) := fun k h => h6 h.1
    rw [if_neg (nn 53), if_neg (nn 53), if_neg (nn 54), if_neg (nn 54), if_neg (nn 55), if_neg (nn 55), if_neg (nn 66), if_neg (nn 66)]
    exact ⟨lookS_sim h _ _ _ _, hl⟩
mutual
theorem nodeS_sim {n : Nat} (hn : 1 ≤ n) : ∀ (t : Tree) (frm : Nat) (s s' : FS) (pars : List Nat), Sim nm nm' δ f P H X n s s' → NamesOk H t frm →
    Sim nm nm' δ f P H X n (nodeS nm stop t frm s pars).1 (nodeS nm' stop' t (frm + δ) s' pars).1 ∧ (nodeS nm' stop' t (frm + δ) s' pars).2 = (nodeS nm stop t frm s pars).2
  | .node kk wt wd sub, frm, s, s', pars, h, ho => by
    simp only [NamesOk] at ho
    obtain ⟨h1, h2⟩ := kidsS_sim hn kk sub frm s s' ⟨[], [], pars, zeroH⟩ ⟨[], [], pars, zeroH⟩ h ⟨rfl, rfl, rfl, fun _ _ => rfl⟩ ho.2
    simp only [nodeS]
    refine ⟨?_, h2.pars⟩
    split
    · rw [h2.mine]
      exact countS_sim hinj hH hn _ h1
    · exact h1
theorem kidsS_sim {n : Nat} (hn : 1 ≤ n) : ∀ (pk : Nat) (ts : List Tree) (frm : Nat) (s s' : FS) (lc lc' : Loc), Sim nm nm' δ f P H X n s s' → LocRel f P lc lc' → NamesL H ts frm →
    Sim nm nm' δ f P H X n (kidsS nm stop pk ts frm s lc).1 (kidsS nm' stop' pk ts (frm + δ) s' lc').1 ∧ LocRel f P (kidsS nm stop pk ts frm s lc).2 (kidsS nm' stop' pk ts (frm + δ) s' lc').2
  | _, [], _, _, _, _, _, h, hl, _ => by simp only [kidsS]; exact ⟨h, hl⟩
  | pk, t :: ts, frm, s, s', lc, lc', h, hl, ho => by
    simp only [NamesL] at ho
    simp only [kidsS]
    rw [show frm + δ + t.width = frm + t.width + δ from by omega]
    by_cases h50 : t.kind < 50
    · rw [if_pos h50, if_pos h50]
      have ht : t.kind = 6 → H frm (frm + t.width) := by
        have := ho.1
        cases t
        simp only [NamesOk] at this
        exact this.1
      obtain ⟨a1, a2⟩ := leafS_sim (stop := stop) (stop' := stop') hinj hH hn (pk := pk) h hl ht
      exact kidsS_sim hn pk ts _ _ _ _ _ a1 a2 ho.2
    · rw [if_neg h50, if_neg h50]
      by_cases h52 : t.kind = 52
      · rw [if_pos h52, if_pos h52, hl.given]
        have h0 := countS_sim hinj hH (n := n + 1) (by omega) (if pk = 54 then lc.given else []) (openS_sim h)
        obtain ⟨a1, _⟩ := nodeS_sim (n := n + 1) (by omega) t frm _ _ [] h0 ho.1
        exact kidsS_sim hn pk ts _ _ _ _ _ (closeS_sim hinj a1) hl ho.2
      · rw [if_neg h52, if_neg h52]
        by_cases h55 : t.kind = 55 ∧ pk = 54
        · rw [if_pos h55, if_pos h55, hl.given]
          obtain ⟨a1, a2⟩ := nodeS_sim hn t frm s s' lc.given h ho.1
          exact kidsS_sim hn pk ts _ _ _ _ _ a1 ⟨hl.mine, a2, hl.pars, hl.hm⟩ ho.2
        · rw [if_neg h55, if_neg h55]
          obtain ⟨a1, _⟩ := nodeS_sim hn t frm s s' [] h ho.1
          exact kidsS_sim hn pk ts _ _ _ _ _ a1 hl ho.2
end
end Go.Proofs.YtkicpjjfeekopaaGreatDoor

namespace Go.Proofs.YtkicpjjfeekopaaGreatDoor
/-- What is shown of a use's name is just what the use means. -/
def ShowsQ (nm : Nat → Nat → Nam) (b : Bnd) (s : FS) : Prop :=
  s.shown.filter (fun d => decide (nmD nm d = nm b.frm b.to)) = match b.dfn with | none => [] | some k => (s.decls[k]?).toList
structure WFI (nm : Nat → Nat → Nam) (stop : Int) (frm : Nat) (s : FS) : Prop where
  kn : ∀ x, ∀ k ∈ s.known x, ∃ d, s.decls[k]? = some d ∧ nmD nm d = x
  to : ∀ d ∈ s.decls, d.to ≤ frm
  bs : ∀ b ∈ s.binds, b.frm < frm ∧ (∀ k, b.dfn = some k → k < s.decls.length) ∧ ((b.frm : Int) = stop → ShowsQ nm b s)
variable {nm : Nat → Nat → Nam} {stop : Int}
theorem WFI.mono {frm frm' : Nat} {s : FS} (h : WFI nm stop frm s) (hf : frm ≤ frm') : WFI nm stop frm' s :=
  ⟨h.kn, fun d hd => Nat.le_trans (h.to d hd) hf, fun b hb => ⟨Nat.lt_of_lt_of_le (h.bs b hb).1 hf, (h.bs b hb).2⟩⟩
theorem zipIdx_pick {α : Type} : ∀ (l : List α) (n k : Nat), ((l.zipIdx n).filter (fun x => decide (x.2 = k))).map (·.1) = if n ≤ k then (l[k - n]?).toList else []
  | [], n, k => by simp
  | a :: l, n, k => by
    simp only [List.zipIdx_cons, List.filter_cons]
    by_cases h : n = k
    · subst h
      have := zipIdx_pick l (n + 1) n
      rw [if_neg (by omega)] at this
      simp [this]
    · have h2 := zipIdx_pick l (n + 1) k
      simp only [h, decide_false, Bool.false_eq_true, if_false]
      rw [h2]
      by_cases h3 : n ≤ k
      · rw [if_pos (by omega), if_pos h3, show k - n = (k - (n + 1)) + 1 from by omega, List.getElem?_cons_succ]
      · rw [if_neg (by omega), if_neg h3]
theorem getLast_mem {l : List Nat} {k : Nat} (h : l.getLast? = some k) : k ∈ l := List.mem_of_getLast? h
theorem shown_name {frm : Nat} {s : FS} (h : WFI nm stop frm s) (hs : (frm : Int) ≤ stop) (x : Nam) :
    (shownS nm stop s).filter (fun d => decide (nmD nm d = x)) = match meansS s x with | none => [] | some k => (s.decls[k]?).toList := by
  unfold shownS
  rw [List.filter_map, List.filter_filter]
  have hto : ∀ y ∈ s.decls.zipIdx, ((y.1.to : Int) ≤ stop) := by
    intro y hy
    have := h.to y.1 (by have := List.fst_mem_of_mem_zipIdx hy; exact this)
    omega
  have hidx : ∀ y ∈ s.decls.zipIdx, s.decls[y.2]? = some y.1 := by
    intro y hy
    have := (List.mem_zipIdx_iff_getElem? (x := y)).1 hy
    exact this
  cases hm : meansS s x with
  | none =>
    simp only
    rw [List.filter_eq_nil_iff.2, List.map_nil]
    intro y hy
    simp only [Function.comp, Bool.and_eq_true, decide_eq_true_eq, not_and]
    intro hx
    rw [hx, hm]
    simp
  | some k =>
    simp only
    obtain ⟨d, hd, hdx⟩ := h.kn x k (getLast_mem hm)
    have hz := zipIdx_pick s.decls 0 k
    rw [if_pos (by omega), Nat.sub_zero] at hz
    rw [← hz]
    congr 1
    apply List.filter_congr
    intro y hy
    have h1 := hto y hy
    have h2 := hidx y hy
    simp only [Function.comp]
    rw [Bool.eq_iff_iff]
    simp only [Bool.and_eq_true, decide_eq_true_eq]
    constructor
    · rintro ⟨hx, hk, _⟩
      rw [hx, hm] at hk
      injection hk with hk
      exact hk.symm
    · intro hk
      rw [hk, hd] at h2
      injection h2 with h2
      rw [← h2]
      refine ⟨hdx, ?_, by rw [h2]; exact h1⟩
      rw [hdx, hm, hk]
theorem count1_inv {frm : Nat} {s : FS} (h : WFI nm stop frm s) (k : Nat) : WFI nm stop frm (count1 nm s k) := by
  unfold count1
  cases hd : s.decls[k]? with
  | none => exact h
  | some d =>
    refine ⟨?_, h.to, h.bs⟩
    intro x j hj
    simp only [updN] at hj
    by_cases hx : x = nmD nm d
    · rw [if_pos hx] at hj
      rcases List.mem_append.1 hj with hj | hj
      · rw [hx]; exact h.kn _ j hj
      · simp only [List.mem_singleton] at hj
        rcases Nat.le_total k ((s.known (nmD nm d)).getLastD 0) with hle | hle
        · rw [Nat.max_eq_right hle] at hj
          cases hl : (s.known (nmD nm d)).getLast? with
          | none =>
            have h0 : (s.known (nmD nm d)).getLastD 0 = 0 := by rw [List.getLastD_eq_getLast?, hl]; rfl
            rw [h0] at hle hj
            have : k = 0 := by omega
            rw [hj, ← this, hx]
            exact ⟨d, hd, rfl⟩
          | some m =>
            have h0 : (s.known (nmD nm d)).getLastD 0 = m := by rw [List.getLastD_eq_getLast?, hl]; rfl
            rw [hj, h0, hx]
            exact h.kn _ m (getLast_mem hl)
        · rw [Nat.max_eq_left hle] at hj
          rw [hj, hx]
          exact ⟨d, hd, rfl⟩
    · rw [if_neg hx] at hj
      exact h.kn x j hj
theorem countS_inv {frm : Nat} : ∀ (l : List Nat) {s : FS}, WFI nm stop frm s → WFI nm stop frm (countS nm l s)
  | [], _, h => h
  | k :: l, _, h => countS_inv l (count1_inv h k)
theorem openS_inv {frm : Nat} {s : FS} (h : WFI nm stop frm s) : WFI nm stop frm (openS s) := ⟨h.kn, h.to, h.bs⟩
theorem setHomes_inv {frm : Nat} {s : FS} (h : WFI nm stop frm s) (g : Nam → Nat) : WFI nm stop frm (setHomes s g) := by
  unfold setHomes
  split
  · exact ⟨h.kn, h.to, h.bs⟩
  · exact h
theorem pop_sub : ∀ (l : List Nam) (g : Nam → List Nat) (x : Nam) (k : Nat), k ∈ l.foldl popK g x → k ∈ g x
  | [], _, _, _, h => h
  | y :: l, g, x, k, h => by
    have h1 := pop_sub l (popK g y) x k h
    unfold popK updN at h1
    split at h1
    · rename_i e
      rw [e]
      exact (List.dropLast_sublist _).subset h1
    · exact h1
theorem closeS_inv {frm : Nat} {s : FS} (h : WFI nm stop frm s) : WFI nm stop frm (closeS s) := by
  unfold closeS
  split
  · exact ⟨fun x k hk => h.kn x k (pop_sub _ _ _ _ hk), h.to, h.bs⟩
  · exact h
theorem declS_inv {frm to : Nat} {s : FS} (h : WFI nm stop frm s) (ht : frm ≤ to) (kind : Nat) (g : Nam → Nat) (f : Nat) : WFI nm stop to (declS nm f to kind g s) := by
  refine ⟨?_, ?_, ?_⟩
  · intro x k hk
    obtain ⟨d, hd, hx⟩ := h.kn x k hk
    exact ⟨d, by unfold declS; simp only; rw [List.getElem?_append_left (List.getElem?_eq_some_iff.1 hd).1]; exact hd, hx⟩
  · intro d hd
    rcases List.mem_append.1 hd with hd | hd
    · exact Nat.le_trans (h.to d hd) ht
    · simp at hd; rw [hd]; exact Nat.le_refl _
  · intro b hb
    obtain ⟨h1, h2, h3⟩ := h.bs b hb
    refine ⟨Nat.lt_of_lt_of_le h1 ht, fun k hk => ?_, fun hp => ?_⟩
    · have := h2 k hk
      unfold declS
      simp only [List.length_append]
      omega
    · have := h3 hp
      unfold ShowsQ at this ⊢
      unfold declS
      simp only
      rw [this]
      cases hd : b.dfn with
      | none => rfl
      | some k =>
        have := h2 k hd
        simp only
        rw [List.getElem?_append_left this]
theorem lookS_inv {frm to : Nat} {s : FS} (h : WFI nm stop frm s) : WFI nm stop frm (lookS nm stop frm to s) := by
  unfold lookS
  split
  · exact h
  · rename_i hc
    refine ⟨h.kn, h.to, fun b hb => ?_⟩
    obtain ⟨h1, h2, _⟩ := h.bs b hb
    exact ⟨h1, h2, fun hp => by omega⟩
theorem lookS_inv' {frm to : Nat} {s : FS} (h : WFI nm stop to s) (hb : ∀ b ∈ s.binds, b.frm < frm) : WFI nm stop to (lookS nm stop frm to s) := by
  unfold lookS
  split
  · exact h
  · rename_i hc
    refine ⟨h.kn, h.to, fun b hb' => ?_⟩
    obtain ⟨h1, h2, _⟩ := h.bs b hb'
    have := hb b hb'
    exact ⟨h1, h2, fun hp => by omega⟩
theorem leafS_inv {pk kk frm to : Nat} {s : FS} {lc : Loc} (h : WFI nm stop frm s) (ht : frm < to) : WFI nm stop to (leafS nm stop pk kk frm to s lc).1 := by
  unfold leafS
  split
  · refine lookS_inv' (setHomes_inv (declS_inv h (by omega) _ _ _) _) ?_
    intro b hb
    have : b ∈ s.binds := by
      unfold setHomes at hb
      split at hb <;> exact hb
    exact (h.bs b this).1
  · split
    · exact countS_inv _ (setHomes_inv (declS_inv (lookS_inv h) (by omega) _ _ _) _)
    · split
      · exact declS_inv (lookS_inv h) (by omega) _ _ _
      · split
        · have hl := lookS_inv (to := to) h
          refine ⟨hl.kn, fun d hd => Nat.le_trans (hl.to d hd) (by omega), ?_⟩
          intro b hb
          rcases List.mem_append.1 hb with hb | hb
          · obtain ⟨h1, h2, h3⟩ := hl.bs b (by rw [lookS_binds]; exact hb)
            exact ⟨by omega, h2, h3⟩
          · simp only [List.mem_singleton] at hb
            rw [hb]
            refine ⟨ht, fun k hk => ?_, fun hp => ?_⟩
            · obtain ⟨d, hd, _⟩ := h.kn _ k (getLast_mem hk)
              simp only [lookS_decls]
              exact (List.getElem?_eq_some_iff.1 hd).1
            · unfold ShowsQ
              simp only
              unfold lookS
              simp only at hp
              rw [if_neg (by omega)]
              simp only
              exact shown_name h (by omega) _
        · exact (lookS_inv h).mono (by omega)
theorem goodT_leaf {k w wd : Nat} {sub : List Tree} (h : goodT (.node k w wd sub) = true) (hk : k < 50) : 1 ≤ wd ∧ sub = [] := by
  unfold goodT at h
  rw [if_neg (by omega), if_pos hk] at h
  simp at h
  exact ⟨h.1.1.1.2, h.2⟩
theorem goodT_inner {k w wd : Nat} {sub : List Tree} (h : goodT (.node k w wd sub) = true) (hk : ¬ k < 50) : sumW sub = wd ∧ goodL sub = true := by
  unfold goodT at h
  by_cases h50 : k = 50
  · rw [if_pos h50] at h
    simp at h
    obtain ⟨⟨h1, h2⟩, _⟩ := h
    rw [h2, h1]
    exact ⟨rfl, rfl⟩
  · rw [if_neg h50, if_neg hk] at h
    simp at h
    exact ⟨h.1.1.2, h.2⟩
mutual
theorem nodeS_inv : ∀ (t : Tree) (frm : Nat) (s : FS) (pars : List Nat), WFI nm stop frm s → goodT t = true → WFI nm stop (frm + t.width) (nodeS nm stop t frm s pars).1
  | .node kk wt wd sub, frm, s, pars, h, hg => by
    simp only [nodeS, Tree.width]
    have hk : WFI nm stop (frm + wd) (kidsS nm stop kk sub frm s ⟨[], [], pars, zeroH⟩).1 := by
      by_cases h50 : kk < 50
      · obtain ⟨_, e⟩ := goodT_leaf hg h50
        subst e
        simp only [kidsS]
        exact h.mono (by omega)
      · obtain ⟨e, g⟩ := goodT_inner hg h50
        rw [← e]
        exact kidsS_inv kk sub frm s _ h g
    split
    · exact countS_inv _ hk
    · exact hk
theorem kidsS_inv : ∀ (pk : Nat) (ts : List Tree) (frm : Nat) (s : FS) (lc : Loc), WFI nm stop frm s → goodL ts = true → WFI nm stop (frm + sumW ts) (kidsS nm stop pk ts frm s lc).1
  | _, [], frm, s, lc, h, _ => by simp only [kidsS, sumW, Nat.add_zero]; exact h
  | pk, t :: ts, frm, s, lc, h, hg => by
    simp only [goodL, Bool.and_eq_true] at hg
    simp only [kidsS, sumW]
    rw [← Nat.add_assoc]
    by_cases h50 : t.kind < 50
    · rw [if_pos h50]
      have ht : 1 ≤ t.width := by
        have h1 := hg.1
        cases t
        exact (goodT_leaf h1 h50).1
      exact kidsS_inv pk ts _ _ _ (leafS_inv h (by omega)) hg.2
    · rw [if_neg h50]
      by_cases h52 : t.kind = 52
      · rw [if_pos h52]
        exact kidsS_inv pk ts _ _ _ (closeS_inv (nodeS_inv t frm _ _ (countS_inv _ (openS_inv h)) hg.1)) hg.2
      · rw [if_neg h52]
        by_cases h55 : t.kind = 55 ∧ pk = 54
        · rw [if_pos h55]
          exact kidsS_inv pk ts _ _ _ (nodeS_inv t frm _ _ h hg.1) hg.2
        · rw [if_neg h55]
          exact kidsS_inv pk ts _ _ _ (nodeS_inv t frm _ _ h hg.1) hg.2
end
theorem emptyS_inv (nm : Nat → Nat → Nam) (stop : Int) : WFI nm stop 0 emptyS := ⟨by simp [emptyS], by simp [emptyS], by simp [emptyS]⟩
theorem scopeS_inv (t : Tree) (hg : goodT t = true) : WFI nm stop t.width (scopeS nm stop t) := by
  have := nodeS_inv t 0 _ [] (countS_inv (nm := nm) (stop := stop) [] (openS_inv (emptyS_inv nm stop))) hg
  rw [Nat.zero_add] at this
  exact closeS_inv this

mutual
theorem namesOk_true : ∀ (t : Tree) (frm : Nat), NamesOk (fun _ _ => True) t frm
  | .node _ _ _ sub, frm => ⟨fun _ => trivial, namesL_true sub frm⟩
theorem namesL_true : ∀ (ts : List Tree) (frm : Nat), NamesL (fun _ _ => True) ts frm
  | [], _ => trivial
  | t :: ts, frm => ⟨namesOk_true t frm, namesL_true ts _⟩
end
theorem emptyS_sim {nm nm' : Nat → Nat → Nam} {δ : Nat} {f : Nam → Nam} {P : Nam → Prop} {H : Nat → Nat → Prop} : Sim nm nm' δ f P H [] 0 emptyS emptyS :=
  ⟨rfl, rfl, fun _ _ => rfl, rfl, rfl, by simp [emptyS]⟩
/-- A run and one that goes alike from the very start. -/
theorem scopeS_sim {nm nm' : Nat → Nat → Nam} {f : Nam → Nam} {P : Nam → Prop} {H : Nat → Nat → Prop} {stop stop' : Int} (hinj : ∀ x y, P x → P y → f x = f y → x = y) (hH : ∀ a b, H a b → P (nm a b) ∧ nm' a b = f (nm a b)) (t : Tree) (ht : NamesOk H t 0) :
    (scopeS nm' stop' t).decls = (scopeS nm stop t).decls ∧ (scopeS nm' stop' t).binds = (scopeS nm stop t).binds := by
  have h0 := countS_sim (nm := nm) (nm' := nm') (δ := 0) hinj hH (n := 1) (by omega) [] (openS_sim (emptyS_sim (H := H)))
  obtain ⟨h1, _⟩ := nodeS_sim (stop := stop) (stop' := stop') hinj hH (n := 1) (by omega) t 0 _ _ [] h0 ht
  have h2 := closeS_sim hinj h1
  have e1 : shD 0 = id := by funext d; rfl
  have e2 : shB 0 = id := by funext d; rfl
  constructor
  · have := h2.decls
    rw [e1, List.map_id] at this
    exact this
  · have := h2.binds
    rw [e2, List.map_id] at this
    exact this
theorem scopeS_stop (nm : Nat → Nat → Nam) (stop stop' : Int) (t : Tree) : (scopeS nm stop' t).decls = (scopeS nm stop t).decls ∧ (scopeS nm stop' t).binds = (scopeS nm stop t).binds :=
  scopeS_sim (f := id) (P := fun _ => True) (H := fun _ _ => True) (fun _ _ _ _ h => h) (fun _ _ _ => ⟨trivial, rfl⟩) t (namesOk_true t 0)
/-- THE LAW: of each use, what is shown of its name where it begins is what it means. -/
theorem shows_law (nm : Nat → Nat → Nam) (t : Tree) (hg : goodT t = true) (b : Bnd) (hb : b ∈ (scopeS nm (-1) t).binds) :
    (∀ k, b.dfn = some k → k < (scopeS nm (-1) t).decls.length) ∧
    (scopeS nm b.frm t).shown.filter (fun d => decide (nmD nm d = nm b.frm b.to)) = match b.dfn with | none => [] | some k => ((scopeS nm (-1) t).decls[k]?).toList := by
  obtain ⟨e1, e2⟩ := scopeS_stop nm (-1) b.frm t
  have h := scopeS_inv (nm := nm) (stop := b.frm) t hg
  obtain ⟨_, h2, h3⟩ := h.bs b (by rw [e2]; exact hb)
  rw [e1] at h2
  refine ⟨h2, ?_⟩
  have := h3 rfl
  unfold ShowsQ at this
  rw [this, e1]
end Go.Proofs.YtkicpjjfeekopaaGreatDoor

namespace Go.Proofs.YtkicpjjfeekopaaGreatDoor
/-- Every row is at most as long as so many operations were done. -/
structure LenI (s : FS) : Prop where
  decls : s.decls.length ≤ s.ops
  binds : s.binds.length ≤ s.ops
  layers : s.layers.length ≤ s.ops
  names : ∀ l ∈ s.layers, l.names.length ≤ s.ops
  homes : ∀ l ∈ s.layers, ∀ x, l.homes x ≤ s.ops
  known : ∀ x, (s.known x).length ≤ s.ops
  shown : s.shown.length ≤ s.ops
structure LocI (n : Nat) (lc : Loc) : Prop where
  mine : lc.mine.length ≤ n
  given : lc.given.length ≤ n
  pars : lc.pars.length ≤ n
  hm : ∀ x, lc.hm x ≤ n
theorem LocI.mono {n n' : Nat} {lc : Loc} (h : LocI n lc) (hn : n ≤ n') : LocI n' lc := ⟨Nat.le_trans h.mine hn, Nat.le_trans h.given hn, Nat.le_trans h.pars hn, fun x => Nat.le_trans (h.hm x) hn⟩
variable {nm : Nat → Nat → Nam} {stop : Int}
theorem count1_ops (s : FS) (k : Nat) : s.ops ≤ (count1 nm s k).ops ∧ (count1 nm s k).ops ≤ s.ops + 1 := by
  unfold count1
  split <;> simp
theorem count1_len {s : FS} (h : LenI s) (k : Nat) : LenI (count1 nm s k) := by
  unfold count1
  split
  · exact h
  · rename_i d hd
    obtain ⟨h1, h2, h3, h4, h5, h6, h7⟩ := h
    refine ⟨by simp only; omega, by simp only; omega, ?_, ?_, ?_, ?_, by simp only; omega⟩
    · simp only
      split
      · rename_i l r hl; rw [hl] at h3; simp only [List.length_cons] at h3 ⊢; omega
      · simp
    · simp only
      intro l hl
      split at hl
      · rename_i l0 r hl0
        rw [hl0] at h4
        rcases List.mem_cons.1 hl with rfl | hl
        · have := h4 l0 (List.mem_cons_self ..)
          simp only [List.length_append, List.length_singleton]; omega
        · have := h4 l (List.mem_cons_of_mem _ hl); omega
      · cases hl
    · simp only
      intro l hl x
      split at hl
      · rename_i l0 r hl0
        rw [hl0] at h5
        rcases List.mem_cons.1 hl with rfl | hl
        · have := h5 l0 (List.mem_cons_self ..) x
          simp only; omega
        · have := h5 l (List.mem_cons_of_mem _ hl) x; omega
      · cases hl
    · simp only
      intro x
      unfold updN
      split
      · rename_i e
        have := h6 (nmD nm d)
        simp only [List.length_append, List.length_singleton]; omega
      · have := h6 x; omega
theorem countS_ops : ∀ (l : List Nat) (s : FS), s.ops ≤ (countS nm l s).ops ∧ (countS nm l s).ops ≤ s.ops + l.length
  | [], s => by simp [countS]
  | k :: l, s => by
    have h1 := count1_ops (nm := nm) s k
    have h2 := countS_ops l (count1 nm s k)
    simp only [countS, List.foldl_cons, List.length_cons] at h2 ⊢
    omega
theorem countS_len : ∀ (l : List Nat) {s : FS}, LenI s → LenI (countS nm l s)
  | [], _, h => h
  | k :: l, _, h => countS_len l (count1_len h k)
theorem openS_len {s : FS} (h : LenI s) : LenI (openS s) := by
  obtain ⟨h1, h2, h3, h4, h5, h6, h7⟩ := h
  refine ⟨by simp only [openS]; omega, by simp only [openS]; omega, by simp only [openS, List.length_cons]; omega, ?_, ?_, ?_, by simp only [openS]; omega⟩
  · intro l hl
    rcases List.mem_cons.1 hl with rfl | hl
    · simp
    · have := h4 l hl; simp only [openS]; omega
  · intro l hl x
    rcases List.mem_cons.1 hl with rfl | hl
    · simp [zeroH]
    · have := h5 l hl x; simp only [openS]; omega
  · intro x; have := h6 x; simp only [openS]; omega
theorem pop_len : ∀ (l : List Nam) (g : Nam → List Nat) (x : Nam), (l.foldl popK g x).length ≤ (g x).length
  | [], _, _ => Nat.le_refl _
  | y :: l, g, x => by
    have h1 := pop_len l (popK g y) x
    refine Nat.le_trans h1 ?_
    unfold popK updN
    split
    · rename_i e; rw [e, List.length_dropLast]; omega
    · exact Nat.le_refl _
theorem closeS_ops (s : FS) : (closeS s).ops = s.ops := by unfold closeS; split <;> rfl
theorem closeS_len {s : FS} (h : LenI s) : LenI (closeS s) := by
  unfold closeS
  split
  · rename_i l r hl
    obtain ⟨h1, h2, h3, h4, h5, h6, h7⟩ := h
    rw [hl] at h3 h4 h5
    refine ⟨h1, h2, by simp only [List.length_cons] at h3 ⊢; omega, fun l hl => h4 l (List.mem_cons_of_mem _ hl), fun l hl => h5 l (List.mem_cons_of_mem _ hl), ?_, h7⟩
    intro x
    exact Nat.le_trans (pop_len _ _ _) (h6 x)
  · exact h
theorem setHomes_ops (s : FS) (g : Nam → Nat) : (setHomes s g).ops = s.ops := by unfold setHomes; split <;> rfl
theorem setHomes_len {s : FS} (h : LenI s) {g : Nam → Nat} (hg : ∀ x, g x ≤ s.ops) : LenI (setHomes s g) := by
  unfold setHomes
  split
  · rename_i l r hl
    obtain ⟨h1, h2, h3, h4, h5, h6, h7⟩ := h
    rw [hl] at h3 h4 h5
    refine ⟨h1, h2, by simpa using h3, ?_, ?_, h6, h7⟩
    · intro m hm
      rcases List.mem_cons.1 hm with rfl | hm
      · exact h4 l (List.mem_cons_self ..)
      · exact h4 m (List.mem_cons_of_mem _ hm)
    · intro m hm x
      rcases List.mem_cons.1 hm with rfl | hm
      · exact hg x
      · exact h5 m (List.mem_cons_of_mem _ hm) x
  · exact h
theorem declS_len {s : FS} (h : LenI s) (frm to kind : Nat) (g : Nam → Nat) : LenI (declS nm frm to kind g s) := by
  obtain ⟨h1, h2, h3, h4, h5, h6, h7⟩ := h
  unfold declS
  refine ⟨by simp only [List.length_append, List.length_singleton]; omega, by simp only; omega, by simp only; omega, ?_, ?_, ?_, by simp only; omega⟩
  · intro l hl; have := h4 l hl; simp only; omega
  · intro l hl x; have := h5 l hl x; simp only; omega
  · intro x; have := h6 x; simp only; omega
theorem shownS_len (s : FS) : (shownS nm stop s).length ≤ s.decls.length := by
  unfold shownS
  rw [List.length_map]
  refine Nat.le_trans (List.length_filter_le _ _) ?_
  rw [List.length_zipIdx]
  exact Nat.le_refl _
theorem lookS_ops (frm to : Nat) (s : FS) : (lookS nm stop frm to s).ops = s.ops := by unfold lookS; split <;> rfl
theorem lookS_len {s : FS} (h : LenI s) (frm to : Nat) : LenI (lookS nm stop frm to s) := by
  unfold lookS
  split
  · exact h
  · obtain ⟨h1, h2, h3, h4, h5, h6, h7⟩ := h
    exact ⟨h1, h2, h3, h4, h5, h6, Nat.le_trans (shownS_len s) h1⟩
theorem homesS_le {s : FS} (h : LenI s) (x : Nam) : homesS s x ≤ s.ops := by
  unfold homesS
  cases hl : s.layers with
  | nil => simp [zeroH]
  | cons l r => exact h.homes l (by rw [hl]; exact List.mem_cons_self ..) x
theorem bump_le {g : Nam → Nat} {n : Nat} (h : ∀ x, g x ≤ n) (frm to : Nat) : ∀ x, bumpH nm frm to g x ≤ n + 1 := by
  intro x
  unfold bumpH updN
  split
  · have := h (nm frm to); omega
  · have := h x; omega
theorem leafS_ops (pk kk frm to : Nat) (s : FS) (lc : Loc) : s.ops ≤ (leafS nm stop pk kk frm to s lc).1.ops ∧ (leafS nm stop pk kk frm to s lc).1.ops ≤ s.ops + 2 := by
  unfold leafS
  split
  · simp only [lookS_ops, setHomes_ops, declS]; omega
  · split
    · have := countS_ops (nm := nm) [s.decls.length] (setHomes (declS nm frm to 2 (homesS s) (lookS nm stop frm to s)) (bumpH nm frm to (homesS s)))
      simp only [lookS_ops, setHomes_ops, declS, List.length_singleton] at this ⊢; omega
    · split
      · simp only [lookS_ops, declS]; omega
      · split
        · simp only [lookS_ops]; omega
        · simp only [lookS_ops]; omega
theorem leafS_len {pk kk frm to : Nat} {s : FS} {lc : Loc} (h : LenI s) (hl : LocI s.ops lc) : LenI (leafS nm stop pk kk frm to s lc).1 ∧ LocI (leafS nm stop pk kk frm to s lc).1.ops (leafS nm stop pk kk frm to s lc).2 := by
  have hb := bump_le (nm := nm) (homesS_le h) frm to
  unfold leafS
  split
  · refine ⟨lookS_len (setHomes_len (declS_len h _ _ _ _) hb) _ _, ?_⟩
    simp only [lookS_ops, setHomes_ops, declS]
    exact ⟨by simp only [List.length_append, List.length_singleton]; have := hl.mine; omega, by have := hl.given; simp only; omega, by have := hl.pars; simp only; omega, fun x => by have := hl.hm x; simp only; omega⟩
  · split
    · have ho := countS_ops (nm := nm) [s.decls.length] (setHomes (declS nm frm to 2 (homesS s) (lookS nm stop frm to s)) (bumpH nm frm to (homesS s)))
      simp only [lookS_ops, setHomes_ops, declS, List.length_singleton] at ho
      refine ⟨countS_len _ (setHomes_len (declS_len (lookS_len h _ _) _ _ _ _) (by simp only [declS, lookS_ops]; exact hb)), hl.mono ?_⟩
      simp only [lookS_ops, setHomes_ops, declS]; omega
    · split
      · refine ⟨declS_len (lookS_len h _ _) _ _ _ _, ?_⟩
        simp only [lookS_ops, declS]
        exact ⟨by have := hl.mine; simp only; omega, by have := hl.given; simp only; omega, by have := hl.pars; simp only [List.length_append, List.length_singleton]; omega, bump_le hl.hm frm to⟩
      · split
        · obtain ⟨h1, h2, h3, h4, h5, h6, h7⟩ := lookS_len (nm := nm) (stop := stop) h frm to
          refine ⟨⟨by simp only [lookS_ops] at h1 ⊢; omega, ?_, by simp only [lookS_ops] at h3 ⊢; omega, ?_, ?_, ?_, by simp only [lookS_ops] at h7 ⊢; omega⟩, hl.mono (by simp only [lookS_ops]; omega)⟩
          · simp only [List.length_append, List.length_singleton, lookS_ops]; have := h.binds; omega
          · intro l hl; have := h4 l hl; simp only [lookS_ops] at this ⊢; omega
          · intro l hl x; have := h5 l hl x; simp only [lookS_ops] at this ⊢; omega
          · intro x; have := h6 x; simp only [lookS_ops] at this ⊢; omega
        · exact ⟨lookS_len h _ _, hl.mono (by simp only [lookS_ops]; omega)⟩
mutual
theorem nodeS_len : ∀ (t : Tree) (frm : Nat) (s : FS) (pars : List Nat), LenI s → pars.length ≤ s.ops → LenI (nodeS nm stop t frm s pars).1 ∧ s.ops ≤ (nodeS nm stop t frm s pars).1.ops ∧ (nodeS nm stop t frm s pars).2.length ≤ (nodeS nm stop t frm s pars).1.ops
  | .node kk _ _ sub, frm, s, pars, h, hp => by
    obtain ⟨h1, h2, h3⟩ := kidsS_len kk sub frm s ⟨[], [], pars, zeroH⟩ h ⟨by simp, by simp, hp, by simp [zeroH]⟩
    simp only [nodeS]
    split
    · have := countS_ops (nm := nm) (kidsS nm stop kk sub frm s ⟨[], [], pars, zeroH⟩).2.mine (kidsS nm stop kk sub frm s ⟨[], [], pars, zeroH⟩).1
      exact ⟨countS_len _ h1, by omega, by have := h3.pars; omega⟩
    · exact ⟨h1, h2, h3.pars⟩
theorem kidsS_len : ∀ (pk : Nat) (ts : List Tree) (frm : Nat) (s : FS) (lc : Loc), LenI s → LocI s.ops lc → LenI (kidsS nm stop pk ts frm s lc).1 ∧ s.ops ≤ (kidsS nm stop pk ts frm s lc).1.ops ∧ LocI (kidsS nm stop pk ts frm s lc).1.ops (kidsS nm stop pk ts frm s lc).2
  | _, [], _, s, lc, h, hl => by simp only [kidsS]; exact ⟨h, Nat.le_refl _, hl⟩
  | pk, t :: ts, frm, s, lc, h, hl => by
    simp only [kidsS]
    by_cases h50 : t.kind < 50
    · rw [if_pos h50]
      obtain ⟨a, b⟩ := leafS_len (stop := stop) (nm := nm) (pk := pk) (kk := t.kind) (frm := frm) (to := frm + t.width) h hl
      have c := leafS_ops (stop := stop) (nm := nm) pk t.kind frm (frm + t.width) s lc
      obtain ⟨d, e, f⟩ := kidsS_len pk ts (frm + t.width) _ _ a b
      exact ⟨d, by (try dsimp only); omega, f⟩
    · rw [if_neg h50]
      by_cases h52 : t.kind = 52
      · rw [if_pos h52]
        have hc := countS_ops (nm := nm) (if pk = 54 then lc.given else []) (openS s)
        have ho : (openS s).ops = s.ops + 1 := rfl
        obtain ⟨a, b, _⟩ := nodeS_len t frm _ [] (countS_len (nm := nm) (if pk = 54 then lc.given else []) (openS_len h)) (Nat.zero_le _)
        have hcl := closeS_ops (nodeS nm stop t frm (countS nm (if pk = 54 then lc.given else []) (openS s)) []).1
        obtain ⟨d, e, f⟩ := kidsS_len pk ts (frm + t.width) _ lc (closeS_len a) (hl.mono (by omega))
        exact ⟨d, by (try dsimp only); omega, f⟩
      · rw [if_neg h52]
        by_cases h55 : t.kind = 55 ∧ pk = 54
        · rw [if_pos h55]
          obtain ⟨a, b, c⟩ := nodeS_len t frm s lc.given h hl.given
          have hl' := hl.mono b
          obtain ⟨d, e, f⟩ := kidsS_len pk ts (frm + t.width) _ { lc with given := (nodeS nm stop t frm s lc.given).2 } a ⟨hl'.mine, c, hl'.pars, hl'.hm⟩
          exact ⟨d, by (try dsimp only); omega, f⟩
        · rw [if_neg h55]
          obtain ⟨a, b, _⟩ := nodeS_len t frm s [] h (Nat.zero_le _)
          obtain ⟨d, e, f⟩ := kidsS_len pk ts (frm + t.width) _ lc a (hl.mono b)
          exact ⟨d, by (try dsimp only); omega, f⟩
end
/-- The layers below the one that is open last stay as they are. -/
def TailL (s s' : FS) : Prop := ∀ l r, s.layers = l :: r → ∃ l', s'.layers = l' :: r
theorem TailL.refl (s : FS) : TailL s s := fun l _ h => ⟨l, h⟩
theorem TailL.trans {a b c : FS} (h : TailL a b) (k : TailL b c) : TailL a c := fun l r e => by
  obtain ⟨l', e'⟩ := h l r e
  exact k l' r e'
theorem count1_tail (s : FS) (k : Nat) : TailL s (count1 nm s k) := by
  intro l r e
  unfold count1
  split
  · exact ⟨l, e⟩
  · exact ⟨_, by simp only [e]; rfl⟩
theorem countS_tail : ∀ (l : List Nat) (s : FS), TailL s (countS nm l s)
  | [], s => TailL.refl s
  | k :: l, s => (count1_tail s k).trans (countS_tail l _)
theorem setHomes_tail (s : FS) (g : Nam → Nat) : TailL s (setHomes s g) := by
  intro l r e
  unfold setHomes
  rw [e]
  exact ⟨_, rfl⟩
theorem lookS_tail (frm to : Nat) (s : FS) : TailL s (lookS nm stop frm to s) := fun l r e => ⟨l, by rw [lookS_layers]; exact e⟩
theorem leafS_tail (pk kk frm to : Nat) (s : FS) (lc : Loc) : TailL s (leafS nm stop pk kk frm to s lc).1 := by
  unfold leafS
  split
  · exact TailL.trans (b := setHomes (declS nm frm to 1 (homesS s) s) (bumpH nm frm to (homesS s))) (TailL.trans (b := declS nm frm to 1 (homesS s) s) (fun l r e => ⟨l, e⟩) (setHomes_tail _ _)) (lookS_tail _ _ _)
  · split
    · exact TailL.trans (b := setHomes (declS nm frm to 2 (homesS s) (lookS nm stop frm to s)) (bumpH nm frm to (homesS s))) (TailL.trans (b := declS nm frm to 2 (homesS s) (lookS nm stop frm to s)) (fun l r e => lookS_tail frm to s l r e) (setHomes_tail _ _)) (countS_tail _ _)
    · split
      · exact fun l r e => lookS_tail frm to s l r e
      · split
        · exact fun l r e => lookS_tail frm to s l r e
        · exact lookS_tail frm to s
theorem close_tail {s s' : FS} (h : TailL (openS s) s') : (closeS s').layers = s.layers := by
  obtain ⟨l', e⟩ := h ⟨[], zeroH⟩ s.layers rfl
  unfold closeS
  rw [e]
mutual
theorem nodeS_tail : ∀ (t : Tree) (frm : Nat) (s : FS) (pars : List Nat), TailL s (nodeS nm stop t frm s pars).1
  | .node kk _ _ sub, frm, s, pars => by
    have h := kidsS_tail kk sub frm s ⟨[], [], pars, zeroH⟩
    simp only [nodeS]
    split
    · exact h.trans (countS_tail _ _)
    · exact h
theorem kidsS_tail : ∀ (pk : Nat) (ts : List Tree) (frm : Nat) (s : FS) (lc : Loc), TailL s (kidsS nm stop pk ts frm s lc).1
  | _, [], _, s, _ => by simp only [kidsS]; exact TailL.refl s
  | pk, t :: ts, frm, s, lc => by
    simp only [kidsS]
    refine TailL.trans ?_ (kidsS_tail pk ts _ _ _)
    by_cases h50 : t.kind < 50
    · rw [if_pos h50]; exact leafS_tail _ _ _ _ _ _
    · rw [if_neg h50]
      by_cases h52 : t.kind = 52
      · rw [if_pos h52]
        intro l r e
        have := close_tail (s := s) ((countS_tail (nm := nm) (if pk = 54 then lc.given else []) (openS s)).trans (nodeS_tail t frm _ []))
        exact ⟨l, by simp only; rw [this]; exact e⟩
      · rw [if_neg h52]
        by_cases h55 : t.kind = 55 ∧ pk = 54
        · rw [if_pos h55]; exact nodeS_tail t frm s lc.given
        · rw [if_neg h55]; exact nodeS_tail t frm s []
end
mutual
/-- How many operations there are at most. -/
theorem nodeS_cost (N : Nat) : ∀ (t : Tree) (frm : Nat) (s : FS) (pars : List Nat), pars.length + cntT t ≤ N → (nodeS nm stop t frm s pars).1.ops + N + 2 ≤ s.ops + (2 * N + 4) * cntT t ∧ (nodeS nm stop t frm s pars).2.length ≤ pars.length + cntT t
  | .node kk _ _ sub, frm, s, pars, hN => by
    simp only [cntT] at hN ⊢
    obtain ⟨h1, h2, h3, h4⟩ := kidsS_cost N kk sub frm s ⟨[], [], pars, zeroH⟩ (by simp only [List.length_nil]; omega) (by simp only [List.length_nil]; omega)
    simp only [List.length_nil, Nat.zero_add] at h2 h3 h4
    simp only [nodeS]
    have e : (2 * N + 4) * (1 + cntL sub) = (2 * N + 4) * cntL sub + (2 * N + 4) := by rw [Nat.mul_add, Nat.mul_one]; omega
    rw [e]
    split
    · have := countS_ops (nm := nm) (kidsS nm stop kk sub frm s ⟨[], [], pars, zeroH⟩).2.mine (kidsS nm stop kk sub frm s ⟨[], [], pars, zeroH⟩).1
      exact ⟨by omega, by omega⟩
    · exact ⟨by omega, by omega⟩
theorem kidsS_cost (N : Nat) : ∀ (pk : Nat) (ts : List Tree) (frm : Nat) (s : FS) (lc : Loc), lc.given.length + cntL ts ≤ N → lc.mine.length + cntL ts ≤ N →
    (kidsS nm stop pk ts frm s lc).1.ops ≤ s.ops + (2 * N + 4) * cntL ts ∧ (kidsS nm stop pk ts frm s lc).2.given.length ≤ lc.given.length + cntL ts ∧ (kidsS nm stop pk ts frm s lc).2.mine.length ≤ lc.mine.length + cntL ts ∧ (kidsS nm stop pk ts frm s lc).2.pars.length ≤ lc.pars.length + cntL ts
  | _, [], _, s, lc, _, _ => by simp [kidsS, cntL]
  | pk, t :: ts, frm, s, lc, hg, hm => by
    simp only [cntL] at hg hm ⊢
    simp only [kidsS]
    have e : (2 * N + 4) * (cntT t + cntL ts) = (2 * N + 4) * cntT t + (2 * N + 4) * cntL ts := Nat.mul_add _ _ _
    have hpos : 1 ≤ cntT t := by cases t; simp [cntT]
    have hmul : 2 * N + 4 ≤ (2 * N + 4) * cntT t := Nat.le_mul_of_pos_right _ hpos
    rw [e]
    by_cases h50 : t.kind < 50
    · rw [if_pos h50]
      have hl : (leafS nm stop pk t.kind frm (frm + t.width) s lc).2.given = lc.given ∧ (leafS nm stop pk t.kind frm (frm + t.width) s lc).2.mine.length ≤ lc.mine.length + 1 ∧ (leafS nm stop pk t.kind frm (frm + t.width) s lc).2.pars.length ≤ lc.pars.length + 1 := by
        unfold leafS
        split
        · simp
        · split
          · simp
          · split
            · simp
            · split <;> simp
      have ho := leafS_ops (stop := stop) (nm := nm) pk t.kind frm (frm + t.width) s lc
      obtain ⟨h1, h2, h3, h4⟩ := kidsS_cost N pk ts (frm + t.width) (leafS nm stop pk t.kind frm (frm + t.width) s lc).1 (leafS nm stop pk t.kind frm (frm + t.width) s lc).2 (by rw [hl.1]; omega) (by omega)
      rw [hl.1] at h2
      exact ⟨by (try dsimp only); omega, by (try dsimp only); omega, by (try dsimp only); omega, by (try dsimp only); omega⟩
    · rw [if_neg h50]
      by_cases h52 : t.kind = 52
      · rw [if_pos h52]
        have hgl : (if pk = 54 then lc.given else []).length ≤ lc.given.length := by split <;> simp
        have hc := countS_ops (nm := nm) (if pk = 54 then lc.given else []) (openS s)
        have ho : (openS s).ops = s.ops + 1 := rfl
        obtain ⟨n1, _⟩ := nodeS_cost N t frm (countS nm (if pk = 54 then lc.given else []) (openS s)) [] (by simp only [List.length_nil]; omega)
        have hcl := closeS_ops (nodeS nm stop t frm (countS nm (if pk = 54 then lc.given else []) (openS s)) []).1
        obtain ⟨h1, h2, h3, h4⟩ := kidsS_cost N pk ts (frm + t.width) (closeS (nodeS nm stop t frm (countS nm (if pk = 54 then lc.given else []) (openS s)) []).1) lc (by omega) (by omega)
        exact ⟨by (try dsimp only); omega, by (try dsimp only); omega, by (try dsimp only); omega, by (try dsimp only); omega⟩
      · rw [if_neg h52]
        by_cases h55 : t.kind = 55 ∧ pk = 54
        · rw [if_pos h55]
          obtain ⟨n1, n2⟩ := nodeS_cost N t frm s lc.given (by omega)
          obtain ⟨h1, h2, h3, h4⟩ := kidsS_cost N pk ts (frm + t.width) (nodeS nm stop t frm s lc.given).1 { lc with given := (nodeS nm stop t frm s lc.given).2 } (by simp only; omega) (by simp only; omega)
          simp only at h2 h3 h4
          exact ⟨by (try dsimp only); omega, by (try dsimp only); omega, by (try dsimp only); omega, by (try dsimp only); omega⟩
        · rw [if_neg h55]
          obtain ⟨n1, _⟩ := nodeS_cost N t frm s [] (by simp only [List.length_nil]; omega)
          obtain ⟨h1, h2, h3, h4⟩ := kidsS_cost N pk ts (frm + t.width) (nodeS nm stop t frm s []).1 lc (by omega) (by omega)
          exact ⟨by (try dsimp only); omega, by (try dsimp only); omega, by (try dsimp only); omega, by (try dsimp only); omega⟩
end
end Go.Proofs.YtkicpjjfeekopaaGreatDoor

namespace Go.Proofs.YtkicpjjfeekopaaGreatDoor
def cntN (x : Nam) : List Lay → Nat
  | [] => 0
  | l :: r => l.names.count x + cntN x r
/-- As often as a name is in the layers, so many numbers has it. -/
def BalI (s : FS) : Prop := (∀ x, (s.known x).length = cntN x s.layers) ∧ s.layers ≠ []
variable {nm : Nat → Nat → Nam} {stop : Int}
theorem count1_bal {s : FS} (h : BalI s) (k : Nat) : BalI (count1 nm s k) := by
  unfold count1
  split
  · exact h
  · rename_i d hd
    obtain ⟨h1, h2⟩ := h
    cases hl : s.layers with
    | nil => exact absurd hl h2
    | cons l r =>
      refine ⟨fun x => ?_, by simp⟩
      have := h1 x
      rw [hl] at this
      simp only [cntN] at this ⊢
      unfold updN
      by_cases e : x = nmD nm d
      · subst e
        rw [if_pos rfl, List.length_append, List.length_singleton, List.count_append, List.count_singleton_self]
        omega
      · rw [if_neg e, List.count_append]
        have : List.count x [nmD nm d] = 0 := by rw [List.count_singleton]; simp; exact fun h => e h.symm
        omega
theorem countS_bal : ∀ (l : List Nat) {s : FS}, BalI s → BalI (countS nm l s)
  | [], _, h => h
  | k :: l, _, h => countS_bal l (count1_bal h k)
theorem openS_bal {s : FS} (h : BalI s) : BalI (openS s) := ⟨fun x => by rw [show (openS s).known = s.known from rfl, h.1 x]; simp [openS, cntN], by simp [openS]⟩
theorem pop_length : ∀ (l : List Nam) (g : Nam → List Nat) (x : Nam), (l.foldl popK g x).length = (g x).length - l.count x
  | [], _, _ => by simp
  | y :: l, g, x => by
    rw [List.foldl_cons, pop_length l (popK g y) x]
    unfold popK updN
    by_cases e : x = y
    · subst e
      rw [if_pos rfl, List.length_dropLast, List.count_cons_self]
      omega
    · rw [if_neg e, List.count_cons_of_ne (fun h => e h.symm)]
theorem closeS_bal {s : FS} (h : BalI s) (hr : s.layers.tail ≠ []) : BalI (closeS s) := by
  unfold closeS
  obtain ⟨h1, h2⟩ := h
  cases hl : s.layers with
  | nil => exact absurd hl h2
  | cons l r =>
    rw [hl] at hr
    refine ⟨fun x => ?_, hr⟩
    simp only
    rw [pop_length, h1 x, hl]
    simp only [cntN]
    omega
theorem setHomes_bal {s : FS} (h : BalI s) (g : Nam → Nat) : BalI (setHomes s g) := by
  unfold setHomes
  split
  · rename_i l r hl
    refine ⟨fun x => ?_, by simp⟩
    have := h.1 x
    rw [hl] at this
    exact this
  · exact h
theorem bal_of {s s' : FS} (h : BalI s) (hk : s'.known = s.known) (hl : s'.layers = s.layers) : BalI s' := ⟨fun x => by rw [hk, hl]; exact h.1 x, by rw [hl]; exact h.2⟩
theorem leafS_bal {pk kk frm to : Nat} {s : FS} {lc : Loc} (h : BalI s) : BalI (leafS nm stop pk kk frm to s lc).1 := by
  unfold leafS
  split
  · exact bal_of (setHomes_bal (s := declS nm frm to 1 (homesS s) s) (bal_of h rfl rfl) _) (lookS_known _ _ _) (lookS_layers _ _ _)
  · split
    · exact countS_bal _ (setHomes_bal (s := declS nm frm to 2 (homesS s) (lookS nm stop frm to s)) (bal_of h (lookS_known _ _ _) (lookS_layers _ _ _)) _)
    · split
      · exact bal_of h (lookS_known _ _ _) (lookS_layers _ _ _)
      · split
        · exact bal_of h (lookS_known _ _ _) (lookS_layers _ _ _)
        · exact bal_of h (lookS_known _ _ _) (lookS_layers _ _ _)
theorem TailL.tail {s s' : FS} (h : TailL s s') (hn : s.layers ≠ []) : s'.layers.tail = s.layers.tail := by
  cases hl : s.layers with
  | nil => exact absurd hl hn
  | cons l r => obtain ⟨l', e⟩ := h l r hl; rw [e]; rfl
mutual
theorem nodeS_bal : ∀ (t : Tree) (frm : Nat) (s : FS) (pars : List Nat), BalI s → BalI (nodeS nm stop t frm s pars).1
  | .node kk _ _ sub, frm, s, pars, h => by
    simp only [nodeS]
    split
    · exact countS_bal _ (kidsS_bal kk sub frm s _ h)
    · exact kidsS_bal kk sub frm s _ h
theorem kidsS_bal : ∀ (pk : Nat) (ts : List Tree) (frm : Nat) (s : FS) (lc : Loc), BalI s → BalI (kidsS nm stop pk ts frm s lc).1
  | _, [], _, _, _, h => by simp only [kidsS]; exact h
  | pk, t :: ts, frm, s, lc, h => by
    simp only [kidsS]
    refine kidsS_bal pk ts _ _ _ ?_
    by_cases h50 : t.kind < 50
    · rw [if_pos h50]; exact leafS_bal h
    · rw [if_neg h50]
      by_cases h52 : t.kind = 52
      · rw [if_pos h52]
        have hc := countS_bal (nm := nm) (if pk = 54 then lc.given else []) (openS_bal h)
        refine closeS_bal (nodeS_bal t frm _ [] hc) ?_
        rw [(nodeS_tail t frm _ []).tail hc.2, (countS_tail (nm := nm) (if pk = 54 then lc.given else []) (openS s)).tail (by simp [openS])]
        exact h.2
      · rw [if_neg h52]
        by_cases h55 : t.kind = 55 ∧ pk = 54
        · rw [if_pos h55]; exact nodeS_bal t frm s lc.given h
        · rw [if_neg h55]; exact nodeS_bal t frm s [] h
end
/-- The numbers are those of declarations, whose spans rise. -/
structure IdxI (s : FS) (lc : Loc) : Prop where
  mine : ∀ k ∈ lc.mine, k < s.decls.length
  given : ∀ k ∈ lc.given, k < s.decls.length
  pars : ∀ k ∈ lc.pars, k < s.decls.length
def SpanI (s : FS) : Prop := ∀ d ∈ s.decls, d.frm ≤ d.to
theorem IdxI.more {s s' : FS} {lc : Loc} (h : IdxI s lc) (hs : s.decls.length ≤ s'.decls.length) : IdxI s' lc := ⟨fun k hk => Nat.lt_of_lt_of_le (h.mine k hk) hs, fun k hk => Nat.lt_of_lt_of_le (h.given k hk) hs, fun k hk => Nat.lt_of_lt_of_le (h.pars k hk) hs⟩
theorem setHomes_decls (s : FS) (g : Nam → Nat) : (setHomes s g).decls = s.decls ∧ (setHomes s g).binds = s.binds := by unfold setHomes; split <;> exact ⟨rfl, rfl⟩
theorem count1_dec (s : FS) (k : Nat) : (count1 nm s k).decls = s.decls := by unfold count1; split <;> rfl
theorem countS_dec : ∀ (l : List Nat) (s : FS), (countS nm l s).decls = s.decls
  | [], _ => rfl
  | k :: l, s => (countS_dec l (count1 nm s k)).trans (count1_dec s k)
theorem closeS_dec (s : FS) : (closeS s).decls = s.decls := by unfold closeS; split <;> rfl
theorem leafS_idx {pk kk frm to : Nat} {s : FS} {lc : Loc} (h : IdxI s lc) (hs : SpanI s) (hf : frm ≤ to) :
    IdxI (leafS nm stop pk kk frm to s lc).1 (leafS nm stop pk kk frm to s lc).2 ∧ SpanI (leafS nm stop pk kk frm to s lc).1 ∧ s.decls.length ≤ (leafS nm stop pk kk frm to s lc).1.decls.length := by
  have hd : ∀ (kind : Nat) (ag : Bool), ∀ d ∈ s.decls ++ [⟨frm, to, kind, ag⟩], d.frm ≤ d.to := by
    intro kind ag d hd
    rcases List.mem_append.1 hd with hd | hd
    · exact hs d hd
    · simp at hd; rw [hd]; exact hf
  unfold leafS
  split
  · refine ⟨⟨?_, ?_, ?_⟩, ?_, ?_⟩
    · intro k hk
      simp only [lookS_decls, (setHomes_decls _ _).1, declS, List.length_append, List.length_singleton]
      rcases List.mem_append.1 hk with hk | hk
      · have := h.mine k hk; omega
      · simp at hk; omega
    · intro k hk; simp only [lookS_decls, (setHomes_decls _ _).1, declS, List.length_append, List.length_singleton]; have := h.given k hk; omega
    · intro k hk; simp only [lookS_decls, (setHomes_decls _ _).1, declS, List.length_append, List.length_singleton]; have := h.pars k hk; omega
    · unfold SpanI; simp only [lookS_decls, (setHomes_decls _ _).1, declS]; exact hd _ _
    · simp only [lookS_decls, (setHomes_decls _ _).1, declS, List.length_append]; omega
  · split
    · refine ⟨h.more ?_, ?_, ?_⟩
      · simp only [countS_dec, lookS_decls, (setHomes_decls _ _).1, declS, List.length_append]; omega
      · unfold SpanI; simp only [countS_dec, lookS_decls, (setHomes_decls _ _).1, declS]; exact hd _ _
      · simp only [countS_dec, lookS_decls, (setHomes_decls _ _).1, declS, List.length_append]; omega
    · split
      · refine ⟨⟨?_, ?_, ?_⟩, ?_, ?_⟩
        · intro k hk; simp only [lookS_decls, declS, List.length_append, List.length_singleton]; have := h.mine k hk; omega
        · intro k hk; simp only [lookS_decls, declS, List.length_append, List.length_singleton]; have := h.given k hk; omega
        · intro k hk
          simp only [lookS_decls, declS, List.length_append, List.length_singleton]
          rcases List.mem_append.1 hk with hk | hk
          · have := h.pars k hk; omega
          · simp at hk; omega
        · unfold SpanI; simp only [lookS_decls, declS]; exact hd _ _
        · simp only [lookS_decls, declS, List.length_append]; omega
      · split
        · exact ⟨h.more (by simp only [lookS_decls]; omega), by unfold SpanI; simp only [lookS_decls]; exact hs, by simp only [lookS_decls]; omega⟩
        · exact ⟨h.more (by simp only [lookS_decls]; omega), by unfold SpanI; simp only [lookS_decls]; exact hs, by simp only [lookS_decls]; omega⟩
mutual
theorem nodeS_idx : ∀ (t : Tree) (frm : Nat) (s : FS) (pars : List Nat), SpanI s → (∀ k ∈ pars, k < s.decls.length) →
    SpanI (nodeS nm stop t frm s pars).1 ∧ (∀ k ∈ (nodeS nm stop t frm s pars).2, k < (nodeS nm stop t frm s pars).1.decls.length) ∧ s.decls.length ≤ (nodeS nm stop t frm s pars).1.decls.length
  | .node kk _ _ sub, frm, s, pars, hs, hp => by
    obtain ⟨h1, h2, h3⟩ := kidsS_idx kk sub frm s ⟨[], [], pars, zeroH⟩ hs ⟨by simp, by simp, hp⟩
    simp only [nodeS]
    split
    · simp only [SpanI, countS_dec]
      exact ⟨h2, h1.pars, h3⟩
    · exact ⟨h2, h1.pars, h3⟩
theorem kidsS_idx : ∀ (pk : Nat) (ts : List Tree) (frm : Nat) (s : FS) (lc : Loc), SpanI s → IdxI s lc →
    IdxI (kidsS nm stop pk ts frm s lc).1 (kidsS nm stop pk ts frm s lc).2 ∧ SpanI (kidsS nm stop pk ts frm s lc).1 ∧ s.decls.length ≤ (kidsS nm stop pk ts frm s lc).1.decls.length
  | _, [], _, _, _, hs, hl => by simp only [kidsS]; exact ⟨hl, hs, Nat.le_refl _⟩
  | pk, t :: ts, frm, s, lc, hs, hl => by
    simp only [kidsS]
    by_cases h50 : t.kind < 50
    · rw [if_pos h50]
      obtain ⟨a, b, c⟩ := leafS_idx (stop := stop) (nm := nm) (pk := pk) (kk := t.kind) (frm := frm) (to := frm + t.width) hl hs (by omega)
      obtain ⟨d, e, f⟩ := kidsS_idx pk ts (frm + t.width) _ _ b a
      exact ⟨d, e, by omega⟩
    · rw [if_neg h50]
      by_cases h52 : t.kind = 52
      · rw [if_pos h52]
        have ho : (countS nm (if pk = 54 then lc.given else []) (openS s)).decls = s.decls := by rw [countS_dec]; rfl
        obtain ⟨a, _, c⟩ := nodeS_idx t frm (countS nm (if pk = 54 then lc.given else []) (openS s)) [] (by unfold SpanI; rw [ho]; exact hs) (by simp)
        rw [ho] at c
        obtain ⟨d, e, f⟩ := kidsS_idx pk ts (frm + t.width) (closeS (nodeS nm stop t frm (countS nm (if pk = 54 then lc.given else []) (openS s)) []).1) lc (by unfold SpanI; rw [closeS_dec]; exact a) (hl.more (by rw [closeS_dec]; exact c))
        rw [closeS_dec] at f
        exact ⟨d, e, by try dsimp only
                        omega⟩
      · rw [if_neg h52]
        by_cases h55 : t.kind = 55 ∧ pk = 54
        · rw [if_pos h55]
          obtain ⟨a, b, c⟩ := nodeS_idx t frm s lc.given hs hl.given
          have hl' := hl.more c
          obtain ⟨d, e, f⟩ := kidsS_idx pk ts (frm + t.width) (nodeS nm stop t frm s lc.given).1 { lc with given := (nodeS nm stop t frm s lc.given).2 } a ⟨hl'.mine, b, hl'.pars⟩
          exact ⟨d, e, by try dsimp only
                          omega⟩
        · rw [if_neg h55]
          obtain ⟨a, _, c⟩ := nodeS_idx t frm s [] hs (by simp)
          obtain ⟨d, e, f⟩ := kidsS_idx pk ts (frm + t.width) (nodeS nm stop t frm s []).1 lc a (hl.more c)
          exact ⟨d, e, by try dsimp only
                          omega⟩
end
end Go.Proofs.YtkicpjjfeekopaaGreatDoor

namespace Go.Proofs.YtkicpjjfeekopaaGreatDoor
variable {nm : Nat → Nat → Nam} {stop : Int}
def DecP (s s' : FS) : Prop := ∃ ex, s'.decls = s.decls ++ ex
theorem DecP.refl (s : FS) : DecP s s := ⟨[], by simp⟩
theorem DecP.of {s s' : FS} (h : s'.decls = s.decls) : DecP s s' := ⟨[], by simp [h]⟩
theorem DecP.trans {a b c : FS} (h : DecP a b) (k : DecP b c) : DecP a c := by
  obtain ⟨x, hx⟩ := h
  obtain ⟨y, hy⟩ := k
  exact ⟨x ++ y, by rw [hy, hx, List.append_assoc]⟩
theorem DecP.mem {s s' : FS} (h : DecP s s') : ∀ d ∈ s.decls, d ∈ s'.decls := fun d hd => by
  obtain ⟨x, hx⟩ := h
  rw [hx]
  exact List.mem_append_left _ hd
theorem leafS_dec (pk kk frm to : Nat) (s : FS) (lc : Loc) : DecP s (leafS nm stop pk kk frm to s lc).1 := by
  unfold leafS
  split
  · exact ⟨_, by simp only [lookS_decls, (setHomes_decls _ _).1]; rfl⟩
  · split
    · exact ⟨_, by simp only [countS_dec, lookS_decls, (setHomes_decls _ _).1, declS]; rfl⟩
    · split
      · exact ⟨_, by simp only [lookS_decls, declS]; rfl⟩
      · split
        · exact DecP.of (by simp only [lookS_decls])
        · exact DecP.of (by simp only [lookS_decls])
mutual
theorem nodeS_dec : ∀ (t : Tree) (frm : Nat) (s : FS) (pars : List Nat), DecP s (nodeS nm stop t frm s pars).1
  | .node kk _ _ sub, frm, s, pars => by
    have h := kidsS_dec kk sub frm s ⟨[], [], pars, zeroH⟩
    simp only [nodeS]
    split
    · exact h.trans (DecP.of (countS_dec _ _))
    · exact h
theorem kidsS_dec : ∀ (pk : Nat) (ts : List Tree) (frm : Nat) (s : FS) (lc : Loc), DecP s (kidsS nm stop pk ts frm s lc).1
  | _, [], _, s, _ => by simp only [kidsS]; exact DecP.refl s
  | pk, t :: ts, frm, s, lc => by
    simp only [kidsS]
    refine DecP.trans ?_ (kidsS_dec pk ts _ _ _)
    by_cases h50 : t.kind < 50
    · rw [if_pos h50]; exact leafS_dec _ _ _ _ _ _
    · rw [if_neg h50]
      by_cases h52 : t.kind = 52
      · rw [if_pos h52]
        have h1 : DecP s (countS nm (if pk = 54 then lc.given else []) (openS s)) := DecP.of (by rw [countS_dec]; rfl)
        exact (h1.trans (nodeS_dec t frm _ [])).trans (DecP.of (closeS_dec _))
      · rw [if_neg h52]
        by_cases h55 : t.kind = 55 ∧ pk = 54
        · rw [if_pos h55]; exact nodeS_dec t frm s lc.given
        · rw [if_neg h55]; exact nodeS_dec t frm s []
end
/-- One kid. -/
def stepK (nm : Nat → Nat → Nam) (stop : Int) (pk : Nat) (t : Tree) (frm : Nat) (s : FS) (lc : Loc) : FS × Loc := kidsS nm stop pk [t] frm s lc
theorem kidsS_take (pk : Nat) (ts : List Tree) (frm : Nat) (s : FS) (lc : Loc) (i : Nat) (t : Tree) (h : ts[i]? = some t) :
    kidsS nm stop pk (ts.take (i + 1)) frm s lc = stepK nm stop pk t (frm + sumW (ts.take i)) (kidsS nm stop pk (ts.take i) frm s lc).1 (kidsS nm stop pk (ts.take i) frm s lc).2 := by
  obtain ⟨hlt, he⟩ := List.getElem?_eq_some_iff.1 h
  have happ : ∀ (a b : List Tree) (frm : Nat) (s : FS) (lc : Loc), kidsS nm stop pk (a ++ b) frm s lc = kidsS nm stop pk b (frm + sumW a) (kidsS nm stop pk a frm s lc).1 (kidsS nm stop pk a frm s lc).2 := by
    intro a
    induction a with
    | nil => intro b frm s lc; simp only [List.nil_append, kidsS, sumW, Nat.add_zero]
    | cons x a ih =>
      intro b frm s lc
      simp only [List.cons_append, kidsS, sumW]
      rw [ih, Nat.add_assoc]
  rw [List.take_succ_eq_append_getElem hlt, happ, he]
  rfl
theorem kidsS_ops_take (pk : Nat) (ts : List Tree) (frm : Nat) (s : FS) (lc : Loc) (i : Nat) (h : LenI s) (hl : LocI s.ops lc) : (kidsS nm stop pk (ts.take i) frm s lc).1.ops ≤ (kidsS nm stop pk ts frm s lc).1.ops := by
  have happ : ∀ (a b : List Tree) (frm : Nat) (s : FS) (lc : Loc), kidsS nm stop pk (a ++ b) frm s lc = kidsS nm stop pk b (frm + sumW a) (kidsS nm stop pk a frm s lc).1 (kidsS nm stop pk a frm s lc).2 := by
    intro a
    induction a with
    | nil => intro b frm s lc; simp only [List.nil_append, kidsS, sumW, Nat.add_zero]
    | cons x a ih =>
      intro b frm s lc
      simp only [List.cons_append, kidsS, sumW]
      rw [ih, Nat.add_assoc]
  have e := happ (ts.take i) (ts.drop i) frm s lc
  rw [List.take_append_drop] at e
  rw [e]
  obtain ⟨h1, _, h3⟩ := kidsS_len (nm := nm) (stop := stop) pk (ts.take i) frm s lc h hl
  exact (kidsS_len (nm := nm) (stop := stop) pk (ts.drop i) _ _ _ h1 h3).2.1
end Go.Proofs.YtkicpjjfeekopaaGreatDoor

namespace Go.Proofs.YtkicpjjfeekopaaGreatDoor
def sw (l : List (Nat × Nat)) : Nat := (l.map (·.2)).sum
theorem sw_append (a b : List (Nat × Nat)) : sw (a ++ b) = sw a + sw b := by simp [sw]
theorem sw_kw (l : List Tok) : sw (kw l) = (l.map (·.width)).sum := by simp [sw, kw, Function.comp_def]
mutual
theorem sw_lvT : ∀ (t : Tree), goodT t = true → sw (lvT t) = t.width
  | .node kk wt wd sub, hg => by
    simp only [lvT, Tree.width]
    by_cases h50 : kk = 50
    · rw [if_pos h50]
      obtain ⟨e, g⟩ := goodT_inner hg (by omega)
      rw [← e]
      unfold goodT at hg
      rw [if_pos h50] at hg
      simp at hg
      rw [hg.1.2]
      rfl
    · rw [if_neg h50]
      by_cases h : kk < 50
      · rw [if_pos h]
        simp [sw]
      · rw [if_neg h]
        obtain ⟨e, g⟩ := goodT_inner hg h
        rw [← e]
        exact sw_lvL sub g
theorem sw_lvL : ∀ (ts : List Tree), goodL ts = true → sw (lvL ts) = sumW ts
  | [], _ => rfl
  | t :: ts, hg => by
    simp only [goodL, Bool.and_eq_true] at hg
    simp only [lvL, sumW, sw_append]
    rw [sw_lvT t hg.1, sw_lvL ts hg.2]
end
mutual
theorem namesOk_of {H : Nat → Nat → Prop} : ∀ (t : Tree) (frm : Nat), goodT t = true → (∀ A w B, lvT t = A ++ (6, w) :: B → H (frm + sw A) (frm + sw A + w)) → NamesOk H t frm
  | .node kk wt wd sub, frm, hg, h => by
    simp only [NamesOk]
    by_cases h50 : kk < 50
    · obtain ⟨_, e⟩ := goodT_leaf hg h50
      subst e
      refine ⟨fun h6 => ?_, by simp only [NamesL]⟩
      have := h [] wd [] (by simp only [lvT]; rw [if_neg (by omega), if_pos h50, h6]; rfl)
      simpa [sw] using this
    · refine ⟨fun h6 => by omega, ?_⟩
      obtain ⟨_, g⟩ := goodT_inner hg h50
      by_cases h50' : kk = 50
      · unfold goodT at hg
        rw [if_pos h50'] at hg
        simp at hg
        rw [hg.1.2]
        simp only [NamesL]
      · refine namesL_of sub frm g ?_
        intro A w B e
        exact h A w B (by simp only [lvT]; rw [if_neg h50', if_neg h50]; exact e)
theorem namesL_of {H : Nat → Nat → Prop} : ∀ (ts : List Tree) (frm : Nat), goodL ts = true → (∀ A w B, lvL ts = A ++ (6, w) :: B → H (frm + sw A) (frm + sw A + w)) → NamesL H ts frm
  | [], _, _, _ => by simp only [NamesL]
  | t :: ts, frm, hg, h => by
    simp only [goodL, Bool.and_eq_true] at hg
    simp only [NamesL]
    constructor
    · refine namesOk_of t frm hg.1 ?_
      intro A w B e
      exact h A w (B ++ lvL ts) (by simp only [lvL, e]; simp)
    · refine namesL_of ts _ hg.2 ?_
      intro A w B e
      have := h (lvT t ++ A) w B (by simp only [lvL, e]; simp)
      rw [sw_append, sw_lvT t hg.1] at this
      rw [Nat.add_assoc frm t.width (sw A)]
      exact this
end
theorem kidsS_append (nm : Nat → Nat → Nam) (stop : Int) (pk : Nat) : ∀ (a b : List Tree) (frm : Nat) (s : FS) (lc : Loc),
    kidsS nm stop pk (a ++ b) frm s lc = kidsS nm stop pk b (frm + sumW a) (kidsS nm stop pk a frm s lc).1 (kidsS nm stop pk a frm s lc).2
  | [], b, frm, s, lc => by simp only [List.nil_append, kidsS, sumW, Nat.add_zero]
  | t :: a, b, frm, s, lc => by
    simp only [List.cons_append, kidsS, sumW]
    rw [kidsS_append nm stop pk a b, Nat.add_assoc]
theorem leafS_plain (nm : Nat → Nat → Nam) (stop : Int) (pk kk frm to : Nat) (s : FS) (lc : Loc) (h : pk = 51 ∨ pk = 52) : leafS nm stop pk kk frm to s lc = (lookS nm stop frm to s, lc) := by
  unfold leafS
  rw [if_neg (by omega), if_neg (by omega), if_neg (by omega), if_neg (by omega)]
theorem kidsS_plain (nm : Nat → Nat → Nam) (stop : Int) : ∀ (ts : List Tree) (frm : Nat) (s : FS) (lc : Loc), kidsS nm stop 52 ts frm s lc = kidsS nm stop 51 ts frm s lc
  | [], _, _, _ => rfl
  | t :: ts, frm, s, lc => by
    simp only [kidsS]
    rw [leafS_plain _ _ 52 _ _ _ _ _ (.inr rfl), leafS_plain _ _ 51 _ _ _ _ _ (.inl rfl)]
    rw [if_neg (show ¬ (52 : Nat) = 54 by omega), if_neg (show ¬ (51 : Nat) = 54 by omega), if_neg (show ¬ (t.kind = 55 ∧ (52 : Nat) = 54) by omega), if_neg (show ¬ (t.kind = 55 ∧ (51 : Nat) = 54) by omega)]
    exact kidsS_plain nm stop ts _ _ _
theorem closeS_decls (s : FS) : (closeS s).decls = s.decls ∧ (closeS s).binds = s.binds := by unfold closeS; split <;> exact ⟨rfl, rfl⟩
/-- THE LAW: in a block of its own a text has the same declarations and uses, one byte further on. -/
theorem block_law {nm nm' : Nat → Nat → Nam} {stop stop' : Int} (kids : List Tree) (w w' w'' : Nat) (hn : NamesL (fun a b => nm' (a + 1) (b + 1) = nm a b) kids 0) :
    (scopeS nm' stop' (.node 51 0 w [.node 52 0 w' (leafT ⟨22, 1, 0⟩ :: (kids ++ [leafT ⟨23, 1, 0⟩]))])).decls = (scopeS nm stop (.node 51 0 w'' kids)).decls.map (shD 1) ∧
    (scopeS nm' stop' (.node 51 0 w [.node 52 0 w' (leafT ⟨22, 1, 0⟩ :: (kids ++ [leafT ⟨23, 1, 0⟩]))])).binds = (scopeS nm stop (.node 51 0 w'' kids)).binds.map (shB 1) := by
  unfold scopeS withinS
  rw [(closeS_decls _).1, (closeS_decls _).2, (closeS_decls _).1, (closeS_decls _).2]
  simp only [nodeS, kidsS, Tree.kind, leafT, Tree.width]
  rw [if_neg (show ¬ (51 : Nat) = 53 by omega), if_neg (show ¬ (52 : Nat) < 50 by omega), if_pos trivial, if_neg (show ¬ (51 : Nat) = 53 by omega), if_pos (show (22 : Nat) < 50 by omega)]
  rw [if_neg (show ¬ (52 : Nat) = 53 by omega), if_neg (show ¬ (51 : Nat) = 54 by omega)]
  rw [(closeS_decls _).1, (closeS_decls _).2]
  rw [kidsS_append, leafS_plain _ _ 52 _ _ _ _ _ (.inr rfl)]
  simp only [kidsS, Tree.kind, Tree.width]
  rw [if_pos (show (23 : Nat) < 50 by omega), leafS_plain _ _ 52 _ _ _ _ _ (.inr rfl)]
  simp only [lookS_decls, lookS_binds, countS, List.foldl_nil]
  rw [kidsS_plain]
  have hs : Sim nm nm' 1 id (fun _ => True) (fun a b => nm' (a + 1) (b + 1) = nm a b) [⟨[], zeroH⟩] 1 (openS emptyS) (lookS nm' stop' 0 (0 + 1) (openS (openS emptyS))) := by
    refine ⟨?_, ?_, ?_, ?_, rfl, by simp [openS, emptyS]⟩
    · rw [lookS_decls]; rfl
    · rw [lookS_binds]; rfl
    · intro x _; rw [lookS_known]; rfl
    · rw [lookS_layers]; exact ⟨⟨rfl, by simp, fun _ _ => rfl⟩, rfl⟩
  obtain ⟨h1, _⟩ := kidsS_sim (stop := stop) (stop' := stop') (f := id) (P := fun _ => True) (nm := nm) (nm' := nm') (δ := 1) (H := fun a b => nm' (a + 1) (b + 1) = nm a b) (fun _ _ _ _ h => h) (fun a b h => ⟨trivial, h⟩) (n := 1) (by omega) 51 kids 0 _ _ ⟨[], [], [], zeroH⟩ ⟨[], [], [], zeroH⟩ hs ⟨rfl, rfl, rfl, fun _ _ => rfl⟩ hn
  exact ⟨h1.decls, h1.binds⟩
end Go.Proofs.YtkicpjjfeekopaaGreatDoor
