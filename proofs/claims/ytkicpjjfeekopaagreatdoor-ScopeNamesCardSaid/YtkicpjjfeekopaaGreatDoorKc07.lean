/- Walks: the finder: the region of a use, over a frame of letters. -/
import Derived.Test.YtkicpjjfeekopaaGreatDoorKc05
set_option linter.unusedVariables false
set_option linter.unusedSimpArgs false
set_option linter.unusedSectionVars false
namespace Go.Proofs.YtkicpjjfeekopaaGreatDoor
open Go.RowKit Go.Maps
def findReg (n : Nat) : Code → Option Code
  | .region k ops d => if k = n then some (.region k ops d) else none
  | .seq a b => match findReg n a with
    | some c => some c
    | none => findReg n b
  | .cond _ a b => match findReg n a with
    | some c => some c
    | none => findReg n b
  | .block _ c => findReg n c
  | .loop c => findReg n c
  | .scope c => findReg n c
  | _ => none
/-- It goes on, and nothing else. -/
def justThen (K : Act → World → Prop) : Exit → Act → World → Prop
  | .normal, a, w => K a w
  | _, _, _ => False
theorem wp_justThen {P : Program} {c : Code} {Q : Exit → Act → World → Prop} {a : Act} {w : World} (h : c.wp P (justThen fun a w => Q .normal a w) a w) : c.wp P Q a w :=
  wp_mono h (fun e a w hh => by cases e <;> first | exact hh | exact hh.elim)
noncomputable def useReg : Code := (Tryz.f89.body.bind (findReg 25)).getD .skip
set_option maxRecDepth 1000000 in
set_option maxHeartbeats 8000000 in
theorem use_region {C : FC} {hb : Nat} {rc : List Value} {F2 : Nat → Prop} {w2 : World} {sl : FS} {vD2 vB2 vL2 vS2 vN2 : Value} {val2 : Nam → Value} {l2 : Lay} {r2 : List Lay} {aB : Option Addr} {nB cB fi en sb : Nat} {txt x : ByteArray} {mI : Int} (K : Act → World → Prop)
    (a1 a3 a4 a5 a6 a7 a8 a9 a10 a11 a12 a15 a16 a17 a18 a19 a20 a21 a22 a23 a24 a25 a26 a27 a28 a29 a30 a31 a32 a33 a34 a35 a36 a37 a38 a39 a40 a41 a42 a43 a44 a45 a46 a47 a48 a49 a50 a51 a52 a53 a54 a55 a56 a57 a58 a59 a60 a61 a62 a63 a64 a65 a66 a67 a68 a69 a70 a71 a72 a73 a74 a75 a76 a77 a78 a79 a80 a81 a82 a83 a84 a85 a86 a87 a88 a89 a90 a91 a92 a93 a94 a95 a96 a97 a98 a99 a100 a101 a102 a103 a104 a105 a106 a107 a108 a109 a110 a111 a112 a113 a114 a115 a116 a117 a118 a119 a120 a121 a122 a123 a124 a125 a126 a127 a128 a129 a130 a131 a132 a133 a134 a135 a136 a137 a138 a139 a140 a141 a142 a143 a144 a145 a146 a147 a148 a149 a150 a151 a152 a153 a154 a155 a156 a157 a158 a159 a160 a161 a162 a163 a164 a165 a166 a167 a168 a169 a170 a171 a172 a173 a174 a175 a176 a177 a178 a179 a180 a181 a182 a183 a184 a185 a186 a187 a188 a189 a190 a191 a192 a193 a194 a195 a196 a197 a198 a199 a200 a201 a202 a203 : Value)
    (hR2 : FRep C hb rc F2 w2 sl vD2 vB2 vL2 vS2 vN2 val2 l2 r2) (hvB : vB2 = .slice aB nB cB) (hnB : nB = sl.binds.length) (htxt : txt = ⟨C.bs.toArray⟩) (hx : x = txt.extract fi en) (hxs : x.size ≤ maxLen) (hkb : (sl.known x.data.toList).length ≤ 1099511627776) (hmI : mI = dfnI (meansS sl x.data.toList))
    (sb0 : w2.cell? ⟨sb, 0, none⟩ = some (.int .i64 fi)) (sb1 : w2.cell? ⟨sb, 1, none⟩ = some (.int .i64 en)) (lsb : sb < w2.heap.size) (hen3 : (en : Int) ≤ (txt.size : Int)) (hxle : fi ≤ en) (hnBb : nB ≤ 1099511627776) (hfi5 : fi ≤ 100000) (hen5 : en ≤ 100000)
    (hQ : ∀ (u131 u132 u133 u134 u135 u136 u137 u138 u139 u140 u141 u142 u143 u144 u145 u146 u147 u148 u149 u150 u151 u152 : Value) (X w3 : World) (gq cap : Nat), Fr (fun _ => False) w2 X → Hid (w3.ownsRow 0 45 3 (.slice (some ⟨gq, 0, none⟩) (nB + 1) cap) (nB + 1) (bindCells sl.binds ++ [.int .i64 fi, .int .i64 en, .int .i64 mI])) → Hid (X.grownBy w3 (Value.slice aB nB cB).ownBlock) → Hid ((Value.slice aB nB cB).ownBlock = some gq ∨ gq = X.heap.size) → Hid (gq < w3.heap.size) →
      K ⟨List.toArray (.pointer (some ⟨C.fb, 0, none⟩) :: a1 :: .int .i64 fi :: a3 :: a4 :: a5 :: a6 :: a7 :: a8 :: a9 :: a10 :: a11 :: a12 :: .int .i64 en :: .pointer (some ⟨sb, 0, none⟩) :: a15 :: a16 :: a17 :: a18 :: a19 :: a20 :: a21 :: a22 :: a23 :: a24 :: a25 :: a26 :: a27 :: a28 :: a29 :: a30 :: a31 :: a32 :: a33 :: a34 :: a35 :: a36 :: a37 :: a38 :: a39 :: a40 :: a41 :: a42 :: a43 :: a44 :: a45 :: a46 :: a47 :: a48 :: a49 :: a50 :: a51 :: a52 :: a53 :: a54 :: a55 :: a56 :: a57 :: a58 :: a59 :: a60 :: a61 :: a62 :: a63 :: a64 :: a65 :: a66 :: a67 :: a68 :: a69 :: a70 :: a71 :: a72 :: a73 :: a74 :: a75 :: a76 :: a77 :: a78 :: a79 :: a80 :: a81 :: a82 :: a83 :: a84 :: a85 :: a86 :: a87 :: a88 :: a89 :: a90 :: a91 :: a92 :: a93 :: a94 :: a95 :: a96 :: a97 :: a98 :: a99 :: a100 :: a101 :: a102 :: a103 :: a104 :: a105 :: a106 :: a107 :: a108 :: a109 :: a110 :: a111 :: a112 :: a113 :: a114 :: a115 :: a116 :: a117 :: a118 :: a119 :: a120 :: a121 :: a122 :: a123 :: a124 :: a125 :: a126 :: a127 :: a128 :: a129 :: a130 :: u131 :: u132 :: u133 :: u134 :: u135 :: u136 :: u137 :: u138 :: u139 :: u140 :: u141 :: u142 :: u143 :: u144 :: u145 :: u146 :: u147 :: u148 :: u149 :: u150 :: u151 :: u152 :: a153 :: a154 :: a155 :: a156 :: a157 :: a158 :: a159 :: a160 :: a161 :: a162 :: a163 :: a164 :: a165 :: a166 :: a167 :: a168 :: a169 :: a170 :: a171 :: a172 :: a173 :: a174 :: a175 :: a176 :: a177 :: a178 :: a179 :: a180 :: a181 :: a182 :: a183 :: a184 :: a185 :: a186 :: a187 :: a188 :: a189 :: a190 :: a191 :: a192 :: a193 :: a194 :: a195 :: a196 :: a197 :: a198 :: a199 :: a200 :: a201 :: a202 :: a203 :: []), []⟩ (w3.setCell ⟨C.fb, 2, none⟩ (.slice (some ⟨gq, 0, none⟩) (nB + 1) cap))) :
    Code.wp Tryz.prog useReg (justThen K) ⟨List.toArray (.pointer (some ⟨C.fb, 0, none⟩) :: a1 :: .int .i64 fi :: a3 :: a4 :: a5 :: a6 :: a7 :: a8 :: a9 :: a10 :: a11 :: a12 :: .int .i64 en :: .pointer (some ⟨sb, 0, none⟩) :: a15 :: a16 :: a17 :: a18 :: a19 :: a20 :: a21 :: a22 :: a23 :: a24 :: a25 :: a26 :: a27 :: a28 :: a29 :: a30 :: a31 :: a32 :: a33 :: a34 :: a35 :: a36 :: a37 :: a38 :: a39 :: a40 :: a41 :: a42 :: a43 :: a44 :: a45 :: a46 :: a47 :: a48 :: a49 :: a50 :: a51 :: a52 :: a53 :: a54 :: a55 :: a56 :: a57 :: a58 :: a59 :: a60 :: a61 :: a62 :: a63 :: a64 :: a65 :: a66 :: a67 :: a68 :: a69 :: a70 :: a71 :: a72 :: a73 :: a74 :: a75 :: a76 :: a77 :: a78 :: a79 :: a80 :: a81 :: a82 :: a83 :: a84 :: a85 :: a86 :: a87 :: a88 :: a89 :: a90 :: a91 :: a92 :: a93 :: a94 :: a95 :: a96 :: a97 :: a98 :: a99 :: a100 :: a101 :: a102 :: a103 :: a104 :: a105 :: a106 :: a107 :: a108 :: a109 :: a110 :: a111 :: a112 :: a113 :: a114 :: a115 :: a116 :: a117 :: a118 :: a119 :: a120 :: a121 :: a122 :: a123 :: a124 :: a125 :: a126 :: a127 :: a128 :: a129 :: a130 :: a131 :: a132 :: a133 :: a134 :: a135 :: a136 :: a137 :: a138 :: a139 :: a140 :: a141 :: a142 :: a143 :: a144 :: a145 :: a146 :: a147 :: a148 :: a149 :: a150 :: a151 :: a152 :: a153 :: a154 :: a155 :: a156 :: a157 :: a158 :: a159 :: a160 :: a161 :: a162 :: a163 :: a164 :: a165 :: a166 :: a167 :: a168 :: a169 :: a170 :: a171 :: a172 :: a173 :: a174 :: a175 :: a176 :: a177 :: a178 :: a179 :: a180 :: a181 :: a182 :: a183 :: a184 :: a185 :: a186 :: a187 :: a188 :: a189 :: a190 :: a191 :: a192 :: a193 :: a194 :: a195 :: a196 :: a197 :: a198 :: a199 :: a200 :: a201 :: a202 :: a203 :: []), []⟩ w2 := by
  have d0 := blkCell hR2.blk 0
  have d2 := blkCell hR2.blk 2
  have lfb2 := blkLt hR2.blk
  rw [hvB] at d2
  rw [← htxt] at d0
  obtain ⟨i0, hi0, hz0, hz1, hz2⟩ := info_parts info45
  have HR2 := Lib.hid hR2; have HVB := Lib.hid hvB; have HNBB := Lib.hid hnB; have HTXT := Lib.hid htxt; have HX := Lib.hid hx; have HXS := Lib.hid hxs; have HKB2 := Lib.hid hkb; have HMI := Lib.hid hmI; have HQ := Lib.hid hQ
  clear hR2 hvB hnB htxt hx hxs hkb hmI hQ
  conv => arg 2; whnf
  go_region_law (first
      | (refine step_append_lies _ (by rfl) (.tmp 136) (.tmp 148) 35 (by rfl) 0 45 i0 (.agg #[.int .i64 0, .int .i64 0, .int .i64 0]) 3 24 Tryz.underlying35 hi0 hz0 hz1 hz2 rfl (by decide) (.slice aB nB cB) nB (bindCells sl.binds) (by simp [Act.eval, Act.put]) (by rw [← HVB.out, HNBB.out]; exact (HR2.out.B.alloc _).drew) _ 1 1 [.int .i64 fi, .int .i64 en, .int .i64 mI] (by simp [Act.eval, Act.put]; rfl) rfl (by exact cells3u (blkNew w2 _)) (by intro u hu; simp at hu; rcases hu with rfl | rfl | rfl <;> rfl) (by decide) (by unfold maxLen; omega) (by omega) (Nat.zero_le _) _ rfl ?_; intro gq cap w3 hown hgr hat hlt; have hb2 := grownBlk hgr (blkAlloc HR2.out.blk _) (by rw [← HVB.out]; exact fun e => rowNeBlk HR2.out.B HR2.out.blk (by decide) e.symm); have m0 := blkCell hb2 2; have m1 := blkFree hb2 2; have m2 := blkLt hb2; have HG2 := Lib.hid hgr; have HO2 := Lib.hid hown; have HAT2 := Lib.hid hat; have HLT2 := Lib.hid hlt; clear hgr hown hat hb2 hlt)
      | (go_simp; go_at_call 119; rw [← HX.out]; refine (means_any (by first | exact HR2.out | exact HR2.out.fr0 (Fr.refl (fun _ => False) w2).drew) x HXS.out HKB2.out).mono ?_; rintro e w' ⟨rfl, rfl⟩; rw [← HMI.out]))
  all_goals
    exact HQ.out _ _ _ _ _ _ _ _ _ _ _ _ _ _ _ _ _ _ _ _ _ _ _ _ _ _ (((Fr.refl (fun _ => False) w2).alloc _).drew) HO2 HG2 HAT2 HLT2
end Go.Proofs.YtkicpjjfeekopaaGreatDoor
