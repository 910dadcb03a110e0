/- Written by this repo's own copy of a print: plain functions beneath a law, and the proof that the program computes them; no condition. -/
import Derived.Test.YtbkkehjhfgocfaaPFnExactFillStatex0
import Derived.Test.YtbkkehjhfgocfaaPFnExactFillStatex1
import Derived.Test.YtbkkehjhfgocfaaPFnExactFillStatex2
import Derived.Test.YtbkkehjhfgocfaaPFnExactFillStatex6
import Derived.Test.YtbkkehjhfgocfaaPFnExactFillStatex7
import Derived.Test.YtbkkehjhfgocfaaPFnExactFillStatex11
import Derived.Test.YtbkkehjhfgocfaaPFnExactFillStatex12
namespace Go.Proofs.Ytbkkehjhfgocfaa.PFnExactFillState
open Go.RowKit Go.Proofs.YtbkkehjhfgocfaaW.PrintWords Go.Proofs.YtbkkehjhfgocfaaW.PrintLast Go.Proofs.YtbkkehjhfgocfaaW.PrintMore
attribute [local go_sem] max2_int min2_int max_two min_two max_three min_three max_four min_four   -- for this text's walks alone
set_option linter.unusedVariables false
set_option linter.unusedSimpArgs false

mutual
def laws_FnExactFillState.j0 : Nat → List Int → Int → Bool → List Int → Bool → Bool → Int → List (S101) → Int → List (S36) → List Int → List Int → List Int → Int → List (S36) → Int → List (S36) → List Int → List Int → List Int → Option (Bool)
 | 0, _, _, _, _, _, _, _, _, _, _, _, _, _, _, _, _, _, _, _, _ => none
 | k + 1, x1, x2, x9, x11, x13, x55, x311000, x311001, x334000, x334001, x334002, x334003, x334004, x339000, x339001, x357000, x357001, x357002, x357003, x357004 => if x55 = true then (none) else ((laws_toMesh.f k x311000 x311001).bind fun bt358 => ((laws_eqMesh.f k x339000 x339001 bt358.1 bt358.2).bind fun t362 => (if t362 = true then ((laws_toIntS.f k x1).bind fun t363 => ((laws_eqIntS.f k x11 t363).bind fun t366 => (if t366 = true then ((laws_markMesh.f k x339000 x339001 1).bind fun bt367 => ((laws_markIntS.f k x11 bt367.1).bind fun bt369 => (if bt369.1 < 0 then (laws_FnExactFillState.j1 k x1 x2 x9 true x311000 x311001 x334000 x334001 x334002 x334003 x334004 x357000 x357001 x357002 x357003 x357004) else ((laws_eqState.f k x357000 x357001 x357002 x357003 x357004 x334000 x334001 x334002 x334003 x334004).bind fun t371 => (if t371 = true then (laws_FnExactFillState.j1 k x1 x2 x9 (x13 != x9) x311000 x311001 x334000 x334001 x334002 x334003 x334004 x357000 x357001 x357002 x357003 x357004) else (laws_FnExactFillState.j1 k x1 x2 x9 true x311000 x311001 x334000 x334001 x334002 x334003 x334004 x357000 x357001 x357002 x357003 x357004)))))) else (none)))) else (none))))
def laws_FnExactFillState.j1 : Nat → List Int → Int → Bool → Bool → Int → List (S101) → Int → List (S36) → List Int → List Int → List Int → Int → List (S36) → List Int → List Int → List Int → Option (Bool)
 | 0, _, _, _, _, _, _, _, _, _, _, _, _, _, _, _, _ => none
 | k + 1, x1, x2, x9, x84, x311000, x311001, x334000, x334001, x334002, x334003, x334004, x357000, x357001, x357002, x357003, x357004 => if x84 = true then (none) else ((laws_markState.f k x357000 x357001 x357002 x357003 x357004 1).bind fun bt372 => ((laws_heldState.f k x357000 bt372.2.1 bt372.2.2.1 bt372.2.2.2.1 bt372.2.2.2.2 1).bind fun t377 => (if t377 < 0 then (none) else (if t377 = bt372.1 then ((laws_toMesh.f k x311000 x311001).bind fun bt378 => ((laws_toIntS.f k x1).bind fun t382 => ((impl_FillState.f k bt378.1 bt378.2 t382 x2).bind fun bt385 => ((laws_eqState.f k bt385.1 bt385.2.1 bt385.2.2.1 bt385.2.2.2.1 bt385.2.2.2.2.1 x334000 x334001 x334002 x334003 x334004).bind fun t400 => (if t400 = true then (laws_FnExactFillState.j2 k bt372.1 (bt385.2.2.2.2.2 != x9) x357000 bt372.2.1 bt372.2.2.1 bt372.2.2.2.1 bt372.2.2.2.2) else (laws_FnExactFillState.j2 k bt372.1 true x357000 bt372.2.1 bt372.2.2.1 bt372.2.2.2.1 bt372.2.2.2.2)))))) else (none)))))
def laws_FnExactFillState.j2 : Nat → Int → Bool → Int → List (S36) → List Int → List Int → List Int → Option (Bool)
 | 0, _, _, _, _, _, _, _ => none
 | k + 1, x15, x113, x357000, x357001, x357002, x357003, x357004 => if x113 = true then (none) else ((laws_heldState.f k x357000 x357001 x357002 x357003 x357004 1).bind fun t401 => (if t401 < 0 then (none) else (if t401 = x15 then (some true) else (none))))
end
def laws_FnExactFillState.f (k : Nat) (a0_0 : Int) (l0_1 : List (S101)) (l1 : List Int) (a2 : Int) : Option (Bool) := if (l1.length : Int) > 1048576 then (some true) else ((laws_szMesh.f a0_0 l0_1 1048576).bind fun t311 => (if t311 < 0 then (some true) else ((laws_toMesh.f k a0_0 l0_1).bind fun bt312 => ((laws_toIntS.f k l1).bind fun t316 => ((spec_FillState.f k bt312.1 bt312.2 t316 a2).bind fun bt319 => ((laws_toMesh.f k a0_0 l0_1).bind fun bt334 => ((laws_toIntS.f k l1).bind fun t339 => ((impl_FillState.f k bt334.1 bt334.2 t339 a2).bind fun bt342 => ((laws_eqState.f k bt342.1 bt342.2.1 bt342.2.2.1 bt342.2.2.2.1 bt342.2.2.2.2.1 bt319.1 bt319.2.1 bt319.2.2.1 bt319.2.2.2.1 bt319.2.2.2.2.1).bind fun t357 => (if t357 = true then (laws_FnExactFillState.j0 k l1 a2 bt319.2.2.2.2.2 t339 bt342.2.2.2.2.2 (bt342.2.2.2.2.2 != bt319.2.2.2.2.2) a0_0 l0_1 bt319.1 bt319.2.1 bt319.2.2.1 bt319.2.2.2.1 bt319.2.2.2.2.1 bt334.1 bt334.2 bt342.1 bt342.2.1 bt342.2.2.1 bt342.2.2.2.1 bt342.2.2.2.2.1) else (laws_FnExactFillState.j0 k l1 a2 bt319.2.2.2.2.2 t339 bt342.2.2.2.2.2 true a0_0 l0_1 bt319.1 bt319.2.1 bt319.2.2.1 bt319.2.2.2.1 bt319.2.2.2.2.1 bt334.1 bt334.2 bt342.1 bt342.2.1 bt342.2.2.1 bt342.2.2.2.1 bt342.2.2.2.2.1)))))))))))
theorem laws_FnExactFillState.mono_l : ∀ k, (∀ y0 y1 y2 y3 y4 y5 y6 y7 y8 y9 y10 y11 y12 y13 y14 y15 y16 y17 y18 y19, LeO (laws_FnExactFillState.j0 k y0 y1 y2 y3 y4 y5 y6 y7 y8 y9 y10 y11 y12 y13 y14 y15 y16 y17 y18 y19) (laws_FnExactFillState.j0 (k + 1) y0 y1 y2 y3 y4 y5 y6 y7 y8 y9 y10 y11 y12 y13 y14 y15 y16 y17 y18 y19)) ∧ (∀ y0 y1 y2 y3 y4 y5 y6 y7 y8 y9 y10 y11 y12 y13 y14 y15, LeO (laws_FnExactFillState.j1 k y0 y1 y2 y3 y4 y5 y6 y7 y8 y9 y10 y11 y12 y13 y14 y15) (laws_FnExactFillState.j1 (k + 1) y0 y1 y2 y3 y4 y5 y6 y7 y8 y9 y10 y11 y12 y13 y14 y15)) ∧ (∀ y0 y1 y2 y3 y4 y5 y6, LeO (laws_FnExactFillState.j2 k y0 y1 y2 y3 y4 y5 y6) (laws_FnExactFillState.j2 (k + 1) y0 y1 y2 y3 y4 y5 y6))
 | 0 => ⟨fun _ _ _ _ _ _ _ _ _ _ _ _ _ _ _ _ _ _ _ _ r h => by simp [laws_FnExactFillState.j0] at h, fun _ _ _ _ _ _ _ _ _ _ _ _ _ _ _ _ r h => by simp [laws_FnExactFillState.j1] at h, fun _ _ _ _ _ _ _ r h => by simp [laws_FnExactFillState.j2] at h⟩
 | k + 1 => by
  obtain ⟨ih0, ih1, ih2⟩ := laws_FnExactFillState.mono_l k
  refine ⟨?_, ?_, ?_⟩
  ·
   intro y0 y1 y2 y3 y4 y5 y6 y7 y8 y9 y10 y11 y12 y13 y14 y15 y16 y17 y18 y19
   unfold laws_FnExactFillState.j0
   repeat' first
   | (with_reducible exact ih0 _ _ _ _ _ _ _ _ _ _ _ _ _ _ _ _ _ _ _ _)
   | (with_reducible exact ih1 _ _ _ _ _ _ _ _ _ _ _ _ _ _ _ _)
   | (with_reducible exact ih2 _ _ _ _ _ _ _)
   | (with_reducible exact impl_FillState.mono _ _ _ _ _)
   | (with_reducible exact laws_eqIntS.mono _ _ _)
   | (with_reducible exact laws_eqMesh.mono _ _ _ _ _)
   | (with_reducible exact laws_eqState.mono _ _ _ _ _ _ _ _ _ _ _)
   | (with_reducible exact laws_heldState.mono _ _ _ _ _ _ _)
   | (with_reducible exact laws_markIntS.mono _ _ _)
   | (with_reducible exact laws_markMesh.mono _ _ _ _)
   | (with_reducible exact laws_markState.mono _ _ _ _ _ _ _)
   | (with_reducible exact laws_toIntS.mono _ _)
   | (with_reducible exact laws_toMesh.mono _ _ _)
   | (with_reducible exact spec_FillState.mono _ _ _ _ _)
   | (with_reducible exact LeO.refl _)
   | (with_reducible exact LeO.none _)
   | (with_reducible refine LeO.ite ?_ ?_)
   | (with_reducible refine LeO.bind ?_ (fun _ => ?_))
   | exact ih0 _ _ _ _ _ _ _ _ _ _ _ _ _ _ _ _ _ _ _ _
   | exact ih1 _ _ _ _ _ _ _ _ _ _ _ _ _ _ _ _
   | exact ih2 _ _ _ _ _ _ _
   | exact impl_FillState.mono _ _ _ _ _
   | exact laws_eqIntS.mono _ _ _
   | exact laws_eqMesh.mono _ _ _ _ _
   | exact laws_eqState.mono _ _ _ _ _ _ _ _ _ _ _
   | exact laws_heldState.mono _ _ _ _ _ _ _
   | exact laws_markIntS.mono _ _ _
   | exact laws_markMesh.mono _ _ _ _
   | exact laws_markState.mono _ _ _ _ _ _ _
   | exact laws_toIntS.mono _ _
   | exact laws_toMesh.mono _ _ _
   | exact spec_FillState.mono _ _ _ _ _
   | exact LeO.none _
   | refine LeO.ite ?_ ?_
   | refine LeO.bind ?_ (fun _ => ?_)
  ·
   intro y0 y1 y2 y3 y4 y5 y6 y7 y8 y9 y10 y11 y12 y13 y14 y15
   unfold laws_FnExactFillState.j1
   repeat' first
   | (with_reducible exact ih0 _ _ _ _ _ _ _ _ _ _ _ _ _ _ _ _ _ _ _ _)
   | (with_reducible exact ih1 _ _ _ _ _ _ _ _ _ _ _ _ _ _ _ _)
   | (with_reducible exact ih2 _ _ _ _ _ _ _)
   | (with_reducible exact impl_FillState.mono _ _ _ _ _)
   | (with_reducible exact laws_eqIntS.mono _ _ _)
   | (with_reducible exact laws_eqMesh.mono _ _ _ _ _)
   | (with_reducible exact laws_eqState.mono _ _ _ _ _ _ _ _ _ _ _)
   | (with_reducible exact laws_heldState.mono _ _ _ _ _ _ _)
   | (with_reducible exact laws_markIntS.mono _ _ _)
   | (with_reducible exact laws_markMesh.mono _ _ _ _)
   | (with_reducible exact laws_markState.mono _ _ _ _ _ _ _)
   | (with_reducible exact laws_toIntS.mono _ _)
   | (with_reducible exact laws_toMesh.mono _ _ _)
   | (with_reducible exact spec_FillState.mono _ _ _ _ _)
   | (with_reducible exact LeO.refl _)
   | (with_reducible exact LeO.none _)
   | (with_reducible refine LeO.ite ?_ ?_)
   | (with_reducible refine LeO.bind ?_ (fun _ => ?_))
   | exact ih0 _ _ _ _ _ _ _ _ _ _ _ _ _ _ _ _ _ _ _ _
   | exact ih1 _ _ _ _ _ _ _ _ _ _ _ _ _ _ _ _
   | exact ih2 _ _ _ _ _ _ _
   | exact impl_FillState.mono _ _ _ _ _
   | exact laws_eqIntS.mono _ _ _
   | exact laws_eqMesh.mono _ _ _ _ _
   | exact laws_eqState.mono _ _ _ _ _ _ _ _ _ _ _
   | exact laws_heldState.mono _ _ _ _ _ _ _
   | exact laws_markIntS.mono _ _ _
   | exact laws_markMesh.mono _ _ _ _
   | exact laws_markState.mono _ _ _ _ _ _ _
   | exact laws_toIntS.mono _ _
   | exact laws_toMesh.mono _ _ _
   | exact spec_FillState.mono _ _ _ _ _
   | exact LeO.none _
   | refine LeO.ite ?_ ?_
   | refine LeO.bind ?_ (fun _ => ?_)
  ·
   intro y0 y1 y2 y3 y4 y5 y6
   unfold laws_FnExactFillState.j2
   repeat' first
   | (with_reducible exact ih0 _ _ _ _ _ _ _ _ _ _ _ _ _ _ _ _ _ _ _ _)
   | (with_reducible exact ih1 _ _ _ _ _ _ _ _ _ _ _ _ _ _ _ _)
   | (with_reducible exact ih2 _ _ _ _ _ _ _)
   | (with_reducible exact impl_FillState.mono _ _ _ _ _)
   | (with_reducible exact laws_eqIntS.mono _ _ _)
   | (with_reducible exact laws_eqMesh.mono _ _ _ _ _)
   | (with_reducible exact laws_eqState.mono _ _ _ _ _ _ _ _ _ _ _)
   | (with_reducible exact laws_heldState.mono _ _ _ _ _ _ _)
   | (with_reducible exact laws_markIntS.mono _ _ _)
   | (with_reducible exact laws_markMesh.mono _ _ _ _)
   | (with_reducible exact laws_markState.mono _ _ _ _ _ _ _)
   | (with_reducible exact laws_toIntS.mono _ _)
   | (with_reducible exact laws_toMesh.mono _ _ _)
   | (with_reducible exact spec_FillState.mono _ _ _ _ _)
   | (with_reducible exact LeO.refl _)
   | (with_reducible exact LeO.none _)
   | (with_reducible refine LeO.ite ?_ ?_)
   | (with_reducible refine LeO.bind ?_ (fun _ => ?_))
   | exact ih0 _ _ _ _ _ _ _ _ _ _ _ _ _ _ _ _ _ _ _ _
   | exact ih1 _ _ _ _ _ _ _ _ _ _ _ _ _ _ _ _
   | exact ih2 _ _ _ _ _ _ _
   | exact impl_FillState.mono _ _ _ _ _
   | exact laws_eqIntS.mono _ _ _
   | exact laws_eqMesh.mono _ _ _ _ _
   | exact laws_eqState.mono _ _ _ _ _ _ _ _ _ _ _
   | exact laws_heldState.mono _ _ _ _ _ _ _
   | exact laws_markIntS.mono _ _ _
   | exact laws_markMesh.mono _ _ _ _
   | exact laws_markState.mono _ _ _ _ _ _ _
   | exact laws_toIntS.mono _ _
   | exact laws_toMesh.mono _ _ _
   | exact spec_FillState.mono _ _ _ _ _
   | exact LeO.none _
   | refine LeO.ite ?_ ?_
   | refine LeO.bind ?_ (fun _ => ?_)
theorem laws_FnExactFillState.mono : ∀ a0 a1 a2 a3 k, LeO (laws_FnExactFillState.f k a0 a1 a2 a3) (laws_FnExactFillState.f (k + 1) a0 a1 a2 a3) := by
 intro a0 a1 a2 a3 k
 obtain ⟨ih0, ih1, ih2⟩ := laws_FnExactFillState.mono_l k
 unfold laws_FnExactFillState.f
 repeat' first
   | (with_reducible exact ih0 _ _ _ _ _ _ _ _ _ _ _ _ _ _ _ _ _ _ _ _)
   | (with_reducible exact ih1 _ _ _ _ _ _ _ _ _ _ _ _ _ _ _ _)
   | (with_reducible exact ih2 _ _ _ _ _ _ _)
   | (with_reducible exact impl_FillState.mono _ _ _ _ _)
   | (with_reducible exact laws_eqIntS.mono _ _ _)
   | (with_reducible exact laws_eqMesh.mono _ _ _ _ _)
   | (with_reducible exact laws_eqState.mono _ _ _ _ _ _ _ _ _ _ _)
   | (with_reducible exact laws_heldState.mono _ _ _ _ _ _ _)
   | (with_reducible exact laws_markIntS.mono _ _ _)
   | (with_reducible exact laws_markMesh.mono _ _ _ _)
   | (with_reducible exact laws_markState.mono _ _ _ _ _ _ _)
   | (with_reducible exact laws_toIntS.mono _ _)
   | (with_reducible exact laws_toMesh.mono _ _ _)
   | (with_reducible exact spec_FillState.mono _ _ _ _ _)
   | (with_reducible exact LeO.refl _)
   | (with_reducible exact LeO.none _)
   | (with_reducible refine LeO.ite ?_ ?_)
   | (with_reducible refine LeO.bind ?_ (fun _ => ?_))
   | exact ih0 _ _ _ _ _ _ _ _ _ _ _ _ _ _ _ _ _ _ _ _
   | exact ih1 _ _ _ _ _ _ _ _ _ _ _ _ _ _ _ _
   | exact ih2 _ _ _ _ _ _ _
   | exact impl_FillState.mono _ _ _ _ _
   | exact laws_eqIntS.mono _ _ _
   | exact laws_eqMesh.mono _ _ _ _ _
   | exact laws_eqState.mono _ _ _ _ _ _ _ _ _ _ _
   | exact laws_heldState.mono _ _ _ _ _ _ _
   | exact laws_markIntS.mono _ _ _
   | exact laws_markMesh.mono _ _ _ _
   | exact laws_markState.mono _ _ _ _ _ _ _
   | exact laws_toIntS.mono _ _
   | exact laws_toMesh.mono _ _ _
   | exact spec_FillState.mono _ _ _ _ _
   | exact LeO.none _
   | refine LeO.ite ?_ ?_
   | refine LeO.bind ?_ (fun _ => ?_)
theorem laws_FnExactFillState.j0_dead (r : Bool) : ∀ k y0 y1 y2 y3 y4 y6 y7 y8 y9 y10 y11 y12 y13 y14 y15 y16 y17 y18 y19, laws_FnExactFillState.j0 k y0 y1 y2 y3 y4 true y6 y7 y8 y9 y10 y11 y12 y13 y14 y15 y16 y17 y18 y19 ≠ some r := by
 intro k
 intros
 cases k <;> simp [laws_FnExactFillState.j0]
theorem laws_FnExactFillState.j1_dead (r : Bool) : ∀ k y0 y1 y2 y4 y5 y6 y7 y8 y9 y10 y11 y12 y13 y14 y15, laws_FnExactFillState.j1 k y0 y1 y2 true y4 y5 y6 y7 y8 y9 y10 y11 y12 y13 y14 y15 ≠ some r := by
 intro k
 intros
 cases k <;> simp [laws_FnExactFillState.j1]
theorem laws_FnExactFillState.j2_dead (r : Bool) : ∀ k y0 y2 y3 y4 y5 y6, laws_FnExactFillState.j2 k y0 true y2 y3 y4 y5 y6 ≠ some r := by
 intro k
 intros
 cases k <;> simp [laws_FnExactFillState.j2]
set_option maxHeartbeats 8000000 in
set_option maxRecDepth 100000 in
theorem laws_FnExactFillState.calls (k : Nat) (a0_0 : Int) (A0_1 : Option Addr) (c0_1 : Nat) (l0_1 : List (S101)) (A1 : Option Addr) (c1 : Nat) (l1 : List Int) (a2 : Int) (r : Bool) (w : World) (hr0_1 : Kd.C k101 w A0_1 l0_1.length l0_1) (hc0_1 : l0_1.length ≤ c0_1) (hr1 : Kd.C (Kd.int .i64) w A1 l1.length l1) (hc1 : l1.length ≤ c1) (h : laws_FnExactFillState.f k a0_0 l0_1 l1 a2 = some r) :
  Calls Try.prog 11 #[.agg #[.int .i64 a0_0, .slice A0_1 l0_1.length c0_1], .slice A1 l1.length c1, .int .i64 a2] w fun e w' => e = .returned (.bool r) ∧ Below w.heap.size w w' := by
 have hu41 := Try.underlying41
 have hu29 := Try.underlying29
 have hu26 := Try.underlying26
 have HR0_1 := Aside0.mk hr0_1
 have HC0_1 := Aside0.mk hc0_1
 clear hr0_1 hc0_1
 have HR1 := Aside0.mk hr1
 have HC1 := Aside0.mk hc1
 clear hr1 hc1
 have HB := Aside0.mk (Below.refl w.heap.size w)
 have H : (if (l1.length : Int) > 1048576 then (some true) else ((laws_szMesh.f a0_0 l0_1 1048576).bind fun t311 => (if t311 < 0 then (some true) else ((laws_toMesh.f k a0_0 l0_1).bind fun bt312 => ((laws_toIntS.f k l1).bind fun t316 => ((spec_FillState.f k bt312.1 bt312.2 t316 a2).bind fun bt319 => ((laws_toMesh.f k a0_0 l0_1).bind fun bt334 => ((laws_toIntS.f k l1).bind fun t339 => ((impl_FillState.f k bt334.1 bt334.2 t339 a2).bind fun bt342 => ((laws_eqState.f k bt342.1 bt342.2.1 bt342.2.2.1 bt342.2.2.2.1 bt342.2.2.2.2.1 bt319.1 bt319.2.1 bt319.2.2.1 bt319.2.2.2.1 bt319.2.2.2.2.1).bind fun t357 => (if t357 = true then (laws_FnExactFillState.j0 k l1 a2 bt319.2.2.2.2.2 t339 bt342.2.2.2.2.2 (bt342.2.2.2.2.2 != bt319.2.2.2.2.2) a0_0 l0_1 bt319.1 bt319.2.1 bt319.2.2.1 bt319.2.2.2.1 bt319.2.2.2.2.1 bt334.1 bt334.2 bt342.1 bt342.2.1 bt342.2.2.1 bt342.2.2.2.1 bt342.2.2.2.2.1) else (laws_FnExactFillState.j0 k l1 a2 bt319.2.2.2.2.2 t339 bt342.2.2.2.2.2 true a0_0 l0_1 bt319.1 bt319.2.1 bt319.2.2.1 bt319.2.2.2.1 bt319.2.2.2.2.1 bt334.1 bt334.2 bt342.1 bt342.2.1 bt342.2.2.1 bt342.2.2.2.1 bt342.2.2.2.2.1)))))))))))) = some r := h
 clear h
 by_cases c4 : (l1.length : Int) > 1048576
 ·
  rw [if_pos c4] at H
  have c4b0 : decide (1048576 < (l1.length : Int)) = true := decide_eq_true c4
  have c4b1 : decide (1048576 < l1.length) = true := decide_eq_true (by omega)
  clear c4
  obtain rfl := Option.some.inj H
  go_enter Try.func11, Try.ntmps11
  go_wp2_with (first | ((with_reducible refine gate_dst (N := 3) rfl ?_); refine box_event ?hg (N := 3) ?hd (cs := #[.int .i64 a0_0, .slice A0_1 l0_1.length c0_1]) (t := 41) ?hr ?_; (case hd => rfl); (case hg => rfl); (case hr => first | (go_simp; done) | (go_simp; rfl)); intro gb310 hg w5 hbox hb; have n0_ := Aside0.mk (bst_ HB.out hb); have n1_ := Aside0.mk (hbox); have n2_ := Aside0.mk ((by rw [hg]; exact (bsz_ HB.out) : w.heap.size ≤ gb310)); have n3_ := Aside0.mk ((by rw [hg]; exact (bsz_ HB.out) : w.heap.size ≤ gb310)); clear HB; have HB := n0_; have BK310 := n1_; have GW310 := n2_; have GE310 := n3_; clear n0_ n1_ n2_ n3_; clear hb hbox hg))
  go_ret
  exact ⟨by first | rfl | (simp [*, errW_none, errW_some] <;> rfl), by repeat (first | (with_reducible first | exact HB.out | apply below_alloc | apply pw_below_drewN | apply below_drew1 | refine below_set ?_ GE310.out) | exact HB.out)⟩
 ·
  rw [if_neg c4] at H
  have c4b0 : decide (1048576 < (l1.length : Int)) = false := decide_eq_false c4
  have c4b1 : decide (1048576 < l1.length) = false := decide_eq_false (by omega)
  clear c4
  replace H := Option.bind_eq_some_iff.mp H
  obtain ⟨t311, A60, H⟩ := H
  (try dsimp only at H)
  have A6 := Aside0.mk A60
  clear A60
  by_cases c7 : t311 < 0
  ·
   rw [if_pos c7] at H
   have c7b0 : decide (t311 < 0) = true := decide_eq_true c7
   clear c7
   obtain rfl := Option.some.inj H
   go_enter Try.func11, Try.ntmps11
   go_wp2_with (first | ((with_reducible refine gate_dst (N := 3) rfl ?_); refine box_event ?hg (N := 3) ?hd (cs := #[.int .i64 a0_0, .slice A0_1 l0_1.length c0_1]) (t := 41) ?hr ?_; (case hd => rfl); (case hg => rfl); (case hr => first | (go_simp; done) | (go_simp; rfl)); intro gb310 hg w8 hbox hb; have n0_ := Aside0.mk (bst_ HB.out hb); have n1_ := Aside0.mk (hbox); have n2_ := Aside0.mk ((by rw [hg]; exact (bsz_ HB.out) : w.heap.size ≤ gb310)); have n3_ := Aside0.mk ((by rw [hg]; exact (bsz_ HB.out) : w.heap.size ≤ gb310)); clear HB; have HB := n0_; have BK310 := n1_; have GW310 := n2_; have GE310 := n3_; clear n0_ n1_ n2_ n3_; clear hb hbox hg; have hcz9_0 : w8.cell? ⟨gb310, 0, none⟩ = some (.int .i64 a0_0) := (blk_cell BK310.out 0).trans rfl; have hcz9_1 : w8.cell? ⟨gb310, 1, none⟩ = some (.slice A0_1 l0_1.length c0_1) := (blk_cell BK310.out 1).trans rfl; have hfz9_0 := blk_frozen BK310.out 0; have hfz9_1 := blk_frozen BK310.out 1) | ((with_reducible refine gate_callee (f := 36) rfl ?_); refine goesL_ (some 24) rfl rfl Try.func36 (by kernel_rfl) rfl #[.agg #[.int .i64 a0_0, .slice A0_1 l0_1.length c0_1], .int .i64 1048576] rfl (by (try simp only [List.map_toArray, List.map_cons, List.map_nil]); first | done | rfl | (simp only [List.length_drop, List.length_take]; rfl)) ?_; (with_reducible refine (laws_szMesh.calls a0_0 _ _ l0_1 1048576 t311 _ ?side1 ?side2 A6.out).mono ?_); (case side1 => repeat (first | exact (Kd.C_below HR0_1.out HB.out) | (with_reducible refine Kd.C_alloc ?_ _) | (with_reducible refine Kd.C_drewN ?_ _) | (with_reducible refine Kd.C_drew ?_))); (case side2 => exact HC0_1.out); rintro e w10 ⟨rfl, hb⟩; refine ⟨_, rfl, ?_⟩; have n0_ := Aside0.mk (blk_bel BK310.out hb); have n1_ := Aside0.mk (below_step (by repeat (first | (with_reducible first | exact HB.out | apply below_alloc | apply pw_below_drewN | apply below_drew1 | refine below_set ?_ GE310.out) | exact HB.out)) hb); clear BK310; clear HB; have BK310 := n0_; have HB := n1_; clear n0_ n1_; (try clear hb); (try clear hb2); (try clear hk); (try clear hi)))
   go_ret
   exact ⟨by first | rfl | (simp [*, errW_none, errW_some] <;> rfl), by repeat (first | (with_reducible first | exact HB.out | apply below_alloc | apply pw_below_drewN | apply below_drew1 | refine below_set ?_ GE310.out) | exact HB.out)⟩
  ·
   rw [if_neg c7] at H
   have c7b0 : decide (t311 < 0) = false := decide_eq_false c7
   clear c7
   replace H := Option.bind_eq_some_iff.mp H
   obtain ⟨⟨t312, t313⟩, A110, H⟩ := H
   (try dsimp only at H)
   have A11 := Aside0.mk A110
   clear A110
   replace H := Option.bind_eq_some_iff.mp H
   obtain ⟨t316, A120, H⟩ := H
   (try dsimp only at H)
   have A12 := Aside0.mk A120
   clear A120
   replace H := Option.bind_eq_some_iff.mp H
   obtain ⟨⟨t319, t320, t323, t326, t329, t332⟩, A130, H⟩ := H
   (try dsimp only at H)
   have A13 := Aside0.mk A130
   clear A130
   replace H := Option.bind_eq_some_iff.mp H
   obtain ⟨⟨t334, t335⟩, A140, H⟩ := H
   (try dsimp only at H)
   have A14 := Aside0.mk A140
   clear A140
   replace H := Option.bind_eq_some_iff.mp H
   obtain ⟨t339, A150, H⟩ := H
   (try dsimp only at H)
   have A15 := Aside0.mk A150
   clear A150
   replace H := Option.bind_eq_some_iff.mp H
   obtain ⟨⟨t342, t343, t346, t349, t352, t355⟩, A160, H⟩ := H
   (try dsimp only at H)
   have A16 := Aside0.mk A160
   clear A160
   have HC17 := Aside0.mk H
   clear H
   go_enter Try.func11, Try.ntmps11
   go_upto_region 11 with (first | ((with_reducible refine gate_dst (N := 3) rfl ?_); refine box_event ?hg (N := 3) ?hd (cs := #[.int .i64 a0_0, .slice A0_1 l0_1.length c0_1]) (t := 41) ?hr ?_; (case hd => rfl); (case hg => rfl); (case hr => first | (go_simp; done) | (go_simp; rfl)); intro gb310 hg w18 hbox hb; have n0_ := Aside0.mk (bst_ HB.out hb); have n1_ := Aside0.mk (hbox); have n2_ := Aside0.mk ((by rw [hg]; exact (bsz_ HB.out) : w.heap.size ≤ gb310)); have n3_ := Aside0.mk ((by rw [hg]; exact (bsz_ HB.out) : w.heap.size ≤ gb310)); clear HB; have HB := n0_; have BK310 := n1_; have GW310 := n2_; have GE310 := n3_; clear n0_ n1_ n2_ n3_; clear hb hbox hg; have hcz19_0 : w18.cell? ⟨gb310, 0, none⟩ = some (.int .i64 a0_0) := (blk_cell BK310.out 0).trans rfl; have hcz19_1 : w18.cell? ⟨gb310, 1, none⟩ = some (.slice A0_1 l0_1.length c0_1) := (blk_cell BK310.out 1).trans rfl; have hfz19_0 := blk_frozen BK310.out 0; have hfz19_1 := blk_frozen BK310.out 1) | ((with_reducible refine gate_callee (f := 36) rfl ?_); refine goesL_ (some 24) rfl rfl Try.func36 (by kernel_rfl) rfl #[.agg #[.int .i64 a0_0, .slice A0_1 l0_1.length c0_1], .int .i64 1048576] rfl (by (try simp only [List.map_toArray, List.map_cons, List.map_nil]); first | done | rfl | (simp only [List.length_drop, List.length_take]; rfl)) ?_; (with_reducible refine (laws_szMesh.calls a0_0 _ _ l0_1 1048576 t311 _ ?side1 ?side2 A6.out).mono ?_); (case side1 => repeat (first | exact (Kd.C_below HR0_1.out HB.out) | (with_reducible refine Kd.C_alloc ?_ _) | (with_reducible refine Kd.C_drewN ?_ _) | (with_reducible refine Kd.C_drew ?_))); (case side2 => exact HC0_1.out); rintro e w20 ⟨rfl, hb⟩; refine ⟨_, rfl, ?_⟩; have n0_ := Aside0.mk (blk_bel BK310.out hb); have n1_ := Aside0.mk (below_step (by repeat (first | (with_reducible first | exact HB.out | apply below_alloc | apply pw_below_drewN | apply below_drew1 | refine below_set ?_ GE310.out) | exact HB.out)) hb); clear BK310; clear HB; have BK310 := n0_; have HB := n1_; clear n0_ n1_; (try clear hb); (try clear hb2); (try clear hk); (try clear hi); have hcz21_0 : w20.cell? ⟨gb310, 0, none⟩ = some (.int .i64 a0_0) := (blk_cell BK310.out 0).trans rfl; have hcz21_1 : w20.cell? ⟨gb310, 1, none⟩ = some (.slice A0_1 l0_1.length c0_1) := (blk_cell BK310.out 1).trans rfl; have hfz21_0 := blk_frozen BK310.out 0; have hfz21_1 := blk_frozen BK310.out 1) | ((with_reducible refine gate_callee (f := 38) rfl ?_); refine goesL_ (some 29) rfl rfl Try.func38 (by kernel_rfl) rfl #[.agg #[.int .i64 a0_0, .slice A0_1 l0_1.length c0_1]] rfl (by (try simp only [List.map_toArray, List.map_cons, List.map_nil]); first | done | rfl | (simp only [List.length_drop, List.length_take]; rfl)) ?_; (with_reducible refine (laws_toMesh.calls k a0_0 _ _ l0_1 t312 t313 _ ?side1 ?side2 A11.out).mono ?_); (case side1 => repeat (first | exact (Kd.C_below HR0_1.out HB.out) | (with_reducible refine Kd.C_alloc ?_ _) | (with_reducible refine Kd.C_drewN ?_ _) | (with_reducible refine Kd.C_drew ?_))); (case side2 => exact HC0_1.out); rintro e w22 ⟨v314, rfl, ho0, hb⟩; refine ⟨_, rfl, ?_⟩; have n0_ := Aside0.mk (Kd.R_lower ho0 (below_size (by repeat (first | (with_reducible first | exact HB.out | apply below_alloc | apply pw_below_drewN | apply below_drew1 | refine below_set ?_ GE310.out) | exact HB.out)))); have n1_ := Aside0.mk (blk_bel BK310.out hb); have n2_ := Aside0.mk (below_step (by repeat (first | (with_reducible first | exact HB.out | apply below_alloc | apply pw_below_drewN | apply below_drew1 | refine below_set ?_ GE310.out) | exact HB.out)) hb); clear BK310; clear HB; have HO315 := n0_; have BK310 := n1_; have HB := n2_; clear n0_ n1_ n2_; (try clear hb); (try clear hb2); (try clear hk); (try clear hi); (try clear ho0)) | ((with_reducible refine gate_callee (f := 39) rfl ?_); refine goesL_ (some 31) rfl rfl Try.func39 (by kernel_rfl) rfl #[.slice A1 l1.length c1] rfl (by (try simp only [List.map_toArray, List.map_cons, List.map_nil]); first | done | rfl | (simp only [List.length_drop, List.length_take]; rfl)) ?_; (with_reducible refine (laws_toIntS.calls k _ _ l1 t316 _ ?side1 ?side2 A12.out).mono ?_); (case side1 => repeat (first | exact (Kd.C_below HR1.out HB.out) | (with_reducible refine Kd.C_alloc ?_ _) | (with_reducible refine Kd.C_drewN ?_ _) | (with_reducible refine Kd.C_drew ?_))); (case side2 => exact HC1.out); rintro e w23 ⟨v317, rfl, ho0, hb⟩; refine ⟨_, rfl, ?_⟩; have n0_ := Aside0.mk (R_bel HO315.out hb); have n1_ := Aside0.mk (Kd.R_lower ho0 (below_size (by repeat (first | (with_reducible first | exact HB.out | apply below_alloc | apply pw_below_drewN | apply below_drew1 | refine below_set ?_ GE310.out) | exact HB.out)))); have n2_ := Aside0.mk (blk_bel BK310.out hb); have n3_ := Aside0.mk (below_step (by repeat (first | (with_reducible first | exact HB.out | apply below_alloc | apply pw_below_drewN | apply below_drew1 | refine below_set ?_ GE310.out) | exact HB.out)) hb); clear HO315; clear BK310; clear HB; have HO315 := n0_; have HO318 := n1_; have BK310 := n2_; have HB := n3_; clear n0_ n1_ n2_ n3_; (try clear hb); (try clear hb2); (try clear hk); (try clear hi); (try clear ho0); obtain ⟨Ao24, co24, eo24⟩ := Kd.R_slice HO315.out; subst eo24; obtain ⟨Ao25, co25, eo25⟩ := Kd.R_slice HO318.out; subst eo25) | ((with_reducible refine gate_callee (f := 37) rfl ?_); refine goesL_ (some 33) rfl rfl Try.func37 (by kernel_rfl) rfl #[.agg #[.int .i64 t312, .slice Ao24 t313.length co24], .slice Ao25 t316.length co25, .int .i64 a2] rfl (by (try simp only [List.map_toArray, List.map_cons, List.map_nil]); first | done | rfl | (simp only [List.length_drop, List.length_take]; rfl)) ?_; (with_reducible refine (spec_FillState.calls k t312 _ _ t313 _ _ t316 a2 t319 t320 t323 t326 t329 t332 _ ?side1 ?side2 ?side3 ?side4 A13.out).mono ?_); (case side1 => repeat (first | exact (Kd.R_reads' HO315.out).2.2 | (with_reducible refine Kd.C_alloc ?_ _) | (with_reducible refine Kd.C_drewN ?_ _) | (with_reducible refine Kd.C_drew ?_))); (case side2 => exact (Kd.R_reads' HO315.out).2.1); (case side3 => repeat (first | exact (Kd.R_reads' HO318.out).2.2 | (with_reducible refine Kd.C_alloc ?_ _) | (with_reducible refine Kd.C_drewN ?_ _) | (with_reducible refine Kd.C_drew ?_))); (case side4 => exact (Kd.R_reads' HO318.out).2.1); rintro e w26 ⟨v321, v324, v327, v330, rfl, ho0, ho1, ho2, ho3, hb⟩; refine ⟨_, rfl, ?_⟩; have n0_ := Aside0.mk (Kd.R_elder' (by (with_reducible repeat first | apply Kd.R_alloc | apply Kd.R_drewN | apply Kd.R_drew); exact HO315.out) (Kd.R_base ho0) hb); have n1_ := Aside0.mk (Kd.R_mono (Kd.R_told (Kd.R_told (Kd.R_told (Kd.R_old (by (with_reducible repeat first | apply Kd.R_alloc | apply Kd.R_drewN | apply Kd.R_drew); exact HO318.out) hb) (Kd.R_base ho1)) (Kd.R_base ho2)) (Kd.R_base ho3)) (fun _ h_ => h_.1)); have n2_ := Aside0.mk (Kd.R_lower (Kd.R_new' ho0 (Kd.R_lt (by (with_reducible repeat first | apply Kd.R_alloc | apply Kd.R_drewN | apply Kd.R_drew); exact HO315.out))) (below_size (by repeat (first | (with_reducible first | exact HB.out | apply below_alloc | apply pw_below_drewN | apply below_drew1 | refine below_set ?_ GE310.out) | exact HB.out)))); have n3_ := Aside0.mk (Kd.R_lower (Kd.R_new' ho1 (Kd.R_lt (by (with_reducible repeat first | apply Kd.R_alloc | apply Kd.R_drewN | apply Kd.R_drew); exact HO318.out))) (below_size (by repeat (first | (with_reducible first | exact HB.out | apply below_alloc | apply pw_below_drewN | apply below_drew1 | refine below_set ?_ GE310.out) | exact HB.out)))); have n4_ := Aside0.mk (Kd.R_lower (Kd.R_new' ho2 (Kd.R_lt (by (with_reducible repeat first | apply Kd.R_alloc | apply Kd.R_drewN | apply Kd.R_drew); exact HO318.out))) (below_size (by repeat (first | (with_reducible first | exact HB.out | apply below_alloc | apply pw_below_drewN | apply below_drew1 | refine below_set ?_ GE310.out) | exact HB.out)))); have n5_ := Aside0.mk (Kd.R_lower (Kd.R_new' ho3 (Kd.R_lt (by (with_reducible repeat first | apply Kd.R_alloc | apply Kd.R_drewN | apply Kd.R_drew); exact HO318.out))) (below_size (by repeat (first | (with_reducible first | exact HB.out | apply below_alloc | apply pw_below_drewN | apply below_drew1 | refine below_set ?_ GE310.out) | exact HB.out)))); have n6_ := Aside0.mk (blk_bel BK310.out hb); have n7_ := Aside0.mk (below_step (by repeat (first | (with_reducible first | exact HB.out | apply below_alloc | apply pw_below_drewN | apply below_drew1 | refine below_set ?_ GE310.out) | exact HB.out)) hb); clear HO315; clear HO318; clear BK310; clear HB; have HO315 := n0_; have HO318 := n1_; have HO322 := n2_; have HO325 := n3_; have HO328 := n4_; have HO331 := n5_; have BK310 := n6_; have HB := n7_; clear n0_ n1_ n2_ n3_ n4_ n5_ n6_ n7_; (try clear hb); (try clear hb2); (try clear hk); (try clear hi); (try clear ho0); (try clear ho1); (try clear ho2); (try clear ho3)) | ((with_reducible refine gate_dst (N := 8) rfl ?_); refine box_event ?hg (N := 8) ?hd (cs := #[.int .i64 0, .slice none 0 0, .slice none 0 0, .slice none 0 0, .slice none 0 0]) (t := 29) ?hr ?_; (case hd => rfl); (case hg => rfl); (case hr => first | (go_simp; done) | (go_simp; rfl)); intro gb333 hg w27 hbox hb; have n0_ := Aside0.mk (R_bel HO315.out hb); have n1_ := Aside0.mk (R_bel HO318.out hb); have n2_ := Aside0.mk (R_bel HO322.out hb); have n3_ := Aside0.mk (R_bel HO325.out hb); have n4_ := Aside0.mk (R_bel HO328.out hb); have n5_ := Aside0.mk (R_bel HO331.out hb); have n6_ := Aside0.mk (blk_bel BK310.out hb); have n7_ := Aside0.mk (below_step (by repeat (first | (with_reducible first | exact HB.out | apply below_alloc | apply pw_below_drewN | apply below_drew1 | refine below_set ?_ GE310.out) | exact HB.out)) hb); have n8_ := Aside0.mk (hbox); have n9_ := Aside0.mk ((by rw [hg]; exact (below_size (by repeat (first | (with_reducible first | exact HB.out | apply below_alloc | apply pw_below_drewN | apply below_drew1 | refine below_set ?_ GE310.out) | exact HB.out))) : w.heap.size ≤ gb333)); have n10_ := Aside0.mk ((by rw [hg]; exact (below_size (by repeat (first | (with_reducible first | exact HB.out | apply below_alloc | apply pw_below_drewN | apply below_drew1 | refine below_set ?_ GE310.out) | exact HB.out))) : w.heap.size ≤ gb333)); have n11_ := Aside0.mk ((by rw [hg]; exact Nat.ne_of_lt (blk_lt (g := gb310) (o := .cells #[.int .i64 a0_0, .slice A0_1 l0_1.length c0_1] 41 (0, 0)) (by (with_reducible repeat first | apply blk_drewN | apply blk_drew | apply blk_alloc); exact BK310.out)) : gb310 ≠ gb333)); have n12_ := Aside0.mk ((by rw [hg]; exact Nat.ne_of_gt (blk_lt (g := gb310) (o := .cells #[.int .i64 a0_0, .slice A0_1 l0_1.length c0_1] 41 (0, 0)) (by (with_reducible repeat first | apply blk_drewN | apply blk_drew | apply blk_alloc); exact BK310.out)) : gb333 ≠ gb310)); clear HO315; clear HO318; clear HO322; clear HO325; clear HO328; clear HO331; clear BK310; clear HB; have HO315 := n0_; have HO318 := n1_; have HO322 := n2_; have HO325 := n3_; have HO328 := n4_; have HO331 := n5_; have BK310 := n6_; have HB := n7_; have BK333 := n8_; have GW333 := n9_; have GE333 := n10_; have NB310_333 := n11_; have NB333_310 := n12_; clear n0_ n1_ n2_ n3_ n4_ n5_ n6_ n7_ n8_ n9_ n10_ n11_ n12_; clear hb hbox hg; have hnb28 := NB333_310.out; have hnc28 := NB310_333.out; have hcz29_0 : w27.cell? ⟨gb333, 0, none⟩ = some (.int .i64 0) := (blk_cell BK333.out 0).trans rfl; have hcz29_1 : w27.cell? ⟨gb333, 1, none⟩ = some (.slice none 0 0) := (blk_cell BK333.out 1).trans rfl; have hcz29_2 : w27.cell? ⟨gb333, 2, none⟩ = some (.slice none 0 0) := (blk_cell BK333.out 2).trans rfl; have hcz29_3 : w27.cell? ⟨gb333, 3, none⟩ = some (.slice none 0 0) := (blk_cell BK333.out 3).trans rfl; have hcz29_4 : w27.cell? ⟨gb333, 4, none⟩ = some (.slice none 0 0) := (blk_cell BK333.out 4).trans rfl; have hfz29_0 := blk_frozen BK333.out 0; have hfz29_1 := blk_frozen BK333.out 1; have hfz29_2 := blk_frozen BK333.out 2; have hfz29_3 := blk_frozen BK333.out 3; have hfz29_4 := blk_frozen BK333.out 4; obtain ⟨Ao30, co30, eo30⟩ := Kd.R_slice HO322.out; subst eo30; obtain ⟨Ao31, co31, eo31⟩ := Kd.R_slice HO325.out; subst eo31; obtain ⟨Ao32, co32, eo32⟩ := Kd.R_slice HO328.out; subst eo32; obtain ⟨Ao33, co33, eo33⟩ := Kd.R_slice HO331.out; subst eo33; have hcz34_0 : w27.cell? ⟨gb310, 0, none⟩ = some (.int .i64 a0_0) := (blk_cell BK310.out 0).trans rfl; have hcz34_1 : w27.cell? ⟨gb310, 1, none⟩ = some (.slice A0_1 l0_1.length c0_1) := (blk_cell BK310.out 1).trans rfl; have hfz34_0 := blk_frozen BK310.out 0; have hfz34_1 := blk_frozen BK310.out 1) | ((with_reducible refine gate_callee (f := 38) rfl ?_); refine goesL_ (some 37) rfl rfl Try.func38 (by kernel_rfl) rfl #[.agg #[.int .i64 a0_0, .slice A0_1 l0_1.length c0_1]] rfl (by (try simp only [List.map_toArray, List.map_cons, List.map_nil]); first | done | rfl | (simp only [List.length_drop, List.length_take]; rfl)) ?_; (with_reducible refine (laws_toMesh.calls k a0_0 _ _ l0_1 t334 t335 _ ?side1 ?side2 A14.out).mono ?_); (case side1 => exact Kd.C_below HR0_1.out (by repeat (first | (with_reducible first | exact HB.out | apply below_alloc | apply pw_below_drewN | apply below_drew1 | refine below_set ?_ GE310.out | refine below_set ?_ GE333.out) | exact HB.out))); (case side2 => exact HC0_1.out); rintro e w35 ⟨v336, rfl, ho0, hb⟩; refine ⟨_, rfl, ?_⟩; have n0_ := Aside0.mk (Kd.R_elder' (by (with_reducible repeat first | apply Kd.R_alloc | apply Kd.R_drewN | apply Kd.R_drew); exact (R_far5 HO315.out BK333.out)) (Kd.R_base ho0) hb); have n1_ := Aside0.mk (Kd.R_below (by (with_reducible repeat first | apply Kd.R_alloc | apply Kd.R_drewN | apply Kd.R_drew); exact (R_far5 HO318.out BK333.out)) hb); have n2_ := Aside0.mk (Kd.R_elder' (by (with_reducible repeat first | apply Kd.R_alloc | apply Kd.R_drewN | apply Kd.R_drew); exact (R_far5 HO322.out BK333.out)) (Kd.R_base ho0) hb); have n3_ := Aside0.mk (Kd.R_below (by (with_reducible repeat first | apply Kd.R_alloc | apply Kd.R_drewN | apply Kd.R_drew); exact (R_far5 HO325.out BK333.out)) hb); have n4_ := Aside0.mk (Kd.R_below (by (with_reducible repeat first | apply Kd.R_alloc | apply Kd.R_drewN | apply Kd.R_drew); exact (R_far5 HO328.out BK333.out)) hb); have n5_ := Aside0.mk (Kd.R_below (by (with_reducible repeat first | apply Kd.R_alloc | apply Kd.R_drewN | apply Kd.R_drew); exact (R_far5 HO331.out BK333.out)) hb); have n6_ := Aside0.mk (Kd.R_lower (Kd.R_new' (Kd.R_new' ho0 (Kd.R_lt (by (with_reducible repeat first | apply Kd.R_alloc | apply Kd.R_drewN | apply Kd.R_drew); exact (R_far5 HO315.out BK333.out)))) (Kd.R_lt (by (with_reducible repeat first | apply Kd.R_alloc | apply Kd.R_drewN | apply Kd.R_drew); exact (R_far5 HO322.out BK333.out)))) (below_size (by repeat (first | (with_reducible first | exact HB.out | apply below_alloc | apply pw_below_drewN | apply below_drew1 | refine below_set ?_ GE310.out | refine below_set ?_ GE333.out) | exact HB.out)))); have n7_ := Aside0.mk (blk_below (g := gb310) (o := .cells #[.int .i64 a0_0, .slice A0_1 l0_1.length c0_1] 41 (0, 0)) (by (with_reducible repeat first | apply blk_drewN | apply blk_drew | apply blk_alloc); refine blk_far ?_ NB310_333.out _; (with_reducible repeat first | apply blk_drewN | apply blk_drew | apply blk_alloc); refine blk_far ?_ NB310_333.out _; (with_reducible repeat first | apply blk_drewN | apply blk_drew | apply blk_alloc); refine blk_far ?_ NB310_333.out _; (with_reducible repeat first | apply blk_drewN | apply blk_drew | apply blk_alloc); refine blk_far ?_ NB310_333.out _; (with_reducible repeat first | apply blk_drewN | apply blk_drew | apply blk_alloc); refine blk_far ?_ NB310_333.out _; (with_reducible repeat first | apply blk_drewN | apply blk_drew | apply blk_alloc); exact BK310.out) hb); have n8_ := Aside0.mk (blk_below (g := gb333) (o := .cells #[.int .i64 t319, .slice Ao30 t320.length co30, .slice Ao31 t323.length co31, .slice Ao32 t326.length co32, .slice Ao33 t329.length co33] 29 (0, 0)) (by (with_reducible repeat first | apply blk_drewN | apply blk_drew | apply blk_alloc); refine blk_put (cs := #[.int .i64 t319, .slice Ao30 t320.length co30, .slice Ao31 t323.length co31, .slice Ao32 t326.length co32, .slice none 0 0]) ?_ 4 _ rfl; (with_reducible repeat first | apply blk_drewN | apply blk_drew | apply blk_alloc); refine blk_put (cs := #[.int .i64 t319, .slice Ao30 t320.length co30, .slice Ao31 t323.length co31, .slice none 0 0, .slice none 0 0]) ?_ 3 _ rfl; (with_reducible repeat first | apply blk_drewN | apply blk_drew | apply blk_alloc); refine blk_put (cs := #[.int .i64 t319, .slice Ao30 t320.length co30, .slice none 0 0, .slice none 0 0, .slice none 0 0]) ?_ 2 _ rfl; (with_reducible repeat first | apply blk_drewN | apply blk_drew | apply blk_alloc); refine blk_put (cs := #[.int .i64 t319, .slice none 0 0, .slice none 0 0, .slice none 0 0, .slice none 0 0]) ?_ 1 _ rfl; (with_reducible repeat first | apply blk_drewN | apply blk_drew | apply blk_alloc); refine blk_put (cs := #[.int .i64 0, .slice none 0 0, .slice none 0 0, .slice none 0 0, .slice none 0 0]) ?_ 0 _ rfl; (with_reducible repeat first | apply blk_drewN | apply blk_drew | apply blk_alloc); exact BK333.out) hb); have n9_ := Aside0.mk (below_step (by repeat (first | (with_reducible first | exact HB.out | apply below_alloc | apply pw_below_drewN | apply below_drew1 | refine below_set ?_ GE310.out | refine below_set ?_ GE333.out) | exact HB.out)) hb); clear HO315; clear HO318; clear HO322; clear HO325; clear HO328; clear HO331; clear BK310; clear BK333; clear HB; have HO315 := n0_; have HO318 := n1_; have HO322 := n2_; have HO325 := n3_; have HO328 := n4_; have HO331 := n5_; have HO337 := n6_; have BK310 := n7_; have BK333 := n8_; have HB := n9_; clear n0_ n1_ n2_ n3_ n4_ n5_ n6_ n7_ n8_ n9_; (try clear hb); (try clear hb2); (try clear hk); (try clear hi); (try clear ho0)) | ((with_reducible refine gate_dst (N := 10) rfl ?_); refine box_event ?hg (N := 10) ?hd (cs := #[.int .i64 0, .slice none 0 0]) (t := 26) ?hr ?_; (case hd => rfl); (case hg => rfl); (case hr => first | (go_simp; done) | (go_simp; rfl)); intro gb338 hg w36 hbox hb; have n0_ := Aside0.mk (R_bel HO315.out hb); have n1_ := Aside0.mk (R_bel HO318.out hb); have n2_ := Aside0.mk (R_bel HO322.out hb); have n3_ := Aside0.mk (R_bel HO325.out hb); have n4_ := Aside0.mk (R_bel HO328.out hb); have n5_ := Aside0.mk (R_bel HO331.out hb); have n6_ := Aside0.mk (R_bel HO337.out hb); have n7_ := Aside0.mk (blk_bel BK310.out hb); have n8_ := Aside0.mk (blk_bel BK333.out hb); have n9_ := Aside0.mk (below_step (by repeat (first | (with_reducible first | exact HB.out | apply below_alloc | apply pw_below_drewN | apply below_drew1 | refine below_set ?_ GE310.out | refine below_set ?_ GE333.out) | exact HB.out)) hb); have n10_ := Aside0.mk (hbox); have n11_ := Aside0.mk ((by rw [hg]; exact (below_size (by repeat (first | (with_reducible first | exact HB.out | apply below_alloc | apply pw_below_drewN | apply below_drew1 | refine below_set ?_ GE310.out | refine below_set ?_ GE333.out) | exact HB.out))) : w.heap.size ≤ gb338)); have n12_ := Aside0.mk ((by rw [hg]; exact (below_size (by repeat (first | (with_reducible first | exact HB.out | apply below_alloc | apply pw_below_drewN | apply below_drew1 | refine below_set ?_ GE310.out | refine below_set ?_ GE333.out) | exact HB.out))) : w.heap.size ≤ gb338)); have n13_ := Aside0.mk ((by rw [hg]; exact Nat.ne_of_lt (blk_lt (g := gb310) (o := .cells #[.int .i64 a0_0, .slice A0_1 l0_1.length c0_1] 41 (0, 0)) (by (with_reducible repeat first | apply blk_drewN | apply blk_drew | apply blk_alloc); exact BK310.out)) : gb310 ≠ gb338)); have n14_ := Aside0.mk ((by rw [hg]; exact Nat.ne_of_gt (blk_lt (g := gb310) (o := .cells #[.int .i64 a0_0, .slice A0_1 l0_1.length c0_1] 41 (0, 0)) (by (with_reducible repeat first | apply blk_drewN | apply blk_drew | apply blk_alloc); exact BK310.out)) : gb338 ≠ gb310)); have n15_ := Aside0.mk ((by rw [hg]; exact Nat.ne_of_lt (blk_lt (g := gb333) (o := .cells #[.int .i64 t319, .slice Ao30 t320.length co30, .slice Ao31 t323.length co31, .slice Ao32 t326.length co32, .slice Ao33 t329.length co33] 29 (0, 0)) (by (with_reducible repeat first | apply blk_drewN | apply blk_drew | apply blk_alloc); exact BK333.out)) : gb333 ≠ gb338)); have n16_ := Aside0.mk ((by rw [hg]; exact Nat.ne_of_gt (blk_lt (g := gb333) (o := .cells #[.int .i64 t319, .slice Ao30 t320.length co30, .slice Ao31 t323.length co31, .slice Ao32 t326.length co32, .slice Ao33 t329.length co33] 29 (0, 0)) (by (with_reducible repeat first | apply blk_drewN | apply blk_drew | apply blk_alloc); exact BK333.out)) : gb338 ≠ gb333)); clear HO315; clear HO318; clear HO322; clear HO325; clear HO328; clear HO331; clear HO337; clear BK310; clear BK333; clear HB; have HO315 := n0_; have HO318 := n1_; have HO322 := n2_; have HO325 := n3_; have HO328 := n4_; have HO331 := n5_; have HO337 := n6_; have BK310 := n7_; have BK333 := n8_; have HB := n9_; have BK338 := n10_; have GW338 := n11_; have GE338 := n12_; have NB310_338 := n13_; have NB338_310 := n14_; have NB333_338 := n15_; have NB338_333 := n16_; clear n0_ n1_ n2_ n3_ n4_ n5_ n6_ n7_ n8_ n9_ n10_ n11_ n12_ n13_ n14_ n15_ n16_; clear hb hbox hg; have hnb37 := NB338_310.out; have hnc37 := NB310_338.out; have hnb38 := NB338_333.out; have hnc38 := NB333_338.out; have hcz39_0 : w36.cell? ⟨gb338, 0, none⟩ = some (.int .i64 0) := (blk_cell BK338.out 0).trans rfl; have hcz39_1 : w36.cell? ⟨gb338, 1, none⟩ = some (.slice none 0 0) := (blk_cell BK338.out 1).trans rfl; have hfz39_0 := blk_frozen BK338.out 0; have hfz39_1 := blk_frozen BK338.out 1; obtain ⟨Ao40, co40, eo40⟩ := Kd.R_slice HO337.out; subst eo40) | ((with_reducible refine gate_callee (f := 39) rfl ?_); refine goesL_ (some 39) rfl rfl Try.func39 (by kernel_rfl) rfl #[.slice A1 l1.length c1] rfl (by (try simp only [List.map_toArray, List.map_cons, List.map_nil]); first | done | rfl | (simp only [List.length_drop, List.length_take]; rfl)) ?_; (with_reducible refine (laws_toIntS.calls k _ _ l1 t339 _ ?side1 ?side2 A15.out).mono ?_); (case side1 => exact Kd.C_below HR1.out (by repeat (first | (with_reducible first | exact HB.out | apply below_alloc | apply pw_below_drewN | apply below_drew1 | refine below_set ?_ GE310.out | refine below_set ?_ GE333.out | refine below_set ?_ GE338.out) | exact HB.out))); (case side2 => exact HC1.out); rintro e w41 ⟨v340, rfl, ho0, hb⟩; refine ⟨_, rfl, ?_⟩; have n0_ := Aside0.mk (Kd.R_below (by (with_reducible repeat first | apply Kd.R_alloc | apply Kd.R_drewN | apply Kd.R_drew); exact (R_far2 HO315.out BK338.out)) hb); have n1_ := Aside0.mk (Kd.R_elder' (by (with_reducible repeat first | apply Kd.R_alloc | apply Kd.R_drewN | apply Kd.R_drew); exact (R_far2 HO318.out BK338.out)) (Kd.R_base ho0) hb); have n2_ := Aside0.mk (Kd.R_below (by (with_reducible repeat first | apply Kd.R_alloc | apply Kd.R_drewN | apply Kd.R_drew); exact (R_far2 HO322.out BK338.out)) hb); have n3_ := Aside0.mk (Kd.R_elder' (by (with_reducible repeat first | apply Kd.R_alloc | apply Kd.R_drewN | apply Kd.R_drew); exact (R_far2 HO325.out BK338.out)) (Kd.R_base ho0) hb); have n4_ := Aside0.mk (Kd.R_elder' (by (with_reducible repeat first | apply Kd.R_alloc | apply Kd.R_drewN | apply Kd.R_drew); exact (R_far2 HO328.out BK338.out)) (Kd.R_base ho0) hb); have n5_ := Aside0.mk (Kd.R_elder' (by (with_reducible repeat first | apply Kd.R_alloc | apply Kd.R_drewN | apply Kd.R_drew); exact (R_far2 HO331.out BK338.out)) (Kd.R_base ho0) hb); have n6_ := Aside0.mk (Kd.R_below (by (with_reducible repeat first | apply Kd.R_alloc | apply Kd.R_drewN | apply Kd.R_drew); exact (R_far2 HO337.out BK338.out)) hb); have n7_ := Aside0.mk (Kd.R_lower (Kd.R_new' (Kd.R_new' (Kd.R_new' (Kd.R_new' ho0 (Kd.R_lt (by (with_reducible repeat first | apply Kd.R_alloc | apply Kd.R_drewN | apply Kd.R_drew); exact (R_far2 HO318.out BK338.out)))) (Kd.R_lt (by (with_reducible repeat first | apply Kd.R_alloc | apply Kd.R_drewN | apply Kd.R_drew); exact (R_far2 HO325.out BK338.out)))) (Kd.R_lt (by (with_reducible repeat first | apply Kd.R_alloc | apply Kd.R_drewN | apply Kd.R_drew); exact (R_far2 HO328.out BK338.out)))) (Kd.R_lt (by (with_reducible repeat first | apply Kd.R_alloc | apply Kd.R_drewN | apply Kd.R_drew); exact (R_far2 HO331.out BK338.out)))) (below_size (by repeat (first | (with_reducible first | exact HB.out | apply below_alloc | apply pw_below_drewN | apply below_drew1 | refine below_set ?_ GE310.out | refine below_set ?_ GE333.out | refine below_set ?_ GE338.out) | exact HB.out)))); have n8_ := Aside0.mk (blk_below (g := gb310) (o := .cells #[.int .i64 a0_0, .slice A0_1 l0_1.length c0_1] 41 (0, 0)) (by (with_reducible repeat first | apply blk_drewN | apply blk_drew | apply blk_alloc); refine blk_far ?_ NB310_338.out _; (with_reducible repeat first | apply blk_drewN | apply blk_drew | apply blk_alloc); refine blk_far ?_ NB310_338.out _; (with_reducible repeat first | apply blk_drewN | apply blk_drew | apply blk_alloc); exact BK310.out) hb); have n9_ := Aside0.mk (blk_below (g := gb333) (o := .cells #[.int .i64 t319, .slice Ao30 t320.length co30, .slice Ao31 t323.length co31, .slice Ao32 t326.length co32, .slice Ao33 t329.length co33] 29 (0, 0)) (by (with_reducible repeat first | apply blk_drewN | apply blk_drew | apply blk_alloc); refine blk_far ?_ NB333_338.out _; (with_reducible repeat first | apply blk_drewN | apply blk_drew | apply blk_alloc); refine blk_far ?_ NB333_338.out _; (with_reducible repeat first | apply blk_drewN | apply blk_drew | apply blk_alloc); exact BK333.out) hb); have n10_ := Aside0.mk (blk_below (g := gb338) (o := .cells #[.int .i64 t334, .slice Ao40 t335.length co40] 26 (0, 0)) (by (with_reducible repeat first | apply blk_drewN | apply blk_drew | apply blk_alloc); refine blk_put (cs := #[.int .i64 t334, .slice none 0 0]) ?_ 1 _ rfl; (with_reducible repeat first | apply blk_drewN | apply blk_drew | apply blk_alloc); refine blk_put (cs := #[.int .i64 0, .slice none 0 0]) ?_ 0 _ rfl; (with_reducible repeat first | apply blk_drewN | apply blk_drew | apply blk_alloc); exact BK338.out) hb); have n11_ := Aside0.mk (below_step (by repeat (first | (with_reducible first | exact HB.out | apply below_alloc | apply pw_below_drewN | apply below_drew1 | refine below_set ?_ GE310.out | refine below_set ?_ GE333.out | refine below_set ?_ GE338.out) | exact HB.out)) hb); clear HO315; clear HO318; clear HO322; clear HO325; clear HO328; clear HO331; clear HO337; clear BK310; clear BK333; clear BK338; clear HB; have HO315 := n0_; have HO318 := n1_; have HO322 := n2_; have HO325 := n3_; have HO328 := n4_; have HO331 := n5_; have HO337 := n6_; have HO341 := n7_; have BK310 := n8_; have BK333 := n9_; have BK338 := n10_; have HB := n11_; clear n0_ n1_ n2_ n3_ n4_ n5_ n6_ n7_ n8_ n9_ n10_ n11_; (try clear hb); (try clear hb2); (try clear hk); (try clear hi); (try clear ho0); have hcz42_0 : w41.cell? ⟨gb338, 0, none⟩ = some (.int .i64 t334) := (blk_cell BK338.out 0).trans rfl; have hcz42_1 : w41.cell? ⟨gb338, 1, none⟩ = some (.slice Ao40 t335.length co40) := (blk_cell BK338.out 1).trans rfl; have hfz42_0 := blk_frozen BK338.out 0; have hfz42_1 := blk_frozen BK338.out 1; obtain ⟨Ao43, co43, eo43⟩ := Kd.R_slice HO341.out; subst eo43) | ((with_reducible refine gate_callee (f := 31) rfl ?_); refine goesL_ (some 44) rfl rfl Try.func31 (by kernel_rfl) rfl #[.agg #[.int .i64 t334, .slice Ao40 t335.length co40], .slice Ao43 t339.length co43, .int .i64 a2] rfl (by (try simp only [List.map_toArray, List.map_cons, List.map_nil]); first | done | rfl | (simp only [List.length_drop, List.length_take]; rfl)) ?_; (with_reducible refine (impl_FillState.calls k t334 _ _ t335 _ _ t339 a2 t342 t343 t346 t349 t352 t355 _ ?side1 ?side2 ?side3 ?side4 A16.out).mono ?_); (case side1 => repeat (first | exact (Kd.R_reads' HO337.out).2.2 | (with_reducible refine Kd.C_alloc ?_ _) | (with_reducible refine Kd.C_drewN ?_ _) | (with_reducible refine Kd.C_drew ?_))); (case side2 => exact (Kd.R_reads' HO337.out).2.1); (case side3 => repeat (first | exact (Kd.R_reads' HO341.out).2.2 | (with_reducible refine Kd.C_alloc ?_ _) | (with_reducible refine Kd.C_drewN ?_ _) | (with_reducible refine Kd.C_drew ?_))); (case side4 => exact (Kd.R_reads' HO341.out).2.1); rintro e w44 ⟨v344, v347, v350, v353, rfl, ho0, ho1, ho2, ho3, hb⟩; refine ⟨_, rfl, ?_⟩; have n0_ := Aside0.mk (Kd.R_elder' (by (with_reducible repeat first | apply Kd.R_alloc | apply Kd.R_drewN | apply Kd.R_drew); exact HO315.out) (Kd.R_base ho0) hb); have n1_ := Aside0.mk (Kd.R_mono (Kd.R_told (Kd.R_told (Kd.R_told (Kd.R_old (by (with_reducible repeat first | apply Kd.R_alloc | apply Kd.R_drewN | apply Kd.R_drew); exact HO318.out) hb) (Kd.R_base ho1)) (Kd.R_base ho2)) (Kd.R_base ho3)) (fun _ h_ => h_.1)); have n2_ := Aside0.mk (Kd.R_elder' (by (with_reducible repeat first | apply Kd.R_alloc | apply Kd.R_drewN | apply Kd.R_drew); exact HO322.out) (Kd.R_base ho0) hb); have n3_ := Aside0.mk (Kd.R_mono (Kd.R_told (Kd.R_told (Kd.R_told (Kd.R_old (by (with_reducible repeat first | apply Kd.R_alloc | apply Kd.R_drewN | apply Kd.R_drew); exact HO325.out) hb) (Kd.R_base ho1)) (Kd.R_base ho2)) (Kd.R_base ho3)) (fun _ h_ => h_.1)); have n4_ := Aside0.mk (Kd.R_mono (Kd.R_told (Kd.R_told (Kd.R_told (Kd.R_old (by (with_reducible repeat first | apply Kd.R_alloc | apply Kd.R_drewN | apply Kd.R_drew); exact HO328.out) hb) (Kd.R_base ho1)) (Kd.R_base ho2)) (Kd.R_base ho3)) (fun _ h_ => h_.1)); have n5_ := Aside0.mk (Kd.R_mono (Kd.R_told (Kd.R_told (Kd.R_told (Kd.R_old (by (with_reducible repeat first | apply Kd.R_alloc | apply Kd.R_drewN | apply Kd.R_drew); exact HO331.out) hb) (Kd.R_base ho1)) (Kd.R_base ho2)) (Kd.R_base ho3)) (fun _ h_ => h_.1)); have n6_ := Aside0.mk (Kd.R_elder' (by (with_reducible repeat first | apply Kd.R_alloc | apply Kd.R_drewN | apply Kd.R_drew); exact HO337.out) (Kd.R_base ho0) hb); have n7_ := Aside0.mk (Kd.R_mono (Kd.R_told (Kd.R_told (Kd.R_told (Kd.R_old (by (with_reducible repeat first | apply Kd.R_alloc | apply Kd.R_drewN | apply Kd.R_drew); exact HO341.out) hb) (Kd.R_base ho1)) (Kd.R_base ho2)) (Kd.R_base ho3)) (fun _ h_ => h_.1)); have n8_ := Aside0.mk (Kd.R_lower (Kd.R_new' (Kd.R_new' (Kd.R_new' ho0 (Kd.R_lt (by (with_reducible repeat first | apply Kd.R_alloc | apply Kd.R_drewN | apply Kd.R_drew); exact HO315.out))) (Kd.R_lt (by (with_reducible repeat first | apply Kd.R_alloc | apply Kd.R_drewN | apply Kd.R_drew); exact HO322.out))) (Kd.R_lt (by (with_reducible repeat first | apply Kd.R_alloc | apply Kd.R_drewN | apply Kd.R_drew); exact HO337.out))) (below_size (by repeat (first | (with_reducible first | exact HB.out | apply below_alloc | apply pw_below_drewN | apply below_drew1 | refine below_set ?_ GE310.out | refine below_set ?_ GE333.out | refine below_set ?_ GE338.out) | exact HB.out)))); have n9_ := Aside0.mk (Kd.R_lower (Kd.R_new' (Kd.R_new' (Kd.R_new' (Kd.R_new' (Kd.R_new' ho1 (Kd.R_lt (by (with_reducible repeat first | apply Kd.R_alloc | apply Kd.R_drewN | apply Kd.R_drew); exact HO318.out))) (Kd.R_lt (by (with_reducible repeat first | apply Kd.R_alloc | apply Kd.R_drewN | apply Kd.R_drew); exact HO325.out))) (Kd.R_lt (by (with_reducible repeat first | apply Kd.R_alloc | apply Kd.R_drewN | apply Kd.R_drew); exact HO328.out))) (Kd.R_lt (by (with_reducible repeat first | apply Kd.R_alloc | apply Kd.R_drewN | apply Kd.R_drew); exact HO331.out))) (Kd.R_lt (by (with_reducible repeat first | apply Kd.R_alloc | apply Kd.R_drewN | apply Kd.R_drew); exact HO341.out))) (below_size (by repeat (first | (with_reducible first | exact HB.out | apply below_alloc | apply pw_below_drewN | apply below_drew1 | refine below_set ?_ GE310.out | refine below_set ?_ GE333.out | refine below_set ?_ GE338.out) | exact HB.out)))); have n10_ := Aside0.mk (Kd.R_lower (Kd.R_new' (Kd.R_new' (Kd.R_new' (Kd.R_new' (Kd.R_new' ho2 (Kd.R_lt (by (with_reducible repeat first | apply Kd.R_alloc | apply Kd.R_drewN | apply Kd.R_drew); exact HO318.out))) (Kd.R_lt (by (with_reducible repeat first | apply Kd.R_alloc | apply Kd.R_drewN | apply Kd.R_drew); exact HO325.out))) (Kd.R_lt (by (with_reducible repeat first | apply Kd.R_alloc | apply Kd.R_drewN | apply Kd.R_drew); exact HO328.out))) (Kd.R_lt (by (with_reducible repeat first | apply Kd.R_alloc | apply Kd.R_drewN | apply Kd.R_drew); exact HO331.out))) (Kd.R_lt (by (with_reducible repeat first | apply Kd.R_alloc | apply Kd.R_drewN | apply Kd.R_drew); exact HO341.out))) (below_size (by repeat (first | (with_reducible first | exact HB.out | apply below_alloc | apply pw_below_drewN | apply below_drew1 | refine below_set ?_ GE310.out | refine below_set ?_ GE333.out | refine below_set ?_ GE338.out) | exact HB.out)))); have n11_ := Aside0.mk (Kd.R_lower (Kd.R_new' (Kd.R_new' (Kd.R_new' (Kd.R_new' (Kd.R_new' ho3 (Kd.R_lt (by (with_reducible repeat first | apply Kd.R_alloc | apply Kd.R_drewN | apply Kd.R_drew); exact HO318.out))) (Kd.R_lt (by (with_reducible repeat first | apply Kd.R_alloc | apply Kd.R_drewN | apply Kd.R_drew); exact HO325.out))) (Kd.R_lt (by (with_reducible repeat first | apply Kd.R_alloc | apply Kd.R_drewN | apply Kd.R_drew); exact HO328.out))) (Kd.R_lt (by (with_reducible repeat first | apply Kd.R_alloc | apply Kd.R_drewN | apply Kd.R_drew); exact HO331.out))) (Kd.R_lt (by (with_reducible repeat first | apply Kd.R_alloc | apply Kd.R_drewN | apply Kd.R_drew); exact HO341.out))) (below_size (by repeat (first | (with_reducible first | exact HB.out | apply below_alloc | apply pw_below_drewN | apply below_drew1 | refine below_set ?_ GE310.out | refine below_set ?_ GE333.out | refine below_set ?_ GE338.out) | exact HB.out)))); have n12_ := Aside0.mk (blk_bel BK310.out hb); have n13_ := Aside0.mk (blk_bel BK333.out hb); have n14_ := Aside0.mk (blk_bel BK338.out hb); have n15_ := Aside0.mk (below_step (by repeat (first | (with_reducible first | exact HB.out | apply below_alloc | apply pw_below_drewN | apply below_drew1 | refine below_set ?_ GE310.out | refine below_set ?_ GE333.out | refine below_set ?_ GE338.out) | exact HB.out)) hb); clear HO315; clear HO318; clear HO322; clear HO325; clear HO328; clear HO331; clear HO337; clear HO341; clear BK310; clear BK333; clear BK338; clear HB; have HO315 := n0_; have HO318 := n1_; have HO322 := n2_; have HO325 := n3_; have HO328 := n4_; have HO331 := n5_; have HO337 := n6_; have HO341 := n7_; have HO345 := n8_; have HO348 := n9_; have HO351 := n10_; have HO354 := n11_; have BK310 := n12_; have BK333 := n13_; have BK338 := n14_; have HB := n15_; clear n0_ n1_ n2_ n3_ n4_ n5_ n6_ n7_ n8_ n9_ n10_ n11_ n12_ n13_ n14_ n15_; (try clear hb); (try clear hb2); (try clear hk); (try clear hi); (try clear ho0); (try clear ho1); (try clear ho2); (try clear ho3)) | ((with_reducible refine gate_dst (N := 12) rfl ?_); refine box_event ?hg (N := 12) ?hd (cs := #[.int .i64 0, .slice none 0 0, .slice none 0 0, .slice none 0 0, .slice none 0 0]) (t := 29) ?hr ?_; (case hd => rfl); (case hg => rfl); (case hr => first | (go_simp; done) | (go_simp; rfl)); intro gb356 hg w45 hbox hb; have n0_ := Aside0.mk (R_bel HO315.out hb); have n1_ := Aside0.mk (R_bel HO318.out hb); have n2_ := Aside0.mk (R_bel HO322.out hb); have n3_ := Aside0.mk (R_bel HO325.out hb); have n4_ := Aside0.mk (R_bel HO328.out hb); have n5_ := Aside0.mk (R_bel HO331.out hb); have n6_ := Aside0.mk (R_bel HO337.out hb); have n7_ := Aside0.mk (R_bel HO341.out hb); have n8_ := Aside0.mk (R_bel HO345.out hb); have n9_ := Aside0.mk (R_bel HO348.out hb); have n10_ := Aside0.mk (R_bel HO351.out hb); have n11_ := Aside0.mk (R_bel HO354.out hb); have n12_ := Aside0.mk (blk_bel BK310.out hb); have n13_ := Aside0.mk (blk_bel BK333.out hb); have n14_ := Aside0.mk (blk_bel BK338.out hb); have n15_ := Aside0.mk (below_step (by repeat (first | (with_reducible first | exact HB.out | apply below_alloc | apply pw_below_drewN | apply below_drew1 | refine below_set ?_ GE310.out | refine below_set ?_ GE333.out | refine below_set ?_ GE338.out) | exact HB.out)) hb); have n16_ := Aside0.mk (hbox); have n17_ := Aside0.mk ((by rw [hg]; exact (below_size (by repeat (first | (with_reducible first | exact HB.out | apply below_alloc | apply pw_below_drewN | apply below_drew1 | refine below_set ?_ GE310.out | refine below_set ?_ GE333.out | refine below_set ?_ GE338.out) | exact HB.out))) : w.heap.size ≤ gb356)); have n18_ := Aside0.mk ((by rw [hg]; exact (below_size (by repeat (first | (with_reducible first | exact HB.out | apply below_alloc | apply pw_below_drewN | apply below_drew1 | refine below_set ?_ GE310.out | refine below_set ?_ GE333.out | refine below_set ?_ GE338.out) | exact HB.out))) : w.heap.size ≤ gb356)); have n19_ := Aside0.mk ((by rw [hg]; exact Nat.ne_of_lt (blk_lt (g := gb310) (o := .cells #[.int .i64 a0_0, .slice A0_1 l0_1.length c0_1] 41 (0, 0)) (by (with_reducible repeat first | apply blk_drewN | apply blk_drew | apply blk_alloc); exact BK310.out)) : gb310 ≠ gb356)); have n20_ := Aside0.mk ((by rw [hg]; exact Nat.ne_of_gt (blk_lt (g := gb310) (o := .cells #[.int .i64 a0_0, .slice A0_1 l0_1.length c0_1] 41 (0, 0)) (by (with_reducible repeat first | apply blk_drewN | apply blk_drew | apply blk_alloc); exact BK310.out)) : gb356 ≠ gb310)); have n21_ := Aside0.mk ((by rw [hg]; exact Nat.ne_of_lt (blk_lt (g := gb333) (o := .cells #[.int .i64 t319, .slice Ao30 t320.length co30, .slice Ao31 t323.length co31, .slice Ao32 t326.length co32, .slice Ao33 t329.length co33] 29 (0, 0)) (by (with_reducible repeat first | apply blk_drewN | apply blk_drew | apply blk_alloc); exact BK333.out)) : gb333 ≠ gb356)); have n22_ := Aside0.mk ((by rw [hg]; exact Nat.ne_of_gt (blk_lt (g := gb333) (o := .cells #[.int .i64 t319, .slice Ao30 t320.length co30, .slice Ao31 t323.length co31, .slice Ao32 t326.length co32, .slice Ao33 t329.length co33] 29 (0, 0)) (by (with_reducible repeat first | apply blk_drewN | apply blk_drew | apply blk_alloc); exact BK333.out)) : gb356 ≠ gb333)); have n23_ := Aside0.mk ((by rw [hg]; exact Nat.ne_of_lt (blk_lt (g := gb338) (o := .cells #[.int .i64 t334, .slice Ao40 t335.length co40] 26 (0, 0)) (by (with_reducible repeat first | apply blk_drewN | apply blk_drew | apply blk_alloc); exact BK338.out)) : gb338 ≠ gb356)); have n24_ := Aside0.mk ((by rw [hg]; exact Nat.ne_of_gt (blk_lt (g := gb338) (o := .cells #[.int .i64 t334, .slice Ao40 t335.length co40] 26 (0, 0)) (by (with_reducible repeat first | apply blk_drewN | apply blk_drew | apply blk_alloc); exact BK338.out)) : gb356 ≠ gb338)); clear HO315; clear HO318; clear HO322; clear HO325; clear HO328; clear HO331; clear HO337; clear HO341; clear HO345; clear HO348; clear HO351; clear HO354; clear BK310; clear BK333; clear BK338; clear HB; have HO315 := n0_; have HO318 := n1_; have HO322 := n2_; have HO325 := n3_; have HO328 := n4_; have HO331 := n5_; have HO337 := n6_; have HO341 := n7_; have HO345 := n8_; have HO348 := n9_; have HO351 := n10_; have HO354 := n11_; have BK310 := n12_; have BK333 := n13_; have BK338 := n14_; have HB := n15_; have BK356 := n16_; have GW356 := n17_; have GE356 := n18_; have NB310_356 := n19_; have NB356_310 := n20_; have NB333_356 := n21_; have NB356_333 := n22_; have NB338_356 := n23_; have NB356_338 := n24_; clear n0_ n1_ n2_ n3_ n4_ n5_ n6_ n7_ n8_ n9_ n10_ n11_ n12_ n13_ n14_ n15_ n16_ n17_ n18_ n19_ n20_ n21_ n22_ n23_ n24_; clear hb hbox hg; have hnb46 := NB356_310.out; have hnc46 := NB310_356.out; have hnb47 := NB356_333.out; have hnc47 := NB333_356.out; have hnb48 := NB356_338.out; have hnc48 := NB338_356.out; have hcz49_0 : w45.cell? ⟨gb356, 0, none⟩ = some (.int .i64 0) := (blk_cell BK356.out 0).trans rfl; have hcz49_1 : w45.cell? ⟨gb356, 1, none⟩ = some (.slice none 0 0) := (blk_cell BK356.out 1).trans rfl; have hcz49_2 : w45.cell? ⟨gb356, 2, none⟩ = some (.slice none 0 0) := (blk_cell BK356.out 2).trans rfl; have hcz49_3 : w45.cell? ⟨gb356, 3, none⟩ = some (.slice none 0 0) := (blk_cell BK356.out 3).trans rfl; have hcz49_4 : w45.cell? ⟨gb356, 4, none⟩ = some (.slice none 0 0) := (blk_cell BK356.out 4).trans rfl; have hfz49_0 := blk_frozen BK356.out 0; have hfz49_1 := blk_frozen BK356.out 1; have hfz49_2 := blk_frozen BK356.out 2; have hfz49_3 := blk_frozen BK356.out 3; have hfz49_4 := blk_frozen BK356.out 4; obtain ⟨Ao50, co50, eo50⟩ := Kd.R_slice HO345.out; subst eo50; obtain ⟨Ao51, co51, eo51⟩ := Kd.R_slice HO348.out; subst eo51; obtain ⟨Ao52, co52, eo52⟩ := Kd.R_slice HO351.out; subst eo52; obtain ⟨Ao53, co53, eo53⟩ := Kd.R_slice HO354.out; subst eo53))
   (try simp only [Act.put, q1_, q2_, q3_])
   go_cut [55] (fun v55 wc => ∃ (kq : Nat) (x55_16 : Bool), v55 = .bool x55_16 ∧ Aside0 (laws_FnExactFillState.j0 kq l1 a2 t332 t339 t355 x55_16 a0_0 l0_1 t319 t320 t323 t326 t329 t334 t335 t342 t343 t346 t349 t352 = some r) ∧ Aside0 (kq ≤ k) ∧ Aside0 (Kd.R (Kd.int .i64) 3 wc w.heap.size (fun k_ => some k_ ≠ ((.slice Ao31 t323.length co31) : Value).ownBlock ∧ some k_ ≠ ((.slice Ao32 t326.length co32) : Value).ownBlock ∧ some k_ ≠ ((.slice Ao33 t329.length co33) : Value).ownBlock ∧ some k_ ≠ ((.slice Ao51 t346.length co51) : Value).ownBlock ∧ some k_ ≠ ((.slice Ao52 t349.length co52) : Value).ownBlock ∧ some k_ ≠ ((.slice Ao53 t352.length co53) : Value).ownBlock) (.slice Ao43 t339.length co43) t339) ∧ Aside0 (Kd.R k36 36 wc w.heap.size (fun k_ => some k_ ≠ ((.slice Ao40 t335.length co40) : Value).ownBlock ∧ some k_ ≠ ((.slice Ao50 t343.length co50) : Value).ownBlock) (.slice Ao30 t320.length co30) t320) ∧ Aside0 (Kd.R (Kd.int .i64) 3 wc w.heap.size (fun k_ => some k_ ≠ ((.slice Ao43 t339.length co43) : Value).ownBlock ∧ some k_ ≠ ((.slice Ao32 t326.length co32) : Value).ownBlock ∧ some k_ ≠ ((.slice Ao33 t329.length co33) : Value).ownBlock ∧ some k_ ≠ ((.slice Ao51 t346.length co51) : Value).ownBlock ∧ some k_ ≠ ((.slice Ao52 t349.length co52) : Value).ownBlock ∧ some k_ ≠ ((.slice Ao53 t352.length co53) : Value).ownBlock) (.slice Ao31 t323.length co31) t323) ∧ Aside0 (Kd.R (Kd.int .i64) 3 wc w.heap.size (fun k_ => some k_ ≠ ((.slice Ao43 t339.length co43) : Value).ownBlock ∧ some k_ ≠ ((.slice Ao31 t323.length co31) : Value).ownBlock ∧ some k_ ≠ ((.slice Ao33 t329.length co33) : Value).ownBlock ∧ some k_ ≠ ((.slice Ao51 t346.length co51) : Value).ownBlock ∧ some k_ ≠ ((.slice Ao52 t349.length co52) : Value).ownBlock ∧ some k_ ≠ ((.slice Ao53 t352.length co53) : Value).ownBlock) (.slice Ao32 t326.length co32) t326) ∧ Aside0 (Kd.R (Kd.int .i64) 3 wc w.heap.size (fun k_ => some k_ ≠ ((.slice Ao43 t339.length co43) : Value).ownBlock ∧ some k_ ≠ ((.slice Ao31 t323.length co31) : Value).ownBlock ∧ some k_ ≠ ((.slice Ao32 t326.length co32) : Value).ownBlock ∧ some k_ ≠ ((.slice Ao51 t346.length co51) : Value).ownBlock ∧ some k_ ≠ ((.slice Ao52 t349.length co52) : Value).ownBlock ∧ some k_ ≠ ((.slice Ao53 t352.length co53) : Value).ownBlock) (.slice Ao33 t329.length co33) t329) ∧ Aside0 (Kd.R k36 36 wc w.heap.size (fun k_ => some k_ ≠ ((.slice Ao30 t320.length co30) : Value).ownBlock ∧ some k_ ≠ ((.slice Ao50 t343.length co50) : Value).ownBlock) (.slice Ao40 t335.length co40) t335) ∧ Aside0 (Kd.R k36 36 wc w.heap.size (fun k_ => some k_ ≠ ((.slice Ao30 t320.length co30) : Value).ownBlock ∧ some k_ ≠ ((.slice Ao40 t335.length co40) : Value).ownBlock) (.slice Ao50 t343.length co50) t343) ∧ Aside0 (Kd.R (Kd.int .i64) 3 wc w.heap.size (fun k_ => some k_ ≠ ((.slice Ao43 t339.length co43) : Value).ownBlock ∧ some k_ ≠ ((.slice Ao31 t323.length co31) : Value).ownBlock ∧ some k_ ≠ ((.slice Ao32 t326.length co32) : Value).ownBlock ∧ some k_ ≠ ((.slice Ao33 t329.length co33) : Value).ownBlock ∧ some k_ ≠ ((.slice Ao52 t349.length co52) : Value).ownBlock ∧ some k_ ≠ ((.slice Ao53 t352.length co53) : Value).ownBlock) (.slice Ao51 t346.length co51) t346) ∧ Aside0 (Kd.R (Kd.int .i64) 3 wc w.heap.size (fun k_ => some k_ ≠ ((.slice Ao43 t339.length co43) : Value).ownBlock ∧ some k_ ≠ ((.slice Ao31 t323.length co31) : Value).ownBlock ∧ some k_ ≠ ((.slice Ao32 t326.length co32) : Value).ownBlock ∧ some k_ ≠ ((.slice Ao33 t329.length co33) : Value).ownBlock ∧ some k_ ≠ ((.slice Ao51 t346.length co51) : Value).ownBlock ∧ some k_ ≠ ((.slice Ao53 t352.length co53) : Value).ownBlock) (.slice Ao52 t349.length co52) t349) ∧ Aside0 (Kd.R (Kd.int .i64) 3 wc w.heap.size (fun k_ => some k_ ≠ ((.slice Ao43 t339.length co43) : Value).ownBlock ∧ some k_ ≠ ((.slice Ao31 t323.length co31) : Value).ownBlock ∧ some k_ ≠ ((.slice Ao32 t326.length co32) : Value).ownBlock ∧ some k_ ≠ ((.slice Ao33 t329.length co33) : Value).ownBlock ∧ some k_ ≠ ((.slice Ao51 t346.length co51) : Value).ownBlock ∧ some k_ ≠ ((.slice Ao52 t349.length co52) : Value).ownBlock) (.slice Ao53 t352.length co53) t352) ∧ Aside0 (wc.heap[gb310]? = some (.cells #[.int .i64 a0_0, (.slice A0_1 l0_1.length c0_1)] 41 (0, 0))) ∧ Aside0 (wc.heap[gb333]? = some (.cells #[.int .i64 t319, (.slice Ao30 t320.length co30), (.slice Ao31 t323.length co31), (.slice Ao32 t326.length co32), (.slice Ao33 t329.length co33)] 29 (0, 0))) ∧ Aside0 (wc.heap[gb338]? = some (.cells #[.int .i64 t334, (.slice Ao40 t335.length co40)] 26 (0, 0))) ∧ Aside0 (wc.heap[gb356]? = some (.cells #[.int .i64 t342, (.slice Ao50 t343.length co50), (.slice Ao51 t346.length co51), (.slice Ao52 t349.length co52), (.slice Ao53 t352.length co53)] 29 (0, 0))) ∧ Aside0 (Below w.heap.size w wc))
   case first =>
    have H := HC17.out
    clear HC17
    replace H := Option.bind_eq_some_iff.mp H
    obtain ⟨t357, A540, H⟩ := H
    (try dsimp only at H)
    have A54 := Aside0.mk A540
    clear A540
    by_cases c55 : t357 = true
    ·
     subst c55
     have H1 := H; rw [if_pos rfl] at H1
     clear H
     have H := H1
     clear H1
     have H' := Aside0.mk H
     clear H
     have hnb56 := NB356_310.out
     have hnc56 := NB310_356.out
     have hnb57 := NB356_333.out
     have hnc57 := NB333_356.out
     have hnb58 := NB356_338.out
     have hnc58 := NB338_356.out
     have hcz59_0 : w45.cell? ⟨gb356, 0, none⟩ = some (.int .i64 0) := (blk_cell BK356.out 0).trans rfl
     have hcz59_1 : w45.cell? ⟨gb356, 1, none⟩ = some (.slice none 0 0) := (blk_cell BK356.out 1).trans rfl
     have hcz59_2 : w45.cell? ⟨gb356, 2, none⟩ = some (.slice none 0 0) := (blk_cell BK356.out 2).trans rfl
     have hcz59_3 : w45.cell? ⟨gb356, 3, none⟩ = some (.slice none 0 0) := (blk_cell BK356.out 3).trans rfl
     have hcz59_4 : w45.cell? ⟨gb356, 4, none⟩ = some (.slice none 0 0) := (blk_cell BK356.out 4).trans rfl
     have hfz59_0 := blk_frozen BK356.out 0
     have hfz59_1 := blk_frozen BK356.out 1
     have hfz59_2 := blk_frozen BK356.out 2
     have hfz59_3 := blk_frozen BK356.out 3
     have hfz59_4 := blk_frozen BK356.out 4
     have hnb60 := NB333_310.out
     have hnc60 := NB310_333.out
     have hnb61 := NB333_338.out
     have hnc61 := NB338_333.out
     have hcz62_0 : w45.cell? ⟨gb333, 0, none⟩ = some (.int .i64 t319) := (blk_cell BK333.out 0).trans rfl
     have hcz62_1 : w45.cell? ⟨gb333, 1, none⟩ = some (.slice Ao30 t320.length co30) := (blk_cell BK333.out 1).trans rfl
     have hcz62_2 : w45.cell? ⟨gb333, 2, none⟩ = some (.slice Ao31 t323.length co31) := (blk_cell BK333.out 2).trans rfl
     have hcz62_3 : w45.cell? ⟨gb333, 3, none⟩ = some (.slice Ao32 t326.length co32) := (blk_cell BK333.out 3).trans rfl
     have hcz62_4 : w45.cell? ⟨gb333, 4, none⟩ = some (.slice Ao33 t329.length co33) := (blk_cell BK333.out 4).trans rfl
     have hfz62_0 := blk_frozen BK333.out 0
     have hfz62_1 := blk_frozen BK333.out 1
     have hfz62_2 := blk_frozen BK333.out 2
     have hfz62_3 := blk_frozen BK333.out 3
     have hfz62_4 := blk_frozen BK333.out 4
     go_wp2_with (first | ((with_reducible refine gate_callee (f := 25) rfl ?_); refine goesL_ (some 49) rfl rfl Try.func25 (by kernel_rfl) rfl #[.agg #[.int .i64 t342, .slice Ao50 t343.length co50, .slice Ao51 t346.length co51, .slice Ao52 t349.length co52, .slice Ao53 t352.length co53], .agg #[.int .i64 t319, .slice Ao30 t320.length co30, .slice Ao31 t323.length co31, .slice Ao32 t326.length co32, .slice Ao33 t329.length co33]] rfl (by (try simp only [List.map_toArray, List.map_cons, List.map_nil]); first | done | rfl | (simp only [List.length_drop, List.length_take]; rfl)) ?_; (with_reducible refine (laws_eqState.calls k t342 _ _ t343 _ _ t346 _ _ t349 _ _ t352 t319 _ _ t320 _ _ t323 _ _ t326 _ _ t329 true _ ?side1 ?side2 ?side3 ?side4 ?side5 ?side6 ?side7 ?side8 ?side9 ?side10 ?side11 ?side12 ?side13 ?side14 ?side15 ?side16 A54.out).mono ?_); (case side1 => refine (Kd.R_reads' (e := 36) (base := w.heap.size) (ok := fun k_ => (((True ∧ some k_ ≠ (.slice Ao24 t313.length co24 : Value).ownBlock) ∧ some k_ ≠ (.slice Ao30 t320.length co30 : Value).ownBlock) ∧ some k_ ≠ (.slice Ao40 t335.length co40 : Value).ownBlock)) (n := t343.length) (c := co50) ?_).2.2; exact (by (with_reducible repeat first | apply Kd.R_alloc | apply Kd.R_drewN | apply Kd.R_drew); exact (R_far5 HO345.out BK356.out))); (case side2 => exact (Kd.R_reads' HO345.out).2.1); (case side3 => refine (Kd.R_reads' (e := 3) (base := w.heap.size) (ok := fun k_ => ((((((some k_ ≠ (.slice Ao52 t349.length co52 : Value).ownBlock ∧ some k_ ≠ (.slice Ao53 t352.length co53 : Value).ownBlock) ∧ some k_ ≠ (.slice Ao25 t316.length co25 : Value).ownBlock) ∧ some k_ ≠ (.slice Ao31 t323.length co31 : Value).ownBlock) ∧ some k_ ≠ (.slice Ao32 t326.length co32 : Value).ownBlock) ∧ some k_ ≠ (.slice Ao33 t329.length co33 : Value).ownBlock) ∧ some k_ ≠ (.slice Ao43 t339.length co43 : Value).ownBlock)) (n := t346.length) (c := co51) ?_).2.2; exact (by (with_reducible repeat first | apply Kd.R_alloc | apply Kd.R_drewN | apply Kd.R_drew); exact (R_far5 HO348.out BK356.out))); (case side4 => exact (Kd.R_reads' HO348.out).2.1); (case side5 => refine (Kd.R_reads' (e := 3) (base := w.heap.size) (ok := fun k_ => ((((((some k_ ≠ (.slice Ao51 t346.length co51 : Value).ownBlock ∧ some k_ ≠ (.slice Ao53 t352.length co53 : Value).ownBlock) ∧ some k_ ≠ (.slice Ao25 t316.length co25 : Value).ownBlock) ∧ some k_ ≠ (.slice Ao31 t323.length co31 : Value).ownBlock) ∧ some k_ ≠ (.slice Ao32 t326.length co32 : Value).ownBlock) ∧ some k_ ≠ (.slice Ao33 t329.length co33 : Value).ownBlock) ∧ some k_ ≠ (.slice Ao43 t339.length co43 : Value).ownBlock)) (n := t349.length) (c := co52) ?_).2.2; exact (by (with_reducible repeat first | apply Kd.R_alloc | apply Kd.R_drewN | apply Kd.R_drew); exact (R_far5 HO351.out BK356.out))); (case side6 => exact (Kd.R_reads' HO351.out).2.1); (case side7 => refine (Kd.R_reads' (e := 3) (base := w.heap.size) (ok := fun k_ => ((((((some k_ ≠ (.slice Ao51 t346.length co51 : Value).ownBlock ∧ some k_ ≠ (.slice Ao52 t349.length co52 : Value).ownBlock) ∧ some k_ ≠ (.slice Ao25 t316.length co25 : Value).ownBlock) ∧ some k_ ≠ (.slice Ao31 t323.length co31 : Value).ownBlock) ∧ some k_ ≠ (.slice Ao32 t326.length co32 : Value).ownBlock) ∧ some k_ ≠ (.slice Ao33 t329.length co33 : Value).ownBlock) ∧ some k_ ≠ (.slice Ao43 t339.length co43 : Value).ownBlock)) (n := t352.length) (c := co53) ?_).2.2; exact (by (with_reducible repeat first | apply Kd.R_alloc | apply Kd.R_drewN | apply Kd.R_drew); exact (R_far5 HO354.out BK356.out))); (case side8 => exact (Kd.R_reads' HO354.out).2.1); (case side9 => refine (Kd.R_reads' (e := 36) (base := w.heap.size) (ok := fun k_ => (((True ∧ some k_ ≠ (.slice Ao24 t313.length co24 : Value).ownBlock) ∧ some k_ ≠ (.slice Ao40 t335.length co40 : Value).ownBlock) ∧ some k_ ≠ (.slice Ao50 t343.length co50 : Value).ownBlock)) (n := t320.length) (c := co30) ?_).2.2; exact (by (with_reducible repeat first | apply Kd.R_alloc | apply Kd.R_drewN | apply Kd.R_drew); exact (R_far5 HO322.out BK356.out))); (case side10 => exact (Kd.R_reads' HO322.out).2.1); (case side11 => refine (Kd.R_reads' (e := 3) (base := w.heap.size) (ok := fun k_ => ((((((some k_ ≠ (.slice Ao32 t326.length co32 : Value).ownBlock ∧ some k_ ≠ (.slice Ao33 t329.length co33 : Value).ownBlock) ∧ some k_ ≠ (.slice Ao25 t316.length co25 : Value).ownBlock) ∧ some k_ ≠ (.slice Ao43 t339.length co43 : Value).ownBlock) ∧ some k_ ≠ (.slice Ao51 t346.length co51 : Value).ownBlock) ∧ some k_ ≠ (.slice Ao52 t349.length co52 : Value).ownBlock) ∧ some k_ ≠ (.slice Ao53 t352.length co53 : Value).ownBlock)) (n := t323.length) (c := co31) ?_).2.2; exact (by (with_reducible repeat first | apply Kd.R_alloc | apply Kd.R_drewN | apply Kd.R_drew); exact (R_far5 HO325.out BK356.out))); (case side12 => exact (Kd.R_reads' HO325.out).2.1); (case side13 => refine (Kd.R_reads' (e := 3) (base := w.heap.size) (ok := fun k_ => ((((((some k_ ≠ (.slice Ao31 t323.length co31 : Value).ownBlock ∧ some k_ ≠ (.slice Ao33 t329.length co33 : Value).ownBlock) ∧ some k_ ≠ (.slice Ao25 t316.length co25 : Value).ownBlock) ∧ some k_ ≠ (.slice Ao43 t339.length co43 : Value).ownBlock) ∧ some k_ ≠ (.slice Ao51 t346.length co51 : Value).ownBlock) ∧ some k_ ≠ (.slice Ao52 t349.length co52 : Value).ownBlock) ∧ some k_ ≠ (.slice Ao53 t352.length co53 : Value).ownBlock)) (n := t326.length) (c := co32) ?_).2.2; exact (by (with_reducible repeat first | apply Kd.R_alloc | apply Kd.R_drewN | apply Kd.R_drew); exact (R_far5 HO328.out BK356.out))); (case side14 => exact (Kd.R_reads' HO328.out).2.1); (case side15 => refine (Kd.R_reads' (e := 3) (base := w.heap.size) (ok := fun k_ => ((((((some k_ ≠ (.slice Ao31 t323.length co31 : Value).ownBlock ∧ some k_ ≠ (.slice Ao32 t326.length co32 : Value).ownBlock) ∧ some k_ ≠ (.slice Ao25 t316.length co25 : Value).ownBlock) ∧ some k_ ≠ (.slice Ao43 t339.length co43 : Value).ownBlock) ∧ some k_ ≠ (.slice Ao51 t346.length co51 : Value).ownBlock) ∧ some k_ ≠ (.slice Ao52 t349.length co52 : Value).ownBlock) ∧ some k_ ≠ (.slice Ao53 t352.length co53 : Value).ownBlock)) (n := t329.length) (c := co33) ?_).2.2; exact (by (with_reducible repeat first | apply Kd.R_alloc | apply Kd.R_drewN | apply Kd.R_drew); exact (R_far5 HO331.out BK356.out))); (case side16 => exact (Kd.R_reads' HO331.out).2.1); rintro e w63 ⟨rfl, hb⟩; refine ⟨_, rfl, ?_⟩; have n0_ := Aside0.mk (Kd.R_below (by (with_reducible repeat first | apply Kd.R_alloc | apply Kd.R_drewN | apply Kd.R_drew); exact (R_far5 HO315.out BK356.out)) hb); have n1_ := Aside0.mk (Kd.R_below (by (with_reducible repeat first | apply Kd.R_alloc | apply Kd.R_drewN | apply Kd.R_drew); exact (R_far5 HO318.out BK356.out)) hb); have n2_ := Aside0.mk (Kd.R_below (by (with_reducible repeat first | apply Kd.R_alloc | apply Kd.R_drewN | apply Kd.R_drew); exact (R_far5 HO322.out BK356.out)) hb); have n3_ := Aside0.mk (Kd.R_below (by (with_reducible repeat first | apply Kd.R_alloc | apply Kd.R_drewN | apply Kd.R_drew); exact (R_far5 HO325.out BK356.out)) hb); have n4_ := Aside0.mk (Kd.R_below (by (with_reducible repeat first | apply Kd.R_alloc | apply Kd.R_drewN | apply Kd.R_drew); exact (R_far5 HO328.out BK356.out)) hb); have n5_ := Aside0.mk (Kd.R_below (by (with_reducible repeat first | apply Kd.R_alloc | apply Kd.R_drewN | apply Kd.R_drew); exact (R_far5 HO331.out BK356.out)) hb); have n6_ := Aside0.mk (Kd.R_below (by (with_reducible repeat first | apply Kd.R_alloc | apply Kd.R_drewN | apply Kd.R_drew); exact (R_far5 HO337.out BK356.out)) hb); have n7_ := Aside0.mk (Kd.R_below (by (with_reducible repeat first | apply Kd.R_alloc | apply Kd.R_drewN | apply Kd.R_drew); exact (R_far5 HO341.out BK356.out)) hb); have n8_ := Aside0.mk (Kd.R_below (by (with_reducible repeat first | apply Kd.R_alloc | apply Kd.R_drewN | apply Kd.R_drew); exact (R_far5 HO345.out BK356.out)) hb); have n9_ := Aside0.mk (Kd.R_below (by (with_reducible repeat first | apply Kd.R_alloc | apply Kd.R_drewN | apply Kd.R_drew); exact (R_far5 HO348.out BK356.out)) hb); have n10_ := Aside0.mk (Kd.R_below (by (with_reducible repeat first | apply Kd.R_alloc | apply Kd.R_drewN | apply Kd.R_drew); exact (R_far5 HO351.out BK356.out)) hb); have n11_ := Aside0.mk (Kd.R_below (by (with_reducible repeat first | apply Kd.R_alloc | apply Kd.R_drewN | apply Kd.R_drew); exact (R_far5 HO354.out BK356.out)) hb); have n12_ := Aside0.mk (blk_below (g := gb310) (o := .cells #[.int .i64 a0_0, .slice A0_1 l0_1.length c0_1] 41 (0, 0)) (by (with_reducible repeat first | apply blk_drewN | apply blk_drew | apply blk_alloc); refine blk_far ?_ NB310_356.out _; (with_reducible repeat first | apply blk_drewN | apply blk_drew | apply blk_alloc); refine blk_far ?_ NB310_356.out _; (with_reducible repeat first | apply blk_drewN | apply blk_drew | apply blk_alloc); refine blk_far ?_ NB310_356.out _; (with_reducible repeat first | apply blk_drewN | apply blk_drew | apply blk_alloc); refine blk_far ?_ NB310_356.out _; (with_reducible repeat first | apply blk_drewN | apply blk_drew | apply blk_alloc); refine blk_far ?_ NB310_356.out _; (with_reducible repeat first | apply blk_drewN | apply blk_drew | apply blk_alloc); exact BK310.out) hb); have n13_ := Aside0.mk (blk_below (g := gb333) (o := .cells #[.int .i64 t319, .slice Ao30 t320.length co30, .slice Ao31 t323.length co31, .slice Ao32 t326.length co32, .slice Ao33 t329.length co33] 29 (0, 0)) (by (with_reducible repeat first | apply blk_drewN | apply blk_drew | apply blk_alloc); refine blk_far ?_ NB333_356.out _; (with_reducible repeat first | apply blk_drewN | apply blk_drew | apply blk_alloc); refine blk_far ?_ NB333_356.out _; (with_reducible repeat first | apply blk_drewN | apply blk_drew | apply blk_alloc); refine blk_far ?_ NB333_356.out _; (with_reducible repeat first | apply blk_drewN | apply blk_drew | apply blk_alloc); refine blk_far ?_ NB333_356.out _; (with_reducible repeat first | apply blk_drewN | apply blk_drew | apply blk_alloc); refine blk_far ?_ NB333_356.out _; (with_reducible repeat first | apply blk_drewN | apply blk_drew | apply blk_alloc); exact BK333.out) hb); have n14_ := Aside0.mk (blk_below (g := gb338) (o := .cells #[.int .i64 t334, .slice Ao40 t335.length co40] 26 (0, 0)) (by (with_reducible repeat first | apply blk_drewN | apply blk_drew | apply blk_alloc); refine blk_far ?_ NB338_356.out _; (with_reducible repeat first | apply blk_drewN | apply blk_drew | apply blk_alloc); refine blk_far ?_ NB338_356.out _; (with_reducible repeat first | apply blk_drewN | apply blk_drew | apply blk_alloc); refine blk_far ?_ NB338_356.out _; (with_reducible repeat first | apply blk_drewN | apply blk_drew | apply blk_alloc); refine blk_far ?_ NB338_356.out _; (with_reducible repeat first | apply blk_drewN | apply blk_drew | apply blk_alloc); refine blk_far ?_ NB338_356.out _; (with_reducible repeat first | apply blk_drewN | apply blk_drew | apply blk_alloc); exact BK338.out) hb); have n15_ := Aside0.mk (blk_below (g := gb356) (o := .cells #[.int .i64 t342, .slice Ao50 t343.length co50, .slice Ao51 t346.length co51, .slice Ao52 t349.length co52, .slice Ao53 t352.length co53] 29 (0, 0)) (by (with_reducible repeat first | apply blk_drewN | apply blk_drew | apply blk_alloc); refine blk_put (cs := #[.int .i64 t342, .slice Ao50 t343.length co50, .slice Ao51 t346.length co51, .slice Ao52 t349.length co52, .slice none 0 0]) ?_ 4 _ rfl; (with_reducible repeat first | apply blk_drewN | apply blk_drew | apply blk_alloc); refine blk_put (cs := #[.int .i64 t342, .slice Ao50 t343.length co50, .slice Ao51 t346.length co51, .slice none 0 0, .slice none 0 0]) ?_ 3 _ rfl; (with_reducible repeat first | apply blk_drewN | apply blk_drew | apply blk_alloc); refine blk_put (cs := #[.int .i64 t342, .slice Ao50 t343.length co50, .slice none 0 0, .slice none 0 0, .slice none 0 0]) ?_ 2 _ rfl; (with_reducible repeat first | apply blk_drewN | apply blk_drew | apply blk_alloc); refine blk_put (cs := #[.int .i64 t342, .slice none 0 0, .slice none 0 0, .slice none 0 0, .slice none 0 0]) ?_ 1 _ rfl; (with_reducible repeat first | apply blk_drewN | apply blk_drew | apply blk_alloc); refine blk_put (cs := #[.int .i64 0, .slice none 0 0, .slice none 0 0, .slice none 0 0, .slice none 0 0]) ?_ 0 _ rfl; (with_reducible repeat first | apply blk_drewN | apply blk_drew | apply blk_alloc); exact BK356.out) hb); have n16_ := Aside0.mk (below_step (by repeat (first | (with_reducible first | exact HB.out | apply below_alloc | apply pw_below_drewN | apply below_drew1 | refine below_set ?_ GE310.out | refine below_set ?_ GE333.out | refine below_set ?_ GE338.out | refine below_set ?_ GE356.out) | exact HB.out)) hb); clear HO315; clear HO318; clear HO322; clear HO325; clear HO328; clear HO331; clear HO337; clear HO341; clear HO345; clear HO348; clear HO351; clear HO354; clear BK310; clear BK333; clear BK338; clear BK356; clear HB; have HO315 := n0_; have HO318 := n1_; have HO322 := n2_; have HO325 := n3_; have HO328 := n4_; have HO331 := n5_; have HO337 := n6_; have HO341 := n7_; have HO345 := n8_; have HO348 := n9_; have HO351 := n10_; have HO354 := n11_; have BK310 := n12_; have BK333 := n13_; have BK338 := n14_; have BK356 := n15_; have HB := n16_; clear n0_ n1_ n2_ n3_ n4_ n5_ n6_ n7_ n8_ n9_ n10_ n11_ n12_ n13_ n14_ n15_ n16_; (try clear hb); (try clear hb2); (try clear hk); (try clear hi)))
     go_meet
     case rel => exact ⟨_, ((t355 != t332)), (by first | rfl | (simp; done) | (simp [*]; done)), H', ⟨by first | omega | exact Nat.le_refl _⟩, ⟨by (with_reducible repeat first | apply Kd.R_alloc | apply Kd.R_drewN | apply Kd.R_drew); exact Kd.R_mono HO341.out (fun _ hk => ⟨hk.1.1.1.1.1.2, ⟨hk.1.1.1.1.2, ⟨hk.1.1.1.2, ⟨hk.1.1.2, ⟨hk.1.2, hk.2⟩⟩⟩⟩⟩)⟩, ⟨by (with_reducible repeat first | apply Kd.R_alloc | apply Kd.R_drewN | apply Kd.R_drew); exact Kd.R_mono HO322.out (fun _ hk => ⟨hk.1.2, hk.2⟩)⟩, ⟨by (with_reducible repeat first | apply Kd.R_alloc | apply Kd.R_drewN | apply Kd.R_drew); exact Kd.R_mono HO325.out (fun _ hk => ⟨hk.1.1.1.2, ⟨hk.1.1.1.1.1.1, ⟨hk.1.1.1.1.1.2, ⟨hk.1.1.2, ⟨hk.1.2, hk.2⟩⟩⟩⟩⟩)⟩, ⟨by (with_reducible repeat first | apply Kd.R_alloc | apply Kd.R_drewN | apply Kd.R_drew); exact Kd.R_mono HO328.out (fun _ hk => ⟨hk.1.1.1.2, ⟨hk.1.1.1.1.1.1, ⟨hk.1.1.1.1.1.2, ⟨hk.1.1.2, ⟨hk.1.2, hk.2⟩⟩⟩⟩⟩)⟩, ⟨by (with_reducible repeat first | apply Kd.R_alloc | apply Kd.R_drewN | apply Kd.R_drew); exact Kd.R_mono HO331.out (fun _ hk => ⟨hk.1.1.1.2, ⟨hk.1.1.1.1.1.1, ⟨hk.1.1.1.1.1.2, ⟨hk.1.1.2, ⟨hk.1.2, hk.2⟩⟩⟩⟩⟩)⟩, ⟨by (with_reducible repeat first | apply Kd.R_alloc | apply Kd.R_drewN | apply Kd.R_drew); exact Kd.R_mono HO337.out (fun _ hk => ⟨hk.1.2, hk.2⟩)⟩, ⟨by (with_reducible repeat first | apply Kd.R_alloc | apply Kd.R_drewN | apply Kd.R_drew); exact Kd.R_mono HO345.out (fun _ hk => ⟨hk.1.2, hk.2⟩)⟩, ⟨by (with_reducible repeat first | apply Kd.R_alloc | apply Kd.R_drewN | apply Kd.R_drew); exact Kd.R_mono HO348.out (fun _ hk => ⟨hk.2, ⟨hk.1.1.1.2, ⟨hk.1.1.2, ⟨hk.1.2, ⟨hk.1.1.1.1.1.1, hk.1.1.1.1.1.2⟩⟩⟩⟩⟩)⟩, ⟨by (with_reducible repeat first | apply Kd.R_alloc | apply Kd.R_drewN | apply Kd.R_drew); exact Kd.R_mono HO351.out (fun _ hk => ⟨hk.2, ⟨hk.1.1.1.2, ⟨hk.1.1.2, ⟨hk.1.2, ⟨hk.1.1.1.1.1.1, hk.1.1.1.1.1.2⟩⟩⟩⟩⟩)⟩, ⟨by (with_reducible repeat first | apply Kd.R_alloc | apply Kd.R_drewN | apply Kd.R_drew); exact Kd.R_mono HO354.out (fun _ hk => ⟨hk.2, ⟨hk.1.1.1.2, ⟨hk.1.1.2, ⟨hk.1.2, ⟨hk.1.1.1.1.1.1, hk.1.1.1.1.1.2⟩⟩⟩⟩⟩)⟩, ⟨by (with_reducible repeat first | apply blk_drewN | apply blk_drew | apply blk_alloc); exact BK310.out⟩, ⟨by (with_reducible repeat first | apply blk_drewN | apply blk_drew | apply blk_alloc); exact BK333.out⟩, ⟨by (with_reducible repeat first | apply blk_drewN | apply blk_drew | apply blk_alloc); exact BK338.out⟩, ⟨by (with_reducible repeat first | apply blk_drewN | apply blk_drew | apply blk_alloc); exact BK356.out⟩, ⟨by repeat (first | (with_reducible first | exact HB.out | apply below_alloc | apply pw_below_drewN | apply below_drew1 | refine below_set ?_ GE310.out | refine below_set ?_ GE333.out | refine below_set ?_ GE338.out | refine below_set ?_ GE356.out) | exact HB.out)⟩⟩
    ·
     replace c55 := Bool.eq_false_iff.mpr c55
     subst c55
     have H1 := H; rw [if_neg (show ¬ (false = true) by decide)] at H1
     clear H
     have H := H1
     clear H1
     refine absurd H ?_
     first | apply laws_FnExactFillState.j0_dead | apply laws_FnExactFillState.j1_dead | apply laws_FnExactFillState.j2_dead
   case rest =>
    clear HC17
    try clear c1
    try clear c2
    try clear p2
    try clear c3
    try clear c4
    try clear c4b0
    try clear c4b1
    try clear c5
    try clear c6
    try clear c7
    try clear c7b0
    try clear c11
    try clear c25
    try clear c28
    try clear c31
    try clear c36
    try clear c37
    try clear c38
    try clear c39
    try clear c46
    try clear c47
    try clear c48
    try clear c55
    try clear c56
    try clear c57
    try clear c58
    try clear c60
    try clear c61
    try clear c64
    try clear c65
    try clear c66
    try clear c68
    try clear c69
    try clear hcz19_0
    try clear hcz19_1
    try clear hcz21_0
    try clear hcz21_1
    try clear hcz29_0
    try clear hcz29_1
    try clear hcz29_2
    try clear hcz29_3
    try clear hcz29_4
    try clear hcz34_0
    try clear hcz34_1
    try clear hcz39_0
    try clear hcz39_1
    try clear hcz42_0
    try clear hcz42_1
    try clear hcz49_0
    try clear hcz49_1
    try clear hcz49_2
    try clear hcz49_3
    try clear hcz49_4
    try clear hcz59_0
    try clear hcz59_1
    try clear hcz59_2
    try clear hcz59_3
    try clear hcz59_4
    try clear hcz62_0
    try clear hcz62_1
    try clear hcz62_2
    try clear hcz62_3
    try clear hcz62_4
    try clear hcz67_0
    try clear hcz67_1
    try clear hcz67_2
    try clear hcz67_3
    try clear hcz67_4
    try clear hcz70_0
    try clear hcz70_1
    try clear hcz70_2
    try clear hcz70_3
    try clear hcz70_4
    try clear hcz9_0
    try clear hcz9_1
    obtain ⟨kq, x55_16, rfl, HA, HJ16, HO_11, HO_334001, HO_334002, HO_334003, HO_334004, HO_339001, HO_357001, HO_357002, HO_357003, HO_357004, BK310, BK333, BK338, BK356, HB⟩ := hcut
    cases kq with
    | zero => exact absurd HA.out (by simp [laws_FnExactFillState.j0])
    | succ kj16 =>
     have H := HA.out
     clear HA
     simp only [laws_FnExactFillState.j0] at H
     by_cases c72 : x55_16 = true
     ·
      subst c72
      have H1 : (none) = some r := by rw [if_pos rfl] at H; exact H
      clear H
      have H := H1
      clear H1
      exact absurd H (by simp)
     ·
      replace c72 := Bool.eq_false_iff.mpr c72
      subst c72
      have H1 := H; rw [if_neg (show ¬ (false = true) by decide)] at H1
      clear H
      have H := H1
      clear H1
      replace H := Option.bind_eq_some_iff.mp H
      obtain ⟨⟨t358, t359⟩, A730, H⟩ := H
      (try dsimp only at H)
      have A73 := Aside0.mk A730
      clear A730
      replace H := Option.bind_eq_some_iff.mp H
      obtain ⟨t362, A740, H⟩ := H
      (try dsimp only at H)
      have A74 := Aside0.mk A740
      clear A740
      by_cases c75 : t362 = true
      ·
       subst c75
       have H1 := H; rw [if_pos rfl] at H1
       clear H
       have H := H1
       clear H1
       replace H := Option.bind_eq_some_iff.mp H
       obtain ⟨t363, A760, H⟩ := H
       (try dsimp only at H)
       have A76 := Aside0.mk A760
       clear A760
       replace H := Option.bind_eq_some_iff.mp H
       obtain ⟨t366, A770, H⟩ := H
       (try dsimp only at H)
       have A77 := Aside0.mk A770
       clear A770
       by_cases c78 : t366 = true
       ·
        subst c78
        have H1 := H; rw [if_pos rfl] at H1
        clear H
        have H := H1
        clear H1
        replace H := Option.bind_eq_some_iff.mp H
        obtain ⟨⟨t367, t368⟩, A790, H⟩ := H
        (try dsimp only at H)
        have A79 := Aside0.mk A790
        clear A790
        replace H := Option.bind_eq_some_iff.mp H
        obtain ⟨⟨t369, t370⟩, A800, H⟩ := H
        (try dsimp only at H)
        have A80 := Aside0.mk A800
        clear A800
        have HC81 := Aside0.mk H
        clear H
        try go_wp2
        have n0_ := Aside0.mk (Kd.R_drew HO_11.out)
        have n1_ := Aside0.mk (Kd.R_drew HO_334001.out)
        have n2_ := Aside0.mk (Kd.R_drew HO_334002.out)
        have n3_ := Aside0.mk (Kd.R_drew HO_334003.out)
        have n4_ := Aside0.mk (Kd.R_drew HO_334004.out)
        have n5_ := Aside0.mk (Kd.R_drew HO_339001.out)
        have n6_ := Aside0.mk (Kd.R_drew HO_357001.out)
        have n7_ := Aside0.mk (Kd.R_drew HO_357002.out)
        have n8_ := Aside0.mk (Kd.R_drew HO_357003.out)
        have n9_ := Aside0.mk (Kd.R_drew HO_357004.out)
        have n10_ := Aside0.mk (blk_drew BK310.out)
        have n11_ := Aside0.mk (blk_drew BK333.out)
        have n12_ := Aside0.mk (blk_drew BK338.out)
        have n13_ := Aside0.mk (blk_drew BK356.out)
        have n14_ := Aside0.mk (below_drew1 HB.out)
        clear HO_11
        clear HO_334001
        clear HO_334002
        clear HO_334003
        clear HO_334004
        clear HO_339001
        clear HO_357001
        clear HO_357002
        clear HO_357003
        clear HO_357004
        clear BK310
        clear BK333
        clear BK338
        clear BK356
        clear HB
        have HO_11 := n0_
        have HO_334001 := n1_
        have HO_334002 := n2_
        have HO_334003 := n3_
        have HO_334004 := n4_
        have HO_339001 := n5_
        have HO_357001 := n6_
        have HO_357002 := n7_
        have HO_357003 := n8_
        have HO_357004 := n9_
        have BK310 := n10_
        have BK333 := n11_
        have BK338 := n12_
        have BK356 := n13_
        have HB := n14_
        clear n0_ n1_ n2_ n3_ n4_ n5_ n6_ n7_ n8_ n9_ n10_ n11_ n12_ n13_ n14_
        refine start_ (n := 5) (S := fun w' => w'.cell? ⟨gb338, 0, none⟩ = some (.int .i64 t334) ∧ w'.cell? ⟨gb338, 1, none⟩ = some (.slice Ao40 t335.length co40) ∧ w'.cell? ⟨gb310, 0, none⟩ = some (.int .i64 a0_0) ∧ w'.cell? ⟨gb310, 1, none⟩ = some (.slice A0_1 l0_1.length c0_1)) (ds := []) #[false, false, false, false, false] (by kernel_rfl) rfl rfl ⟨(blk_cell BK338.out 0).trans rfl, (blk_cell BK338.out 1).trans rfl, (blk_cell BK310.out 0).trans rfl, (blk_cell BK310.out 1).trans rfl⟩ (fun hHeld => ?_)
        generalize wc.drew = w82 at HO_11 HO_334001 HO_334002 HO_334003 HO_334004 HO_339001 HO_357001 HO_357002 HO_357003 HO_357004 BK310 BK333 BK338 BK356 HB hHeld ⊢
        refine take_ (i := 0) (N := some 56) (v := ?_) (a' := ?_) #[true, false, false, false, false] rfl rfl (by kernel_rfl) (fun _ _ _ h => h) (Or.inl ⟨by rfl, ?_⟩) hHeld ?_ ?_
        rotate_left
        ·
         rintro w' ⟨s0, s1, s2, s3⟩
         go_simp
         with_reducible rfl
        rotate_left
        ·
         simp only [Act.put, q1_, q2_, q3_, i64_w, i32_w]
         rfl
        refine take_ (i := 1) (N := some 57) (v := ?_) (a' := ?_) #[true, true, false, false, false] rfl rfl (by kernel_rfl) (fun _ _ _ h => h) (Or.inl ⟨by rfl, ?_⟩) hHeld ?_ ?_
        rotate_left
        ·
         rintro w' ⟨s0, s1, s2, s3⟩
         go_simp
         with_reducible rfl
        rotate_left
        ·
         simp only [Act.put, q1_, q2_, q3_, i64_w, i32_w]
         rfl
        refine one_ (i := 2) (N := some 58) #[true, true, true, false, false] rfl rfl (by kernel_rfl) (by decide) (fun K hK => ?_)
        refine goes_ Try.func38 (by kernel_rfl) rfl #[.agg #[.int .i64 a0_0, .slice A0_1 l0_1.length c0_1]] (by rfl) rfl rfl (by (try simp only [List.map_toArray, List.map_cons, List.map_nil]); first | done | rfl | (simp only [List.length_drop, List.length_take]; rfl)) ?_
        with_reducible refine (laws_toMesh.calls kj16 a0_0 _ _ l0_1 t358 t359 _ ?side1 ?side2 A73.out).mono ?_
        (case side1 => repeat (first | exact (Kd.C_below HR0_1.out HB.out) | (with_reducible refine Kd.C_alloc ?_ _) | (with_reducible refine Kd.C_drewN ?_ _) | (with_reducible refine Kd.C_drew ?_)))
        (case side2 => exact HC0_1.out)
        rintro e w83 ⟨v360, rfl, ho0, hb⟩
        refine ⟨_, rfl, ?_⟩
        have n0_ := Aside0.mk (R_bel HO_11.out hb)
        have n1_ := Aside0.mk (Kd.R_elder' (by (with_reducible repeat first | apply Kd.R_alloc | apply Kd.R_drewN | apply Kd.R_drew); exact HO_334001.out) (Kd.R_base ho0) hb)
        have n2_ := Aside0.mk (R_bel HO_334002.out hb)
        have n3_ := Aside0.mk (R_bel HO_334003.out hb)
        have n4_ := Aside0.mk (R_bel HO_334004.out hb)
        have n5_ := Aside0.mk (Kd.R_elder' (by (with_reducible repeat first | apply Kd.R_alloc | apply Kd.R_drewN | apply Kd.R_drew); exact HO_339001.out) (Kd.R_base ho0) hb)
        have n6_ := Aside0.mk (Kd.R_elder' (by (with_reducible repeat first | apply Kd.R_alloc | apply Kd.R_drewN | apply Kd.R_drew); exact HO_357001.out) (Kd.R_base ho0) hb)
        have n7_ := Aside0.mk (R_bel HO_357002.out hb)
        have n8_ := Aside0.mk (R_bel HO_357003.out hb)
        have n9_ := Aside0.mk (R_bel HO_357004.out hb)
        have n10_ := Aside0.mk (Kd.R_lower (Kd.R_new' (Kd.R_new' (Kd.R_new' ho0 (Kd.R_lt (by (with_reducible repeat first | apply Kd.R_alloc | apply Kd.R_drewN | apply Kd.R_drew); exact HO_334001.out))) (Kd.R_lt (by (with_reducible repeat first | apply Kd.R_alloc | apply Kd.R_drewN | apply Kd.R_drew); exact HO_339001.out))) (Kd.R_lt (by (with_reducible repeat first | apply Kd.R_alloc | apply Kd.R_drewN | apply Kd.R_drew); exact HO_357001.out))) (below_size (by repeat (first | (with_reducible first | exact HB.out | apply below_alloc | apply pw_below_drewN | apply below_drew1 | refine below_set ?_ GE310.out | refine below_set ?_ GE333.out | refine below_set ?_ GE338.out | refine below_set ?_ GE356.out) | exact HB.out))))
        have n11_ := Aside0.mk (blk_bel BK310.out hb)
        have n12_ := Aside0.mk (blk_bel BK333.out hb)
        have n13_ := Aside0.mk (blk_bel BK338.out hb)
        have n14_ := Aside0.mk (blk_bel BK356.out hb)
        have n15_ := Aside0.mk (below_step (by repeat (first | (with_reducible first | exact HB.out | apply below_alloc | apply pw_below_drewN | apply below_drew1 | refine below_set ?_ GE310.out | refine below_set ?_ GE333.out | refine below_set ?_ GE338.out | refine below_set ?_ GE356.out) | exact HB.out)) hb)
        clear HO_11
        clear HO_334001
        clear HO_334002
        clear HO_334003
        clear HO_334004
        clear HO_339001
        clear HO_357001
        clear HO_357002
        clear HO_357003
        clear HO_357004
        clear BK310
        clear BK333
        clear BK338
        clear BK356
        clear HB
        have HO_11 := n0_
        have HO_334001 := n1_
        have HO_334002 := n2_
        have HO_334003 := n3_
        have HO_334004 := n4_
        have HO_339001 := n5_
        have HO_357001 := n6_
        have HO_357002 := n7_
        have HO_357003 := n8_
        have HO_357004 := n9_
        have HO361 := n10_
        have BK310 := n11_
        have BK333 := n12_
        have BK338 := n13_
        have BK356 := n14_
        have HB := n15_
        clear n0_ n1_ n2_ n3_ n4_ n5_ n6_ n7_ n8_ n9_ n10_ n11_ n12_ n13_ n14_ n15_
        (try clear hb)
        (try clear hb2)
        (try clear hk)
        (try clear hi)
        (try clear ho0)
        obtain ⟨Ao84, co84, eo84⟩ := Kd.R_slice HO361.out
        (first | subst eo84 | (injection eo84 with f1_ f2_ f3_; have f4_ := f1_.symm; have f5_ := f3_.symm; clear f1_ f2_ f3_; subst f4_; subst f5_))
        refine hK.out _ _ ⟨(blk_cell BK338.out 0).trans rfl, (blk_cell BK338.out 1).trans rfl, (blk_cell BK310.out 0).trans rfl, (blk_cell BK310.out 1).trans rfl⟩ (fun hHeld => ?_)
        clear hK K
        refine norm_ (a' := ?_) ?_ ?_
        rotate_left
        ·
         show Act.put _ (some 58) _ = _
         simp only [Act.put, q1_, q2_, q3_, i64_w, i32_w]
         rfl
        refine one_ (i := 3) (N := some 59) #[true, true, true, true, false] rfl rfl (by kernel_rfl) (by decide) (fun K hK => ?_)
        refine goes_ Try.func40 (by kernel_rfl) rfl #[.agg #[.int .i64 t334, .slice Ao40 t335.length co40], .agg #[.int .i64 t358, .slice Ao84 t359.length co84]] (by rfl) rfl rfl (by (try simp only [List.map_toArray, List.map_cons, List.map_nil]); first | done | rfl | (simp only [List.length_drop, List.length_take]; rfl)) ?_
        with_reducible refine (laws_eqMesh.calls kj16 t334 _ _ t335 t358 _ _ t359 true _ ?side1 ?side2 ?side3 ?side4 A74.out).mono ?_
        (case side1 => repeat (first | exact (Kd.R_reads' HO_339001.out).2.2 | (with_reducible refine Kd.C_alloc ?_ _) | (with_reducible refine Kd.C_drewN ?_ _) | (with_reducible refine Kd.C_drew ?_)))
        (case side2 => exact (Kd.R_reads' HO_339001.out).2.1)
        (case side3 => repeat (first | exact (Kd.R_reads' HO361.out).2.2 | (with_reducible refine Kd.C_alloc ?_ _) | (with_reducible refine Kd.C_drewN ?_ _) | (with_reducible refine Kd.C_drew ?_)))
        (case side4 => exact (Kd.R_reads' HO361.out).2.1)
        rintro e w85 ⟨rfl, hb⟩
        refine ⟨_, rfl, ?_⟩
        have n0_ := Aside0.mk (R_bel HO_11.out hb)
        have n1_ := Aside0.mk (R_bel HO_334001.out hb)
        have n2_ := Aside0.mk (R_bel HO_334002.out hb)
        have n3_ := Aside0.mk (R_bel HO_334003.out hb)
        have n4_ := Aside0.mk (R_bel HO_334004.out hb)
        have n5_ := Aside0.mk (R_bel HO_339001.out hb)
        have n6_ := Aside0.mk (R_bel HO_357001.out hb)
        have n7_ := Aside0.mk (R_bel HO_357002.out hb)
        have n8_ := Aside0.mk (R_bel HO_357003.out hb)
        have n9_ := Aside0.mk (R_bel HO_357004.out hb)
        have n10_ := Aside0.mk (R_bel HO361.out hb)
        have n11_ := Aside0.mk (blk_bel BK310.out hb)
        have n12_ := Aside0.mk (blk_bel BK333.out hb)
        have n13_ := Aside0.mk (blk_bel BK338.out hb)
        have n14_ := Aside0.mk (blk_bel BK356.out hb)
        have n15_ := Aside0.mk (below_step (by repeat (first | (with_reducible first | exact HB.out | apply below_alloc | apply pw_below_drewN | apply below_drew1 | refine below_set ?_ GE310.out | refine below_set ?_ GE333.out | refine below_set ?_ GE338.out | refine below_set ?_ GE356.out) | exact HB.out)) hb)
        clear HO_11
        clear HO_334001
        clear HO_334002
        clear HO_334003
        clear HO_334004
        clear HO_339001
        clear HO_357001
        clear HO_357002
        clear HO_357003
        clear HO_357004
        clear HO361
        clear BK310
        clear BK333
        clear BK338
        clear BK356
        clear HB
        have HO_11 := n0_
        have HO_334001 := n1_
        have HO_334002 := n2_
        have HO_334003 := n3_
        have HO_334004 := n4_
        have HO_339001 := n5_
        have HO_357001 := n6_
        have HO_357002 := n7_
        have HO_357003 := n8_
        have HO_357004 := n9_
        have HO361 := n10_
        have BK310 := n11_
        have BK333 := n12_
        have BK338 := n13_
        have BK356 := n14_
        have HB := n15_
        clear n0_ n1_ n2_ n3_ n4_ n5_ n6_ n7_ n8_ n9_ n10_ n11_ n12_ n13_ n14_ n15_
        (try clear hb)
        (try clear hb2)
        (try clear hk)
        (try clear hi)
        refine hK.out _ _ ⟨(blk_cell BK338.out 0).trans rfl, (blk_cell BK338.out 1).trans rfl, (blk_cell BK310.out 0).trans rfl, (blk_cell BK310.out 1).trans rfl⟩ (fun hHeld => ?_)
        clear hK K
        refine norm_ (a' := ?_) ?_ ?_
        rotate_left
        ·
         show Act.put _ (some 59) _ = _
         simp only [Act.put, q1_, q2_, q3_, i64_w, i32_w]
         rfl
        refine pure_ (i := 4) (N := some 60) (v := ?_) (a' := ?_) #[true, true, true, true, true] rfl rfl (by kernel_rfl) (fun _ _ _ h => h) (Or.inl ⟨by rfl, ?_⟩) ?_ ?_
        rotate_left
        ·
         intro w'
         go_simp
         with_reducible rfl
        rotate_left
        ·
         simp only [Act.put, q1_, q2_, q3_, i64_w, i32_w]
         rfl
        refine done_ (by kernel_rfl) ?_
        go_upto_region 20 with (first | ((with_reducible refine gate_callee (f := 39) rfl ?_); refine goesL_ (some 63) rfl rfl Try.func39 (by kernel_rfl) rfl #[.slice A1 l1.length c1] rfl (by (try simp only [List.map_toArray, List.map_cons, List.map_nil]); first | done | rfl | (simp only [List.length_drop, List.length_take]; rfl)) ?_; (with_reducible refine (laws_toIntS.calls kj16 _ _ l1 t363 _ ?side1 ?side2 A76.out).mono ?_); (case side1 => repeat (first | exact (Kd.C_below HR1.out HB.out) | (with_reducible refine Kd.C_alloc ?_ _) | (with_reducible refine Kd.C_drewN ?_ _) | (with_reducible refine Kd.C_drew ?_))); (case side2 => exact HC1.out); rintro e w86 ⟨v364, rfl, ho0, hb⟩; refine ⟨_, rfl, ?_⟩; have n0_ := Aside0.mk (Kd.R_elder' (by (with_reducible repeat first | apply Kd.R_alloc | apply Kd.R_drewN | apply Kd.R_drew); exact HO_11.out) (Kd.R_base ho0) hb); have n1_ := Aside0.mk (R_bel HO_334001.out hb); have n2_ := Aside0.mk (Kd.R_elder' (by (with_reducible repeat first | apply Kd.R_alloc | apply Kd.R_drewN | apply Kd.R_drew); exact HO_334002.out) (Kd.R_base ho0) hb); have n3_ := Aside0.mk (Kd.R_elder' (by (with_reducible repeat first | apply Kd.R_alloc | apply Kd.R_drewN | apply Kd.R_drew); exact HO_334003.out) (Kd.R_base ho0) hb); have n4_ := Aside0.mk (Kd.R_elder' (by (with_reducible repeat first | apply Kd.R_alloc | apply Kd.R_drewN | apply Kd.R_drew); exact HO_334004.out) (Kd.R_base ho0) hb); have n5_ := Aside0.mk (R_bel HO_339001.out hb); have n6_ := Aside0.mk (R_bel HO_357001.out hb); have n7_ := Aside0.mk (Kd.R_elder' (by (with_reducible repeat first | apply Kd.R_alloc | apply Kd.R_drewN | apply Kd.R_drew); exact HO_357002.out) (Kd.R_base ho0) hb); have n8_ := Aside0.mk (Kd.R_elder' (by (with_reducible repeat first | apply Kd.R_alloc | apply Kd.R_drewN | apply Kd.R_drew); exact HO_357003.out) (Kd.R_base ho0) hb); have n9_ := Aside0.mk (Kd.R_elder' (by (with_reducible repeat first | apply Kd.R_alloc | apply Kd.R_drewN | apply Kd.R_drew); exact HO_357004.out) (Kd.R_base ho0) hb); have n10_ := Aside0.mk (R_bel HO361.out hb); have n11_ := Aside0.mk (Kd.R_lower (Kd.R_new' (Kd.R_new' (Kd.R_new' (Kd.R_new' (Kd.R_new' (Kd.R_new' (Kd.R_new' ho0 (Kd.R_lt (by (with_reducible repeat first | apply Kd.R_alloc | apply Kd.R_drewN | apply Kd.R_drew); exact HO_11.out))) (Kd.R_lt (by (with_reducible repeat first | apply Kd.R_alloc | apply Kd.R_drewN | apply Kd.R_drew); exact HO_334002.out))) (Kd.R_lt (by (with_reducible repeat first | apply Kd.R_alloc | apply Kd.R_drewN | apply Kd.R_drew); exact HO_334003.out))) (Kd.R_lt (by (with_reducible repeat first | apply Kd.R_alloc | apply Kd.R_drewN | apply Kd.R_drew); exact HO_334004.out))) (Kd.R_lt (by (with_reducible repeat first | apply Kd.R_alloc | apply Kd.R_drewN | apply Kd.R_drew); exact HO_357002.out))) (Kd.R_lt (by (with_reducible repeat first | apply Kd.R_alloc | apply Kd.R_drewN | apply Kd.R_drew); exact HO_357003.out))) (Kd.R_lt (by (with_reducible repeat first | apply Kd.R_alloc | apply Kd.R_drewN | apply Kd.R_drew); exact HO_357004.out))) (below_size (by repeat (first | (with_reducible first | exact HB.out | apply below_alloc | apply pw_below_drewN | apply below_drew1 | refine below_set ?_ GE310.out | refine below_set ?_ GE333.out | refine below_set ?_ GE338.out | refine below_set ?_ GE356.out) | exact HB.out)))); have n12_ := Aside0.mk (blk_bel BK310.out hb); have n13_ := Aside0.mk (blk_bel BK333.out hb); have n14_ := Aside0.mk (blk_bel BK338.out hb); have n15_ := Aside0.mk (blk_bel BK356.out hb); have n16_ := Aside0.mk (below_step (by repeat (first | (with_reducible first | exact HB.out | apply below_alloc | apply pw_below_drewN | apply below_drew1 | refine below_set ?_ GE310.out | refine below_set ?_ GE333.out | refine below_set ?_ GE338.out | refine below_set ?_ GE356.out) | exact HB.out)) hb); clear HO_11; clear HO_334001; clear HO_334002; clear HO_334003; clear HO_334004; clear HO_339001; clear HO_357001; clear HO_357002; clear HO_357003; clear HO_357004; clear HO361; clear BK310; clear BK333; clear BK338; clear BK356; clear HB; have HO_11 := n0_; have HO_334001 := n1_; have HO_334002 := n2_; have HO_334003 := n3_; have HO_334004 := n4_; have HO_339001 := n5_; have HO_357001 := n6_; have HO_357002 := n7_; have HO_357003 := n8_; have HO_357004 := n9_; have HO361 := n10_; have HO365 := n11_; have BK310 := n12_; have BK333 := n13_; have BK338 := n14_; have BK356 := n15_; have HB := n16_; clear n0_ n1_ n2_ n3_ n4_ n5_ n6_ n7_ n8_ n9_ n10_ n11_ n12_ n13_ n14_ n15_ n16_; (try clear hb); (try clear hb2); (try clear hk); (try clear hi); (try clear ho0); obtain ⟨Ao87, co87, eo87⟩ := Kd.R_slice HO365.out; subst eo87) | ((with_reducible refine gate_callee (f := 41) rfl ?_); refine goesL_ (some 64) rfl rfl Try.func41 (by kernel_rfl) rfl #[.slice Ao43 t339.length co43, .slice Ao87 t363.length co87] rfl (by (try simp only [List.map_toArray, List.map_cons, List.map_nil]); first | done | rfl | (simp only [List.length_drop, List.length_take]; rfl)) ?_; (with_reducible refine (laws_eqIntS.calls kj16 _ _ t339 _ _ t363 true _ ?side1 ?side2 ?side3 ?side4 A77.out).mono ?_); (case side1 => repeat (first | exact (Kd.R_reads' HO_11.out).2.2 | (with_reducible refine Kd.C_alloc ?_ _) | (with_reducible refine Kd.C_drewN ?_ _) | (with_reducible refine Kd.C_drew ?_))); (case side2 => exact (Kd.R_reads' HO_11.out).2.1); (case side3 => repeat (first | exact (Kd.R_reads' HO365.out).2.2 | (with_reducible refine Kd.C_alloc ?_ _) | (with_reducible refine Kd.C_drewN ?_ _) | (with_reducible refine Kd.C_drew ?_))); (case side4 => exact (Kd.R_reads' HO365.out).2.1); rintro e w' ⟨rfl, ⟨nd, rfl⟩⟩; refine ⟨_, rfl, ?_⟩; have hnb88 := NB338_310.out; have hnc88 := NB310_338.out; have hnb89 := NB338_333.out; have hnc89 := NB333_338.out; have hnb90 := NB338_356.out; have hnc90 := NB356_338.out; have hcz91_0 : w86.cell? ⟨gb338, 0, none⟩ = some (.int .i64 t334) := (blk_cell BK338.out 0).trans rfl; have hcz91_1 : w86.cell? ⟨gb338, 1, none⟩ = some (.slice Ao40 t335.length co40) := (blk_cell BK338.out 1).trans rfl; have hfz91_0 := blk_frozen BK338.out 0; have hfz91_1 := blk_frozen BK338.out 1) | ((with_reducible refine gate_callee (f := 42) rfl ?_); refine goesL_ (some 68) rfl rfl Try.func42 (by kernel_rfl) rfl #[.agg #[.int .i64 t334, .slice Ao40 t335.length co40], .int .i64 1] rfl (by (try simp only [List.map_toArray, List.map_cons, List.map_nil]); first | done | rfl | (simp only [List.length_drop, List.length_take]; rfl)) ?_; (with_reducible refine (laws_markMesh.calls kj16 t334 (fun k_ => some k_ = (.slice Ao40 t335.length co40 : Value).ownBlock) (.slice Ao40 t335.length co40) t335 1 t367 t368 w _ ?side1 ?side2 A79.out).mono ?_); (case side1 => repeat (first | (with_reducible first | exact HB.out | apply below_alloc | apply pw_below_drewN | apply below_drew1 | refine below_set ?_ GE310.out | refine below_set ?_ GE333.out | refine below_set ?_ GE338.out | refine below_set ?_ GE356.out) | exact HB.out)); (case side2 => exact Kd.R_tight rfl HO_339001.out); rintro e w92 ⟨rfl, hy0, hb, hkp⟩; refine ⟨_, rfl, ?_⟩; have n0_ := Aside0.mk (Kd.R_mono (ok' := fun k_ => some k_ ≠ (.slice Ao31 t323.length co31 : Value).ownBlock ∧ some k_ ≠ (.slice Ao32 t326.length co32 : Value).ownBlock ∧ some k_ ≠ (.slice Ao33 t329.length co33 : Value).ownBlock ∧ some k_ ≠ (.slice Ao51 t346.length co51 : Value).ownBlock ∧ some k_ ≠ (.slice Ao52 t349.length co52 : Value).ownBlock ∧ some k_ ≠ (.slice Ao53 t352.length co53 : Value).ownBlock ∧ some k_ ≠ (.slice Ao87 t363.length co87 : Value).ownBlock) (Kd.R_keptB ((Kd.R_apart' HO_11.out (Kd.R_typed HO_339001.out) (by decide))) hkp (fun k_ hk_ hs_ => (hk_.2) hs_)) (fun k_ hk_ => ⟨hk_.1.1.1.1, hk_.1.1.1.2.1, hk_.1.1.1.2.2.1, hk_.1.1.1.2.2.2.1, hk_.1.1.1.2.2.2.2.1, hk_.1.1.1.2.2.2.2.2, hk_.1.1.2⟩)); have n1_ := Aside0.mk (Kd.R_mono (ok' := fun k_ => some k_ ≠ (.slice Ao40 t335.length co40 : Value).ownBlock ∧ some k_ ≠ (.slice Ao50 t343.length co50 : Value).ownBlock ∧ some k_ ≠ (.slice Ao84 t359.length co84 : Value).ownBlock) (Kd.R_keptB (HO_334001.out) hkp (fun k_ hk_ hs_ => (hk_.1.1) hs_)) (fun k_ hk_ => ⟨hk_.1.1.1, hk_.1.1.2, hk_.1.2⟩)); have n2_ := Aside0.mk (Kd.R_mono (ok' := fun k_ => some k_ ≠ (.slice Ao43 t339.length co43 : Value).ownBlock ∧ some k_ ≠ (.slice Ao32 t326.length co32 : Value).ownBlock ∧ some k_ ≠ (.slice Ao33 t329.length co33 : Value).ownBlock ∧ some k_ ≠ (.slice Ao51 t346.length co51 : Value).ownBlock ∧ some k_ ≠ (.slice Ao52 t349.length co52 : Value).ownBlock ∧ some k_ ≠ (.slice Ao53 t352.length co53 : Value).ownBlock ∧ some k_ ≠ (.slice Ao87 t363.length co87 : Value).ownBlock) (Kd.R_keptB ((Kd.R_apart' HO_334002.out (Kd.R_typed HO_339001.out) (by decide))) hkp (fun k_ hk_ hs_ => (hk_.2) hs_)) (fun k_ hk_ => ⟨hk_.1.1.1.1, hk_.1.1.1.2.1, hk_.1.1.1.2.2.1, hk_.1.1.1.2.2.2.1, hk_.1.1.1.2.2.2.2.1, hk_.1.1.1.2.2.2.2.2, hk_.1.1.2⟩)); have n3_ := Aside0.mk (Kd.R_mono (ok' := fun k_ => some k_ ≠ (.slice Ao43 t339.length co43 : Value).ownBlock ∧ some k_ ≠ (.slice Ao31 t323.length co31 : Value).ownBlock ∧ some k_ ≠ (.slice Ao33 t329.length co33 : Value).ownBlock ∧ some k_ ≠ (.slice Ao51 t346.length co51 : Value).ownBlock ∧ some k_ ≠ (.slice Ao52 t349.length co52 : Value).ownBlock ∧ some k_ ≠ (.slice Ao53 t352.length co53 : Value).ownBlock ∧ some k_ ≠ (.slice Ao87 t363.length co87 : Value).ownBlock) (Kd.R_keptB ((Kd.R_apart' HO_334003.out (Kd.R_typed HO_339001.out) (by decide))) hkp (fun k_ hk_ hs_ => (hk_.2) hs_)) (fun k_ hk_ => ⟨hk_.1.1.1.1, hk_.1.1.1.2.1, hk_.1.1.1.2.2.1, hk_.1.1.1.2.2.2.1, hk_.1.1.1.2.2.2.2.1, hk_.1.1.1.2.2.2.2.2, hk_.1.1.2⟩)); have n4_ := Aside0.mk (Kd.R_mono (ok' := fun k_ => some k_ ≠ (.slice Ao43 t339.length co43 : Value).ownBlock ∧ some k_ ≠ (.slice Ao31 t323.length co31 : Value).ownBlock ∧ some k_ ≠ (.slice Ao32 t326.length co32 : Value).ownBlock ∧ some k_ ≠ (.slice Ao51 t346.length co51 : Value).ownBlock ∧ some k_ ≠ (.slice Ao52 t349.length co52 : Value).ownBlock ∧ some k_ ≠ (.slice Ao53 t352.length co53 : Value).ownBlock ∧ some k_ ≠ (.slice Ao87 t363.length co87 : Value).ownBlock) (Kd.R_keptB ((Kd.R_apart' HO_334004.out (Kd.R_typed HO_339001.out) (by decide))) hkp (fun k_ hk_ hs_ => (hk_.2) hs_)) (fun k_ hk_ => ⟨hk_.1.1.1.1, hk_.1.1.1.2.1, hk_.1.1.1.2.2.1, hk_.1.1.1.2.2.2.1, hk_.1.1.1.2.2.2.2.1, hk_.1.1.1.2.2.2.2.2, hk_.1.1.2⟩)); have n5_ := Aside0.mk (Kd.R_reok rfl hy0 (fun k_ e_ => HO_339001.out.1 k_ e_)); have n6_ := Aside0.mk (Kd.R_mono (ok' := fun k_ => some k_ ≠ (.slice Ao30 t320.length co30 : Value).ownBlock ∧ some k_ ≠ (.slice Ao40 t335.length co40 : Value).ownBlock ∧ some k_ ≠ (.slice Ao84 t359.length co84 : Value).ownBlock) (Kd.R_keptB (HO_357001.out) hkp (fun k_ hk_ hs_ => (hk_.1.2) hs_)) (fun k_ hk_ => ⟨hk_.1.1.1, hk_.1.1.2, hk_.1.2⟩)); have n7_ := Aside0.mk (Kd.R_mono (ok' := fun k_ => some k_ ≠ (.slice Ao43 t339.length co43 : Value).ownBlock ∧ some k_ ≠ (.slice Ao31 t323.length co31 : Value).ownBlock ∧ some k_ ≠ (.slice Ao32 t326.length co32 : Value).ownBlock ∧ some k_ ≠ (.slice Ao33 t329.length co33 : Value).ownBlock ∧ some k_ ≠ (.slice Ao52 t349.length co52 : Value).ownBlock ∧ some k_ ≠ (.slice Ao53 t352.length co53 : Value).ownBlock ∧ some k_ ≠ (.slice Ao87 t363.length co87 : Value).ownBlock) (Kd.R_keptB ((Kd.R_apart' HO_357002.out (Kd.R_typed HO_339001.out) (by decide))) hkp (fun k_ hk_ hs_ => (hk_.2) hs_)) (fun k_ hk_ => ⟨hk_.1.1.1.1, hk_.1.1.1.2.1, hk_.1.1.1.2.2.1, hk_.1.1.1.2.2.2.1, hk_.1.1.1.2.2.2.2.1, hk_.1.1.1.2.2.2.2.2, hk_.1.1.2⟩)); have n8_ := Aside0.mk (Kd.R_mono (ok' := fun k_ => some k_ ≠ (.slice Ao43 t339.length co43 : Value).ownBlock ∧ some k_ ≠ (.slice Ao31 t323.length co31 : Value).ownBlock ∧ some k_ ≠ (.slice Ao32 t326.length co32 : Value).ownBlock ∧ some k_ ≠ (.slice Ao33 t329.length co33 : Value).ownBlock ∧ some k_ ≠ (.slice Ao51 t346.length co51 : Value).ownBlock ∧ some k_ ≠ (.slice Ao53 t352.length co53 : Value).ownBlock ∧ some k_ ≠ (.slice Ao87 t363.length co87 : Value).ownBlock) (Kd.R_keptB ((Kd.R_apart' HO_357003.out (Kd.R_typed HO_339001.out) (by decide))) hkp (fun k_ hk_ hs_ => (hk_.2) hs_)) (fun k_ hk_ => ⟨hk_.1.1.1.1, hk_.1.1.1.2.1, hk_.1.1.1.2.2.1, hk_.1.1.1.2.2.2.1, hk_.1.1.1.2.2.2.2.1, hk_.1.1.1.2.2.2.2.2, hk_.1.1.2⟩)); have n9_ := Aside0.mk (Kd.R_mono (ok' := fun k_ => some k_ ≠ (.slice Ao43 t339.length co43 : Value).ownBlock ∧ some k_ ≠ (.slice Ao31 t323.length co31 : Value).ownBlock ∧ some k_ ≠ (.slice Ao32 t326.length co32 : Value).ownBlock ∧ some k_ ≠ (.slice Ao33 t329.length co33 : Value).ownBlock ∧ some k_ ≠ (.slice Ao51 t346.length co51 : Value).ownBlock ∧ some k_ ≠ (.slice Ao52 t349.length co52 : Value).ownBlock ∧ some k_ ≠ (.slice Ao87 t363.length co87 : Value).ownBlock) (Kd.R_keptB ((Kd.R_apart' HO_357004.out (Kd.R_typed HO_339001.out) (by decide))) hkp (fun k_ hk_ hs_ => (hk_.2) hs_)) (fun k_ hk_ => ⟨hk_.1.1.1.1, hk_.1.1.1.2.1, hk_.1.1.1.2.2.1, hk_.1.1.1.2.2.2.1, hk_.1.1.1.2.2.2.2.1, hk_.1.1.1.2.2.2.2.2, hk_.1.1.2⟩)); have n10_ := Aside0.mk (blk_kp BK310.out hkp (fun hs_ => (fun e_ => (Kd.R_ne HO_339001.out BK310.out (by decide)) e_) hs_)); have n11_ := Aside0.mk (blk_kp BK333.out hkp (fun hs_ => (fun e_ => (Kd.R_ne HO_339001.out BK333.out (by decide)) e_) hs_)); have n12_ := Aside0.mk (blk_kp BK338.out hkp (fun hs_ => (fun e_ => (Kd.R_ne HO_339001.out BK338.out (by decide)) e_) hs_)); have n13_ := Aside0.mk (blk_kp BK356.out hkp (fun hs_ => (fun e_ => (Kd.R_ne HO_339001.out BK356.out (by decide)) e_) hs_)); have n14_ := Aside0.mk (Kd.R_mono (ok' := fun k_ => some k_ ≠ (.slice Ao30 t320.length co30 : Value).ownBlock ∧ some k_ ≠ (.slice Ao40 t335.length co40 : Value).ownBlock ∧ some k_ ≠ (.slice Ao50 t343.length co50 : Value).ownBlock) (Kd.R_keptB (HO361.out) hkp (fun k_ hk_ hs_ => (hk_.1.2) hs_)) (fun k_ hk_ => ⟨hk_.1.1.1.2, hk_.1.1.2, hk_.1.2⟩)); have n15_ := Aside0.mk (Kd.R_mono (ok' := fun k_ => some k_ ≠ (.slice Ao43 t339.length co43 : Value).ownBlock ∧ some k_ ≠ (.slice Ao31 t323.length co31 : Value).ownBlock ∧ some k_ ≠ (.slice Ao32 t326.length co32 : Value).ownBlock ∧ some k_ ≠ (.slice Ao33 t329.length co33 : Value).ownBlock ∧ some k_ ≠ (.slice Ao51 t346.length co51 : Value).ownBlock ∧ some k_ ≠ (.slice Ao52 t349.length co52 : Value).ownBlock ∧ some k_ ≠ (.slice Ao53 t352.length co53 : Value).ownBlock) (Kd.R_keptB ((Kd.R_apart' HO365.out (Kd.R_typed HO_339001.out) (by decide))) hkp (fun k_ hk_ hs_ => (hk_.2) hs_)) (fun k_ hk_ => ⟨hk_.1.1.1.1.1.1.1.1.2, hk_.1.1.1.1.1.1.1.2, hk_.1.1.1.1.1.1.2, hk_.1.1.1.1.1.2, hk_.1.1.1.1.2, hk_.1.1.1.2, hk_.1.1.2⟩)); have n16_ := Aside0.mk (hb); clear HO_11; clear HO_334001; clear HO_334002; clear HO_334003; clear HO_334004; clear HO_339001; clear HO_357001; clear HO_357002; clear HO_357003; clear HO_357004; clear BK310; clear BK333; clear BK338; clear BK356; clear HO361; clear HO365; clear HB; have HO_11 := n0_; have HO_334001 := n1_; have HO_334002 := n2_; have HO_334003 := n3_; have HO_334004 := n4_; have HO_339001 := n5_; have HO_357001 := n6_; have HO_357002 := n7_; have HO_357003 := n8_; have HO_357004 := n9_; have BK310 := n10_; have BK333 := n11_; have BK338 := n12_; have BK356 := n13_; have HO361 := n14_; have HO365 := n15_; have HB := n16_; clear n0_ n1_ n2_ n3_ n4_ n5_ n6_ n7_ n8_ n9_ n10_ n11_ n12_ n13_ n14_ n15_ n16_; (try clear hb); (try clear hkp); (try clear hy0)) | ((with_reducible refine gate_callee (f := 43) rfl ?_); refine goesL_ (some 71) rfl rfl Try.func43 (by kernel_rfl) rfl #[.slice Ao43 t339.length co43, .int .i64 t367] rfl (by (try simp only [List.map_toArray, List.map_cons, List.map_nil]); first | done | rfl | (simp only [List.length_drop, List.length_take]; rfl)) ?_; (with_reducible refine (laws_markIntS.calls kj16 (fun k_ => some k_ = (.slice Ao43 t339.length co43 : Value).ownBlock) (.slice Ao43 t339.length co43) t339 t367 t369 t370 w _ ?side1 ?side2 A80.out).mono ?_); (case side1 => repeat (first | (with_reducible first | exact HB.out | apply below_alloc | apply pw_below_drewN | apply below_drew1 | refine below_set ?_ GE310.out | refine below_set ?_ GE333.out | refine below_set ?_ GE338.out | refine below_set ?_ GE356.out) | exact HB.out)); (case side2 => exact Kd.R_tight rfl HO_11.out); rintro e w93 ⟨rfl, hy0, hb, hkp⟩; refine ⟨_, rfl, ?_⟩; have n0_ := Aside0.mk (Kd.R_reok rfl hy0 (fun k_ e_ => HO_11.out.1 k_ e_)); have n1_ := Aside0.mk (Kd.R_mono (ok' := fun k_ => some k_ ≠ (.slice Ao40 t335.length co40 : Value).ownBlock ∧ some k_ ≠ (.slice Ao50 t343.length co50 : Value).ownBlock ∧ some k_ ≠ (.slice Ao84 t359.length co84 : Value).ownBlock) (Kd.R_keptB ((Kd.R_apart' HO_334001.out (Kd.R_typed HO_11.out) (by decide))) hkp (fun k_ hk_ hs_ => (hk_.2) hs_)) (fun k_ hk_ => ⟨hk_.1.1.1, hk_.1.1.2.1, hk_.1.1.2.2⟩)); have n2_ := Aside0.mk (Kd.R_mono (ok' := fun k_ => some k_ ≠ (.slice Ao43 t339.length co43 : Value).ownBlock ∧ some k_ ≠ (.slice Ao32 t326.length co32 : Value).ownBlock ∧ some k_ ≠ (.slice Ao33 t329.length co33 : Value).ownBlock ∧ some k_ ≠ (.slice Ao51 t346.length co51 : Value).ownBlock ∧ some k_ ≠ (.slice Ao52 t349.length co52 : Value).ownBlock ∧ some k_ ≠ (.slice Ao53 t352.length co53 : Value).ownBlock ∧ some k_ ≠ (.slice Ao87 t363.length co87 : Value).ownBlock) (Kd.R_keptB (HO_334002.out) hkp (fun k_ hk_ hs_ => (hk_.1) hs_)) (fun k_ hk_ => ⟨hk_.1.1, hk_.1.2.1, hk_.1.2.2.1, hk_.1.2.2.2.1, hk_.1.2.2.2.2.1, hk_.1.2.2.2.2.2.1, hk_.1.2.2.2.2.2.2⟩)); have n3_ := Aside0.mk (Kd.R_mono (ok' := fun k_ => some k_ ≠ (.slice Ao43 t339.length co43 : Value).ownBlock ∧ some k_ ≠ (.slice Ao31 t323.length co31 : Value).ownBlock ∧ some k_ ≠ (.slice Ao33 t329.length co33 : Value).ownBlock ∧ some k_ ≠ (.slice Ao51 t346.length co51 : Value).ownBlock ∧ some k_ ≠ (.slice Ao52 t349.length co52 : Value).ownBlock ∧ some k_ ≠ (.slice Ao53 t352.length co53 : Value).ownBlock ∧ some k_ ≠ (.slice Ao87 t363.length co87 : Value).ownBlock) (Kd.R_keptB (HO_334003.out) hkp (fun k_ hk_ hs_ => (hk_.1) hs_)) (fun k_ hk_ => ⟨hk_.1.1, hk_.1.2.1, hk_.1.2.2.1, hk_.1.2.2.2.1, hk_.1.2.2.2.2.1, hk_.1.2.2.2.2.2.1, hk_.1.2.2.2.2.2.2⟩)); have n4_ := Aside0.mk (Kd.R_mono (ok' := fun k_ => some k_ ≠ (.slice Ao43 t339.length co43 : Value).ownBlock ∧ some k_ ≠ (.slice Ao31 t323.length co31 : Value).ownBlock ∧ some k_ ≠ (.slice Ao32 t326.length co32 : Value).ownBlock ∧ some k_ ≠ (.slice Ao51 t346.length co51 : Value).ownBlock ∧ some k_ ≠ (.slice Ao52 t349.length co52 : Value).ownBlock ∧ some k_ ≠ (.slice Ao53 t352.length co53 : Value).ownBlock ∧ some k_ ≠ (.slice Ao87 t363.length co87 : Value).ownBlock) (Kd.R_keptB (HO_334004.out) hkp (fun k_ hk_ hs_ => (hk_.1) hs_)) (fun k_ hk_ => ⟨hk_.1.1, hk_.1.2.1, hk_.1.2.2.1, hk_.1.2.2.2.1, hk_.1.2.2.2.2.1, hk_.1.2.2.2.2.2.1, hk_.1.2.2.2.2.2.2⟩)); have n5_ := Aside0.mk (Kd.R_mono (ok' := fun k_ => some k_ ≠ (.slice Ao30 t320.length co30 : Value).ownBlock ∧ some k_ ≠ (.slice Ao50 t343.length co50 : Value).ownBlock ∧ some k_ ≠ (.slice Ao84 t359.length co84 : Value).ownBlock) (Kd.R_keptB ((Kd.R_apart' HO_339001.out (Kd.R_typed HO_11.out) (by decide))) hkp (fun k_ hk_ hs_ => (hk_.2) hs_)) (fun k_ hk_ => ⟨hk_.1.1.1.1, hk_.1.1.1.2, hk_.1.1.2⟩)); have n6_ := Aside0.mk (Kd.R_mono (ok' := fun k_ => some k_ ≠ (.slice Ao30 t320.length co30 : Value).ownBlock ∧ some k_ ≠ (.slice Ao40 t335.length co40 : Value).ownBlock ∧ some k_ ≠ (.slice Ao84 t359.length co84 : Value).ownBlock) (Kd.R_keptB ((Kd.R_apart' HO_357001.out (Kd.R_typed HO_11.out) (by decide))) hkp (fun k_ hk_ hs_ => (hk_.2) hs_)) (fun k_ hk_ => ⟨hk_.1.1.1, hk_.1.1.2.1, hk_.1.1.2.2⟩)); have n7_ := Aside0.mk (Kd.R_mono (ok' := fun k_ => some k_ ≠ (.slice Ao43 t339.length co43 : Value).ownBlock ∧ some k_ ≠ (.slice Ao31 t323.length co31 : Value).ownBlock ∧ some k_ ≠ (.slice Ao32 t326.length co32 : Value).ownBlock ∧ some k_ ≠ (.slice Ao33 t329.length co33 : Value).ownBlock ∧ some k_ ≠ (.slice Ao52 t349.length co52 : Value).ownBlock ∧ some k_ ≠ (.slice Ao53 t352.length co53 : Value).ownBlock ∧ some k_ ≠ (.slice Ao87 t363.length co87 : Value).ownBlock) (Kd.R_keptB (HO_357002.out) hkp (fun k_ hk_ hs_ => (hk_.1) hs_)) (fun k_ hk_ => ⟨hk_.1.1, hk_.1.2.1, hk_.1.2.2.1, hk_.1.2.2.2.1, hk_.1.2.2.2.2.1, hk_.1.2.2.2.2.2.1, hk_.1.2.2.2.2.2.2⟩)); have n8_ := Aside0.mk (Kd.R_mono (ok' := fun k_ => some k_ ≠ (.slice Ao43 t339.length co43 : Value).ownBlock ∧ some k_ ≠ (.slice Ao31 t323.length co31 : Value).ownBlock ∧ some k_ ≠ (.slice Ao32 t326.length co32 : Value).ownBlock ∧ some k_ ≠ (.slice Ao33 t329.length co33 : Value).ownBlock ∧ some k_ ≠ (.slice Ao51 t346.length co51 : Value).ownBlock ∧ some k_ ≠ (.slice Ao53 t352.length co53 : Value).ownBlock ∧ some k_ ≠ (.slice Ao87 t363.length co87 : Value).ownBlock) (Kd.R_keptB (HO_357003.out) hkp (fun k_ hk_ hs_ => (hk_.1) hs_)) (fun k_ hk_ => ⟨hk_.1.1, hk_.1.2.1, hk_.1.2.2.1, hk_.1.2.2.2.1, hk_.1.2.2.2.2.1, hk_.1.2.2.2.2.2.1, hk_.1.2.2.2.2.2.2⟩)); have n9_ := Aside0.mk (Kd.R_mono (ok' := fun k_ => some k_ ≠ (.slice Ao43 t339.length co43 : Value).ownBlock ∧ some k_ ≠ (.slice Ao31 t323.length co31 : Value).ownBlock ∧ some k_ ≠ (.slice Ao32 t326.length co32 : Value).ownBlock ∧ some k_ ≠ (.slice Ao33 t329.length co33 : Value).ownBlock ∧ some k_ ≠ (.slice Ao51 t346.length co51 : Value).ownBlock ∧ some k_ ≠ (.slice Ao52 t349.length co52 : Value).ownBlock ∧ some k_ ≠ (.slice Ao87 t363.length co87 : Value).ownBlock) (Kd.R_keptB (HO_357004.out) hkp (fun k_ hk_ hs_ => (hk_.1) hs_)) (fun k_ hk_ => ⟨hk_.1.1, hk_.1.2.1, hk_.1.2.2.1, hk_.1.2.2.2.1, hk_.1.2.2.2.2.1, hk_.1.2.2.2.2.2.1, hk_.1.2.2.2.2.2.2⟩)); have n10_ := Aside0.mk (blk_kp BK310.out hkp (fun hs_ => (fun e_ => (Kd.R_ne HO_11.out BK310.out (by decide)) e_) hs_)); have n11_ := Aside0.mk (blk_kp BK333.out hkp (fun hs_ => (fun e_ => (Kd.R_ne HO_11.out BK333.out (by decide)) e_) hs_)); have n12_ := Aside0.mk (blk_kp BK338.out hkp (fun hs_ => (fun e_ => (Kd.R_ne HO_11.out BK338.out (by decide)) e_) hs_)); have n13_ := Aside0.mk (blk_kp BK356.out hkp (fun hs_ => (fun e_ => (Kd.R_ne HO_11.out BK356.out (by decide)) e_) hs_)); have n14_ := Aside0.mk (Kd.R_mono (ok' := fun k_ => some k_ ≠ (.slice Ao30 t320.length co30 : Value).ownBlock ∧ some k_ ≠ (.slice Ao40 t335.length co40 : Value).ownBlock ∧ some k_ ≠ (.slice Ao50 t343.length co50 : Value).ownBlock) (Kd.R_keptB ((Kd.R_apart' HO361.out (Kd.R_typed HO_11.out) (by decide))) hkp (fun k_ hk_ hs_ => (hk_.2) hs_)) (fun k_ hk_ => ⟨hk_.1.1.1, hk_.1.1.2.1, hk_.1.1.2.2⟩)); have n15_ := Aside0.mk (Kd.R_mono (ok' := fun k_ => some k_ ≠ (.slice Ao43 t339.length co43 : Value).ownBlock ∧ some k_ ≠ (.slice Ao31 t323.length co31 : Value).ownBlock ∧ some k_ ≠ (.slice Ao32 t326.length co32 : Value).ownBlock ∧ some k_ ≠ (.slice Ao33 t329.length co33 : Value).ownBlock ∧ some k_ ≠ (.slice Ao51 t346.length co51 : Value).ownBlock ∧ some k_ ≠ (.slice Ao52 t349.length co52 : Value).ownBlock ∧ some k_ ≠ (.slice Ao53 t352.length co53 : Value).ownBlock) (Kd.R_keptB (HO365.out) hkp (fun k_ hk_ hs_ => (hk_.1) hs_)) (fun k_ hk_ => ⟨hk_.1.1, hk_.1.2.1, hk_.1.2.2.1, hk_.1.2.2.2.1, hk_.1.2.2.2.2.1, hk_.1.2.2.2.2.2.1, hk_.1.2.2.2.2.2.2⟩)); have n16_ := Aside0.mk (hb); clear HO_11; clear HO_334001; clear HO_334002; clear HO_334003; clear HO_334004; clear HO_339001; clear HO_357001; clear HO_357002; clear HO_357003; clear HO_357004; clear BK310; clear BK333; clear BK338; clear BK356; clear HO361; clear HO365; clear HB; have HO_11 := n0_; have HO_334001 := n1_; have HO_334002 := n2_; have HO_334003 := n3_; have HO_334004 := n4_; have HO_339001 := n5_; have HO_357001 := n6_; have HO_357002 := n7_; have HO_357003 := n8_; have HO_357004 := n9_; have BK310 := n10_; have BK333 := n11_; have BK338 := n12_; have BK356 := n13_; have HO361 := n14_; have HO365 := n15_; have HB := n16_; clear n0_ n1_ n2_ n3_ n4_ n5_ n6_ n7_ n8_ n9_ n10_ n11_ n12_ n13_ n14_ n15_ n16_; (try clear hb); (try clear hkp); (try clear hy0)))
        (try simp only [Act.put, q1_, q2_, q3_])
        go_cut [84] (fun v84 wc => ∃ (kq : Nat) (x84_80 : Bool), v84 = .bool x84_80 ∧ Aside0 (laws_FnExactFillState.j1 kq l1 a2 t332 x84_80 a0_0 l0_1 t319 t320 t323 t326 t329 t342 t343 t346 t349 t352 = some r) ∧ Aside0 (kq ≤ kj16) ∧ Aside0 (Kd.R k36 36 wc w.heap.size (fun k_ => some k_ ≠ ((.slice Ao40 t335.length co40) : Value).ownBlock ∧ some k_ ≠ ((.slice Ao50 t343.length co50) : Value).ownBlock) (.slice Ao30 t320.length co30) t320) ∧ Aside0 (Kd.R (Kd.int .i64) 3 wc w.heap.size (fun k_ => some k_ ≠ ((.slice Ao32 t326.length co32) : Value).ownBlock ∧ some k_ ≠ ((.slice Ao33 t329.length co33) : Value).ownBlock ∧ some k_ ≠ ((.slice Ao51 t346.length co51) : Value).ownBlock ∧ some k_ ≠ ((.slice Ao52 t349.length co52) : Value).ownBlock ∧ some k_ ≠ ((.slice Ao53 t352.length co53) : Value).ownBlock) (.slice Ao31 t323.length co31) t323) ∧ Aside0 (Kd.R (Kd.int .i64) 3 wc w.heap.size (fun k_ => some k_ ≠ ((.slice Ao31 t323.length co31) : Value).ownBlock ∧ some k_ ≠ ((.slice Ao33 t329.length co33) : Value).ownBlock ∧ some k_ ≠ ((.slice Ao51 t346.length co51) : Value).ownBlock ∧ some k_ ≠ ((.slice Ao52 t349.length co52) : Value).ownBlock ∧ some k_ ≠ ((.slice Ao53 t352.length co53) : Value).ownBlock) (.slice Ao32 t326.length co32) t326) ∧ Aside0 (Kd.R (Kd.int .i64) 3 wc w.heap.size (fun k_ => some k_ ≠ ((.slice Ao31 t323.length co31) : Value).ownBlock ∧ some k_ ≠ ((.slice Ao32 t326.length co32) : Value).ownBlock ∧ some k_ ≠ ((.slice Ao51 t346.length co51) : Value).ownBlock ∧ some k_ ≠ ((.slice Ao52 t349.length co52) : Value).ownBlock ∧ some k_ ≠ ((.slice Ao53 t352.length co53) : Value).ownBlock) (.slice Ao33 t329.length co33) t329) ∧ Aside0 (Kd.R k36 36 wc w.heap.size (fun k_ => some k_ ≠ ((.slice Ao30 t320.length co30) : Value).ownBlock ∧ some k_ ≠ ((.slice Ao50 t343.length co50) : Value).ownBlock) (.slice Ao40 t335.length co40) t368) ∧ Aside0 (Kd.R k36 36 wc w.heap.size (fun k_ => some k_ ≠ ((.slice Ao30 t320.length co30) : Value).ownBlock ∧ some k_ ≠ ((.slice Ao40 t335.length co40) : Value).ownBlock) (.slice Ao50 t343.length co50) t343) ∧ Aside0 (Kd.R (Kd.int .i64) 3 wc w.heap.size (fun k_ => some k_ ≠ ((.slice Ao31 t323.length co31) : Value).ownBlock ∧ some k_ ≠ ((.slice Ao32 t326.length co32) : Value).ownBlock ∧ some k_ ≠ ((.slice Ao33 t329.length co33) : Value).ownBlock ∧ some k_ ≠ ((.slice Ao52 t349.length co52) : Value).ownBlock ∧ some k_ ≠ ((.slice Ao53 t352.length co53) : Value).ownBlock) (.slice Ao51 t346.length co51) t346) ∧ Aside0 (Kd.R (Kd.int .i64) 3 wc w.heap.size (fun k_ => some k_ ≠ ((.slice Ao31 t323.length co31) : Value).ownBlock ∧ some k_ ≠ ((.slice Ao32 t326.length co32) : Value).ownBlock ∧ some k_ ≠ ((.slice Ao33 t329.length co33) : Value).ownBlock ∧ some k_ ≠ ((.slice Ao51 t346.length co51) : Value).ownBlock ∧ some k_ ≠ ((.slice Ao53 t352.length co53) : Value).ownBlock) (.slice Ao52 t349.length co52) t349) ∧ Aside0 (Kd.R (Kd.int .i64) 3 wc w.heap.size (fun k_ => some k_ ≠ ((.slice Ao31 t323.length co31) : Value).ownBlock ∧ some k_ ≠ ((.slice Ao32 t326.length co32) : Value).ownBlock ∧ some k_ ≠ ((.slice Ao33 t329.length co33) : Value).ownBlock ∧ some k_ ≠ ((.slice Ao51 t346.length co51) : Value).ownBlock ∧ some k_ ≠ ((.slice Ao52 t349.length co52) : Value).ownBlock) (.slice Ao53 t352.length co53) t352) ∧ Aside0 (wc.heap[gb310]? = some (.cells #[.int .i64 a0_0, (.slice A0_1 l0_1.length c0_1)] 41 (0, 0))) ∧ Aside0 (wc.heap[gb333]? = some (.cells #[.int .i64 t319, (.slice Ao30 t320.length co30), (.slice Ao31 t323.length co31), (.slice Ao32 t326.length co32), (.slice Ao33 t329.length co33)] 29 (0, 0))) ∧ Aside0 (wc.heap[gb338]? = some (.cells #[.int .i64 t334, (.slice Ao40 t335.length co40)] 26 (0, 0))) ∧ Aside0 (wc.heap[gb356]? = some (.cells #[.int .i64 t342, (.slice Ao50 t343.length co50), (.slice Ao51 t346.length co51), (.slice Ao52 t349.length co52), (.slice Ao53 t352.length co53)] 29 (0, 0))) ∧ Aside0 (Below w.heap.size w wc))
        case first =>
         have H := HC81.out
         clear HC81
         by_cases c94 : t369 < 0
         ·
          rw [if_pos c94] at H
          have c94b0 : decide (t369 < 0) = true := decide_eq_true c94
          clear c94
          (first | rw [c94b0] | (simp only [i64_w, i32_w]; rw [c94b0]) | skip)
          refine absurd H ?_
          first | apply laws_FnExactFillState.j0_dead | apply laws_FnExactFillState.j1_dead | apply laws_FnExactFillState.j2_dead
         ·
          rw [if_neg c94] at H
          have c94b0 : decide (t369 < 0) = false := decide_eq_false c94
          clear c94
          (first | rw [c94b0] | (simp only [i64_w, i32_w]; rw [c94b0]) | skip)
          replace H := Option.bind_eq_some_iff.mp H
          obtain ⟨t371, A950, H⟩ := H
          (try dsimp only at H)
          have A95 := Aside0.mk A950
          clear A950
          by_cases c96 : t371 = true
          ·
           subst c96
           have H1 := H; rw [if_pos rfl] at H1
           clear H
           have H := H1
           clear H1
           have H' := Aside0.mk H
           clear H
           have hnb97 := NB356_310.out
           have hnc97 := NB310_356.out
           have hnb98 := NB356_333.out
           have hnc98 := NB333_356.out
           have hnb99 := NB356_338.out
           have hnc99 := NB338_356.out
           have hcz100_0 : w93.cell? ⟨gb356, 0, none⟩ = some (.int .i64 t342) := (blk_cell BK356.out 0).trans rfl
           have hcz100_1 : w93.cell? ⟨gb356, 1, none⟩ = some (.slice Ao50 t343.length co50) := (blk_cell BK356.out 1).trans rfl
           have hcz100_2 : w93.cell? ⟨gb356, 2, none⟩ = some (.slice Ao51 t346.length co51) := (blk_cell BK356.out 2).trans rfl
           have hcz100_3 : w93.cell? ⟨gb356, 3, none⟩ = some (.slice Ao52 t349.length co52) := (blk_cell BK356.out 3).trans rfl
           have hcz100_4 : w93.cell? ⟨gb356, 4, none⟩ = some (.slice Ao53 t352.length co53) := (blk_cell BK356.out 4).trans rfl
           have hfz100_0 := blk_frozen BK356.out 0
           have hfz100_1 := blk_frozen BK356.out 1
           have hfz100_2 := blk_frozen BK356.out 2
           have hfz100_3 := blk_frozen BK356.out 3
           have hfz100_4 := blk_frozen BK356.out 4
           have hnb101 := NB333_310.out
           have hnc101 := NB310_333.out
           have hnb102 := NB333_338.out
           have hnc102 := NB338_333.out
           have hcz103_0 : w93.cell? ⟨gb333, 0, none⟩ = some (.int .i64 t319) := (blk_cell BK333.out 0).trans rfl
           have hcz103_1 : w93.cell? ⟨gb333, 1, none⟩ = some (.slice Ao30 t320.length co30) := (blk_cell BK333.out 1).trans rfl
           have hcz103_2 : w93.cell? ⟨gb333, 2, none⟩ = some (.slice Ao31 t323.length co31) := (blk_cell BK333.out 2).trans rfl
           have hcz103_3 : w93.cell? ⟨gb333, 3, none⟩ = some (.slice Ao32 t326.length co32) := (blk_cell BK333.out 3).trans rfl
           have hcz103_4 : w93.cell? ⟨gb333, 4, none⟩ = some (.slice Ao33 t329.length co33) := (blk_cell BK333.out 4).trans rfl
           have hfz103_0 := blk_frozen BK333.out 0
           have hfz103_1 := blk_frozen BK333.out 1
           have hfz103_2 := blk_frozen BK333.out 2
           have hfz103_3 := blk_frozen BK333.out 3
           have hfz103_4 := blk_frozen BK333.out 4
           go_wp2_with (first | (go_at_call 25; (with_reducible refine (laws_eqState.calls kj16 t342 _ _ t343 _ _ t346 _ _ t349 _ _ t352 t319 _ _ t320 _ _ t323 _ _ t326 _ _ t329 true _ ?side1 ?side2 ?side3 ?side4 ?side5 ?side6 ?side7 ?side8 ?side9 ?side10 ?side11 ?side12 ?side13 ?side14 ?side15 ?side16 A95.out).mono ?_); (case side1 => repeat (first | exact (Kd.R_reads' HO_357001.out).2.2 | (with_reducible refine Kd.C_alloc ?_ _) | (with_reducible refine Kd.C_drewN ?_ _) | (with_reducible refine Kd.C_drew ?_))); (case side2 => exact (Kd.R_reads' HO_357001.out).2.1); (case side3 => repeat (first | exact (Kd.R_reads' HO_357002.out).2.2 | (with_reducible refine Kd.C_alloc ?_ _) | (with_reducible refine Kd.C_drewN ?_ _) | (with_reducible refine Kd.C_drew ?_))); (case side4 => exact (Kd.R_reads' HO_357002.out).2.1); (case side5 => repeat (first | exact (Kd.R_reads' HO_357003.out).2.2 | (with_reducible refine Kd.C_alloc ?_ _) | (with_reducible refine Kd.C_drewN ?_ _) | (with_reducible refine Kd.C_drew ?_))); (case side6 => exact (Kd.R_reads' HO_357003.out).2.1); (case side7 => repeat (first | exact (Kd.R_reads' HO_357004.out).2.2 | (with_reducible refine Kd.C_alloc ?_ _) | (with_reducible refine Kd.C_drewN ?_ _) | (with_reducible refine Kd.C_drew ?_))); (case side8 => exact (Kd.R_reads' HO_357004.out).2.1); (case side9 => repeat (first | exact (Kd.R_reads' HO_334001.out).2.2 | (with_reducible refine Kd.C_alloc ?_ _) | (with_reducible refine Kd.C_drewN ?_ _) | (with_reducible refine Kd.C_drew ?_))); (case side10 => exact (Kd.R_reads' HO_334001.out).2.1); (case side11 => repeat (first | exact (Kd.R_reads' HO_334002.out).2.2 | (with_reducible refine Kd.C_alloc ?_ _) | (with_reducible refine Kd.C_drewN ?_ _) | (with_reducible refine Kd.C_drew ?_))); (case side12 => exact (Kd.R_reads' HO_334002.out).2.1); (case side13 => repeat (first | exact (Kd.R_reads' HO_334003.out).2.2 | (with_reducible refine Kd.C_alloc ?_ _) | (with_reducible refine Kd.C_drewN ?_ _) | (with_reducible refine Kd.C_drew ?_))); (case side14 => exact (Kd.R_reads' HO_334003.out).2.1); (case side15 => repeat (first | exact (Kd.R_reads' HO_334004.out).2.2 | (with_reducible refine Kd.C_alloc ?_ _) | (with_reducible refine Kd.C_drewN ?_ _) | (with_reducible refine Kd.C_drew ?_))); (case side16 => exact (Kd.R_reads' HO_334004.out).2.1); rintro e w104 ⟨rfl, hb⟩; have n0_ := Aside0.mk (R_bel HO_11.out hb); have n1_ := Aside0.mk (R_bel HO_334001.out hb); have n2_ := Aside0.mk (R_bel HO_334002.out hb); have n3_ := Aside0.mk (R_bel HO_334003.out hb); have n4_ := Aside0.mk (R_bel HO_334004.out hb); have n5_ := Aside0.mk (R_bel HO_339001.out hb); have n6_ := Aside0.mk (R_bel HO_357001.out hb); have n7_ := Aside0.mk (R_bel HO_357002.out hb); have n8_ := Aside0.mk (R_bel HO_357003.out hb); have n9_ := Aside0.mk (R_bel HO_357004.out hb); have n10_ := Aside0.mk (R_bel HO361.out hb); have n11_ := Aside0.mk (R_bel HO365.out hb); have n12_ := Aside0.mk (blk_bel BK310.out hb); have n13_ := Aside0.mk (blk_bel BK333.out hb); have n14_ := Aside0.mk (blk_bel BK338.out hb); have n15_ := Aside0.mk (blk_bel BK356.out hb); have n16_ := Aside0.mk (below_step (by repeat (first | (with_reducible first | exact HB.out | apply below_alloc | apply pw_below_drewN | apply below_drew1 | refine below_set ?_ GE310.out | refine below_set ?_ GE333.out | refine below_set ?_ GE338.out | refine below_set ?_ GE356.out) | exact HB.out)) hb); clear HO_11; clear HO_334001; clear HO_334002; clear HO_334003; clear HO_334004; clear HO_339001; clear HO_357001; clear HO_357002; clear HO_357003; clear HO_357004; clear HO361; clear HO365; clear BK310; clear BK333; clear BK338; clear BK356; clear HB; have HO_11 := n0_; have HO_334001 := n1_; have HO_334002 := n2_; have HO_334003 := n3_; have HO_334004 := n4_; have HO_339001 := n5_; have HO_357001 := n6_; have HO_357002 := n7_; have HO_357003 := n8_; have HO_357004 := n9_; have HO361 := n10_; have HO365 := n11_; have BK310 := n12_; have BK333 := n13_; have BK338 := n14_; have BK356 := n15_; have HB := n16_; clear n0_ n1_ n2_ n3_ n4_ n5_ n6_ n7_ n8_ n9_ n10_ n11_ n12_ n13_ n14_ n15_ n16_; (try clear hb); (try clear hb2); (try clear hk); (try clear hi)))
           go_meet
           case rel => exact ⟨_, ((t355 != t332)), (by first | rfl | (simp; done) | (simp [*]; done)), H', ⟨by have := HJ16.out; first | omega | exact Nat.le_refl _⟩, ⟨by (with_reducible repeat first | apply Kd.R_alloc | apply Kd.R_drewN | apply Kd.R_drew); exact Kd.R_mono HO_334001.out (fun _ hk => ⟨hk.1, hk.2.1⟩)⟩, ⟨by (with_reducible repeat first | apply Kd.R_alloc | apply Kd.R_drewN | apply Kd.R_drew); exact Kd.R_mono HO_334002.out (fun _ hk => ⟨hk.2.1, ⟨hk.2.2.1, ⟨hk.2.2.2.1, ⟨hk.2.2.2.2.1, hk.2.2.2.2.2.1⟩⟩⟩⟩)⟩, ⟨by (with_reducible repeat first | apply Kd.R_alloc | apply Kd.R_drewN | apply Kd.R_drew); exact Kd.R_mono HO_334003.out (fun _ hk => ⟨hk.2.1, ⟨hk.2.2.1, ⟨hk.2.2.2.1, ⟨hk.2.2.2.2.1, hk.2.2.2.2.2.1⟩⟩⟩⟩)⟩, ⟨by (with_reducible repeat first | apply Kd.R_alloc | apply Kd.R_drewN | apply Kd.R_drew); exact Kd.R_mono HO_334004.out (fun _ hk => ⟨hk.2.1, ⟨hk.2.2.1, ⟨hk.2.2.2.1, ⟨hk.2.2.2.2.1, hk.2.2.2.2.2.1⟩⟩⟩⟩)⟩, ⟨by (with_reducible repeat first | apply Kd.R_alloc | apply Kd.R_drewN | apply Kd.R_drew); exact Kd.R_mono HO_339001.out (fun _ hk => ⟨hk.1, hk.2.1⟩)⟩, ⟨by (with_reducible repeat first | apply Kd.R_alloc | apply Kd.R_drewN | apply Kd.R_drew); exact Kd.R_mono HO_357001.out (fun _ hk => ⟨hk.1, hk.2.1⟩)⟩, ⟨by (with_reducible repeat first | apply Kd.R_alloc | apply Kd.R_drewN | apply Kd.R_drew); exact Kd.R_mono HO_357002.out (fun _ hk => ⟨hk.2.1, ⟨hk.2.2.1, ⟨hk.2.2.2.1, ⟨hk.2.2.2.2.1, hk.2.2.2.2.2.1⟩⟩⟩⟩)⟩, ⟨by (with_reducible repeat first | apply Kd.R_alloc | apply Kd.R_drewN | apply Kd.R_drew); exact Kd.R_mono HO_357003.out (fun _ hk => ⟨hk.2.1, ⟨hk.2.2.1, ⟨hk.2.2.2.1, ⟨hk.2.2.2.2.1, hk.2.2.2.2.2.1⟩⟩⟩⟩)⟩, ⟨by (with_reducible repeat first | apply Kd.R_alloc | apply Kd.R_drewN | apply Kd.R_drew); exact Kd.R_mono HO_357004.out (fun _ hk => ⟨hk.2.1, ⟨hk.2.2.1, ⟨hk.2.2.2.1, ⟨hk.2.2.2.2.1, hk.2.2.2.2.2.1⟩⟩⟩⟩)⟩, ⟨by (with_reducible repeat first | apply blk_drewN | apply blk_drew | apply blk_alloc); exact BK310.out⟩, ⟨by (with_reducible repeat first | apply blk_drewN | apply blk_drew | apply blk_alloc); exact BK333.out⟩, ⟨by (with_reducible repeat first | apply blk_drewN | apply blk_drew | apply blk_alloc); exact BK338.out⟩, ⟨by (with_reducible repeat first | apply blk_drewN | apply blk_drew | apply blk_alloc); exact BK356.out⟩, ⟨by repeat (first | (with_reducible first | exact HB.out | apply below_alloc | apply pw_below_drewN | apply below_drew1 | refine below_set ?_ GE310.out | refine below_set ?_ GE333.out | refine below_set ?_ GE338.out | refine below_set ?_ GE356.out) | exact HB.out)⟩⟩
          ·
           replace c96 := Bool.eq_false_iff.mpr c96
           subst c96
           have H1 := H; rw [if_neg (show ¬ (false = true) by decide)] at H1
           clear H
           have H := H1
           clear H1
           refine absurd H ?_
           first | apply laws_FnExactFillState.j0_dead | apply laws_FnExactFillState.j1_dead | apply laws_FnExactFillState.j2_dead
        case rest =>
         clear HC81
         try clear c1
         try clear c2
         try clear p2
         try clear c3
         try clear c4
         try clear c4b0
         try clear c4b1
         try clear c5
         try clear c6
         try clear c7
         try clear c7b0
         try clear c8
         try clear c9
         try clear c10
         try clear c11
         try clear c25
         try clear c28
         try clear c31
         try clear c36
         try clear c37
         try clear c38
         try clear c39
         try clear c40
         try clear c41
         try clear c42
         try clear c43
         try clear c46
         try clear c47
         try clear c48
         try clear c55
         try clear c56
         try clear c57
         try clear c58
         try clear c60
         try clear c61
         try clear c64
         try clear c65
         try clear c66
         try clear c68
         try clear c69
         try clear c72
         try clear c75
         try clear c78
         try clear c88
         try clear c89
         try clear c90
         try clear c94
         try clear c94b0
         try clear c96
         try clear c97
         try clear c98
         try clear c99
         try clear c101
         try clear c102
         try clear c105
         try clear c106
         try clear c107
         try clear c109
         try clear c110
         try clear hcz100_0
         try clear hcz100_1
         try clear hcz100_2
         try clear hcz100_3
         try clear hcz100_4
         try clear hcz103_0
         try clear hcz103_1
         try clear hcz103_2
         try clear hcz103_3
         try clear hcz103_4
         try clear hcz108_0
         try clear hcz108_1
         try clear hcz108_2
         try clear hcz108_3
         try clear hcz108_4
         try clear hcz111_0
         try clear hcz111_1
         try clear hcz111_2
         try clear hcz111_3
         try clear hcz111_4
         try clear hcz19_0
         try clear hcz19_1
         try clear hcz21_0
         try clear hcz21_1
         try clear hcz29_0
         try clear hcz29_1
         try clear hcz29_2
         try clear hcz29_3
         try clear hcz29_4
         try clear hcz34_0
         try clear hcz34_1
         try clear hcz39_0
         try clear hcz39_1
         try clear hcz42_0
         try clear hcz42_1
         try clear hcz49_0
         try clear hcz49_1
         try clear hcz49_2
         try clear hcz49_3
         try clear hcz49_4
         try clear hcz59_0
         try clear hcz59_1
         try clear hcz59_2
         try clear hcz59_3
         try clear hcz59_4
         try clear hcz62_0
         try clear hcz62_1
         try clear hcz62_2
         try clear hcz62_3
         try clear hcz62_4
         try clear hcz67_0
         try clear hcz67_1
         try clear hcz67_2
         try clear hcz67_3
         try clear hcz67_4
         try clear hcz70_0
         try clear hcz70_1
         try clear hcz70_2
         try clear hcz70_3
         try clear hcz70_4
         try clear hcz91_0
         try clear hcz91_1
         try clear hcz9_0
         try clear hcz9_1
         try clear p2
         obtain ⟨kq, x84_80, rfl, HA, HJ80, HO_334001, HO_334002, HO_334003, HO_334004, HO_339001, HO_357001, HO_357002, HO_357003, HO_357004, BK310, BK333, BK338, BK356, HB⟩ := hcut
         have hl339001_80 := (Kd.R_reads' HO_339001.out).1
         rw [hl339001_80] at HO_339001
         (try simp only [hl339001_80])
         (try simp only [hl339001_80] at BK310)
         (try simp only [hl339001_80] at BK333)
         (try simp only [hl339001_80] at BK338)
         (try simp only [hl339001_80] at BK356)
         (try simp only [hl339001_80] at HO_334001)
         (try simp only [hl339001_80] at HO_334002)
         (try simp only [hl339001_80] at HO_334003)
         (try simp only [hl339001_80] at HO_334004)
         (try simp only [hl339001_80] at HO_357001)
         (try simp only [hl339001_80] at HO_357002)
         (try simp only [hl339001_80] at HO_357003)
         (try simp only [hl339001_80] at HO_357004)
         cases kq with
         | zero => exact absurd HA.out (by simp [laws_FnExactFillState.j1])
         | succ kj80 =>
          have H := HA.out
          clear HA
          simp only [laws_FnExactFillState.j1] at H
          by_cases c113 : x84_80 = true
          ·
           subst c113
           have H1 : (none) = some r := by rw [if_pos rfl] at H; exact H
           clear H
           have H := H1
           clear H1
           exact absurd H (by simp)
          ·
           replace c113 := Bool.eq_false_iff.mpr c113
           subst c113
           have H1 := H; rw [if_neg (show ¬ (false = true) by decide)] at H1
           clear H
           have H := H1
           clear H1
           replace H := Option.bind_eq_some_iff.mp H
           obtain ⟨⟨t372, t373, t374, t375, t376⟩, A1140, H⟩ := H
           (try dsimp only at H)
           have A114 := Aside0.mk A1140
           clear A1140
           replace H := Option.bind_eq_some_iff.mp H
           obtain ⟨t377, A1150, H⟩ := H
           (try dsimp only at H)
           have A115 := Aside0.mk A1150
           clear A1150
           by_cases c116 : t377 < 0
           ·
            rw [if_pos c116] at H
            exact absurd H (by simp)
           ·
            rw [if_neg c116] at H
            have c116b0 : decide (t377 < 0) = false := decide_eq_false c116
            clear c116
            by_cases c117 : t377 = t372
            ·
             rw [if_pos c117] at H
             have c117b0 : (t377 == t372) = true := beq_iff_eq.mpr c117
             have c117b1 : (t377 != t372) = false := bne_eq_false_iff_eq.mpr c117
             clear c117
             replace H := Option.bind_eq_some_iff.mp H
             obtain ⟨⟨t378, t379⟩, A1180, H⟩ := H
             (try dsimp only at H)
             have A118 := Aside0.mk A1180
             clear A1180
             replace H := Option.bind_eq_some_iff.mp H
             obtain ⟨t382, A1190, H⟩ := H
             (try dsimp only at H)
             have A119 := Aside0.mk A1190
             clear A1190
             replace H := Option.bind_eq_some_iff.mp H
             obtain ⟨⟨t385, t386, t389, t392, t395, t398⟩, A1200, H⟩ := H
             (try dsimp only at H)
             have A120 := Aside0.mk A1200
             clear A1200
             have HC121 := Aside0.mk H
             clear H
             have hnb122 := NB356_310.out
             have hnc122 := NB310_356.out
             have hnb123 := NB356_333.out
             have hnc123 := NB333_356.out
             have hnb124 := NB356_338.out
             have hnc124 := NB338_356.out
             have hcz125_0 : wc.cell? ⟨gb356, 0, none⟩ = some (.int .i64 t342) := (blk_cell BK356.out 0).trans rfl
             have hcz125_1 : wc.cell? ⟨gb356, 1, none⟩ = some (.slice Ao50 t343.length co50) := (blk_cell BK356.out 1).trans rfl
             have hcz125_2 : wc.cell? ⟨gb356, 2, none⟩ = some (.slice Ao51 t346.length co51) := (blk_cell BK356.out 2).trans rfl
             have hcz125_3 : wc.cell? ⟨gb356, 3, none⟩ = some (.slice Ao52 t349.length co52) := (blk_cell BK356.out 3).trans rfl
             have hcz125_4 : wc.cell? ⟨gb356, 4, none⟩ = some (.slice Ao53 t352.length co53) := (blk_cell BK356.out 4).trans rfl
             have hfz125_0 := blk_frozen BK356.out 0
             have hfz125_1 := blk_frozen BK356.out 1
             have hfz125_2 := blk_frozen BK356.out 2
             have hfz125_3 := blk_frozen BK356.out 3
             have hfz125_4 := blk_frozen BK356.out 4
             go_upto_region 31 with (first | ((with_reducible refine gate_callee (f := 26) rfl ?_); refine goesL_ (some 87) rfl rfl Try.func26 (by kernel_rfl) rfl #[.agg #[.int .i64 t342, .slice Ao50 t343.length co50, .slice Ao51 t346.length co51, .slice Ao52 t349.length co52, .slice Ao53 t352.length co53], .int .i64 1] rfl (by (try simp only [List.map_toArray, List.map_cons, List.map_nil]); first | done | rfl | (simp only [List.length_drop, List.length_take]; rfl)) ?_; (with_reducible refine (laws_markState.calls kj80 t342 (fun k_ => some k_ = (.slice Ao50 t343.length co50 : Value).ownBlock) (.slice Ao50 t343.length co50) t343 (fun k_ => some k_ = (.slice Ao51 t346.length co51 : Value).ownBlock) (.slice Ao51 t346.length co51) t346 (fun k_ => some k_ = (.slice Ao52 t349.length co52 : Value).ownBlock) (.slice Ao52 t349.length co52) t349 (fun k_ => some k_ = (.slice Ao53 t352.length co53 : Value).ownBlock) (.slice Ao53 t352.length co53) t352 1 t372 t373 t374 t375 t376 w _ ?side1 ?side2 ?side3 ?side4 ?side5 ?side6 ?side7 ?side8 ?side9 ?side10 ?side11 A114.out).mono ?_); (case side1 => repeat (first | (with_reducible first | exact HB.out | apply below_alloc | apply pw_below_drewN | apply below_drew1 | refine below_set ?_ GE310.out | refine below_set ?_ GE333.out | refine below_set ?_ GE338.out | refine below_set ?_ GE356.out) | exact HB.out)); (case side2 => exact Kd.R_tight rfl HO_357001.out); (case side3 => exact Kd.R_tight rfl HO_357002.out); (case side4 => exact fun k_ e_ => (HO_357002.out.1 k_ e_.symm).2.2.2.1); (case side5 => exact fun k_ e_ => (HO_357002.out.1 k_ e_.symm).2.2.2.2); (case side6 => exact Kd.R_tight rfl HO_357003.out); (case side7 => exact fun k_ e_ => (HO_357003.out.1 k_ e_.symm).2.2.2.1); (case side8 => exact fun k_ e_ => (HO_357003.out.1 k_ e_.symm).2.2.2.2); (case side9 => exact Kd.R_tight rfl HO_357004.out); (case side10 => exact fun k_ e_ => (HO_357004.out.1 k_ e_.symm).2.2.2.1); (case side11 => exact fun k_ e_ => (HO_357004.out.1 k_ e_.symm).2.2.2.2); rintro e w126 ⟨rfl, hy0, hy1, hy2, hy3, hb, hkp⟩; refine ⟨_, rfl, ?_⟩; have n0_ := Aside0.mk (Kd.R_mono (ok' := fun k_ => some k_ ≠ (.slice Ao40 t368.length co40 : Value).ownBlock ∧ some k_ ≠ (.slice Ao50 t343.length co50 : Value).ownBlock) (Kd.R_keptB ((Kd.R_apart' (Kd.R_apart' (Kd.R_apart' HO_334001.out (Kd.R_typed HO_357002.out) (by decide)) (Kd.R_typed HO_357003.out) (by decide)) (Kd.R_typed HO_357004.out) (by decide))) hkp (fun k_ hk_ hs_ => Or.elim hs_ (fun e_ => (hk_.1.1.1.2) e_) (fun e_ => Or.elim e_ (fun e_ => (hk_.1.1.2) e_) (fun e_ => Or.elim e_ (fun e_ => (hk_.1.2) e_) (fun e_ => (hk_.2) e_))))) (fun k_ hk_ => ⟨hk_.1.1.1.1.1, hk_.1.1.1.1.2⟩)); have n1_ := Aside0.mk (Kd.R_mono (ok' := fun k_ => some k_ ≠ (.slice Ao32 t326.length co32 : Value).ownBlock ∧ some k_ ≠ (.slice Ao33 t329.length co33 : Value).ownBlock ∧ some k_ ≠ (.slice Ao51 t346.length co51 : Value).ownBlock ∧ some k_ ≠ (.slice Ao52 t349.length co52 : Value).ownBlock ∧ some k_ ≠ (.slice Ao53 t352.length co53 : Value).ownBlock) (Kd.R_keptB ((Kd.R_apart' HO_334002.out (Kd.R_typed HO_357001.out) (by decide))) hkp (fun k_ hk_ hs_ => Or.elim hs_ (fun e_ => (hk_.2) e_) (fun e_ => Or.elim e_ (fun e_ => (hk_.1.2.2.1) e_) (fun e_ => Or.elim e_ (fun e_ => (hk_.1.2.2.2.1) e_) (fun e_ => (hk_.1.2.2.2.2) e_))))) (fun k_ hk_ => ⟨hk_.1.1.1, hk_.1.1.2.1, hk_.1.1.2.2.1, hk_.1.1.2.2.2.1, hk_.1.1.2.2.2.2⟩)); have n2_ := Aside0.mk (Kd.R_mono (ok' := fun k_ => some k_ ≠ (.slice Ao31 t323.length co31 : Value).ownBlock ∧ some k_ ≠ (.slice Ao33 t329.length co33 : Value).ownBlock ∧ some k_ ≠ (.slice Ao51 t346.length co51 : Value).ownBlock ∧ some k_ ≠ (.slice Ao52 t349.length co52 : Value).ownBlock ∧ some k_ ≠ (.slice Ao53 t352.length co53 : Value).ownBlock) (Kd.R_keptB ((Kd.R_apart' HO_334003.out (Kd.R_typed HO_357001.out) (by decide))) hkp (fun k_ hk_ hs_ => Or.elim hs_ (fun e_ => (hk_.2) e_) (fun e_ => Or.elim e_ (fun e_ => (hk_.1.2.2.1) e_) (fun e_ => Or.elim e_ (fun e_ => (hk_.1.2.2.2.1) e_) (fun e_ => (hk_.1.2.2.2.2) e_))))) (fun k_ hk_ => ⟨hk_.1.1.1, hk_.1.1.2.1, hk_.1.1.2.2.1, hk_.1.1.2.2.2.1, hk_.1.1.2.2.2.2⟩)); have n3_ := Aside0.mk (Kd.R_mono (ok' := fun k_ => some k_ ≠ (.slice Ao31 t323.length co31 : Value).ownBlock ∧ some k_ ≠ (.slice Ao32 t326.length co32 : Value).ownBlock ∧ some k_ ≠ (.slice Ao51 t346.length co51 : Value).ownBlock ∧ some k_ ≠ (.slice Ao52 t349.length co52 : Value).ownBlock ∧ some k_ ≠ (.slice Ao53 t352.length co53 : Value).ownBlock) (Kd.R_keptB ((Kd.R_apart' HO_334004.out (Kd.R_typed HO_357001.out) (by decide))) hkp (fun k_ hk_ hs_ => Or.elim hs_ (fun e_ => (hk_.2) e_) (fun e_ => Or.elim e_ (fun e_ => (hk_.1.2.2.1) e_) (fun e_ => Or.elim e_ (fun e_ => (hk_.1.2.2.2.1) e_) (fun e_ => (hk_.1.2.2.2.2) e_))))) (fun k_ hk_ => ⟨hk_.1.1.1, hk_.1.1.2.1, hk_.1.1.2.2.1, hk_.1.1.2.2.2.1, hk_.1.1.2.2.2.2⟩)); have n4_ := Aside0.mk (Kd.R_mono (ok' := fun k_ => some k_ ≠ (.slice Ao30 t320.length co30 : Value).ownBlock ∧ some k_ ≠ (.slice Ao50 t343.length co50 : Value).ownBlock) (Kd.R_keptB ((Kd.R_apart' (Kd.R_apart' (Kd.R_apart' HO_339001.out (Kd.R_typed HO_357002.out) (by decide)) (Kd.R_typed HO_357003.out) (by decide)) (Kd.R_typed HO_357004.out) (by decide))) hkp (fun k_ hk_ hs_ => Or.elim hs_ (fun e_ => (hk_.1.1.1.2) e_) (fun e_ => Or.elim e_ (fun e_ => (hk_.1.1.2) e_) (fun e_ => Or.elim e_ (fun e_ => (hk_.1.2) e_) (fun e_ => (hk_.2) e_))))) (fun k_ hk_ => ⟨hk_.1.1.1.1.1, hk_.1.1.1.1.2⟩)); have n5_ := Aside0.mk (Kd.R_reok rfl hy0 (fun k_ e_ => HO_357001.out.1 k_ e_)); have n6_ := Aside0.mk (Kd.R_reok rfl hy1 (fun k_ e_ => HO_357002.out.1 k_ e_)); have n7_ := Aside0.mk (Kd.R_reok rfl hy2 (fun k_ e_ => HO_357003.out.1 k_ e_)); have n8_ := Aside0.mk (Kd.R_reok rfl hy3 (fun k_ e_ => HO_357004.out.1 k_ e_)); have n9_ := Aside0.mk (blk_kp BK310.out hkp (fun hs_ => Or.elim hs_ (fun e_ => (fun e_ => (Kd.R_ne HO_357001.out BK310.out (by decide)) e_) e_) (fun e_ => Or.elim e_ (fun e_ => (fun e_ => (Kd.R_ne HO_357002.out BK310.out (by decide)) e_) e_) (fun e_ => Or.elim e_ (fun e_ => (fun e_ => (Kd.R_ne HO_357003.out BK310.out (by decide)) e_) e_) (fun e_ => (fun e_ => (Kd.R_ne HO_357004.out BK310.out (by decide)) e_) e_))))); have n10_ := Aside0.mk (blk_kp BK333.out hkp (fun hs_ => Or.elim hs_ (fun e_ => (fun e_ => (Kd.R_ne HO_357001.out BK333.out (by decide)) e_) e_) (fun e_ => Or.elim e_ (fun e_ => (fun e_ => (Kd.R_ne HO_357002.out BK333.out (by decide)) e_) e_) (fun e_ => Or.elim e_ (fun e_ => (fun e_ => (Kd.R_ne HO_357003.out BK333.out (by decide)) e_) e_) (fun e_ => (fun e_ => (Kd.R_ne HO_357004.out BK333.out (by decide)) e_) e_))))); have n11_ := Aside0.mk (blk_kp BK338.out hkp (fun hs_ => Or.elim hs_ (fun e_ => (fun e_ => (Kd.R_ne HO_357001.out BK338.out (by decide)) e_) e_) (fun e_ => Or.elim e_ (fun e_ => (fun e_ => (Kd.R_ne HO_357002.out BK338.out (by decide)) e_) e_) (fun e_ => Or.elim e_ (fun e_ => (fun e_ => (Kd.R_ne HO_357003.out BK338.out (by decide)) e_) e_) (fun e_ => (fun e_ => (Kd.R_ne HO_357004.out BK338.out (by decide)) e_) e_))))); have n12_ := Aside0.mk (blk_kp BK356.out hkp (fun hs_ => Or.elim hs_ (fun e_ => (fun e_ => (Kd.R_ne HO_357001.out BK356.out (by decide)) e_) e_) (fun e_ => Or.elim e_ (fun e_ => (fun e_ => (Kd.R_ne HO_357002.out BK356.out (by decide)) e_) e_) (fun e_ => Or.elim e_ (fun e_ => (fun e_ => (Kd.R_ne HO_357003.out BK356.out (by decide)) e_) e_) (fun e_ => (fun e_ => (Kd.R_ne HO_357004.out BK356.out (by decide)) e_) e_))))); have n13_ := Aside0.mk (hb); clear HO_334001; clear HO_334002; clear HO_334003; clear HO_334004; clear HO_339001; clear HO_357001; clear HO_357002; clear HO_357003; clear HO_357004; clear BK310; clear BK333; clear BK338; clear BK356; clear HB; have HO_334001 := n0_; have HO_334002 := n1_; have HO_334003 := n2_; have HO_334004 := n3_; have HO_339001 := n4_; have HO_357001 := n5_; have HO_357002 := n6_; have HO_357003 := n7_; have HO_357004 := n8_; have BK310 := n9_; have BK333 := n10_; have BK338 := n11_; have BK356 := n12_; have HB := n13_; clear n0_ n1_ n2_ n3_ n4_ n5_ n6_ n7_ n8_ n9_ n10_ n11_ n12_ n13_; (try clear hb); (try clear hkp); (try clear hy0); (try clear hy1); (try clear hy2); (try clear hy3); have hcz127_0 : w126.cell? ⟨gb356, 0, none⟩ = some (.int .i64 t342) := (blk_cell BK356.out 0).trans rfl; have hcz127_1 : w126.cell? ⟨gb356, 1, none⟩ = some (.slice Ao50 t343.length co50) := (blk_cell BK356.out 1).trans rfl; have hcz127_2 : w126.cell? ⟨gb356, 2, none⟩ = some (.slice Ao51 t346.length co51) := (blk_cell BK356.out 2).trans rfl; have hcz127_3 : w126.cell? ⟨gb356, 3, none⟩ = some (.slice Ao52 t349.length co52) := (blk_cell BK356.out 3).trans rfl; have hcz127_4 : w126.cell? ⟨gb356, 4, none⟩ = some (.slice Ao53 t352.length co53) := (blk_cell BK356.out 4).trans rfl; have hfz127_0 := blk_frozen BK356.out 0; have hfz127_1 := blk_frozen BK356.out 1; have hfz127_2 := blk_frozen BK356.out 2; have hfz127_3 := blk_frozen BK356.out 3; have hfz127_4 := blk_frozen BK356.out 4) | ((with_reducible refine gate_callee (f := 27) rfl ?_); refine goesL_ (some 90) rfl rfl Try.func27 (by kernel_rfl) rfl #[.agg #[.int .i64 t342, .slice Ao50 t373.length co50, .slice Ao51 t374.length co51, .slice Ao52 t375.length co52, .slice Ao53 t376.length co53], .int .i64 1] rfl (by (try simp only [List.map_toArray, List.map_cons, List.map_nil]); first | done | (rw [show t373.length = t343.length from (Kd.R_reads' HO_357001.out).1.symm, show t374.length = t346.length from (Kd.R_reads' HO_357002.out).1.symm, show t375.length = t349.length from (Kd.R_reads' HO_357003.out).1.symm, show t376.length = t352.length from (Kd.R_reads' HO_357004.out).1.symm] <;> rfl) | rfl | (simp only [List.length_drop, List.length_take]; rfl)) ?_; (with_reducible refine (laws_heldState.calls kj80 t342 _ _ t373 _ _ t374 _ _ t375 _ _ t376 1 t377 _ ?side1 ?side2 ?side3 ?side4 ?side5 ?side6 ?side7 ?side8 A115.out).mono ?_); (case side1 => repeat (first | exact (Kd.R_reads' HO_357001.out).2.2 | (with_reducible refine Kd.C_alloc ?_ _) | (with_reducible refine Kd.C_drewN ?_ _) | (with_reducible refine Kd.C_drew ?_))); (case side2 => rw [show t373.length = t343.length from (Kd.R_reads' HO_357001.out).1.symm]; exact (Kd.R_reads' HO_357001.out).2.1); (case side3 => repeat (first | exact (Kd.R_reads' HO_357002.out).2.2 | (with_reducible refine Kd.C_alloc ?_ _) | (with_reducible refine Kd.C_drewN ?_ _) | (with_reducible refine Kd.C_drew ?_))); (case side4 => rw [show t374.length = t346.length from (Kd.R_reads' HO_357002.out).1.symm]; exact (Kd.R_reads' HO_357002.out).2.1); (case side5 => repeat (first | exact (Kd.R_reads' HO_357003.out).2.2 | (with_reducible refine Kd.C_alloc ?_ _) | (with_reducible refine Kd.C_drewN ?_ _) | (with_reducible refine Kd.C_drew ?_))); (case side6 => rw [show t375.length = t349.length from (Kd.R_reads' HO_357003.out).1.symm]; exact (Kd.R_reads' HO_357003.out).2.1); (case side7 => repeat (first | exact (Kd.R_reads' HO_357004.out).2.2 | (with_reducible refine Kd.C_alloc ?_ _) | (with_reducible refine Kd.C_drewN ?_ _) | (with_reducible refine Kd.C_drew ?_))); (case side8 => rw [show t376.length = t352.length from (Kd.R_reads' HO_357004.out).1.symm]; exact (Kd.R_reads' HO_357004.out).2.1); rintro e w128 ⟨rfl, hb⟩; refine ⟨_, rfl, ?_⟩; have n0_ := Aside0.mk (R_bel HO_334001.out hb); have n1_ := Aside0.mk (R_bel HO_334002.out hb); have n2_ := Aside0.mk (R_bel HO_334003.out hb); have n3_ := Aside0.mk (R_bel HO_334004.out hb); have n4_ := Aside0.mk (R_bel HO_339001.out hb); have n5_ := Aside0.mk (R_bel HO_357001.out hb); have n6_ := Aside0.mk (R_bel HO_357002.out hb); have n7_ := Aside0.mk (R_bel HO_357003.out hb); have n8_ := Aside0.mk (R_bel HO_357004.out hb); have n9_ := Aside0.mk (blk_bel BK310.out hb); have n10_ := Aside0.mk (blk_bel BK333.out hb); have n11_ := Aside0.mk (blk_bel BK338.out hb); have n12_ := Aside0.mk (blk_bel BK356.out hb); have n13_ := Aside0.mk (below_step (by repeat (first | (with_reducible first | exact HB.out | apply below_alloc | apply pw_below_drewN | apply below_drew1 | refine below_set ?_ GE310.out | refine below_set ?_ GE333.out | refine below_set ?_ GE338.out | refine below_set ?_ GE356.out) | exact HB.out)) hb); clear HO_334001; clear HO_334002; clear HO_334003; clear HO_334004; clear HO_339001; clear HO_357001; clear HO_357002; clear HO_357003; clear HO_357004; clear BK310; clear BK333; clear BK338; clear BK356; clear HB; have HO_334001 := n0_; have HO_334002 := n1_; have HO_334003 := n2_; have HO_334004 := n3_; have HO_339001 := n4_; have HO_357001 := n5_; have HO_357002 := n6_; have HO_357003 := n7_; have HO_357004 := n8_; have BK310 := n9_; have BK333 := n10_; have BK338 := n11_; have BK356 := n12_; have HB := n13_; clear n0_ n1_ n2_ n3_ n4_ n5_ n6_ n7_ n8_ n9_ n10_ n11_ n12_ n13_; (try clear hb); (try clear hb2); (try clear hk); (try clear hi); have hnb129 := NB310_333.out; have hnc129 := NB333_310.out; have hnb130 := NB310_338.out; have hnc130 := NB338_310.out; have hcz131_0 : w128.cell? ⟨gb310, 0, none⟩ = some (.int .i64 a0_0) := (blk_cell BK310.out 0).trans rfl; have hcz131_1 : w128.cell? ⟨gb310, 1, none⟩ = some (.slice A0_1 l0_1.length c0_1) := (blk_cell BK310.out 1).trans rfl; have hfz131_0 := blk_frozen BK310.out 0; have hfz131_1 := blk_frozen BK310.out 1) | ((with_reducible refine gate_callee (f := 38) rfl ?_); refine goesL_ (some 98) rfl rfl Try.func38 (by kernel_rfl) rfl #[.agg #[.int .i64 a0_0, .slice A0_1 l0_1.length c0_1]] rfl (by (try simp only [List.map_toArray, List.map_cons, List.map_nil]); first | done | rfl | (simp only [List.length_drop, List.length_take]; rfl)) ?_; (with_reducible refine (laws_toMesh.calls kj80 a0_0 _ _ l0_1 t378 t379 _ ?side1 ?side2 A118.out).mono ?_); (case side1 => repeat (first | exact (Kd.C_below HR0_1.out HB.out) | (with_reducible refine Kd.C_alloc ?_ _) | (with_reducible refine Kd.C_drewN ?_ _) | (with_reducible refine Kd.C_drew ?_))); (case side2 => exact HC0_1.out); rintro e w132 ⟨v380, rfl, ho0, hb⟩; refine ⟨_, rfl, ?_⟩; have n0_ := Aside0.mk (Kd.R_elder' (by (with_reducible repeat first | apply Kd.R_alloc | apply Kd.R_drewN | apply Kd.R_drew); exact HO_334001.out) (Kd.R_base ho0) hb); have n1_ := Aside0.mk (R_bel HO_334002.out hb); have n2_ := Aside0.mk (R_bel HO_334003.out hb); have n3_ := Aside0.mk (R_bel HO_334004.out hb); have n4_ := Aside0.mk (Kd.R_elder' (by (with_reducible repeat first | apply Kd.R_alloc | apply Kd.R_drewN | apply Kd.R_drew); exact HO_339001.out) (Kd.R_base ho0) hb); have n5_ := Aside0.mk (Kd.R_elder' (by (with_reducible repeat first | apply Kd.R_alloc | apply Kd.R_drewN | apply Kd.R_drew); exact HO_357001.out) (Kd.R_base ho0) hb); have n6_ := Aside0.mk (R_bel HO_357002.out hb); have n7_ := Aside0.mk (R_bel HO_357003.out hb); have n8_ := Aside0.mk (R_bel HO_357004.out hb); have n9_ := Aside0.mk (Kd.R_lower (Kd.R_new' (Kd.R_new' (Kd.R_new' ho0 (Kd.R_lt (by (with_reducible repeat first | apply Kd.R_alloc | apply Kd.R_drewN | apply Kd.R_drew); exact HO_334001.out))) (Kd.R_lt (by (with_reducible repeat first | apply Kd.R_alloc | apply Kd.R_drewN | apply Kd.R_drew); exact HO_339001.out))) (Kd.R_lt (by (with_reducible repeat first | apply Kd.R_alloc | apply Kd.R_drewN | apply Kd.R_drew); exact HO_357001.out))) (below_size (by repeat (first | (with_reducible first | exact HB.out | apply below_alloc | apply pw_below_drewN | apply below_drew1 | refine below_set ?_ GE310.out | refine below_set ?_ GE333.out | refine below_set ?_ GE338.out | refine below_set ?_ GE356.out) | exact HB.out)))); have n10_ := Aside0.mk (blk_bel BK310.out hb); have n11_ := Aside0.mk (blk_bel BK333.out hb); have n12_ := Aside0.mk (blk_bel BK338.out hb); have n13_ := Aside0.mk (blk_bel BK356.out hb); have n14_ := Aside0.mk (below_step (by repeat (first | (with_reducible first | exact HB.out | apply below_alloc | apply pw_below_drewN | apply below_drew1 | refine below_set ?_ GE310.out | refine below_set ?_ GE333.out | refine below_set ?_ GE338.out | refine below_set ?_ GE356.out) | exact HB.out)) hb); clear HO_334001; clear HO_334002; clear HO_334003; clear HO_334004; clear HO_339001; clear HO_357001; clear HO_357002; clear HO_357003; clear HO_357004; clear BK310; clear BK333; clear BK338; clear BK356; clear HB; have HO_334001 := n0_; have HO_334002 := n1_; have HO_334003 := n2_; have HO_334004 := n3_; have HO_339001 := n4_; have HO_357001 := n5_; have HO_357002 := n6_; have HO_357003 := n7_; have HO_357004 := n8_; have HO381 := n9_; have BK310 := n10_; have BK333 := n11_; have BK338 := n12_; have BK356 := n13_; have HB := n14_; clear n0_ n1_ n2_ n3_ n4_ n5_ n6_ n7_ n8_ n9_ n10_ n11_ n12_ n13_ n14_; (try clear hb); (try clear hb2); (try clear hk); (try clear hi); (try clear ho0)) | ((with_reducible refine gate_callee (f := 39) rfl ?_); refine goesL_ (some 100) rfl rfl Try.func39 (by kernel_rfl) rfl #[.slice A1 l1.length c1] rfl (by (try simp only [List.map_toArray, List.map_cons, List.map_nil]); first | done | rfl | (simp only [List.length_drop, List.length_take]; rfl)) ?_; (with_reducible refine (laws_toIntS.calls kj80 _ _ l1 t382 _ ?side1 ?side2 A119.out).mono ?_); (case side1 => repeat (first | exact (Kd.C_below HR1.out HB.out) | (with_reducible refine Kd.C_alloc ?_ _) | (with_reducible refine Kd.C_drewN ?_ _) | (with_reducible refine Kd.C_drew ?_))); (case side2 => exact HC1.out); rintro e w133 ⟨v383, rfl, ho0, hb⟩; refine ⟨_, rfl, ?_⟩; have n0_ := Aside0.mk (R_bel HO_334001.out hb); have n1_ := Aside0.mk (Kd.R_elder' (by (with_reducible repeat first | apply Kd.R_alloc | apply Kd.R_drewN | apply Kd.R_drew); exact HO_334002.out) (Kd.R_base ho0) hb); have n2_ := Aside0.mk (Kd.R_elder' (by (with_reducible repeat first | apply Kd.R_alloc | apply Kd.R_drewN | apply Kd.R_drew); exact HO_334003.out) (Kd.R_base ho0) hb); have n3_ := Aside0.mk (Kd.R_elder' (by (with_reducible repeat first | apply Kd.R_alloc | apply Kd.R_drewN | apply Kd.R_drew); exact HO_334004.out) (Kd.R_base ho0) hb); have n4_ := Aside0.mk (R_bel HO_339001.out hb); have n5_ := Aside0.mk (R_bel HO_357001.out hb); have n6_ := Aside0.mk (Kd.R_elder' (by (with_reducible repeat first | apply Kd.R_alloc | apply Kd.R_drewN | apply Kd.R_drew); exact HO_357002.out) (Kd.R_base ho0) hb); have n7_ := Aside0.mk (Kd.R_elder' (by (with_reducible repeat first | apply Kd.R_alloc | apply Kd.R_drewN | apply Kd.R_drew); exact HO_357003.out) (Kd.R_base ho0) hb); have n8_ := Aside0.mk (Kd.R_elder' (by (with_reducible repeat first | apply Kd.R_alloc | apply Kd.R_drewN | apply Kd.R_drew); exact HO_357004.out) (Kd.R_base ho0) hb); have n9_ := Aside0.mk (R_bel HO381.out hb); have n10_ := Aside0.mk (Kd.R_lower (Kd.R_new' (Kd.R_new' (Kd.R_new' (Kd.R_new' (Kd.R_new' (Kd.R_new' ho0 (Kd.R_lt (by (with_reducible repeat first | apply Kd.R_alloc | apply Kd.R_drewN | apply Kd.R_drew); exact HO_334002.out))) (Kd.R_lt (by (with_reducible repeat first | apply Kd.R_alloc | apply Kd.R_drewN | apply Kd.R_drew); exact HO_334003.out))) (Kd.R_lt (by (with_reducible repeat first | apply Kd.R_alloc | apply Kd.R_drewN | apply Kd.R_drew); exact HO_334004.out))) (Kd.R_lt (by (with_reducible repeat first | apply Kd.R_alloc | apply Kd.R_drewN | apply Kd.R_drew); exact HO_357002.out))) (Kd.R_lt (by (with_reducible repeat first | apply Kd.R_alloc | apply Kd.R_drewN | apply Kd.R_drew); exact HO_357003.out))) (Kd.R_lt (by (with_reducible repeat first | apply Kd.R_alloc | apply Kd.R_drewN | apply Kd.R_drew); exact HO_357004.out))) (below_size (by repeat (first | (with_reducible first | exact HB.out | apply below_alloc | apply pw_below_drewN | apply below_drew1 | refine below_set ?_ GE310.out | refine below_set ?_ GE333.out | refine below_set ?_ GE338.out | refine below_set ?_ GE356.out) | exact HB.out)))); have n11_ := Aside0.mk (blk_bel BK310.out hb); have n12_ := Aside0.mk (blk_bel BK333.out hb); have n13_ := Aside0.mk (blk_bel BK338.out hb); have n14_ := Aside0.mk (blk_bel BK356.out hb); have n15_ := Aside0.mk (below_step (by repeat (first | (with_reducible first | exact HB.out | apply below_alloc | apply pw_below_drewN | apply below_drew1 | refine below_set ?_ GE310.out | refine below_set ?_ GE333.out | refine below_set ?_ GE338.out | refine below_set ?_ GE356.out) | exact HB.out)) hb); clear HO_334001; clear HO_334002; clear HO_334003; clear HO_334004; clear HO_339001; clear HO_357001; clear HO_357002; clear HO_357003; clear HO_357004; clear HO381; clear BK310; clear BK333; clear BK338; clear BK356; clear HB; have HO_334001 := n0_; have HO_334002 := n1_; have HO_334003 := n2_; have HO_334004 := n3_; have HO_339001 := n4_; have HO_357001 := n5_; have HO_357002 := n6_; have HO_357003 := n7_; have HO_357004 := n8_; have HO381 := n9_; have HO384 := n10_; have BK310 := n11_; have BK333 := n12_; have BK338 := n13_; have BK356 := n14_; have HB := n15_; clear n0_ n1_ n2_ n3_ n4_ n5_ n6_ n7_ n8_ n9_ n10_ n11_ n12_ n13_ n14_ n15_; (try clear hb); (try clear hb2); (try clear hk); (try clear hi); (try clear ho0); obtain ⟨Ao134, co134, eo134⟩ := Kd.R_slice HO381.out; subst eo134; obtain ⟨Ao135, co135, eo135⟩ := Kd.R_slice HO384.out; subst eo135) | ((with_reducible refine gate_callee (f := 31) rfl ?_); refine goesL_ (some 102) rfl rfl Try.func31 (by kernel_rfl) rfl #[.agg #[.int .i64 t378, .slice Ao134 t379.length co134], .slice Ao135 t382.length co135, .int .i64 a2] rfl (by (try simp only [List.map_toArray, List.map_cons, List.map_nil]); first | done | rfl | (simp only [List.length_drop, List.length_take]; rfl)) ?_; (with_reducible refine (impl_FillState.calls kj80 t378 _ _ t379 _ _ t382 a2 t385 t386 t389 t392 t395 t398 _ ?side1 ?side2 ?side3 ?side4 A120.out).mono ?_); (case side1 => repeat (first | exact (Kd.R_reads' HO381.out).2.2 | (with_reducible refine Kd.C_alloc ?_ _) | (with_reducible refine Kd.C_drewN ?_ _) | (with_reducible refine Kd.C_drew ?_))); (case side2 => exact (Kd.R_reads' HO381.out).2.1); (case side3 => repeat (first | exact (Kd.R_reads' HO384.out).2.2 | (with_reducible refine Kd.C_alloc ?_ _) | (with_reducible refine Kd.C_drewN ?_ _) | (with_reducible refine Kd.C_drew ?_))); (case side4 => exact (Kd.R_reads' HO384.out).2.1); rintro e w136 ⟨v387, v390, v393, v396, rfl, ho0, ho1, ho2, ho3, hb⟩; refine ⟨_, rfl, ?_⟩; have n0_ := Aside0.mk (Kd.R_elder' (by (with_reducible repeat first | apply Kd.R_alloc | apply Kd.R_drewN | apply Kd.R_drew); exact HO_334001.out) (Kd.R_base ho0) hb); have n1_ := Aside0.mk (Kd.R_mono (Kd.R_told (Kd.R_told (Kd.R_told (Kd.R_old (by (with_reducible repeat first | apply Kd.R_alloc | apply Kd.R_drewN | apply Kd.R_drew); exact HO_334002.out) hb) (Kd.R_base ho1)) (Kd.R_base ho2)) (Kd.R_base ho3)) (fun _ h_ => h_.1)); have n2_ := Aside0.mk (Kd.R_mono (Kd.R_told (Kd.R_told (Kd.R_told (Kd.R_old (by (with_reducible repeat first | apply Kd.R_alloc | apply Kd.R_drewN | apply Kd.R_drew); exact HO_334003.out) hb) (Kd.R_base ho1)) (Kd.R_base ho2)) (Kd.R_base ho3)) (fun _ h_ => h_.1)); have n3_ := Aside0.mk (Kd.R_mono (Kd.R_told (Kd.R_told (Kd.R_told (Kd.R_old (by (with_reducible repeat first | apply Kd.R_alloc | apply Kd.R_drewN | apply Kd.R_drew); exact HO_334004.out) hb) (Kd.R_base ho1)) (Kd.R_base ho2)) (Kd.R_base ho3)) (fun _ h_ => h_.1)); have n4_ := Aside0.mk (Kd.R_elder' (by (with_reducible repeat first | apply Kd.R_alloc | apply Kd.R_drewN | apply Kd.R_drew); exact HO_339001.out) (Kd.R_base ho0) hb); have n5_ := Aside0.mk (Kd.R_elder' (by (with_reducible repeat first | apply Kd.R_alloc | apply Kd.R_drewN | apply Kd.R_drew); exact HO_357001.out) (Kd.R_base ho0) hb); have n6_ := Aside0.mk (Kd.R_mono (Kd.R_told (Kd.R_told (Kd.R_told (Kd.R_old (by (with_reducible repeat first | apply Kd.R_alloc | apply Kd.R_drewN | apply Kd.R_drew); exact HO_357002.out) hb) (Kd.R_base ho1)) (Kd.R_base ho2)) (Kd.R_base ho3)) (fun _ h_ => h_.1)); have n7_ := Aside0.mk (Kd.R_mono (Kd.R_told (Kd.R_told (Kd.R_told (Kd.R_old (by (with_reducible repeat first | apply Kd.R_alloc | apply Kd.R_drewN | apply Kd.R_drew); exact HO_357003.out) hb) (Kd.R_base ho1)) (Kd.R_base ho2)) (Kd.R_base ho3)) (fun _ h_ => h_.1)); have n8_ := Aside0.mk (Kd.R_mono (Kd.R_told (Kd.R_told (Kd.R_told (Kd.R_old (by (with_reducible repeat first | apply Kd.R_alloc | apply Kd.R_drewN | apply Kd.R_drew); exact HO_357004.out) hb) (Kd.R_base ho1)) (Kd.R_base ho2)) (Kd.R_base ho3)) (fun _ h_ => h_.1)); have n9_ := Aside0.mk (Kd.R_elder' (by (with_reducible repeat first | apply Kd.R_alloc | apply Kd.R_drewN | apply Kd.R_drew); exact HO381.out) (Kd.R_base ho0) hb); have n10_ := Aside0.mk (Kd.R_mono (Kd.R_told (Kd.R_told (Kd.R_told (Kd.R_old (by (with_reducible repeat first | apply Kd.R_alloc | apply Kd.R_drewN | apply Kd.R_drew); exact HO384.out) hb) (Kd.R_base ho1)) (Kd.R_base ho2)) (Kd.R_base ho3)) (fun _ h_ => h_.1)); have n11_ := Aside0.mk (Kd.R_lower (Kd.R_new' (Kd.R_new' (Kd.R_new' (Kd.R_new' ho0 (Kd.R_lt (by (with_reducible repeat first | apply Kd.R_alloc | apply Kd.R_drewN | apply Kd.R_drew); exact HO_334001.out))) (Kd.R_lt (by (with_reducible repeat first | apply Kd.R_alloc | apply Kd.R_drewN | apply Kd.R_drew); exact HO_339001.out))) (Kd.R_lt (by (with_reducible repeat first | apply Kd.R_alloc | apply Kd.R_drewN | apply Kd.R_drew); exact HO_357001.out))) (Kd.R_lt (by (with_reducible repeat first | apply Kd.R_alloc | apply Kd.R_drewN | apply Kd.R_drew); exact HO381.out))) (below_size (by repeat (first | (with_reducible first | exact HB.out | apply below_alloc | apply pw_below_drewN | apply below_drew1 | refine below_set ?_ GE310.out | refine below_set ?_ GE333.out | refine below_set ?_ GE338.out | refine below_set ?_ GE356.out) | exact HB.out)))); have n12_ := Aside0.mk (Kd.R_lower (Kd.R_new' (Kd.R_new' (Kd.R_new' (Kd.R_new' (Kd.R_new' (Kd.R_new' (Kd.R_new' ho1 (Kd.R_lt (by (with_reducible repeat first | apply Kd.R_alloc | apply Kd.R_drewN | apply Kd.R_drew); exact HO_334002.out))) (Kd.R_lt (by (with_reducible repeat first | apply Kd.R_alloc | apply Kd.R_drewN | apply Kd.R_drew); exact HO_334003.out))) (Kd.R_lt (by (with_reducible repeat first | apply Kd.R_alloc | apply Kd.R_drewN | apply Kd.R_drew); exact HO_334004.out))) (Kd.R_lt (by (with_reducible repeat first | apply Kd.R_alloc | apply Kd.R_drewN | apply Kd.R_drew); exact HO_357002.out))) (Kd.R_lt (by (with_reducible repeat first | apply Kd.R_alloc | apply Kd.R_drewN | apply Kd.R_drew); exact HO_357003.out))) (Kd.R_lt (by (with_reducible repeat first | apply Kd.R_alloc | apply Kd.R_drewN | apply Kd.R_drew); exact HO_357004.out))) (Kd.R_lt (by (with_reducible repeat first | apply Kd.R_alloc | apply Kd.R_drewN | apply Kd.R_drew); exact HO384.out))) (below_size (by repeat (first | (with_reducible first | exact HB.out | apply below_alloc | apply pw_below_drewN | apply below_drew1 | refine below_set ?_ GE310.out | refine below_set ?_ GE333.out | refine below_set ?_ GE338.out | refine below_set ?_ GE356.out) | exact HB.out)))); have n13_ := Aside0.mk (Kd.R_lower (Kd.R_new' (Kd.R_new' (Kd.R_new' (Kd.R_new' (Kd.R_new' (Kd.R_new' (Kd.R_new' ho2 (Kd.R_lt (by (with_reducible repeat first | apply Kd.R_alloc | apply Kd.R_drewN | apply Kd.R_drew); exact HO_334002.out))) (Kd.R_lt (by (with_reducible repeat first | apply Kd.R_alloc | apply Kd.R_drewN | apply Kd.R_drew); exact HO_334003.out))) (Kd.R_lt (by (with_reducible repeat first | apply Kd.R_alloc | apply Kd.R_drewN | apply Kd.R_drew); exact HO_334004.out))) (Kd.R_lt (by (with_reducible repeat first | apply Kd.R_alloc | apply Kd.R_drewN | apply Kd.R_drew); exact HO_357002.out))) (Kd.R_lt (by (with_reducible repeat first | apply Kd.R_alloc | apply Kd.R_drewN | apply Kd.R_drew); exact HO_357003.out))) (Kd.R_lt (by (with_reducible repeat first | apply Kd.R_alloc | apply Kd.R_drewN | apply Kd.R_drew); exact HO_357004.out))) (Kd.R_lt (by (with_reducible repeat first | apply Kd.R_alloc | apply Kd.R_drewN | apply Kd.R_drew); exact HO384.out))) (below_size (by repeat (first | (with_reducible first | exact HB.out | apply below_alloc | apply pw_below_drewN | apply below_drew1 | refine below_set ?_ GE310.out | refine below_set ?_ GE333.out | refine below_set ?_ GE338.out | refine below_set ?_ GE356.out) | exact HB.out)))); have n14_ := Aside0.mk (Kd.R_lower (Kd.R_new' (Kd.R_new' (Kd.R_new' (Kd.R_new' (Kd.R_new' (Kd.R_new' (Kd.R_new' ho3 (Kd.R_lt (by (with_reducible repeat first | apply Kd.R_alloc | apply Kd.R_drewN | apply Kd.R_drew); exact HO_334002.out))) (Kd.R_lt (by (with_reducible repeat first | apply Kd.R_alloc | apply Kd.R_drewN | apply Kd.R_drew); exact HO_334003.out))) (Kd.R_lt (by (with_reducible repeat first | apply Kd.R_alloc | apply Kd.R_drewN | apply Kd.R_drew); exact HO_334004.out))) (Kd.R_lt (by (with_reducible repeat first | apply Kd.R_alloc | apply Kd.R_drewN | apply Kd.R_drew); exact HO_357002.out))) (Kd.R_lt (by (with_reducible repeat first | apply Kd.R_alloc | apply Kd.R_drewN | apply Kd.R_drew); exact HO_357003.out))) (Kd.R_lt (by (with_reducible repeat first | apply Kd.R_alloc | apply Kd.R_drewN | apply Kd.R_drew); exact HO_357004.out))) (Kd.R_lt (by (with_reducible repeat first | apply Kd.R_alloc | apply Kd.R_drewN | apply Kd.R_drew); exact HO384.out))) (below_size (by repeat (first | (with_reducible first | exact HB.out | apply below_alloc | apply pw_below_drewN | apply below_drew1 | refine below_set ?_ GE310.out | refine below_set ?_ GE333.out | refine below_set ?_ GE338.out | refine below_set ?_ GE356.out) | exact HB.out)))); have n15_ := Aside0.mk (blk_bel BK310.out hb); have n16_ := Aside0.mk (blk_bel BK333.out hb); have n17_ := Aside0.mk (blk_bel BK338.out hb); have n18_ := Aside0.mk (blk_bel BK356.out hb); have n19_ := Aside0.mk (below_step (by repeat (first | (with_reducible first | exact HB.out | apply below_alloc | apply pw_below_drewN | apply below_drew1 | refine below_set ?_ GE310.out | refine below_set ?_ GE333.out | refine below_set ?_ GE338.out | refine below_set ?_ GE356.out) | exact HB.out)) hb); clear HO_334001; clear HO_334002; clear HO_334003; clear HO_334004; clear HO_339001; clear HO_357001; clear HO_357002; clear HO_357003; clear HO_357004; clear HO381; clear HO384; clear BK310; clear BK333; clear BK338; clear BK356; clear HB; have HO_334001 := n0_; have HO_334002 := n1_; have HO_334003 := n2_; have HO_334004 := n3_; have HO_339001 := n4_; have HO_357001 := n5_; have HO_357002 := n6_; have HO_357003 := n7_; have HO_357004 := n8_; have HO381 := n9_; have HO384 := n10_; have HO388 := n11_; have HO391 := n12_; have HO394 := n13_; have HO397 := n14_; have BK310 := n15_; have BK333 := n16_; have BK338 := n17_; have BK356 := n18_; have HB := n19_; clear n0_ n1_ n2_ n3_ n4_ n5_ n6_ n7_ n8_ n9_ n10_ n11_ n12_ n13_ n14_ n15_ n16_ n17_ n18_ n19_; (try clear hb); (try clear hb2); (try clear hk); (try clear hi); (try clear ho0); (try clear ho1); (try clear ho2); (try clear ho3)) | ((with_reducible refine gate_dst (N := 17) rfl ?_); refine box_event ?hg (N := 17) ?hd (cs := #[.int .i64 0, .slice none 0 0, .slice none 0 0, .slice none 0 0, .slice none 0 0]) (t := 29) ?hr ?_; (case hd => rfl); (case hg => rfl); (case hr => first | (go_simp; done) | (go_simp; rfl)); intro gb399 hg w137 hbox hb; have n0_ := Aside0.mk (R_bel HO_334001.out hb); have n1_ := Aside0.mk (R_bel HO_334002.out hb); have n2_ := Aside0.mk (R_bel HO_334003.out hb); have n3_ := Aside0.mk (R_bel HO_334004.out hb); have n4_ := Aside0.mk (R_bel HO_339001.out hb); have n5_ := Aside0.mk (R_bel HO_357001.out hb); have n6_ := Aside0.mk (R_bel HO_357002.out hb); have n7_ := Aside0.mk (R_bel HO_357003.out hb); have n8_ := Aside0.mk (R_bel HO_357004.out hb); have n9_ := Aside0.mk (R_bel HO381.out hb); have n10_ := Aside0.mk (R_bel HO384.out hb); have n11_ := Aside0.mk (R_bel HO388.out hb); have n12_ := Aside0.mk (R_bel HO391.out hb); have n13_ := Aside0.mk (R_bel HO394.out hb); have n14_ := Aside0.mk (R_bel HO397.out hb); have n15_ := Aside0.mk (blk_bel BK310.out hb); have n16_ := Aside0.mk (blk_bel BK333.out hb); have n17_ := Aside0.mk (blk_bel BK338.out hb); have n18_ := Aside0.mk (blk_bel BK356.out hb); have n19_ := Aside0.mk (below_step (by repeat (first | (with_reducible first | exact HB.out | apply below_alloc | apply pw_below_drewN | apply below_drew1 | refine below_set ?_ GE310.out | refine below_set ?_ GE333.out | refine below_set ?_ GE338.out | refine below_set ?_ GE356.out) | exact HB.out)) hb); have n20_ := Aside0.mk (hbox); have n21_ := Aside0.mk ((by rw [hg]; exact (below_size (by repeat (first | (with_reducible first | exact HB.out | apply below_alloc | apply pw_below_drewN | apply below_drew1 | refine below_set ?_ GE310.out | refine below_set ?_ GE333.out | refine below_set ?_ GE338.out | refine below_set ?_ GE356.out) | exact HB.out))) : w.heap.size ≤ gb399)); have n22_ := Aside0.mk ((by rw [hg]; exact (below_size (by repeat (first | (with_reducible first | exact HB.out | apply below_alloc | apply pw_below_drewN | apply below_drew1 | refine below_set ?_ GE310.out | refine below_set ?_ GE333.out | refine below_set ?_ GE338.out | refine below_set ?_ GE356.out) | exact HB.out))) : w.heap.size ≤ gb399)); have n23_ := Aside0.mk ((by rw [hg]; exact Nat.ne_of_lt (blk_lt (g := gb310) (o := .cells #[.int .i64 a0_0, .slice A0_1 l0_1.length c0_1] 41 (0, 0)) (by (with_reducible repeat first | apply blk_drewN | apply blk_drew | apply blk_alloc); exact BK310.out)) : gb310 ≠ gb399)); have n24_ := Aside0.mk ((by rw [hg]; exact Nat.ne_of_gt (blk_lt (g := gb310) (o := .cells #[.int .i64 a0_0, .slice A0_1 l0_1.length c0_1] 41 (0, 0)) (by (with_reducible repeat first | apply blk_drewN | apply blk_drew | apply blk_alloc); exact BK310.out)) : gb399 ≠ gb310)); have n25_ := Aside0.mk ((by rw [hg]; exact Nat.ne_of_lt (blk_lt (g := gb333) (o := .cells #[.int .i64 t319, .slice Ao30 t320.length co30, .slice Ao31 t323.length co31, .slice Ao32 t326.length co32, .slice Ao33 t329.length co33] 29 (0, 0)) (by (with_reducible repeat first | apply blk_drewN | apply blk_drew | apply blk_alloc); exact BK333.out)) : gb333 ≠ gb399)); have n26_ := Aside0.mk ((by rw [hg]; exact Nat.ne_of_gt (blk_lt (g := gb333) (o := .cells #[.int .i64 t319, .slice Ao30 t320.length co30, .slice Ao31 t323.length co31, .slice Ao32 t326.length co32, .slice Ao33 t329.length co33] 29 (0, 0)) (by (with_reducible repeat first | apply blk_drewN | apply blk_drew | apply blk_alloc); exact BK333.out)) : gb399 ≠ gb333)); have n27_ := Aside0.mk ((by rw [hg]; exact Nat.ne_of_lt (blk_lt (g := gb338) (o := .cells #[.int .i64 t334, .slice Ao40 t368.length co40] 26 (0, 0)) (by (with_reducible repeat first | apply blk_drewN | apply blk_drew | apply blk_alloc); exact BK338.out)) : gb338 ≠ gb399)); have n28_ := Aside0.mk ((by rw [hg]; exact Nat.ne_of_gt (blk_lt (g := gb338) (o := .cells #[.int .i64 t334, .slice Ao40 t368.length co40] 26 (0, 0)) (by (with_reducible repeat first | apply blk_drewN | apply blk_drew | apply blk_alloc); exact BK338.out)) : gb399 ≠ gb338)); have n29_ := Aside0.mk ((by rw [hg]; exact Nat.ne_of_lt (blk_lt (g := gb356) (o := .cells #[.int .i64 t342, .slice Ao50 t343.length co50, .slice Ao51 t346.length co51, .slice Ao52 t349.length co52, .slice Ao53 t352.length co53] 29 (0, 0)) (by (with_reducible repeat first | apply blk_drewN | apply blk_drew | apply blk_alloc); exact BK356.out)) : gb356 ≠ gb399)); have n30_ := Aside0.mk ((by rw [hg]; exact Nat.ne_of_gt (blk_lt (g := gb356) (o := .cells #[.int .i64 t342, .slice Ao50 t343.length co50, .slice Ao51 t346.length co51, .slice Ao52 t349.length co52, .slice Ao53 t352.length co53] 29 (0, 0)) (by (with_reducible repeat first | apply blk_drewN | apply blk_drew | apply blk_alloc); exact BK356.out)) : gb399 ≠ gb356)); clear HO_334001; clear HO_334002; clear HO_334003; clear HO_334004; clear HO_339001; clear HO_357001; clear HO_357002; clear HO_357003; clear HO_357004; clear HO381; clear HO384; clear HO388; clear HO391; clear HO394; clear HO397; clear BK310; clear BK333; clear BK338; clear BK356; clear HB; have HO_334001 := n0_; have HO_334002 := n1_; have HO_334003 := n2_; have HO_334004 := n3_; have HO_339001 := n4_; have HO_357001 := n5_; have HO_357002 := n6_; have HO_357003 := n7_; have HO_357004 := n8_; have HO381 := n9_; have HO384 := n10_; have HO388 := n11_; have HO391 := n12_; have HO394 := n13_; have HO397 := n14_; have BK310 := n15_; have BK333 := n16_; have BK338 := n17_; have BK356 := n18_; have HB := n19_; have BK399 := n20_; have GW399 := n21_; have GE399 := n22_; have NB310_399 := n23_; have NB399_310 := n24_; have NB333_399 := n25_; have NB399_333 := n26_; have NB338_399 := n27_; have NB399_338 := n28_; have NB356_399 := n29_; have NB399_356 := n30_; clear n0_ n1_ n2_ n3_ n4_ n5_ n6_ n7_ n8_ n9_ n10_ n11_ n12_ n13_ n14_ n15_ n16_ n17_ n18_ n19_ n20_ n21_ n22_ n23_ n24_ n25_ n26_ n27_ n28_ n29_ n30_; clear hb hbox hg; have hnb138 := NB399_310.out; have hnc138 := NB310_399.out; have hnb139 := NB399_333.out; have hnc139 := NB333_399.out; have hnb140 := NB399_338.out; have hnc140 := NB338_399.out; have hnb141 := NB399_356.out; have hnc141 := NB356_399.out; have hcz142_0 : w137.cell? ⟨gb399, 0, none⟩ = some (.int .i64 0) := (blk_cell BK399.out 0).trans rfl; have hcz142_1 : w137.cell? ⟨gb399, 1, none⟩ = some (.slice none 0 0) := (blk_cell BK399.out 1).trans rfl; have hcz142_2 : w137.cell? ⟨gb399, 2, none⟩ = some (.slice none 0 0) := (blk_cell BK399.out 2).trans rfl; have hcz142_3 : w137.cell? ⟨gb399, 3, none⟩ = some (.slice none 0 0) := (blk_cell BK399.out 3).trans rfl; have hcz142_4 : w137.cell? ⟨gb399, 4, none⟩ = some (.slice none 0 0) := (blk_cell BK399.out 4).trans rfl; have hfz142_0 := blk_frozen BK399.out 0; have hfz142_1 := blk_frozen BK399.out 1; have hfz142_2 := blk_frozen BK399.out 2; have hfz142_3 := blk_frozen BK399.out 3; have hfz142_4 := blk_frozen BK399.out 4; obtain ⟨Ao143, co143, eo143⟩ := Kd.R_slice HO388.out; subst eo143; obtain ⟨Ao144, co144, eo144⟩ := Kd.R_slice HO391.out; subst eo144; obtain ⟨Ao145, co145, eo145⟩ := Kd.R_slice HO394.out; subst eo145; obtain ⟨Ao146, co146, eo146⟩ := Kd.R_slice HO397.out; subst eo146))
             (try simp only [Act.put, q1_, q2_, q3_])
             go_cut [113] (fun v113 wc => ∃ (kq : Nat) (x113_120 : Bool), v113 = .bool x113_120 ∧ Aside0 (laws_FnExactFillState.j2 kq t372 x113_120 t342 t373 t374 t375 t376 = some r) ∧ Aside0 (kq ≤ kj80) ∧ Aside0 (Kd.R k36 36 wc w.heap.size (fun k_ => some k_ ≠ ((.slice Ao40 t368.length co40) : Value).ownBlock ∧ some k_ ≠ ((.slice Ao50 t343.length co50) : Value).ownBlock ∧ some k_ ≠ ((.slice Ao143 t386.length co143) : Value).ownBlock) (.slice Ao30 t320.length co30) t320) ∧ Aside0 (Kd.R (Kd.int .i64) 3 wc w.heap.size (fun k_ => some k_ ≠ ((.slice Ao32 t326.length co32) : Value).ownBlock ∧ some k_ ≠ ((.slice Ao33 t329.length co33) : Value).ownBlock ∧ some k_ ≠ ((.slice Ao51 t346.length co51) : Value).ownBlock ∧ some k_ ≠ ((.slice Ao52 t349.length co52) : Value).ownBlock ∧ some k_ ≠ ((.slice Ao53 t352.length co53) : Value).ownBlock ∧ some k_ ≠ ((.slice Ao144 t389.length co144) : Value).ownBlock ∧ some k_ ≠ ((.slice Ao145 t392.length co145) : Value).ownBlock ∧ some k_ ≠ ((.slice Ao146 t395.length co146) : Value).ownBlock) (.slice Ao31 t323.length co31) t323) ∧ Aside0 (Kd.R (Kd.int .i64) 3 wc w.heap.size (fun k_ => some k_ ≠ ((.slice Ao31 t323.length co31) : Value).ownBlock ∧ some k_ ≠ ((.slice Ao33 t329.length co33) : Value).ownBlock ∧ some k_ ≠ ((.slice Ao51 t346.length co51) : Value).ownBlock ∧ some k_ ≠ ((.slice Ao52 t349.length co52) : Value).ownBlock ∧ some k_ ≠ ((.slice Ao53 t352.length co53) : Value).ownBlock ∧ some k_ ≠ ((.slice Ao144 t389.length co144) : Value).ownBlock ∧ some k_ ≠ ((.slice Ao145 t392.length co145) : Value).ownBlock ∧ some k_ ≠ ((.slice Ao146 t395.length co146) : Value).ownBlock) (.slice Ao32 t326.length co32) t326) ∧ Aside0 (Kd.R (Kd.int .i64) 3 wc w.heap.size (fun k_ => some k_ ≠ ((.slice Ao31 t323.length co31) : Value).ownBlock ∧ some k_ ≠ ((.slice Ao32 t326.length co32) : Value).ownBlock ∧ some k_ ≠ ((.slice Ao51 t346.length co51) : Value).ownBlock ∧ some k_ ≠ ((.slice Ao52 t349.length co52) : Value).ownBlock ∧ some k_ ≠ ((.slice Ao53 t352.length co53) : Value).ownBlock ∧ some k_ ≠ ((.slice Ao144 t389.length co144) : Value).ownBlock ∧ some k_ ≠ ((.slice Ao145 t392.length co145) : Value).ownBlock ∧ some k_ ≠ ((.slice Ao146 t395.length co146) : Value).ownBlock) (.slice Ao33 t329.length co33) t329) ∧ Aside0 (Kd.R k36 36 wc w.heap.size (fun k_ => some k_ ≠ ((.slice Ao30 t320.length co30) : Value).ownBlock ∧ some k_ ≠ ((.slice Ao50 t343.length co50) : Value).ownBlock ∧ some k_ ≠ ((.slice Ao143 t386.length co143) : Value).ownBlock) (.slice Ao40 t368.length co40) t368) ∧ Aside0 (Kd.R k36 36 wc w.heap.size (fun k_ => some k_ ≠ ((.slice Ao30 t320.length co30) : Value).ownBlock ∧ some k_ ≠ ((.slice Ao40 t368.length co40) : Value).ownBlock ∧ some k_ ≠ ((.slice Ao143 t386.length co143) : Value).ownBlock) (.slice Ao50 t343.length co50) t373) ∧ Aside0 (Kd.R (Kd.int .i64) 3 wc w.heap.size (fun k_ => some k_ ≠ ((.slice Ao31 t323.length co31) : Value).ownBlock ∧ some k_ ≠ ((.slice Ao32 t326.length co32) : Value).ownBlock ∧ some k_ ≠ ((.slice Ao33 t329.length co33) : Value).ownBlock ∧ some k_ ≠ ((.slice Ao52 t349.length co52) : Value).ownBlock ∧ some k_ ≠ ((.slice Ao53 t352.length co53) : Value).ownBlock ∧ some k_ ≠ ((.slice Ao144 t389.length co144) : Value).ownBlock ∧ some k_ ≠ ((.slice Ao145 t392.length co145) : Value).ownBlock ∧ some k_ ≠ ((.slice Ao146 t395.length co146) : Value).ownBlock) (.slice Ao51 t346.length co51) t374) ∧ Aside0 (Kd.R (Kd.int .i64) 3 wc w.heap.size (fun k_ => some k_ ≠ ((.slice Ao31 t323.length co31) : Value).ownBlock ∧ some k_ ≠ ((.slice Ao32 t326.length co32) : Value).ownBlock ∧ some k_ ≠ ((.slice Ao33 t329.length co33) : Value).ownBlock ∧ some k_ ≠ ((.slice Ao51 t346.length co51) : Value).ownBlock ∧ some k_ ≠ ((.slice Ao53 t352.length co53) : Value).ownBlock ∧ some k_ ≠ ((.slice Ao144 t389.length co144) : Value).ownBlock ∧ some k_ ≠ ((.slice Ao145 t392.length co145) : Value).ownBlock ∧ some k_ ≠ ((.slice Ao146 t395.length co146) : Value).ownBlock) (.slice Ao52 t349.length co52) t375) ∧ Aside0 (Kd.R (Kd.int .i64) 3 wc w.heap.size (fun k_ => some k_ ≠ ((.slice Ao31 t323.length co31) : Value).ownBlock ∧ some k_ ≠ ((.slice Ao32 t326.length co32) : Value).ownBlock ∧ some k_ ≠ ((.slice Ao33 t329.length co33) : Value).ownBlock ∧ some k_ ≠ ((.slice Ao51 t346.length co51) : Value).ownBlock ∧ some k_ ≠ ((.slice Ao52 t349.length co52) : Value).ownBlock ∧ some k_ ≠ ((.slice Ao144 t389.length co144) : Value).ownBlock ∧ some k_ ≠ ((.slice Ao145 t392.length co145) : Value).ownBlock ∧ some k_ ≠ ((.slice Ao146 t395.length co146) : Value).ownBlock) (.slice Ao53 t352.length co53) t376) ∧ Aside0 (Kd.R k36 36 wc w.heap.size (fun k_ => some k_ ≠ ((.slice Ao30 t320.length co30) : Value).ownBlock ∧ some k_ ≠ ((.slice Ao40 t368.length co40) : Value).ownBlock ∧ some k_ ≠ ((.slice Ao50 t343.length co50) : Value).ownBlock) (.slice Ao143 t386.length co143) t386) ∧ Aside0 (Kd.R (Kd.int .i64) 3 wc w.heap.size (fun k_ => some k_ ≠ ((.slice Ao31 t323.length co31) : Value).ownBlock ∧ some k_ ≠ ((.slice Ao32 t326.length co32) : Value).ownBlock ∧ some k_ ≠ ((.slice Ao33 t329.length co33) : Value).ownBlock ∧ some k_ ≠ ((.slice Ao51 t346.length co51) : Value).ownBlock ∧ some k_ ≠ ((.slice Ao52 t349.length co52) : Value).ownBlock ∧ some k_ ≠ ((.slice Ao53 t352.length co53) : Value).ownBlock ∧ some k_ ≠ ((.slice Ao145 t392.length co145) : Value).ownBlock ∧ some k_ ≠ ((.slice Ao146 t395.length co146) : Value).ownBlock) (.slice Ao144 t389.length co144) t389) ∧ Aside0 (Kd.R (Kd.int .i64) 3 wc w.heap.size (fun k_ => some k_ ≠ ((.slice Ao31 t323.length co31) : Value).ownBlock ∧ some k_ ≠ ((.slice Ao32 t326.length co32) : Value).ownBlock ∧ some k_ ≠ ((.slice Ao33 t329.length co33) : Value).ownBlock ∧ some k_ ≠ ((.slice Ao51 t346.length co51) : Value).ownBlock ∧ some k_ ≠ ((.slice Ao52 t349.length co52) : Value).ownBlock ∧ some k_ ≠ ((.slice Ao53 t352.length co53) : Value).ownBlock ∧ some k_ ≠ ((.slice Ao144 t389.length co144) : Value).ownBlock ∧ some k_ ≠ ((.slice Ao146 t395.length co146) : Value).ownBlock) (.slice Ao145 t392.length co145) t392) ∧ Aside0 (Kd.R (Kd.int .i64) 3 wc w.heap.size (fun k_ => some k_ ≠ ((.slice Ao31 t323.length co31) : Value).ownBlock ∧ some k_ ≠ ((.slice Ao32 t326.length co32) : Value).ownBlock ∧ some k_ ≠ ((.slice Ao33 t329.length co33) : Value).ownBlock ∧ some k_ ≠ ((.slice Ao51 t346.length co51) : Value).ownBlock ∧ some k_ ≠ ((.slice Ao52 t349.length co52) : Value).ownBlock ∧ some k_ ≠ ((.slice Ao53 t352.length co53) : Value).ownBlock ∧ some k_ ≠ ((.slice Ao144 t389.length co144) : Value).ownBlock ∧ some k_ ≠ ((.slice Ao145 t392.length co145) : Value).ownBlock) (.slice Ao146 t395.length co146) t395) ∧ Aside0 (wc.heap[gb310]? = some (.cells #[.int .i64 a0_0, (.slice A0_1 l0_1.length c0_1)] 41 (0, 0))) ∧ Aside0 (wc.heap[gb333]? = some (.cells #[.int .i64 t319, (.slice Ao30 t320.length co30), (.slice Ao31 t323.length co31), (.slice Ao32 t326.length co32), (.slice Ao33 t329.length co33)] 29 (0, 0))) ∧ Aside0 (wc.heap[gb338]? = some (.cells #[.int .i64 t334, (.slice Ao40 t368.length co40)] 26 (0, 0))) ∧ Aside0 (wc.heap[gb356]? = some (.cells #[.int .i64 t342, (.slice Ao50 t343.length co50), (.slice Ao51 t346.length co51), (.slice Ao52 t349.length co52), (.slice Ao53 t352.length co53)] 29 (0, 0))) ∧ Aside0 (wc.heap[gb399]? = some (.cells #[.int .i64 t385, (.slice Ao143 t386.length co143), (.slice Ao144 t389.length co144), (.slice Ao145 t392.length co145), (.slice Ao146 t395.length co146)] 29 (0, 0))) ∧ Aside0 (Below w.heap.size w wc))
             case first =>
              have H := HC121.out
              clear HC121
              replace H := Option.bind_eq_some_iff.mp H
              obtain ⟨t400, A1470, H⟩ := H
              (try dsimp only at H)
              have A147 := Aside0.mk A1470
              clear A1470
              by_cases c148 : t400 = true
              ·
               subst c148
               have H1 := H; rw [if_pos rfl] at H1
               clear H
               have H := H1
               clear H1
               have H' := Aside0.mk H
               clear H
               have hnb149 := NB399_310.out
               have hnc149 := NB310_399.out
               have hnb150 := NB399_333.out
               have hnc150 := NB333_399.out
               have hnb151 := NB399_338.out
               have hnc151 := NB338_399.out
               have hnb152 := NB399_356.out
               have hnc152 := NB356_399.out
               have hcz153_0 : w137.cell? ⟨gb399, 0, none⟩ = some (.int .i64 0) := (blk_cell BK399.out 0).trans rfl
               have hcz153_1 : w137.cell? ⟨gb399, 1, none⟩ = some (.slice none 0 0) := (blk_cell BK399.out 1).trans rfl
               have hcz153_2 : w137.cell? ⟨gb399, 2, none⟩ = some (.slice none 0 0) := (blk_cell BK399.out 2).trans rfl
               have hcz153_3 : w137.cell? ⟨gb399, 3, none⟩ = some (.slice none 0 0) := (blk_cell BK399.out 3).trans rfl
               have hcz153_4 : w137.cell? ⟨gb399, 4, none⟩ = some (.slice none 0 0) := (blk_cell BK399.out 4).trans rfl
               have hfz153_0 := blk_frozen BK399.out 0
               have hfz153_1 := blk_frozen BK399.out 1
               have hfz153_2 := blk_frozen BK399.out 2
               have hfz153_3 := blk_frozen BK399.out 3
               have hfz153_4 := blk_frozen BK399.out 4
               have hnb154 := NB333_310.out
               have hnc154 := NB310_333.out
               have hnb155 := NB333_338.out
               have hnc155 := NB338_333.out
               have hnb156 := NB333_356.out
               have hnc156 := NB356_333.out
               have hcz157_0 : w137.cell? ⟨gb333, 0, none⟩ = some (.int .i64 t319) := (blk_cell BK333.out 0).trans rfl
               have hcz157_1 : w137.cell? ⟨gb333, 1, none⟩ = some (.slice Ao30 t320.length co30) := (blk_cell BK333.out 1).trans rfl
               have hcz157_2 : w137.cell? ⟨gb333, 2, none⟩ = some (.slice Ao31 t323.length co31) := (blk_cell BK333.out 2).trans rfl
               have hcz157_3 : w137.cell? ⟨gb333, 3, none⟩ = some (.slice Ao32 t326.length co32) := (blk_cell BK333.out 3).trans rfl
               have hcz157_4 : w137.cell? ⟨gb333, 4, none⟩ = some (.slice Ao33 t329.length co33) := (blk_cell BK333.out 4).trans rfl
               have hfz157_0 := blk_frozen BK333.out 0
               have hfz157_1 := blk_frozen BK333.out 1
               have hfz157_2 := blk_frozen BK333.out 2
               have hfz157_3 := blk_frozen BK333.out 3
               have hfz157_4 := blk_frozen BK333.out 4
               go_wp2_with (first | ((with_reducible refine gate_callee (f := 25) rfl ?_); refine goesL_ (some 107) rfl rfl Try.func25 (by kernel_rfl) rfl #[.agg #[.int .i64 t385, .slice Ao143 t386.length co143, .slice Ao144 t389.length co144, .slice Ao145 t392.length co145, .slice Ao146 t395.length co146], .agg #[.int .i64 t319, .slice Ao30 t320.length co30, .slice Ao31 t323.length co31, .slice Ao32 t326.length co32, .slice Ao33 t329.length co33]] rfl (by (try simp only [List.map_toArray, List.map_cons, List.map_nil]); first | done | rfl | (simp only [List.length_drop, List.length_take]; rfl)) ?_; (with_reducible refine (laws_eqState.calls kj80 t385 _ _ t386 _ _ t389 _ _ t392 _ _ t395 t319 _ _ t320 _ _ t323 _ _ t326 _ _ t329 true _ ?side1 ?side2 ?side3 ?side4 ?side5 ?side6 ?side7 ?side8 ?side9 ?side10 ?side11 ?side12 ?side13 ?side14 ?side15 ?side16 A147.out).mono ?_); (case side1 => refine (Kd.R_reads' (e := 36) (base := w.heap.size) (ok := fun k_ => ((((True ∧ some k_ ≠ (.slice Ao30 t320.length co30 : Value).ownBlock) ∧ some k_ ≠ (.slice Ao40 t368.length co40 : Value).ownBlock) ∧ some k_ ≠ (.slice Ao50 t343.length co50 : Value).ownBlock) ∧ some k_ ≠ (.slice Ao134 t379.length co134 : Value).ownBlock)) (n := t386.length) (c := co143) ?_).2.2; exact (by (with_reducible repeat first | apply Kd.R_alloc | apply Kd.R_drewN | apply Kd.R_drew); exact (R_far5 HO388.out BK399.out))); (case side2 => exact (Kd.R_reads' HO388.out).2.1); (case side3 => refine (Kd.R_reads' (e := 3) (base := w.heap.size) (ok := fun k_ => ((((((((some k_ ≠ (.slice Ao145 t392.length co145 : Value).ownBlock ∧ some k_ ≠ (.slice Ao146 t395.length co146 : Value).ownBlock) ∧ some k_ ≠ (.slice Ao31 t323.length co31 : Value).ownBlock) ∧ some k_ ≠ (.slice Ao32 t326.length co32 : Value).ownBlock) ∧ some k_ ≠ (.slice Ao33 t329.length co33 : Value).ownBlock) ∧ some k_ ≠ (.slice Ao51 t346.length co51 : Value).ownBlock) ∧ some k_ ≠ (.slice Ao52 t349.length co52 : Value).ownBlock) ∧ some k_ ≠ (.slice Ao53 t352.length co53 : Value).ownBlock) ∧ some k_ ≠ (.slice Ao135 t382.length co135 : Value).ownBlock)) (n := t389.length) (c := co144) ?_).2.2; exact (by (with_reducible repeat first | apply Kd.R_alloc | apply Kd.R_drewN | apply Kd.R_drew); exact (R_far5 HO391.out BK399.out))); (case side4 => exact (Kd.R_reads' HO391.out).2.1); (case side5 => refine (Kd.R_reads' (e := 3) (base := w.heap.size) (ok := fun k_ => ((((((((some k_ ≠ (.slice Ao144 t389.length co144 : Value).ownBlock ∧ some k_ ≠ (.slice Ao146 t395.length co146 : Value).ownBlock) ∧ some k_ ≠ (.slice Ao31 t323.length co31 : Value).ownBlock) ∧ some k_ ≠ (.slice Ao32 t326.length co32 : Value).ownBlock) ∧ some k_ ≠ (.slice Ao33 t329.length co33 : Value).ownBlock) ∧ some k_ ≠ (.slice Ao51 t346.length co51 : Value).ownBlock) ∧ some k_ ≠ (.slice Ao52 t349.length co52 : Value).ownBlock) ∧ some k_ ≠ (.slice Ao53 t352.length co53 : Value).ownBlock) ∧ some k_ ≠ (.slice Ao135 t382.length co135 : Value).ownBlock)) (n := t392.length) (c := co145) ?_).2.2; exact (by (with_reducible repeat first | apply Kd.R_alloc | apply Kd.R_drewN | apply Kd.R_drew); exact (R_far5 HO394.out BK399.out))); (case side6 => exact (Kd.R_reads' HO394.out).2.1); (case side7 => refine (Kd.R_reads' (e := 3) (base := w.heap.size) (ok := fun k_ => ((((((((some k_ ≠ (.slice Ao144 t389.length co144 : Value).ownBlock ∧ some k_ ≠ (.slice Ao145 t392.length co145 : Value).ownBlock) ∧ some k_ ≠ (.slice Ao31 t323.length co31 : Value).ownBlock) ∧ some k_ ≠ (.slice Ao32 t326.length co32 : Value).ownBlock) ∧ some k_ ≠ (.slice Ao33 t329.length co33 : Value).ownBlock) ∧ some k_ ≠ (.slice Ao51 t346.length co51 : Value).ownBlock) ∧ some k_ ≠ (.slice Ao52 t349.length co52 : Value).ownBlock) ∧ some k_ ≠ (.slice Ao53 t352.length co53 : Value).ownBlock) ∧ some k_ ≠ (.slice Ao135 t382.length co135 : Value).ownBlock)) (n := t395.length) (c := co146) ?_).2.2; exact (by (with_reducible repeat first | apply Kd.R_alloc | apply Kd.R_drewN | apply Kd.R_drew); exact (R_far5 HO397.out BK399.out))); (case side8 => exact (Kd.R_reads' HO397.out).2.1); (case side9 => refine (Kd.R_reads' (e := 36) (base := w.heap.size) (ok := fun k_ => (((some k_ ≠ (.slice Ao40 t368.length co40 : Value).ownBlock ∧ some k_ ≠ (.slice Ao50 t343.length co50 : Value).ownBlock) ∧ some k_ ≠ (.slice Ao134 t379.length co134 : Value).ownBlock) ∧ some k_ ≠ (.slice Ao143 t386.length co143 : Value).ownBlock)) (n := t320.length) (c := co30) ?_).2.2; exact (by (with_reducible repeat first | apply Kd.R_alloc | apply Kd.R_drewN | apply Kd.R_drew); exact (R_far5 HO_334001.out BK399.out))); (case side10 => exact (Kd.R_reads' HO_334001.out).2.1); (case side11 => refine (Kd.R_reads' (e := 3) (base := w.heap.size) (ok := fun k_ => (((((some k_ ≠ (.slice Ao32 t326.length co32 : Value).ownBlock ∧ (some k_ ≠ (.slice Ao33 t329.length co33 : Value).ownBlock ∧ (some k_ ≠ (.slice Ao51 t346.length co51 : Value).ownBlock ∧ (some k_ ≠ (.slice Ao52 t349.length co52 : Value).ownBlock ∧ some k_ ≠ (.slice Ao53 t352.length co53 : Value).ownBlock)))) ∧ some k_ ≠ (.slice Ao135 t382.length co135 : Value).ownBlock) ∧ some k_ ≠ (.slice Ao144 t389.length co144 : Value).ownBlock) ∧ some k_ ≠ (.slice Ao145 t392.length co145 : Value).ownBlock) ∧ some k_ ≠ (.slice Ao146 t395.length co146 : Value).ownBlock)) (n := t323.length) (c := co31) ?_).2.2; exact (by (with_reducible repeat first | apply Kd.R_alloc | apply Kd.R_drewN | apply Kd.R_drew); exact (R_far5 HO_334002.out BK399.out))); (case side12 => exact (Kd.R_reads' HO_334002.out).2.1); (case side13 => refine (Kd.R_reads' (e := 3) (base := w.heap.size) (ok := fun k_ => (((((some k_ ≠ (.slice Ao31 t323.length co31 : Value).ownBlock ∧ (some k_ ≠ (.slice Ao33 t329.length co33 : Value).ownBlock ∧ (some k_ ≠ (.slice Ao51 t346.length co51 : Value).ownBlock ∧ (some k_ ≠ (.slice Ao52 t349.length co52 : Value).ownBlock ∧ some k_ ≠ (.slice Ao53 t352.length co53 : Value).ownBlock)))) ∧ some k_ ≠ (.slice Ao135 t382.length co135 : Value).ownBlock) ∧ some k_ ≠ (.slice Ao144 t389.length co144 : Value).ownBlock) ∧ some k_ ≠ (.slice Ao145 t392.length co145 : Value).ownBlock) ∧ some k_ ≠ (.slice Ao146 t395.length co146 : Value).ownBlock)) (n := t326.length) (c := co32) ?_).2.2; exact (by (with_reducible repeat first | apply Kd.R_alloc | apply Kd.R_drewN | apply Kd.R_drew); exact (R_far5 HO_334003.out BK399.out))); (case side14 => exact (Kd.R_reads' HO_334003.out).2.1); (case side15 => refine (Kd.R_reads' (e := 3) (base := w.heap.size) (ok := fun k_ => (((((some k_ ≠ (.slice Ao31 t323.length co31 : Value).ownBlock ∧ (some k_ ≠ (.slice Ao32 t326.length co32 : Value).ownBlock ∧ (some k_ ≠ (.slice Ao51 t346.length co51 : Value).ownBlock ∧ (some k_ ≠ (.slice Ao52 t349.length co52 : Value).ownBlock ∧ some k_ ≠ (.slice Ao53 t352.length co53 : Value).ownBlock)))) ∧ some k_ ≠ (.slice Ao135 t382.length co135 : Value).ownBlock) ∧ some k_ ≠ (.slice Ao144 t389.length co144 : Value).ownBlock) ∧ some k_ ≠ (.slice Ao145 t392.length co145 : Value).ownBlock) ∧ some k_ ≠ (.slice Ao146 t395.length co146 : Value).ownBlock)) (n := t329.length) (c := co33) ?_).2.2; exact (by (with_reducible repeat first | apply Kd.R_alloc | apply Kd.R_drewN | apply Kd.R_drew); exact (R_far5 HO_334004.out BK399.out))); (case side16 => exact (Kd.R_reads' HO_334004.out).2.1); rintro e w158 ⟨rfl, hb⟩; refine ⟨_, rfl, ?_⟩; have n0_ := Aside0.mk (Kd.R_below (by (with_reducible repeat first | apply Kd.R_alloc | apply Kd.R_drewN | apply Kd.R_drew); exact (R_far5 HO_334001.out BK399.out)) hb); have n1_ := Aside0.mk (Kd.R_below (by (with_reducible repeat first | apply Kd.R_alloc | apply Kd.R_drewN | apply Kd.R_drew); exact (R_far5 HO_334002.out BK399.out)) hb); have n2_ := Aside0.mk (Kd.R_below (by (with_reducible repeat first | apply Kd.R_alloc | apply Kd.R_drewN | apply Kd.R_drew); exact (R_far5 HO_334003.out BK399.out)) hb); have n3_ := Aside0.mk (Kd.R_below (by (with_reducible repeat first | apply Kd.R_alloc | apply Kd.R_drewN | apply Kd.R_drew); exact (R_far5 HO_334004.out BK399.out)) hb); have n4_ := Aside0.mk (Kd.R_below (by (with_reducible repeat first | apply Kd.R_alloc | apply Kd.R_drewN | apply Kd.R_drew); exact (R_far5 HO_339001.out BK399.out)) hb); have n5_ := Aside0.mk (Kd.R_below (by (with_reducible repeat first | apply Kd.R_alloc | apply Kd.R_drewN | apply Kd.R_drew); exact (R_far5 HO_357001.out BK399.out)) hb); have n6_ := Aside0.mk (Kd.R_below (by (with_reducible repeat first | apply Kd.R_alloc | apply Kd.R_drewN | apply Kd.R_drew); exact (R_far5 HO_357002.out BK399.out)) hb); have n7_ := Aside0.mk (Kd.R_below (by (with_reducible repeat first | apply Kd.R_alloc | apply Kd.R_drewN | apply Kd.R_drew); exact (R_far5 HO_357003.out BK399.out)) hb); have n8_ := Aside0.mk (Kd.R_below (by (with_reducible repeat first | apply Kd.R_alloc | apply Kd.R_drewN | apply Kd.R_drew); exact (R_far5 HO_357004.out BK399.out)) hb); have n9_ := Aside0.mk (Kd.R_below (by (with_reducible repeat first | apply Kd.R_alloc | apply Kd.R_drewN | apply Kd.R_drew); exact (R_far5 HO381.out BK399.out)) hb); have n10_ := Aside0.mk (Kd.R_below (by (with_reducible repeat first | apply Kd.R_alloc | apply Kd.R_drewN | apply Kd.R_drew); exact (R_far5 HO384.out BK399.out)) hb); have n11_ := Aside0.mk (Kd.R_below (by (with_reducible repeat first | apply Kd.R_alloc | apply Kd.R_drewN | apply Kd.R_drew); exact (R_far5 HO388.out BK399.out)) hb); have n12_ := Aside0.mk (Kd.R_below (by (with_reducible repeat first | apply Kd.R_alloc | apply Kd.R_drewN | apply Kd.R_drew); exact (R_far5 HO391.out BK399.out)) hb); have n13_ := Aside0.mk (Kd.R_below (by (with_reducible repeat first | apply Kd.R_alloc | apply Kd.R_drewN | apply Kd.R_drew); exact (R_far5 HO394.out BK399.out)) hb); have n14_ := Aside0.mk (Kd.R_below (by (with_reducible repeat first | apply Kd.R_alloc | apply Kd.R_drewN | apply Kd.R_drew); exact (R_far5 HO397.out BK399.out)) hb); have n15_ := Aside0.mk (blk_below (g := gb310) (o := .cells #[.int .i64 a0_0, .slice A0_1 l0_1.length c0_1] 41 (0, 0)) (by (with_reducible repeat first | apply blk_drewN | apply blk_drew | apply blk_alloc); refine blk_far ?_ NB310_399.out _; (with_reducible repeat first | apply blk_drewN | apply blk_drew | apply blk_alloc); refine blk_far ?_ NB310_399.out _; (with_reducible repeat first | apply blk_drewN | apply blk_drew | apply blk_alloc); refine blk_far ?_ NB310_399.out _; (with_reducible repeat first | apply blk_drewN | apply blk_drew | apply blk_alloc); refine blk_far ?_ NB310_399.out _; (with_reducible repeat first | apply blk_drewN | apply blk_drew | apply blk_alloc); refine blk_far ?_ NB310_399.out _; (with_reducible repeat first | apply blk_drewN | apply blk_drew | apply blk_alloc); exact BK310.out) hb); have n16_ := Aside0.mk (blk_below (g := gb333) (o := .cells #[.int .i64 t319, .slice Ao30 t320.length co30, .slice Ao31 t323.length co31, .slice Ao32 t326.length co32, .slice Ao33 t329.length co33] 29 (0, 0)) (by (with_reducible repeat first | apply blk_drewN | apply blk_drew | apply blk_alloc); refine blk_far ?_ NB333_399.out _; (with_reducible repeat first | apply blk_drewN | apply blk_drew | apply blk_alloc); refine blk_far ?_ NB333_399.out _; (with_reducible repeat first | apply blk_drewN | apply blk_drew | apply blk_alloc); refine blk_far ?_ NB333_399.out _; (with_reducible repeat first | apply blk_drewN | apply blk_drew | apply blk_alloc); refine blk_far ?_ NB333_399.out _; (with_reducible repeat first | apply blk_drewN | apply blk_drew | apply blk_alloc); refine blk_far ?_ NB333_399.out _; (with_reducible repeat first | apply blk_drewN | apply blk_drew | apply blk_alloc); exact BK333.out) hb); have n17_ := Aside0.mk (blk_below (g := gb338) (o := .cells #[.int .i64 t334, .slice Ao40 t368.length co40] 26 (0, 0)) (by (with_reducible repeat first | apply blk_drewN | apply blk_drew | apply blk_alloc); refine blk_far ?_ NB338_399.out _; (with_reducible repeat first | apply blk_drewN | apply blk_drew | apply blk_alloc); refine blk_far ?_ NB338_399.out _; (with_reducible repeat first | apply blk_drewN | apply blk_drew | apply blk_alloc); refine blk_far ?_ NB338_399.out _; (with_reducible repeat first | apply blk_drewN | apply blk_drew | apply blk_alloc); refine blk_far ?_ NB338_399.out _; (with_reducible repeat first | apply blk_drewN | apply blk_drew | apply blk_alloc); refine blk_far ?_ NB338_399.out _; (with_reducible repeat first | apply blk_drewN | apply blk_drew | apply blk_alloc); exact BK338.out) hb); have n18_ := Aside0.mk (blk_below (g := gb356) (o := .cells #[.int .i64 t342, .slice Ao50 t343.length co50, .slice Ao51 t346.length co51, .slice Ao52 t349.length co52, .slice Ao53 t352.length co53] 29 (0, 0)) (by (with_reducible repeat first | apply blk_drewN | apply blk_drew | apply blk_alloc); refine blk_far ?_ NB356_399.out _; (with_reducible repeat first | apply blk_drewN | apply blk_drew | apply blk_alloc); refine blk_far ?_ NB356_399.out _; (with_reducible repeat first | apply blk_drewN | apply blk_drew | apply blk_alloc); refine blk_far ?_ NB356_399.out _; (with_reducible repeat first | apply blk_drewN | apply blk_drew | apply blk_alloc); refine blk_far ?_ NB356_399.out _; (with_reducible repeat first | apply blk_drewN | apply blk_drew | apply blk_alloc); refine blk_far ?_ NB356_399.out _; (with_reducible repeat first | apply blk_drewN | apply blk_drew | apply blk_alloc); exact BK356.out) hb); have n19_ := Aside0.mk (blk_below (g := gb399) (o := .cells #[.int .i64 t385, .slice Ao143 t386.length co143, .slice Ao144 t389.length co144, .slice Ao145 t392.length co145, .slice Ao146 t395.length co146] 29 (0, 0)) (by (with_reducible repeat first | apply blk_drewN | apply blk_drew | apply blk_alloc); refine blk_put (cs := #[.int .i64 t385, .slice Ao143 t386.length co143, .slice Ao144 t389.length co144, .slice Ao145 t392.length co145, .slice none 0 0]) ?_ 4 _ rfl; (with_reducible repeat first | apply blk_drewN | apply blk_drew | apply blk_alloc); refine blk_put (cs := #[.int .i64 t385, .slice Ao143 t386.length co143, .slice Ao144 t389.length co144, .slice none 0 0, .slice none 0 0]) ?_ 3 _ rfl; (with_reducible repeat first | apply blk_drewN | apply blk_drew | apply blk_alloc); refine blk_put (cs := #[.int .i64 t385, .slice Ao143 t386.length co143, .slice none 0 0, .slice none 0 0, .slice none 0 0]) ?_ 2 _ rfl; (with_reducible repeat first | apply blk_drewN | apply blk_drew | apply blk_alloc); refine blk_put (cs := #[.int .i64 t385, .slice none 0 0, .slice none 0 0, .slice none 0 0, .slice none 0 0]) ?_ 1 _ rfl; (with_reducible repeat first | apply blk_drewN | apply blk_drew | apply blk_alloc); refine blk_put (cs := #[.int .i64 0, .slice none 0 0, .slice none 0 0, .slice none 0 0, .slice none 0 0]) ?_ 0 _ rfl; (with_reducible repeat first | apply blk_drewN | apply blk_drew | apply blk_alloc); exact BK399.out) hb); have n20_ := Aside0.mk (below_step (by repeat (first | (with_reducible first | exact HB.out | apply below_alloc | apply pw_below_drewN | apply below_drew1 | refine below_set ?_ GE310.out | refine below_set ?_ GE333.out | refine below_set ?_ GE338.out | refine below_set ?_ GE356.out | refine below_set ?_ GE399.out) | exact HB.out)) hb); clear HO_334001; clear HO_334002; clear HO_334003; clear HO_334004; clear HO_339001; clear HO_357001; clear HO_357002; clear HO_357003; clear HO_357004; clear HO381; clear HO384; clear HO388; clear HO391; clear HO394; clear HO397; clear BK310; clear BK333; clear BK338; clear BK356; clear BK399; clear HB; have HO_334001 := n0_; have HO_334002 := n1_; have HO_334003 := n2_; have HO_334004 := n3_; have HO_339001 := n4_; have HO_357001 := n5_; have HO_357002 := n6_; have HO_357003 := n7_; have HO_357004 := n8_; have HO381 := n9_; have HO384 := n10_; have HO388 := n11_; have HO391 := n12_; have HO394 := n13_; have HO397 := n14_; have BK310 := n15_; have BK333 := n16_; have BK338 := n17_; have BK356 := n18_; have BK399 := n19_; have HB := n20_; clear n0_ n1_ n2_ n3_ n4_ n5_ n6_ n7_ n8_ n9_ n10_ n11_ n12_ n13_ n14_ n15_ n16_ n17_ n18_ n19_ n20_; (try clear hb); (try clear hb2); (try clear hk); (try clear hi)))
               go_meet
               case rel => exact ⟨_, ((t398 != t332)), (by first | rfl | (simp; done) | (simp [*]; done)), H', ⟨by have := HJ16.out; have := HJ80.out; first | omega | exact Nat.le_refl _⟩, ⟨by (try simp only [hl339001_80]); (with_reducible repeat first | apply Kd.R_alloc | apply Kd.R_drewN | apply Kd.R_drew); exact Kd.R_mono HO_334001.out (fun _ hk => ⟨hk.1.1.1, ⟨hk.1.1.2, hk.2⟩⟩)⟩, ⟨by (try simp only [hl339001_80]); (with_reducible repeat first | apply Kd.R_alloc | apply Kd.R_drewN | apply Kd.R_drew); exact Kd.R_mono HO_334002.out (fun _ hk => ⟨hk.1.1.1.1.1, ⟨hk.1.1.1.1.2.1, ⟨hk.1.1.1.1.2.2.1, ⟨hk.1.1.1.1.2.2.2.1, ⟨hk.1.1.1.1.2.2.2.2, ⟨hk.1.1.2, ⟨hk.1.2, hk.2⟩⟩⟩⟩⟩⟩⟩)⟩, ⟨by (try simp only [hl339001_80]); (with_reducible repeat first | apply Kd.R_alloc | apply Kd.R_drewN | apply Kd.R_drew); exact Kd.R_mono HO_334003.out (fun _ hk => ⟨hk.1.1.1.1.1, ⟨hk.1.1.1.1.2.1, ⟨hk.1.1.1.1.2.2.1, ⟨hk.1.1.1.1.2.2.2.1, ⟨hk.1.1.1.1.2.2.2.2, ⟨hk.1.1.2, ⟨hk.1.2, hk.2⟩⟩⟩⟩⟩⟩⟩)⟩, ⟨by (try simp only [hl339001_80]); (with_reducible repeat first | apply Kd.R_alloc | apply Kd.R_drewN | apply Kd.R_drew); exact Kd.R_mono HO_334004.out (fun _ hk => ⟨hk.1.1.1.1.1, ⟨hk.1.1.1.1.2.1, ⟨hk.1.1.1.1.2.2.1, ⟨hk.1.1.1.1.2.2.2.1, ⟨hk.1.1.1.1.2.2.2.2, ⟨hk.1.1.2, ⟨hk.1.2, hk.2⟩⟩⟩⟩⟩⟩⟩)⟩, ⟨by (try simp only [hl339001_80]); (with_reducible repeat first | apply Kd.R_alloc | apply Kd.R_drewN | apply Kd.R_drew); exact Kd.R_mono HO_339001.out (fun _ hk => ⟨hk.1.1.1, ⟨hk.1.1.2, hk.2⟩⟩)⟩, ⟨by (try simp only [hl339001_80]); (with_reducible repeat first | apply Kd.R_alloc | apply Kd.R_drewN | apply Kd.R_drew); exact Kd.R_mono HO_357001.out (fun _ hk => ⟨hk.1.1.1, ⟨hk.1.1.2, hk.2⟩⟩)⟩, ⟨by (try simp only [hl339001_80]); (with_reducible repeat first | apply Kd.R_alloc | apply Kd.R_drewN | apply Kd.R_drew); exact Kd.R_mono HO_357002.out (fun _ hk => ⟨hk.1.1.1.1.1, ⟨hk.1.1.1.1.2.1, ⟨hk.1.1.1.1.2.2.1, ⟨hk.1.1.1.1.2.2.2.1, ⟨hk.1.1.1.1.2.2.2.2, ⟨hk.1.1.2, ⟨hk.1.2, hk.2⟩⟩⟩⟩⟩⟩⟩)⟩, ⟨by (try simp only [hl339001_80]); (with_reducible repeat first | apply Kd.R_alloc | apply Kd.R_drewN | apply Kd.R_drew); exact Kd.R_mono HO_357003.out (fun _ hk => ⟨hk.1.1.1.1.1, ⟨hk.1.1.1.1.2.1, ⟨hk.1.1.1.1.2.2.1, ⟨hk.1.1.1.1.2.2.2.1, ⟨hk.1.1.1.1.2.2.2.2, ⟨hk.1.1.2, ⟨hk.1.2, hk.2⟩⟩⟩⟩⟩⟩⟩)⟩, ⟨by (try simp only [hl339001_80]); (with_reducible repeat first | apply Kd.R_alloc | apply Kd.R_drewN | apply Kd.R_drew); exact Kd.R_mono HO_357004.out (fun _ hk => ⟨hk.1.1.1.1.1, ⟨hk.1.1.1.1.2.1, ⟨hk.1.1.1.1.2.2.1, ⟨hk.1.1.1.1.2.2.2.1, ⟨hk.1.1.1.1.2.2.2.2, ⟨hk.1.1.2, ⟨hk.1.2, hk.2⟩⟩⟩⟩⟩⟩⟩)⟩, ⟨by (try simp only [hl339001_80]); (with_reducible repeat first | apply Kd.R_alloc | apply Kd.R_drewN | apply Kd.R_drew); exact Kd.R_mono HO388.out (fun _ hk => ⟨hk.1.1.1.2, ⟨hk.1.1.2, hk.1.2⟩⟩)⟩, ⟨by (try simp only [hl339001_80]); (with_reducible repeat first | apply Kd.R_alloc | apply Kd.R_drewN | apply Kd.R_drew); exact Kd.R_mono HO391.out (fun _ hk => ⟨hk.1.1.1.1.1.1.2, ⟨hk.1.1.1.1.1.2, ⟨hk.1.1.1.1.2, ⟨hk.1.1.1.2, ⟨hk.1.1.2, ⟨hk.1.2, ⟨hk.1.1.1.1.1.1.1.1, hk.1.1.1.1.1.1.1.2⟩⟩⟩⟩⟩⟩⟩)⟩, ⟨by (try simp only [hl339001_80]); (with_reducible repeat first | apply Kd.R_alloc | apply Kd.R_drewN | apply Kd.R_drew); exact Kd.R_mono HO394.out (fun _ hk => ⟨hk.1.1.1.1.1.1.2, ⟨hk.1.1.1.1.1.2, ⟨hk.1.1.1.1.2, ⟨hk.1.1.1.2, ⟨hk.1.1.2, ⟨hk.1.2, ⟨hk.1.1.1.1.1.1.1.1, hk.1.1.1.1.1.1.1.2⟩⟩⟩⟩⟩⟩⟩)⟩, ⟨by (try simp only [hl339001_80]); (with_reducible repeat first | apply Kd.R_alloc | apply Kd.R_drewN | apply Kd.R_drew); exact Kd.R_mono HO397.out (fun _ hk => ⟨hk.1.1.1.1.1.1.2, ⟨hk.1.1.1.1.1.2, ⟨hk.1.1.1.1.2, ⟨hk.1.1.1.2, ⟨hk.1.1.2, ⟨hk.1.2, ⟨hk.1.1.1.1.1.1.1.1, hk.1.1.1.1.1.1.1.2⟩⟩⟩⟩⟩⟩⟩)⟩, ⟨by (try simp only [hl339001_80]); (with_reducible repeat first | apply blk_drewN | apply blk_drew | apply blk_alloc); exact BK310.out⟩, ⟨by (try simp only [hl339001_80]); (with_reducible repeat first | apply blk_drewN | apply blk_drew | apply blk_alloc); exact BK333.out⟩, ⟨by (try simp only [hl339001_80]); (with_reducible repeat first | apply blk_drewN | apply blk_drew | apply blk_alloc); exact BK338.out⟩, ⟨by (try simp only [hl339001_80]); (with_reducible repeat first | apply blk_drewN | apply blk_drew | apply blk_alloc); exact BK356.out⟩, ⟨by (try simp only [hl339001_80]); (with_reducible repeat first | apply blk_drewN | apply blk_drew | apply blk_alloc); exact BK399.out⟩, ⟨by repeat (first | (with_reducible first | exact HB.out | apply below_alloc | apply pw_below_drewN | apply below_drew1 | refine below_set ?_ GE310.out | refine below_set ?_ GE333.out | refine below_set ?_ GE338.out | refine below_set ?_ GE356.out | refine below_set ?_ GE399.out) | exact HB.out)⟩⟩
              ·
               replace c148 := Bool.eq_false_iff.mpr c148
               subst c148
               have H1 := H; rw [if_neg (show ¬ (false = true) by decide)] at H1
               clear H
               have H := H1
               clear H1
               refine absurd H ?_
               first | apply laws_FnExactFillState.j0_dead | apply laws_FnExactFillState.j1_dead | apply laws_FnExactFillState.j2_dead
             case rest =>
              clear HC121
              try clear c1
              try clear c2
              try clear p2
              try clear c3
              try clear c4
              try clear c4b0
              try clear c4b1
              try clear c5
              try clear c6
              try clear c7
              try clear c7b0
              try clear c8
              try clear c9
              try clear c10
              try clear c11
              try clear c12
              try clear c13
              try clear c14
              try clear c15
              try clear c16
              try clear c25
              try clear c26
              try clear c27
              try clear c28
              try clear c31
              try clear c36
              try clear c37
              try clear c38
              try clear c39
              try clear c40
              try clear c41
              try clear c42
              try clear c43
              try clear c46
              try clear c47
              try clear c48
              try clear c55
              try clear c56
              try clear c57
              try clear c58
              try clear c60
              try clear c61
              try clear c64
              try clear c65
              try clear c66
              try clear c68
              try clear c69
              try clear c72
              try clear c75
              try clear c78
              try clear c88
              try clear c89
              try clear c90
              try clear c94
              try clear c94b0
              try clear c96
              try clear c97
              try clear c98
              try clear c99
              try clear c101
              try clear c102
              try clear c105
              try clear c106
              try clear c107
              try clear c109
              try clear c110
              try clear c113
              try clear c116
              try clear c116b0
              try clear c117
              try clear c117b0
              try clear c117b1
              try clear c122
              try clear c123
              try clear c124
              try clear c129
              try clear c130
              try clear c138
              try clear c139
              try clear c140
              try clear c141
              try clear c148
              try clear c149
              try clear c150
              try clear c151
              try clear c152
              try clear c154
              try clear c155
              try clear c156
              try clear c159
              try clear c160
              try clear c161
              try clear c162
              try clear c164
              try clear c165
              try clear c166
              try clear hcz100_0
              try clear hcz100_1
              try clear hcz100_2
              try clear hcz100_3
              try clear hcz100_4
              try clear hcz103_0
              try clear hcz103_1
              try clear hcz103_2
              try clear hcz103_3
              try clear hcz103_4
              try clear hcz108_0
              try clear hcz108_1
              try clear hcz108_2
              try clear hcz108_3
              try clear hcz108_4
              try clear hcz111_0
              try clear hcz111_1
              try clear hcz111_2
              try clear hcz111_3
              try clear hcz111_4
              try clear hcz125_0
              try clear hcz125_1
              try clear hcz125_2
              try clear hcz125_3
              try clear hcz125_4
              try clear hcz127_0
              try clear hcz127_1
              try clear hcz127_2
              try clear hcz127_3
              try clear hcz127_4
              try clear hcz131_0
              try clear hcz131_1
              try clear hcz142_0
              try clear hcz142_1
              try clear hcz142_2
              try clear hcz142_3
              try clear hcz142_4
              try clear hcz153_0
              try clear hcz153_1
              try clear hcz153_2
              try clear hcz153_3
              try clear hcz153_4
              try clear hcz157_0
              try clear hcz157_1
              try clear hcz157_2
              try clear hcz157_3
              try clear hcz157_4
              try clear hcz163_0
              try clear hcz163_1
              try clear hcz163_2
              try clear hcz163_3
              try clear hcz163_4
              try clear hcz167_0
              try clear hcz167_1
              try clear hcz167_2
              try clear hcz167_3
              try clear hcz167_4
              try clear hcz19_0
              try clear hcz19_1
              try clear hcz21_0
              try clear hcz21_1
              try clear hcz29_0
              try clear hcz29_1
              try clear hcz29_2
              try clear hcz29_3
              try clear hcz29_4
              try clear hcz34_0
              try clear hcz34_1
              try clear hcz39_0
              try clear hcz39_1
              try clear hcz42_0
              try clear hcz42_1
              try clear hcz49_0
              try clear hcz49_1
              try clear hcz49_2
              try clear hcz49_3
              try clear hcz49_4
              try clear hcz59_0
              try clear hcz59_1
              try clear hcz59_2
              try clear hcz59_3
              try clear hcz59_4
              try clear hcz62_0
              try clear hcz62_1
              try clear hcz62_2
              try clear hcz62_3
              try clear hcz62_4
              try clear hcz67_0
              try clear hcz67_1
              try clear hcz67_2
              try clear hcz67_3
              try clear hcz67_4
              try clear hcz70_0
              try clear hcz70_1
              try clear hcz70_2
              try clear hcz70_3
              try clear hcz70_4
              try clear hcz91_0
              try clear hcz91_1
              try clear hcz9_0
              try clear hcz9_1
              try clear p2
              obtain ⟨kq, x113_120, rfl, HA, HJ120, HO_334001, HO_334002, HO_334003, HO_334004, HO_339001, HO_357001, HO_357002, HO_357003, HO_357004, HO_400001, HO_400002, HO_400003, HO_400004, BK310, BK333, BK338, BK356, BK399, HB⟩ := hcut
              have hl357001_120 := (Kd.R_reads' HO_357001.out).1
              rw [hl357001_120] at HO_357001
              (try simp only [hl357001_120])
              (try simp only [hl357001_120] at BK310)
              (try simp only [hl357001_120] at BK333)
              (try simp only [hl357001_120] at BK338)
              (try simp only [hl357001_120] at BK356)
              (try simp only [hl357001_120] at BK399)
              (try simp only [hl357001_120] at HO_334001)
              (try simp only [hl357001_120] at HO_334002)
              (try simp only [hl357001_120] at HO_334003)
              (try simp only [hl357001_120] at HO_334004)
              (try simp only [hl357001_120] at HO_339001)
              (try simp only [hl357001_120] at HO_357002)
              (try simp only [hl357001_120] at HO_357003)
              (try simp only [hl357001_120] at HO_357004)
              (try simp only [hl357001_120] at HO_400001)
              (try simp only [hl357001_120] at HO_400002)
              (try simp only [hl357001_120] at HO_400003)
              (try simp only [hl357001_120] at HO_400004)
              have hl357002_120 := (Kd.R_reads' HO_357002.out).1
              rw [hl357002_120] at HO_357002
              (try simp only [hl357002_120])
              (try simp only [hl357002_120] at BK310)
              (try simp only [hl357002_120] at BK333)
              (try simp only [hl357002_120] at BK338)
              (try simp only [hl357002_120] at BK356)
              (try simp only [hl357002_120] at BK399)
              (try simp only [hl357002_120] at HO_334001)
              (try simp only [hl357002_120] at HO_334002)
              (try simp only [hl357002_120] at HO_334003)
              (try simp only [hl357002_120] at HO_334004)
              (try simp only [hl357002_120] at HO_339001)
              (try simp only [hl357002_120] at HO_357001)
              (try simp only [hl357002_120] at HO_357003)
              (try simp only [hl357002_120] at HO_357004)
              (try simp only [hl357002_120] at HO_400001)
              (try simp only [hl357002_120] at HO_400002)
              (try simp only [hl357002_120] at HO_400003)
              (try simp only [hl357002_120] at HO_400004)
              have hl357003_120 := (Kd.R_reads' HO_357003.out).1
              rw [hl357003_120] at HO_357003
              (try simp only [hl357003_120])
              (try simp only [hl357003_120] at BK310)
              (try simp only [hl357003_120] at BK333)
              (try simp only [hl357003_120] at BK338)
              (try simp only [hl357003_120] at BK356)
              (try simp only [hl357003_120] at BK399)
              (try simp only [hl357003_120] at HO_334001)
              (try simp only [hl357003_120] at HO_334002)
              (try simp only [hl357003_120] at HO_334003)
              (try simp only [hl357003_120] at HO_334004)
              (try simp only [hl357003_120] at HO_339001)
              (try simp only [hl357003_120] at HO_357001)
              (try simp only [hl357003_120] at HO_357002)
              (try simp only [hl357003_120] at HO_357004)
              (try simp only [hl357003_120] at HO_400001)
              (try simp only [hl357003_120] at HO_400002)
              (try simp only [hl357003_120] at HO_400003)
              (try simp only [hl357003_120] at HO_400004)
              have hl357004_120 := (Kd.R_reads' HO_357004.out).1
              rw [hl357004_120] at HO_357004
              (try simp only [hl357004_120])
              (try simp only [hl357004_120] at BK310)
              (try simp only [hl357004_120] at BK333)
              (try simp only [hl357004_120] at BK338)
              (try simp only [hl357004_120] at BK356)
              (try simp only [hl357004_120] at BK399)
              (try simp only [hl357004_120] at HO_334001)
              (try simp only [hl357004_120] at HO_334002)
              (try simp only [hl357004_120] at HO_334003)
              (try simp only [hl357004_120] at HO_334004)
              (try simp only [hl357004_120] at HO_339001)
              (try simp only [hl357004_120] at HO_357001)
              (try simp only [hl357004_120] at HO_357002)
              (try simp only [hl357004_120] at HO_357003)
              (try simp only [hl357004_120] at HO_400001)
              (try simp only [hl357004_120] at HO_400002)
              (try simp only [hl357004_120] at HO_400003)
              (try simp only [hl357004_120] at HO_400004)
              cases kq with
              | zero => exact absurd HA.out (by simp [laws_FnExactFillState.j2])
              | succ kj120 =>
               have H := HA.out
               clear HA
               simp only [laws_FnExactFillState.j2] at H
               by_cases c169 : x113_120 = true
               ·
                subst c169
                have H1 : (none) = some r := by rw [if_pos rfl] at H; exact H
                clear H
                have H := H1
                clear H1
                exact absurd H (by simp)
               ·
                replace c169 := Bool.eq_false_iff.mpr c169
                subst c169
                have H1 := H; rw [if_neg (show ¬ (false = true) by decide)] at H1
                clear H
                have H := H1
                clear H1
                replace H := Option.bind_eq_some_iff.mp H
                obtain ⟨t401, A1700, H⟩ := H
                (try dsimp only at H)
                have A170 := Aside0.mk A1700
                clear A1700
                by_cases c171 : t401 < 0
                ·
                 rw [if_pos c171] at H
                 exact absurd H (by simp)
                ·
                 rw [if_neg c171] at H
                 have c171b0 : decide (t401 < 0) = false := decide_eq_false c171
                 clear c171
                 by_cases c172 : t401 = t372
                 ·
                  rw [if_pos c172] at H
                  have c172b0 : (t401 == t372) = true := beq_iff_eq.mpr c172
                  have c172b1 : (t401 != t372) = false := bne_eq_false_iff_eq.mpr c172
                  clear c172
                  obtain rfl := Option.some.inj H
                  have hnb173 := NB356_310.out
                  have hnc173 := NB310_356.out
                  have hnb174 := NB356_333.out
                  have hnc174 := NB333_356.out
                  have hnb175 := NB356_338.out
                  have hnc175 := NB338_356.out
                  have hnb176 := NB356_399.out
                  have hnc176 := NB399_356.out
                  have hcz177_0 : wc.cell? ⟨gb356, 0, none⟩ = some (.int .i64 t342) := (blk_cell BK356.out 0).trans rfl
                  have hcz177_1 : wc.cell? ⟨gb356, 1, none⟩ = some (.slice Ao50 t373.length co50) := (blk_cell BK356.out 1).trans rfl
                  have hcz177_2 : wc.cell? ⟨gb356, 2, none⟩ = some (.slice Ao51 t374.length co51) := (blk_cell BK356.out 2).trans rfl
                  have hcz177_3 : wc.cell? ⟨gb356, 3, none⟩ = some (.slice Ao52 t375.length co52) := (blk_cell BK356.out 3).trans rfl
                  have hcz177_4 : wc.cell? ⟨gb356, 4, none⟩ = some (.slice Ao53 t376.length co53) := (blk_cell BK356.out 4).trans rfl
                  have hfz177_0 := blk_frozen BK356.out 0
                  have hfz177_1 := blk_frozen BK356.out 1
                  have hfz177_2 := blk_frozen BK356.out 2
                  have hfz177_3 := blk_frozen BK356.out 3
                  have hfz177_4 := blk_frozen BK356.out 4
                  go_wp2_with (first | ((with_reducible refine gate_callee (f := 27) rfl ?_); refine goesL_ (some 116) rfl rfl Try.func27 (by kernel_rfl) rfl #[.agg #[.int .i64 t342, .slice Ao50 t373.length co50, .slice Ao51 t374.length co51, .slice Ao52 t375.length co52, .slice Ao53 t376.length co53], .int .i64 1] rfl (by (try simp only [List.map_toArray, List.map_cons, List.map_nil]); first | done | rfl | (simp only [List.length_drop, List.length_take]; rfl)) ?_; (with_reducible refine (laws_heldState.calls kj120 t342 _ _ t373 _ _ t374 _ _ t375 _ _ t376 1 t401 _ ?side1 ?side2 ?side3 ?side4 ?side5 ?side6 ?side7 ?side8 A170.out).mono ?_); (case side1 => repeat (first | exact (Kd.R_reads' HO_357001.out).2.2 | (with_reducible refine Kd.C_alloc ?_ _) | (with_reducible refine Kd.C_drewN ?_ _) | (with_reducible refine Kd.C_drew ?_))); (case side2 => exact (Kd.R_reads' HO_357001.out).2.1); (case side3 => repeat (first | exact (Kd.R_reads' HO_357002.out).2.2 | (with_reducible refine Kd.C_alloc ?_ _) | (with_reducible refine Kd.C_drewN ?_ _) | (with_reducible refine Kd.C_drew ?_))); (case side4 => exact (Kd.R_reads' HO_357002.out).2.1); (case side5 => repeat (first | exact (Kd.R_reads' HO_357003.out).2.2 | (with_reducible refine Kd.C_alloc ?_ _) | (with_reducible refine Kd.C_drewN ?_ _) | (with_reducible refine Kd.C_drew ?_))); (case side6 => exact (Kd.R_reads' HO_357003.out).2.1); (case side7 => repeat (first | exact (Kd.R_reads' HO_357004.out).2.2 | (with_reducible refine Kd.C_alloc ?_ _) | (with_reducible refine Kd.C_drewN ?_ _) | (with_reducible refine Kd.C_drew ?_))); (case side8 => exact (Kd.R_reads' HO_357004.out).2.1); rintro e w178 ⟨rfl, hb⟩; refine ⟨_, rfl, ?_⟩; have n0_ := Aside0.mk (R_bel HO_334001.out hb); have n1_ := Aside0.mk (R_bel HO_334002.out hb); have n2_ := Aside0.mk (R_bel HO_334003.out hb); have n3_ := Aside0.mk (R_bel HO_334004.out hb); have n4_ := Aside0.mk (R_bel HO_339001.out hb); have n5_ := Aside0.mk (R_bel HO_357001.out hb); have n6_ := Aside0.mk (R_bel HO_357002.out hb); have n7_ := Aside0.mk (R_bel HO_357003.out hb); have n8_ := Aside0.mk (R_bel HO_357004.out hb); have n9_ := Aside0.mk (R_bel HO_400001.out hb); have n10_ := Aside0.mk (R_bel HO_400002.out hb); have n11_ := Aside0.mk (R_bel HO_400003.out hb); have n12_ := Aside0.mk (R_bel HO_400004.out hb); have n13_ := Aside0.mk (blk_bel BK310.out hb); have n14_ := Aside0.mk (blk_bel BK333.out hb); have n15_ := Aside0.mk (blk_bel BK338.out hb); have n16_ := Aside0.mk (blk_bel BK356.out hb); have n17_ := Aside0.mk (blk_bel BK399.out hb); have n18_ := Aside0.mk (below_step (by repeat (first | (with_reducible first | exact HB.out | apply below_alloc | apply pw_below_drewN | apply below_drew1 | refine below_set ?_ GE310.out | refine below_set ?_ GE333.out | refine below_set ?_ GE338.out | refine below_set ?_ GE356.out | refine below_set ?_ GE399.out) | exact HB.out)) hb); clear HO_334001; clear HO_334002; clear HO_334003; clear HO_334004; clear HO_339001; clear HO_357001; clear HO_357002; clear HO_357003; clear HO_357004; clear HO_400001; clear HO_400002; clear HO_400003; clear HO_400004; clear BK310; clear BK333; clear BK338; clear BK356; clear BK399; clear HB; have HO_334001 := n0_; have HO_334002 := n1_; have HO_334003 := n2_; have HO_334004 := n3_; have HO_339001 := n4_; have HO_357001 := n5_; have HO_357002 := n6_; have HO_357003 := n7_; have HO_357004 := n8_; have HO_400001 := n9_; have HO_400002 := n10_; have HO_400003 := n11_; have HO_400004 := n12_; have BK310 := n13_; have BK333 := n14_; have BK338 := n15_; have BK356 := n16_; have BK399 := n17_; have HB := n18_; clear n0_ n1_ n2_ n3_ n4_ n5_ n6_ n7_ n8_ n9_ n10_ n11_ n12_ n13_ n14_ n15_ n16_ n17_ n18_; (try clear hb); (try clear hb2); (try clear hk); (try clear hi)))
                  go_ret
                  exact ⟨by first | rfl | (simp [*, errW_none, errW_some] <;> rfl), by repeat (first | (with_reducible first | exact HB.out | apply below_alloc | apply pw_below_drewN | apply below_drew1 | refine below_set ?_ GE310.out | refine below_set ?_ GE333.out | refine below_set ?_ GE338.out | refine below_set ?_ GE356.out | refine below_set ?_ GE399.out) | exact HB.out)⟩
                 ·
                  rw [if_neg c172] at H
                  exact absurd H (by simp)
            ·
             rw [if_neg c117] at H
             exact absurd H (by simp)
       ·
        replace c78 := Bool.eq_false_iff.mpr c78
        subst c78
        have H1 : (none) = some r := by rw [if_neg (show ¬ (false = true) by decide)] at H; exact H
        clear H
        have H := H1
        clear H1
        exact absurd H (by simp)
      ·
       replace c75 := Bool.eq_false_iff.mpr c75
       subst c75
       have H1 : (none) = some r := by rw [if_neg (show ¬ (false = true) by decide)] at H; exact H
       clear H
       have H := H1
       clear H1
       exact absurd H (by simp)

end Go.Proofs.Ytbkkehjhfgocfaa.PFnExactFillState
