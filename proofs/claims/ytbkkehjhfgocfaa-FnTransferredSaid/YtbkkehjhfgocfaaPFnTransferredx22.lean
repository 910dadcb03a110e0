/- Functions of the reference and of the program over states, walked by hand; no condition. -/
import Derived.Test.YtbkkehjhfgocfaaPFnTransferredx20
namespace Go.Proofs.Ytbkkehjhfgocfaa.PFnTransferred
open Go.RowKit Go.Proofs.YtbkkehjhfgocfaaW.PrintWords Go.Proofs.YtbkkehjhfgocfaaW.PrintLast Go.Proofs.YtbkkehjhfgocfaaW.PrintMore
set_option linter.unusedVariables false
set_option linter.unusedSimpArgs false
/-! ### impl_State_balance: function 51 (given) -/
theorem tr_go {k : Nat} {A1 A2 A3 A4 : Option Addr} {c1 c2 c3 c4 : Nat} {R : Int} {m t b : List Int} {w : World} {l : List S36} {x : Int} (h : impl_Mesh_toRefine.f k R l = some x) (ha : Rd k36 w A1 c1 l A2 c2 m A3 c3 t A4 c4 b) :
    Calls Try.prog 90 #[.agg #[.int .i64 R, .slice A1 l.length c1]] w fun e w' => e = .returned (.int .i64 x) ∧ Below w.heap.size w w' := impl_Mesh_toRefine.calls k R A1 c1 l x w ha.r1 ha.k1 h
/-- What the loop leaves. -/
def BalEnd (k : Nat) (R : Int) (b : List Int) (Inv : Nat → List S36 → List Int → List Int → Prop) (lo gs : Nat) (u4 : Value) (w' : World) : Prop := ∃ n' l' m' t' x u1' u2' u3', Inv n' l' m' t' ∧ impl_Mesh_toRefine.f k R l' = some x ∧ x < 0 ∧ w'.heap[gs]? = some (.cells #[.int .i64 R, u1', u2', u3', u4] 29 (0, 0)) ∧ Ow lo w'.heap.size w' u1' l' u2' m' u3' t' u4 b
set_option maxHeartbeats 16000000 in
set_option maxRecDepth 100000 in
theorem impl_State_balance.go (k : Nat) (R : Int) (b : List Int) (Inv : Nat → List S36 → List Int → List Int → Prop) (tot : ∀ n l m t, Inv n l m t → ∃ x, impl_Mesh_toRefine.f k R l = some x)
  (step : ∀ n l m t x, Inv n l m t → impl_Mesh_toRefine.f k R l = some x → 0 ≤ x → ∃ (n1 i : Nat) (p1 p2 p3 : Int) (l' : List S36), n = n1 + 1 ∧ x = (i : Int) ∧ i < m.length ∧ i < t.length ∧ impl_SplitEven.f (rd m (i : Int)) = some (p1, p2) ∧ impl_ShareOut.f (rd t (i : Int)) p1 (rd m (i : Int)) = some p3 ∧ impl_Mesh_refine.f l (i : Int) = some l' ∧ ((m.length + 2) * 8 ≤ 140737488355328 ∧ (t.length + 2) * 8 ≤ 140737488355328) ∧ Inv n1 l' (m.take i ++ [p1, p2] ++ m.drop (i + 1)) (t.take i ++ [p3, wrap64 (rd t (i : Int) - p3)] ++ t.drop (i + 1)))
  (w0 : World) (lo hi gs : Nat) (u1 u2 u3 u4 : Value) (l : List S36) (m t : List Int) (n : Nat) (h0 : Inv n l m t) (w : World) (hB : Below w0.heap.size w0 w) (hlo : w0.heap.size ≤ lo) (hgs : lo ≤ gs) (hbox : w.heap[gs]? = some (.cells #[.int .i64 R, u1, u2, u3, u4] 29 (0, 0))) (ho : Ow lo hi w u1 l u2 m u3 t u4 b) :
  Calls Try.prog 51 #[.pointer (some ⟨gs, 0, none⟩)] w fun e w' => e = .returned (.tuple #[]) ∧ Below lo w w' ∧ BalEnd k R b Inv lo gs u4 w' := by
  have hls : lo ≤ w.heap.size := by have := blk_lt hbox; omega
  obtain ⟨A1, c1, A2, c2, A3, c3, A4, c4, rfl, rfl, rfl, rfl⟩ := ho.slices
  obtain ⟨x, hx⟩ := tot n l m t h0
  have HX := Aside0.mk hx; have HI := Aside0.mk h0; have HT := Aside0.mk tot; have HS := Aside0.mk step; have HB := Aside0.mk hB; have HLO := Aside0.mk (And.intro hlo (And.intro hgs hls)); have BS := Aside0.mk hbox; have HO := Aside0.mk ho; have HW := Aside0.mk (Below.refl lo w)
  clear hx h0 tot step hB hlo hgs hbox ho hls
  go_enter Try.func51, Try.ntmps51
  have hzS := cells5 BS.out
  go_wp2_with ((with_reducible refine gate_dst (N := 7) rfl ?_); refine goesL_ (some 7) rfl rfl Try.func90 (by kernel_rfl) rfl #[.agg #[.int .i64 R, .slice A1 l.length c1]] rfl (by first | rfl | (simp only [List.map_toArray, List.map_cons, List.map_nil]; rfl)) ?_; refine (tr_go HX.out HO.out.rd).mono ?_; rintro e w7 ⟨rfl, hb⟩; refine ⟨_, rfl, ?_⟩; clear hzS; replace BS := Aside0.mk (blk_below BS.out hb); replace HO := Aside0.mk (HO.out.below hb); replace HW := Aside0.mk (HW.out.trans (hb.mono HLO.out.2.2)); replace HB := Aside0.mk (below_step HB.out hb); clear hb)
  go_loopg [2] n (fun gg v2 w' => ∃ (x : Int) (l : List S36) (m t : List Int) (u1 u2 u3 : Value), v2 = .int .i64 x ∧ Aside0 (Inv gg l m t) ∧ Aside0 (impl_Mesh_toRefine.f k R l = some x) ∧ Aside0 (w'.heap[gs]? = some (.cells #[.int .i64 R, u1, u2, u3, .slice A4 b.length c4] 29 (0, 0))) ∧ Aside0 (Ow lo w'.heap.size w' u1 l u2 m u3 t (.slice A4 b.length c4) b) ∧ Aside0 (Below lo w w') ∧ Aside0 (Below w0.heap.size w0 w'))
  case atStart => exact ⟨x, l, m, t, _, _, _, rfl, HI, HX, BS, ⟨HO.out.up HO.out.top (Nat.le_refl _)⟩, HW, HB⟩
  case round =>
    clear HI HX BS HO HW HB
    obtain ⟨x, l, m, t, u1, u2, u3, rfl, HI, HX, BS, HO, HW, HB⟩ := hrel
    by_cases hx : 0 ≤ x
    · obtain ⟨n1, i, p1, p2, p3, l', rfl, rfl, hi2, hi3, hp, hq, hl, hz, hv⟩ := HS.out _ l m t x HI.out HX.out hx
      obtain ⟨m', hm'⟩ : ∃ m', m' = m.take i ++ [p1, p2] ++ m.drop (i + 1) := ⟨_, rfl⟩
      obtain ⟨t', ht'⟩ : ∃ t', t' = t.take i ++ [p3, wrap64 (rd t (i : Int) - p3)] ++ t.drop (i + 1) := ⟨_, rfl⟩
      rw [← hm', ← ht'] at hv
      obtain ⟨x', hx'⟩ := HT.out n1 l' m' t' hv
      have HI' := Aside0.mk hv; have HX' := Aside0.mk hx'; have HP := Aside0.mk hp; have HQ := Aside0.mk hq; have HL := Aside0.mk hl; have HZ := Aside0.mk hz; have HM := Aside0.mk hm'; have HN := Aside0.mk ht'; have H2 := Aside0.mk (And.intro hi2 hi3)
      have hd : decide ((i : Int) ≥ 0) = true := decide_eq_true hx
      have hd2 : decide (0 ≤ (i : Int)) = true := decide_eq_true hx
      clear HI HX hv hx' hp hq hl hz hm' ht' hi2 hi3
      go_wp2_with (first
   | (go_at_call 50; refine (impl_State_refine.go w0 lo _ gs R u1 u2 u3 (.slice A4 b.length c4) l m t b i _ H2.out.1 H2.out.2 p1 p2 p3 HP.out HQ.out l' HL.out HZ.out m' t' HM.out HN.out (by first | exact HB.out | exact HB.out.drew) HLO.out.1 HLO.out.2.1 (by first | exact BS.out | exact cb_ BS.out) HO.out).mono ?_; rintro e w17 ⟨rfl, hbl, u1_, u2_, u3_, hbox, ho⟩; obtain ⟨Q1, q1, Q2, q2, Q3, q3, Q4, q4, e1, e2, e3, e4⟩ := ho.slices; subst e1 e2 e3; injection e4 with f1 f2 f3; subst f1 f3; replace BS := Aside0.mk hbox; replace HO := Aside0.mk ho; replace HW := Aside0.mk (HW.out.trans hbl); replace HB := Aside0.mk (HB.out.trans (hbl.mono HLO.out.1)); clear hbox ho hbl; have hzS := cells5 BS.out)
   | ((with_reducible refine gate_dst (N := 14) rfl ?_); refine goesL_ (some 14) rfl rfl Try.func90 (by kernel_rfl) rfl #[.agg #[.int .i64 R, .slice Q1 l'.length q1]] rfl (by first | rfl | (simp only [List.map_toArray, List.map_cons, List.map_nil]; rfl)) ?_; refine (tr_go HX'.out HO.out.rd).mono ?_; rintro e w14 ⟨rfl, hb⟩; refine ⟨_, rfl, ?_⟩; clear hzS; replace BS := Aside0.mk (blk_below BS.out hb); replace HO := Aside0.mk (HO.out.below hb); replace HW := Aside0.mk (HW.out.trans (hb.mono (Nat.le_trans HLO.out.2.2 HW.out.size))); replace HB := Aside0.mk (below_step HB.out hb); clear hb))
      go_roundg n1
      case measure => omega
      case rel => exact ⟨x', l', m', t', _, _, _, rfl, HI', HX', BS, ⟨HO.out.up HO.out.top (Nat.le_refl _)⟩, HW, HB⟩
    · have hd : decide (x ≥ 0) = false := decide_eq_false hx
      have hd2 : decide (0 ≤ x) = false := decide_eq_false hx
      try go_wp2
      go_end0
      exact ⟨rfl, HW.out, _, l, m, t, x, u1, u2, u3, HI.out, HX.out, by omega, BS.out, HO.out⟩
end Go.Proofs.Ytbkkehjhfgocfaa.PFnTransferred
