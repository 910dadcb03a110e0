/- Written by this repo's own copy of a print: plain functions beneath a law, and the proof that the program computes them; no condition. -/
import Derived.Test.YtnkdnijnhaamiaaPFnRefinedx0
import Derived.Test.YtnkdnijnhaamiaaPFnRefinedx4
import Derived.Test.YtnkdnijnhaamiaaPFnRefinedx5
import Derived.Test.YtnkdnijnhaamiaaPFnRefinedx6
namespace Go.Proofs.Ytnkdnijnhaamiaa.PFnRefined
open Go.RowKit Go.Proofs.YtnkdnijnhaamiaaW.PrintWords Go.Proofs.YtnkdnijnhaamiaaW.PrintLast Go.Proofs.YtnkdnijnhaamiaaW.PrintMore
attribute [local go_sem] max2_int min2_int max_two min_two max_three min_three max_four min_four   -- for this text's walks alone
set_option linter.unusedVariables false
set_option linter.unusedSimpArgs false

/-! ### spec_l04Mesh: function 44 (given) -/
def spec_l04Root.kids (F : Int → Int → S41 → List S41 → Option (Int × Int × List S41)) (x : S41) : Nat → Int → Int → Int → List S41 → Option (Int × Int × List S41)
  | 0, _, s1, s2, out => some (s1, s2, out)
  | n + 1, s, s1, s2, out => (spec_ChildOf.f x.f0 x.f1 x.f2 s).bind fun y => (F s1 s2 ⟨y.1, y.2.1, y.2.2.1⟩ out).bind fun u => spec_l04Root.kids F x n (s + 1) u.1 u.2.1 u.2.2
def spec_l04Root.add (s1 s2 : Int) (out : List S41) (x : S41) : Option (Int × Int × List S41) := if out.length < 5864062014805 then some (s1, s2, out ++ [x]) else none
def spec_l04Root.f : Nat → List Int → Int → Int → S41 → Int → List S41 → Option (Int × Int × List S41)
  | 0, _, _, _, _, _, _ => none
  | d + 1, s0, s1, s2, x, ch, out =>
    if x.f1 = 4 then spec_l04Root.add s1 s2 out x
    else (spec_l01Once.f s0 s1 s2 ch).bind fun t => if t.1 = true then spec_l04Root.kids (fun a b y o => spec_l04Root.f d s0 a b y (wrap64 (ch + 1)) o) x 2 0 t.2.1 t.2.2 out
      else spec_l04Root.add t.2.1 t.2.2 out x
def spec_l04Root.Post (w0 : World) (base g gb : Nat) (s0 : List Int) (R : Int) (u : Value) (w w' : World) (t1 t2 : Int) (res : List S41) : Prop :=
  IsS69 w0 w' g s0 t1 t2 ∧ Below w0.heap.size w0 w' ∧ ∃ u', w'.heap[gb]? = some (.cells #[.int .i64 R, u'] 29 (0, 0)) ∧ Kd.R k41 41 w' base (fun _ => True) u' res ∧ Kept w w' (fun k => k = g ∨ k = gb ∨ some k = u.ownBlock) ∧ (u'.ownBlock = u.ownBlock ∨ ∃ b, u'.ownBlock = some b ∧ w.heap.size ≤ b)
set_option maxHeartbeats 8000000 in
set_option maxRecDepth 100000 in
theorem spec_l04Root.calls (w0 : World) (base g gb : Nat) (s0 : List Int) (R : Int) (hb0 : w0.heap.size ≤ base) (hgb : base ≤ gb) :
    ∀ (d : Nat) (x : S41) (ch s1 s2 : Int) (out : List S41) (u : Value) (t1 t2 : Int) (res : List S41) (w : World), IsS69 w0 w g s0 s1 s2 → Below w0.heap.size w0 w → base ≤ w.heap.size → w.heap[gb]? = some (.cells #[.int .i64 R, u] 29 (0, 0)) → Kd.R k41 41 w base (fun _ => True) u out → spec_l04Root.f d s0 s1 s2 x ch out = some (t1, t2, res) →
      Calls Try.prog 73 #[.pointer (some ⟨g, 0, none⟩), .agg #[.int .i64 x.f0, .int .i64 x.f1, .int .i64 x.f2], .int .i64 ch, .pointer (some ⟨gb, 1, none⟩)] w fun e w' => e = .returned (.tuple #[]) ∧ spec_l04Root.Post w0 base g gb s0 R u w w' t1 t2 res := by
  intro d
  induction d with
  | zero => intro x ch s1 s2 out u t1 t2 res w _ _ _ _ _ h; cases h
  | succ d ih =>
    intro x ch s1 s2 out u t1 t2 res w hI hB hbw hb hR h
    obtain ⟨xa, xb, xc⟩ := x
    show Calls Try.prog 73 #[.pointer (some ⟨g, 0, none⟩), .agg #[.int .i64 xa, .int .i64 xb, .int .i64 xc], .int .i64 ch, .pointer (some ⟨gb, 1, none⟩)] w fun e w' => e = .returned (.tuple #[]) ∧ spec_l04Root.Post w0 base g gb s0 R u w w' t1 t2 res
    have huI := Try.underlying41
    have NX := Aside0.mk (show some w.heap.size ≠ u.ownBlock from fun e => by have := Kd.R_lt hR _ e.symm; omega)
    have HI := Aside0.mk (hI.alloc (.cells #[.int .i64 xa, .int .i64 xb, .int .i64 xc] 41))
    have HB := Aside0.mk (below_alloc hB (.cells #[.int .i64 xa, .int .i64 xb, .int .i64 xc] 41))
    have BK := Aside0.mk (blk_alloc hb (.cells #[.int .i64 xa, .int .i64 xb, .int .i64 xc] 41))
    have BX := Aside0.mk (blk_new w (.cells #[.int .i64 xa, .int .i64 xb, .int .i64 xc] 41))
    have HO := Aside0.mk (Kd.R_alloc hR (.cells #[.int .i64 xa, .int .i64 xb, .int .i64 xc] 41))
    have KP := Aside0.mk ((Kept.refl w (fun k => k = g ∨ k = gb ∨ some k = u.ownBlock)).alloc (.cells #[.int .i64 xa, .int .i64 xb, .int .i64 xc] 41))
    have HS := Aside0.mk (show w.heap.size < (w.alloc (.cells #[.int .i64 xa, .int .i64 xb, .int .i64 xc] 41)).heap.size by simp)
    have hx0 : (w.alloc (.cells #[.int .i64 xa, .int .i64 xb, .int .i64 xc] 41)).cell? ⟨w.heap.size, 1, none⟩ = some (.int .i64 xb) := (blk_cell BX.out 1).trans rfl
    clear hI hB hR hb
    unfold spec_l04Root.f at h
    dsimp only at h
    by_cases c4 : xb = 4
    · rw [if_pos c4] at h
      obtain rfl : xb = 4 := c4
      unfold spec_l04Root.add at h
      by_cases cl : out.length < 5864062014805
      · rw [if_pos cl] at h
        obtain ⟨rfl, rfl, hres⟩ : s1 = t1 ∧ s2 = t2 ∧ out ++ [⟨xa, 4, xc⟩] = res := by simpa using h
        clear h
        go_enter Try.func73, Try.ntmps73
        go_wp2
        generalize w.alloc (.cells #[.int .i64 xa, .int .i64 4, .int .i64 xc] 41) = W at HI HB BK BX HO KP HS hx0 ⊢
        refine start_ (n := 9) (S := fun w' => w'.cell? ⟨gb, 1, none⟩ = some u ∧ w'.cell? ⟨w.heap.size, 0, none⟩ = some (.int .i64 xa) ∧ w'.cell? ⟨w.heap.size, 1, none⟩ = some (.int .i64 4) ∧ w'.cell? ⟨w.heap.size, 2, none⟩ = some (.int .i64 xc)) (ds := [8]) #[false, false, false, false, false, false, false, false, false] (by kernel_rfl) rfl rfl ⟨(blk_cell BK.out 1).trans rfl, (blk_cell BX.out 0).trans rfl, (blk_cell BX.out 1).trans rfl, (blk_cell BX.out 2).trans rfl⟩ (fun hHeld => ?_)
        replace HI := Aside0.mk (IsS69.drew HI.out); replace HB := Aside0.mk (below_drew1 HB.out); replace BK := Aside0.mk (blk_drew BK.out); replace BX := Aside0.mk (blk_drew BX.out); replace HO := Aside0.mk (Kd.R_drew HO.out); replace KP := Aside0.mk (Kept.drew KP.out); replace HS := Aside0.mk (show w.heap.size < W.drew.heap.size from HS.out)
        generalize W.drew = W2 at HI HB BK BX HO KP HS hHeld ⊢
        refine pure_ (i := 0) (N := some 20) (v := ?_) (a' := ?_) #[true, false, false, false, false, false, false, false, false] rfl rfl (by kernel_rfl) (fun _ _ _ h => h) (Or.inl ⟨by rfl, ?_⟩) ?_ ?_
        rotate_left
        · intro w'
          go_simp
          with_reducible rfl
        rotate_left
        · simp only [Act.put, List.setIfInBounds_toArray, List.set_cons_zero, List.set_cons_succ, i64_w, i32_w]
          rfl
        refine pure_ (i := 1) (N := some 21) (v := ?_) (a' := ?_) #[true, true, false, false, false, false, false, false, false] rfl rfl (by kernel_rfl) (fun _ _ _ h => h) (Or.inl ⟨by rfl, ?_⟩) ?_ ?_
        rotate_left
        · intro w'
          go_simp
          with_reducible rfl
        rotate_left
        · simp only [Act.put, List.setIfInBounds_toArray, List.set_cons_zero, List.set_cons_succ, i64_w, i32_w]
          rfl
        refine pure_ (i := 2) (N := some 22) (v := ?_) (a' := ?_) #[true, true, true, false, false, false, false, false, false] rfl rfl (by kernel_rfl) (fun _ _ _ h => h) (Or.inl ⟨by rfl, ?_⟩) ?_ ?_
        rotate_left
        · intro w'
          go_simp
          with_reducible rfl
        rotate_left
        · simp only [Act.put, List.setIfInBounds_toArray, List.set_cons_zero, List.set_cons_succ, i64_w, i32_w]
          rfl
        refine take_ (i := 3) (N := some 23) (v := ?_) (a' := ?_) #[true, true, true, true, false, false, false, false, false] rfl rfl (by kernel_rfl) (fun _ _ _ h => h) (Or.inl ⟨by rfl, ?_⟩) hHeld ?_ ?_
        rotate_left
        · rintro w' ⟨s0, s1, s2, s3⟩
          go_simp
          with_reducible rfl
        rotate_left
        · simp only [Act.put, List.setIfInBounds_toArray, List.set_cons_zero, List.set_cons_succ, i64_w, i32_w]
          rfl
        refine take_ (i := 4) (N := some 24) (v := ?_) (a' := ?_) #[true, true, true, true, true, false, false, false, false] rfl rfl (by kernel_rfl) (fun _ _ _ h => h) (Or.inl ⟨by rfl, ?_⟩) hHeld ?_ ?_
        rotate_left
        · rintro w' ⟨s0, s1, s2, s3⟩
          go_simp
          with_reducible rfl
        rotate_left
        · simp only [Act.put, List.setIfInBounds_toArray, List.set_cons_zero, List.set_cons_succ, i64_w, i32_w]
          rfl
        refine one_ (i := 5) (N := some 25) #[true, true, true, true, true, true, false, false, false] rfl rfl (by kernel_rfl) (by decide) (fun K hK => ?_)
        refine value_ (w1 := ?_) (v := ?_) (by rfl) rfl ?_ ?_
        rotate_left 2
        · go_simp
          constructor
          · rfl
          · rfl
        refine hK.out _ _ ⟨(blk_cell (blk_alloc BK.out _) 1).trans rfl, (blk_cell (blk_alloc BX.out _) 0).trans rfl, (blk_cell (blk_alloc BX.out _) 1).trans rfl, (blk_cell (blk_alloc BX.out _) 2).trans rfl⟩ (fun hHeld => ?_)
        clear hK K
        refine norm_ (a' := ?_) ?_ ?_
        rotate_left
        · show Act.put _ (some 25) _ = _
          simp only [Act.put, List.setIfInBounds_toArray, List.set_cons_zero, List.set_cons_succ, i64_w, i32_w]
          rfl
        refine one_ (i := 6) (N := some 26) #[true, true, true, true, true, true, true, false, false] rfl rfl (by kernel_rfl) (by decide) (fun K hK => ?_)
        refine Kd.R_append_step k41 (w0 := W2) base (by rfl) (.tmp 23) (.tmp 25) 27 41 (.agg #[(.int .i64 0), (.int .i64 0), (.int .i64 0)]) 24 rfl Try.underlying27 info41 rfl (by decide) (by omega) u out (⟨xa, 4, xc⟩ : S41) [.int .i64 xa, .int .i64 4, .int .i64 xc] (fun _ => True) (fun _ => False) rfl rfl ?aP (fun _ hk => hk.elim) ?aF ?aO ?aB ?aS ?aL ?_
        (case aP => exact k41_mkM _ _ _ (⟨xa, 4, xc⟩ : S41))
        (case aB => exact (Below.refl _ _))
        (case aF => exact (fun _ _ => trivial))
        (case aO => exact HO.out)
        (case aS => have := HS.out; omega)
        (case aL => omega)
        intro v1 W3 ho hb hg hat
        rw [hres] at ho
        obtain ⟨Ao, co, eo⟩ := Kd.R_slice ho; subst eo
        have hge : ∀ k, u.ownBlock = some k → base ≤ k := fun k hk => own_base (Kd.R_own HO.out).choose_spec k hk
        have hlt := Kd.R_lt HO.out
        have nx : some w.heap.size ≠ u.ownBlock := NX.out
        have BK3 := blk_grown BK.out hg (Kd.R_ne HO.out BK.out (by decide))
        have BX3 := blk_grown BX.out hg nx
        have HI3 := IsS69.grown HI.out hg (IsS69.own_ne HI.out HO.out (by decide))
        have HB3 := HB.out.trans (hb.mono hb0)
        have KP3 := Kept.of_grown hg KP.out (fun k hk => Or.inl (Or.inr (Or.inr hk.symm)))
        have HS3 : W2.heap.size ≤ W3.heap.size := hg.size
        refine hK.out _ _ ⟨(blk_cell BK3 1).trans rfl, (blk_cell BX3 0).trans rfl, (blk_cell BX3 1).trans rfl, (blk_cell BX3 2).trans rfl⟩ (fun hHeld => ?_)
        clear hK K
        refine norm_ (a' := ?_) ?_ ?_
        rotate_left
        · show Act.put _ (some 26) _ = _
          simp only [Act.put, List.setIfInBounds_toArray, List.set_cons_zero, List.set_cons_succ, i64_w, i32_w]
          rfl
        refine pure_ (i := 7) (N := some 27) (v := ?_) (a' := ?_) #[true, true, true, true, true, true, true, true, false] rfl rfl (by kernel_rfl) (fun _ _ _ h => h) (Or.inl ⟨by rfl, ?_⟩) ?_ ?_
        rotate_left
        · intro w'
          go_simp
          with_reducible rfl
        rotate_left
        · simp only [Act.put, List.setIfInBounds_toArray, List.set_cons_zero, List.set_cons_succ, i64_w, i32_w]
          rfl
        refine last_ (i := 8) (N := none) #[true, true, true, true, true, true, true, true, true] rfl rfl (by kernel_rfl) (by decide) (fun K hK => ?_)
        have hfz := blk_frozen BK3 1
        have hcz : W3.cell? ⟨gb, 1, none⟩ = some u := (blk_cell BK3 1).trans rfl
        refine skip_ (w1 := ?_) (by rfl) rfl ?_ ?_
        rotate_left
        · go_simp
          rfl
        refine hK.out _ _ ?_
        clear hK K
        refine done_ (by kernel_rfl) ?_
        go_wp2
        (try simp only [Exit.inBlock, Exit.then])
        refine bodyPost_ret (results_none rfl _ _ _) rfl ?_
        refine ⟨rfl, IsS69.far HI3 (IsS69.ne_blk HI3 BK3 (by decide)) _, HB3.setCell (by show w0.heap.size ≤ gb; omega) _, _, blk_put BK3 1 _ rfl, Kd.R_mono (Kd.R_far (p := ⟨gb, 1, none⟩) (Kd.R_types ho BK3 (by decide)) (fun _ hk => hk.2) _) (fun _ hk => trivial), KP3.setCell (Or.inl (Or.inr (Or.inl rfl))) _, ?_⟩
        rcases hat with hat | ⟨b, h1, h2⟩
        · exact Or.inl hat
        · exact Or.inr ⟨b, h1, by have := HS.out; omega⟩
      · rw [if_neg cl] at h; cases h
    · rw [if_neg c4] at h
      obtain ⟨⟨t, a1, a2⟩, hA, h⟩ := Option.bind_eq_some_iff.1 h
      have HA := Aside0.mk hA
      clear hA
      dsimp only at h
      have c4b : decide (xb = 4) = false := decide_eq_false c4
      have c4c : (xb == 4) = false := by simpa using c4
      clear c4
      cases t with
      | false =>
        rw [if_neg (by decide)] at h
        unfold spec_l04Root.add at h
        by_cases cl : out.length < 5864062014805
        · rw [if_pos cl] at h
          obtain ⟨rfl, rfl, hres⟩ : a1 = t1 ∧ a2 = t2 ∧ out ++ [⟨xa, xb, xc⟩] = res := by simpa using h
          clear h
          go_enter Try.func73, Try.ntmps73
          go_wp2_with (
            go_at_call 85; refine (spec_l01Once.calls g s0 s1 s2 ch false a1 a2 w0 _ HI.out HB.out HA.out).mono ?_
            rintro e W ⟨rfl, hi, hb, hk⟩
            have gne := (IsS69.ne_blk HI.out BK.out (by decide)).symm
            have xne := (IsS69.ne_blk HI.out BX.out (by decide)).symm
            replace BK := Aside0.mk (hk.blk BK.out gne (by simp))
            replace BX := Aside0.mk (hk.blk BX.out xne (by simp))
            replace HO := Aside0.mk (Kd.R_mono (Kd.R_keep (IsS69.apart HI.out HO.out (by decide)) hk (fun _ h => h.2)) (fun _ _ => trivial))
            replace KP := Aside0.mk (KP.out.of_keep hk (Or.inl (Or.inl rfl)))
            replace HS := Aside0.mk (Nat.lt_of_lt_of_le HS.out hk.1)
            replace HI := Aside0.mk hi
            replace HB := Aside0.mk hb
            clear hi hb hk gne xne hx0)
          go_wp2
          refine start_ (n := 9) (S := fun w' => w'.cell? ⟨gb, 1, none⟩ = some u ∧ w'.cell? ⟨w.heap.size, 0, none⟩ = some (.int .i64 xa) ∧ w'.cell? ⟨w.heap.size, 1, none⟩ = some (.int .i64 xb) ∧ w'.cell? ⟨w.heap.size, 2, none⟩ = some (.int .i64 xc)) (ds := [8]) #[false, false, false, false, false, false, false, false, false] (by kernel_rfl) rfl rfl ⟨(blk_cell BK.out 1).trans rfl, (blk_cell BX.out 0).trans rfl, (blk_cell BX.out 1).trans rfl, (blk_cell BX.out 2).trans rfl⟩ (fun hHeld => ?_)
          replace HI := Aside0.mk (IsS69.drew HI.out); replace HB := Aside0.mk (below_drew1 HB.out); replace BK := Aside0.mk (blk_drew BK.out); replace BX := Aside0.mk (blk_drew BX.out); replace HO := Aside0.mk (Kd.R_drew HO.out); replace KP := Aside0.mk (Kept.drew KP.out); replace HS := Aside0.mk (show w.heap.size < W.drew.heap.size from HS.out)
          generalize W.drew = W2 at HI HB BK BX HO KP HS hHeld ⊢
          refine pure_ (i := 0) (N := some 20) (v := ?_) (a' := ?_) #[true, false, false, false, false, false, false, false, false] rfl rfl (by kernel_rfl) (fun _ _ _ h => h) (Or.inl ⟨by rfl, ?_⟩) ?_ ?_
          rotate_left
          · intro w'
            go_simp
            with_reducible rfl
          rotate_left
          · simp only [Act.put, List.setIfInBounds_toArray, List.set_cons_zero, List.set_cons_succ, i64_w, i32_w]
            rfl
          refine pure_ (i := 1) (N := some 21) (v := ?_) (a' := ?_) #[true, true, false, false, false, false, false, false, false] rfl rfl (by kernel_rfl) (fun _ _ _ h => h) (Or.inl ⟨by rfl, ?_⟩) ?_ ?_
          rotate_left
          · intro w'
            go_simp
            with_reducible rfl
          rotate_left
          · simp only [Act.put, List.setIfInBounds_toArray, List.set_cons_zero, List.set_cons_succ, i64_w, i32_w]
            rfl
          refine pure_ (i := 2) (N := some 22) (v := ?_) (a' := ?_) #[true, true, true, false, false, false, false, false, false] rfl rfl (by kernel_rfl) (fun _ _ _ h => h) (Or.inl ⟨by rfl, ?_⟩) ?_ ?_
          rotate_left
          · intro w'
            go_simp
            with_reducible rfl
          rotate_left
          · simp only [Act.put, List.setIfInBounds_toArray, List.set_cons_zero, List.set_cons_succ, i64_w, i32_w]
            rfl
          refine take_ (i := 3) (N := some 23) (v := ?_) (a' := ?_) #[true, true, true, true, false, false, false, false, false] rfl rfl (by kernel_rfl) (fun _ _ _ h => h) (Or.inl ⟨by rfl, ?_⟩) hHeld ?_ ?_
          rotate_left
          · rintro w' ⟨s0, s1, s2, s3⟩
            go_simp
            with_reducible rfl
          rotate_left
          · simp only [Act.put, List.setIfInBounds_toArray, List.set_cons_zero, List.set_cons_succ, i64_w, i32_w]
            rfl
          refine take_ (i := 4) (N := some 24) (v := ?_) (a' := ?_) #[true, true, true, true, true, false, false, false, false] rfl rfl (by kernel_rfl) (fun _ _ _ h => h) (Or.inl ⟨by rfl, ?_⟩) hHeld ?_ ?_
          rotate_left
          · rintro w' ⟨s0, s1, s2, s3⟩
            go_simp
            with_reducible rfl
          rotate_left
          · simp only [Act.put, List.setIfInBounds_toArray, List.set_cons_zero, List.set_cons_succ, i64_w, i32_w]
            rfl
          refine one_ (i := 5) (N := some 25) #[true, true, true, true, true, true, false, false, false] rfl rfl (by kernel_rfl) (by decide) (fun K hK => ?_)
          refine value_ (w1 := ?_) (v := ?_) (by rfl) rfl ?_ ?_
          rotate_left 2
          · go_simp
            constructor
            · rfl
            · rfl
          refine hK.out _ _ ⟨(blk_cell (blk_alloc BK.out _) 1).trans rfl, (blk_cell (blk_alloc BX.out _) 0).trans rfl, (blk_cell (blk_alloc BX.out _) 1).trans rfl, (blk_cell (blk_alloc BX.out _) 2).trans rfl⟩ (fun hHeld => ?_)
          clear hK K
          refine norm_ (a' := ?_) ?_ ?_
          rotate_left
          · show Act.put _ (some 25) _ = _
            simp only [Act.put, List.setIfInBounds_toArray, List.set_cons_zero, List.set_cons_succ, i64_w, i32_w]
            rfl
          refine one_ (i := 6) (N := some 26) #[true, true, true, true, true, true, true, false, false] rfl rfl (by kernel_rfl) (by decide) (fun K hK => ?_)
          refine Kd.R_append_step k41 (w0 := W2) base (by rfl) (.tmp 23) (.tmp 25) 27 41 (.agg #[(.int .i64 0), (.int .i64 0), (.int .i64 0)]) 24 rfl Try.underlying27 info41 rfl (by decide) (by omega) u out (⟨xa, xb, xc⟩ : S41) [.int .i64 xa, .int .i64 xb, .int .i64 xc] (fun _ => True) (fun _ => False) rfl rfl ?aP (fun _ hk => hk.elim) ?aF ?aO ?aB ?aS ?aL ?_
          (case aP => exact k41_mkM _ _ _ (⟨xa, xb, xc⟩ : S41))
          (case aB => exact (Below.refl _ _))
          (case aF => exact (fun _ _ => trivial))
          (case aO => exact HO.out)
          (case aS => have := HS.out; omega)
          (case aL => omega)
          intro v1 W3 ho hb hg hat
          rw [hres] at ho
          obtain ⟨Ao, co, eo⟩ := Kd.R_slice ho; subst eo
          have hge : ∀ k, u.ownBlock = some k → base ≤ k := fun k hk => own_base (Kd.R_own HO.out).choose_spec k hk
          have hlt := Kd.R_lt HO.out
          have nx : some w.heap.size ≠ u.ownBlock := NX.out
          have BK3 := blk_grown BK.out hg (Kd.R_ne HO.out BK.out (by decide))
          have BX3 := blk_grown BX.out hg nx
          have HI3 := IsS69.grown HI.out hg (IsS69.own_ne HI.out HO.out (by decide))
          have HB3 := HB.out.trans (hb.mono hb0)
          have KP3 := Kept.of_grown hg KP.out (fun k hk => Or.inl (Or.inr (Or.inr hk.symm)))
          have HS3 : W2.heap.size ≤ W3.heap.size := hg.size
          refine hK.out _ _ ⟨(blk_cell BK3 1).trans rfl, (blk_cell BX3 0).trans rfl, (blk_cell BX3 1).trans rfl, (blk_cell BX3 2).trans rfl⟩ (fun hHeld => ?_)
          clear hK K
          refine norm_ (a' := ?_) ?_ ?_
          rotate_left
          · show Act.put _ (some 26) _ = _
            simp only [Act.put, List.setIfInBounds_toArray, List.set_cons_zero, List.set_cons_succ, i64_w, i32_w]
            rfl
          refine pure_ (i := 7) (N := some 27) (v := ?_) (a' := ?_) #[true, true, true, true, true, true, true, true, false] rfl rfl (by kernel_rfl) (fun _ _ _ h => h) (Or.inl ⟨by rfl, ?_⟩) ?_ ?_
          rotate_left
          · intro w'
            go_simp
            with_reducible rfl
          rotate_left
          · simp only [Act.put, List.setIfInBounds_toArray, List.set_cons_zero, List.set_cons_succ, i64_w, i32_w]
            rfl
          refine last_ (i := 8) (N := none) #[true, true, true, true, true, true, true, true, true] rfl rfl (by kernel_rfl) (by decide) (fun K hK => ?_)
          have hfz := blk_frozen BK3 1
          have hcz : W3.cell? ⟨gb, 1, none⟩ = some u := (blk_cell BK3 1).trans rfl
          refine skip_ (w1 := ?_) (by rfl) rfl ?_ ?_
          rotate_left
          · go_simp
            rfl
          refine hK.out _ _ ?_
          clear hK K
          refine done_ (by kernel_rfl) ?_
          go_wp2
          (try simp only [Exit.inBlock, Exit.then])
          refine bodyPost_ret (results_none rfl _ _ _) rfl ?_
          refine ⟨rfl, IsS69.far HI3 (IsS69.ne_blk HI3 BK3 (by decide)) _, HB3.setCell (by show w0.heap.size ≤ gb; omega) _, _, blk_put BK3 1 _ rfl, Kd.R_mono (Kd.R_far (p := ⟨gb, 1, none⟩) (Kd.R_types ho BK3 (by decide)) (fun _ hk => hk.2) _) (fun _ hk => trivial), KP3.setCell (Or.inl (Or.inr (Or.inl rfl))) _, ?_⟩
          rcases hat with hat | ⟨b, h1, h2⟩
          · exact Or.inl hat
          · exact Or.inr ⟨b, h1, by have := HS.out; omega⟩
        · rw [if_neg cl] at h; cases h
      | true =>
        rw [if_pos rfl] at h
        have HG := Aside0.mk h
        clear h
        go_enter Try.func73, Try.ntmps73
        go_wp2_with (
          go_at_call 85; refine (spec_l01Once.calls g s0 s1 s2 ch true a1 a2 w0 _ HI.out HB.out HA.out).mono ?_
          rintro e W ⟨rfl, hi, hb, hk⟩
          have gne := (IsS69.ne_blk HI.out BK.out (by decide)).symm
          have xne := (IsS69.ne_blk HI.out BX.out (by decide)).symm
          replace BK := Aside0.mk (hk.blk BK.out gne (by simp))
          replace BX := Aside0.mk (hk.blk BX.out xne (by simp))
          replace HO := Aside0.mk (Kd.R_mono (Kd.R_keep (IsS69.apart HI.out HO.out (by decide)) hk (fun _ h => h.2)) (fun _ _ => trivial))
          replace KP := Aside0.mk (KP.out.of_keep hk (Or.inl (Or.inl rfl)))
          replace HS := Aside0.mk (Nat.lt_of_lt_of_le HS.out hk.1)
          replace HI := Aside0.mk hi
          replace HB := Aside0.mk hb
          clear hi hb hk gne xne hx0)
        go_loopg [8] 2 (fun gg v8 wr => ∃ (kk : Nat) (b1 b2 : Int) (o1 : List S41) (u1 : Value), kk ≤ 2 ∧ 2 - kk ≤ gg ∧ v8 = .int .i64 kk ∧ Aside0 (IsS69 w0 wr g s0 b1 b2) ∧ Aside0 (Below w0.heap.size w0 wr) ∧ Aside0 (wr.heap[gb]? = some (.cells #[.int .i64 R, u1] 29 (0, 0))) ∧ Aside0 (Kd.R k41 41 wr base (fun _ => True) u1 o1) ∧ Aside0 (Kept w wr (fun k => k = g ∨ k = gb ∨ some k = u.ownBlock)) ∧ Aside0 (u1.ownBlock = u.ownBlock ∨ ∃ b, u1.ownBlock = some b ∧ w.heap.size < b) ∧ Aside0 (wr.heap[w.heap.size]? = some (.cells #[.int .i64 xa, .int .i64 xb, .int .i64 xc] 41 (0, 0))) ∧ Aside0 (w.heap.size < wr.heap.size) ∧ Aside0 (spec_l04Root.kids (fun a b y o => spec_l04Root.f d s0 a b y (wrap64 (ch + 1)) o) ⟨xa, xb, xc⟩ (2 - kk) kk b1 b2 o1 = some (t1, t2, res)))
        case atStart => exact ⟨0, a1, a2, out, u, by omega, by omega, rfl, HI, HB, BK, HO, KP, ⟨Or.inl rfl⟩, BX, HS, HG⟩
        case round =>
          clear HI HB BK HO KP BX HS HG
          obtain ⟨kk, b1, b2, o1, u1, hkk, hgk, rfl, HI, HB, BK, HO, KP, HU, BX, HS, HG⟩ := hrel
          have NR := Aside0.mk (show some w.heap.size ≠ u1.ownBlock from fun e => by
            rcases HU.out with hu | ⟨b, hu, hlt⟩
            · exact NX.out (e.trans hu)
            · rw [hu] at e; have := Option.some.inj e; omega)
          have hy0 : wr.cell? ⟨w.heap.size, 0, none⟩ = some (.int .i64 xa) := (blk_cell BX.out 0).trans rfl
          have hy1 : wr.cell? ⟨w.heap.size, 1, none⟩ = some (.int .i64 xb) := (blk_cell BX.out 1).trans rfl
          have hy2 : wr.cell? ⟨w.heap.size, 2, none⟩ = some (.int .i64 xc) := (blk_cell BX.out 2).trans rfl
          by_cases hlt : kk < 2
          · have hltz : (kk : Int) < 2 := by omega
            have HG2 := HG.out
            rw [show 2 - kk = (2 - (kk + 1)) + 1 by omega] at HG2
            unfold spec_l04Root.kids at HG2
            obtain ⟨⟨y0, y1, y2, yb⟩, hY, HG2⟩ := Option.bind_eq_some_iff.1 HG2
            obtain ⟨⟨v1, v2, v3⟩, hV, HG2⟩ := Option.bind_eq_some_iff.1 HG2
            have HY := Aside0.mk hY
            have HV := Aside0.mk hV
            have HN := Aside0.mk HG2
            clear hY hV HG2 HG
            go_wp2_with (first
              | (go_at_call 79; refine (spec_ChildOf.calls xa xb xc kk y0 y1 y2 yb _ HY.out).mono ?_
                 rintro e w5 ⟨rfl, hb5⟩
                 replace HI := Aside0.mk (HI.out.below hb5)
                 replace HB := Aside0.mk (below_step HB.out hb5)
                 replace BK := Aside0.mk (blk_below BK.out hb5)
                 replace BX := Aside0.mk (blk_below BX.out hb5)
                 replace HO := Aside0.mk (Kd.R_below HO.out hb5)
                 replace KP := Aside0.mk (KP.out.below hb5)
                 replace HS := Aside0.mk (Nat.lt_of_lt_of_le HS.out hb5.size)
                 clear hb5 hy0 hy1 hy2)
              | (go_at_call 73; refine (ih ⟨y0, y1, y2⟩ (wrap64 (ch + 1)) b1 b2 o1 u1 v1 v2 v3 _ ?i1 ?i2 ?i3 ?i4 ?i5 HV.out).mono ?_
                 (case i1 => exact HI.out.below (by repeat (first | exact Below.refl _ _ | refine Below.setCell ?_ (by simp) _ | refine Below.alloc ?_ (Nat.le_refl _) _)))
                 (case i2 => exact below_step HB.out (by repeat (first | exact Below.refl _ _ | refine Below.setCell ?_ (by simp) _ | refine Below.alloc ?_ (Nat.le_refl _) _)))
                 (case i3 => exact Nat.le_trans hbw (Nat.le_trans (Nat.le_of_lt HS.out) (Below.size (B := w5.heap.size) (w := w5) (by repeat (first | exact Below.refl _ _ | refine Below.setCell ?_ (by simp) _ | refine Below.alloc ?_ (Nat.le_refl _) _)))))
                 (case i4 => exact blk_below BK.out (by repeat (first | exact Below.refl _ _ | refine Below.setCell ?_ (by simp) _ | refine Below.alloc ?_ (Nat.le_refl _) _)))
                 (case i5 => exact Kd.R_below HO.out (by repeat (first | exact Below.refl _ _ | refine Below.setCell ?_ (by simp) _ | refine Below.alloc ?_ (Nat.le_refl _) _)))
                 rintro e w6 ⟨rfl, q1, q2, u2, q3, q4, q5, q6⟩
                 have gne := (IsS69.ne_blk HI.out BX.out (by decide)).symm
                 have bne := blk_ne BX.out BK.out (by decide)
                 have BX6 := blk_kept (blk_below BX.out (by repeat (first | exact Below.refl _ _ | refine Below.setCell ?_ (by simp) _ | refine Below.alloc ?_ (Nat.le_refl _) _))) q5 (by rintro (h | h | h); exact gne h; exact bne h; exact NR.out h)
                 have KP6 := (KP.out.below (W2 := _) (by repeat (first | exact Below.refl _ _ | refine Below.setCell ?_ (by simp) _ | refine Below.alloc ?_ (Nat.le_refl _) _))).then_ q5 (fun k hk => by
                   rcases hk with h | h | h
                   · exact Or.inl (Or.inl h)
                   · exact Or.inl (Or.inr (Or.inl h))
                   · rcases HU.out with hu | ⟨b, hu, hl⟩
                     · exact Or.inl (Or.inr (Or.inr (h.trans hu)))
                     · rw [hu] at h; have := Option.some.inj h; exact Or.inr (by omega))
                 have HS6 : w.heap.size < w6.heap.size := Nat.lt_of_lt_of_le HS.out (Nat.le_trans (Below.size (B := w5.heap.size) (w := w5) (by repeat (first | exact Below.refl _ _ | refine Below.setCell ?_ (by simp) _ | refine Below.alloc ?_ (Nat.le_refl _) _))) q5.1)
                 have HU6 : u2.ownBlock = u.ownBlock ∨ ∃ b, u2.ownBlock = some b ∧ w.heap.size < b := by
                   rcases q6 with hq | ⟨b, hq, hl⟩
                   · rw [hq]; exact HU.out
                   · exact Or.inr ⟨b, hq, Nat.lt_of_lt_of_le HS.out (Nat.le_trans (Below.size (B := w5.heap.size) (w := w5) (by repeat (first | exact Below.refl _ _ | refine Below.setCell ?_ (by simp) _ | refine Below.alloc ?_ (Nat.le_refl _) _))) hl)⟩))
            go_roundg (2 - (kk + 1))
            rotate_left
            · omega
            · exact ⟨kk + 1, v1, v2, v3, u2, by omega, by omega, by simp, ⟨q1⟩, ⟨q2⟩, ⟨q3⟩, ⟨q4⟩, ⟨KP6⟩, ⟨HU6⟩, ⟨BX6⟩, ⟨HS6⟩, ⟨HN.out⟩⟩
          · have hk2 : kk = 2 := by omega
            have HG2 := HG.out
            rw [hk2] at HG2
            obtain ⟨rfl, rfl, rfl⟩ : b1 = t1 ∧ b2 = t2 ∧ o1 = res := by simpa [spec_l04Root.kids] using HG2
            have hltz : ¬ (kk : Int) < 2 := by omega
            go_wp2
            go_end0
            refine ⟨rfl, HI.out, HB.out, u1, BK.out, HO.out, KP.out, ?_⟩
            rcases HU.out with hu | ⟨b, hu, hl⟩
            · exact Or.inl hu
            · exact Or.inr ⟨b, hu, by omega⟩
def spec_l04Mesh.go : Nat → List Int → Int → Int → Int → List S41 → Option (Int × Int × List S41)
  | 0, _, s1, s2, _, out => some (s1, s2, out)
  | n + 1, s0, s1, s2, r, out => (spec_l01Below.f s0 s1 s2 2).bind fun t => (spec_l04Root.f 6 s0 t.2.1 t.2.2 ⟨r, 0, 0⟩ (wrap64 (1 + t.1)) out).bind fun u => spec_l04Mesh.go n s0 u.1 u.2.1 (r + 1) u.2.2
def spec_l04Mesh.f (s0_0 : List Int) (s0_1 : Int) (s0_2 : Int) : Option (Int × (List S41) × Int × Int) := (spec_l01Below.f s0_0 s0_1 s0_2 3).bind fun t => (spec_l04Mesh.go (wrap64 (1 + t.1)).toNat s0_0 t.2.1 t.2.2 0 []).bind fun u => some (wrap64 (1 + t.1), u.2.2, u.1, u.2.1)
set_option maxHeartbeats 8000000 in
set_option maxRecDepth 100000 in
theorem spec_l04Mesh.calls (g : Nat) (s0_0 : List Int) (s0_1 : Int) (s0_2 : Int) (r1 : Int) (r2 : List (S41)) (r3 : Int) (r4 : Int) (w0 w : World) (hI : IsS69 w0 w g s0_0 s0_1 s0_2) (hB : Below w0.heap.size w0 w) (h : spec_l04Mesh.f s0_0 s0_1 s0_2 = some (r1, r2, r3, r4)) :
    Calls Try.prog 44 #[.pointer (some ⟨g, 0, none⟩)] w fun e w' => ∃ v_, e = .returned (.agg #[.int .i64 r1, v_]) ∧ Kd.R k41 41 w' w.heap.size (fun _ => True) v_ r2 ∧ IsS69 w0 w' g s0_0 r3 r4 ∧ Below w0.heap.size w0 w' ∧ KeepBut w w' g none := by
  have huM := Try.underlying29
  obtain ⟨⟨t, a1, a2⟩, hA, h⟩ := Option.bind_eq_some_iff.1 h
  obtain ⟨⟨b1, b2, bo⟩, hG, h⟩ := Option.bind_eq_some_iff.1 h
  dsimp only at h hG
  obtain ⟨hR, rfl, rfl, rfl⟩ : wrap64 (1 + t) = r1 ∧ bo = r2 ∧ b1 = r3 ∧ b2 = r4 := by simpa using h
  rw [hR] at hG
  have HM := Aside0.mk (show r1 ≤ 9223372036854775807 by rw [← hR]; unfold wrap64; omega)
  have HI := Aside0.mk hI
  have HB := Aside0.mk hB
  have HL := Aside0.mk hB.size
  have HA := Aside0.mk hA
  have HG := Aside0.mk hG
  clear hI hB hA hG h
  go_enter Try.func44, Try.ntmps44
  have BRi := blk_new w (.cells #[.int .i64 0, .slice none 0 0] 29)
  go_wp2_with (
    go_at_call 59; refine (spec_l01Below.calls g s0_0 s0_1 s0_2 3 t a1 a2 w0 _ (HI.out.alloc _) (below_alloc HB.out _) HA.out).mono ?_
    rintro e W ⟨rfl, hi, hb, hk⟩
    have rne := (IsS69.ne_blk (HI.out.alloc _) BRi (by decide)).symm
    have BR := Aside0.mk (hk.blk BRi rne (by simp))
    have KB := Aside0.mk (KeepBut.trans (keep_alloc (KeepBut.refl w g none) _) hk (.inl rfl))
    have HS := Aside0.mk (show w.heap.size < W.heap.size from Nat.lt_of_lt_of_le (by simp) hk.1)
    replace HI := Aside0.mk hi
    replace HB := Aside0.mk hb
    clear hi hb hk BRi)
  rw [hR]
  clear hR
  have hr0 : ((0 : Nat) : Int) = 0 := rfl
  go_loopg [4] r1.toNat (fun gg v4 wr => ∃ (kk : Nat) (c1 c2 : Int) (o1 : List S41) (u1 : Value), kk ≤ r1.toNat ∧ r1.toNat - kk ≤ gg ∧ v4 = .int .i64 kk ∧ Aside0 (IsS69 w0 wr g s0_0 c1 c2) ∧ Aside0 (Below w0.heap.size w0 wr) ∧ Aside0 (wr.heap[W.heap.size]? = some (.cells #[.int .i64 r1, u1] 29 (0, 0))) ∧ Aside0 (Kd.R k41 41 wr w.heap.size (fun _ => True) u1 o1) ∧ Aside0 (KeepBut w wr g none) ∧ Aside0 (wr.heap[w.heap.size]? = some (.cells #[.int .i64 0, .slice none 0 0] 29 (0, 0))) ∧ Aside0 (W.heap.size < wr.heap.size) ∧ Aside0 (spec_l04Mesh.go (r1.toNat - kk) s0_0 c1 c2 kk o1 = some (b1, b2, bo)))
  case atStart => exact ⟨0, a1, a2, [], .slice none 0 0, by omega, by omega, rfl, ⟨HI.out.alloc _⟩, ⟨below_alloc HB.out _⟩, ⟨blk_new W _⟩, ⟨Kd.R_nil _ _ _ _ _⟩, ⟨keep_alloc KB.out _⟩, ⟨blk_alloc BR.out _⟩, ⟨by simp⟩, HG⟩
  case round =>
    clear HI HB BR KB HG
    obtain ⟨kk, c1, c2, o1, u1, hkk, hgk, rfl, HI, HB, BK, HO, KB, BR, HW, HG⟩ := hrel
    have hc0 : wr.cell? ⟨W.heap.size, 0, none⟩ = some (.int .i64 r1) := (blk_cell BK.out 0).trans rfl
    have hc1 : wr.cell? ⟨W.heap.size, 1, none⟩ = some u1 := (blk_cell BK.out 1).trans rfl
    by_cases hlt : kk < r1.toNat
    · have hltz : (kk : Int) < r1 := by omega
      have hwk : wrap64 ((kk : Int) + 1) = (kk : Int) + 1 := by
        have := HM.out
        unfold wrap64
        omega
      have HG2 := HG.out
      rw [show r1.toNat - kk = (r1.toNat - (kk + 1)) + 1 by omega] at HG2
      unfold spec_l04Mesh.go at HG2
      obtain ⟨⟨y0, y1, y2⟩, hY, HG2⟩ := Option.bind_eq_some_iff.1 HG2
      obtain ⟨⟨v1, v2, v3⟩, hV, HG2⟩ := Option.bind_eq_some_iff.1 HG2
      have HY := Aside0.mk hY
      have HV := Aside0.mk hV
      have HN := Aside0.mk HG2
      clear hY hV HG2 HG
      go_wp2_with (first
        | (go_at_call 59; refine (spec_l01Below.calls g s0_0 c1 c2 2 y0 y1 y2 w0 _ HI.out HB.out HY.out).mono ?_
           rintro e w5 ⟨rfl, hi, hb, hk⟩
           have bne := (IsS69.ne_blk HI.out BK.out (by decide)).symm
           have rne := (IsS69.ne_blk HI.out BR.out (by decide)).symm
           replace BK := Aside0.mk (hk.blk BK.out bne (by simp))
           replace BR := Aside0.mk (hk.blk BR.out rne (by simp))
           replace HO := Aside0.mk (Kd.R_mono (Kd.R_keep (IsS69.apart HI.out HO.out (by decide)) hk (fun _ h => h.2)) (fun _ _ => trivial))
           replace KB := Aside0.mk (KeepBut.trans KB.out hk (.inl rfl))
           replace HW := Aside0.mk (Nat.lt_of_lt_of_le HW.out hk.1)
           replace HI := Aside0.mk hi
           replace HB := Aside0.mk hb
           clear hi hb hk bne rne hc0 hc1)
        | (go_at_call 73; refine (spec_l04Root.calls w0 w.heap.size g W.heap.size s0_0 r1 ?j1 ?j2 6 ⟨kk, 0, 0⟩ (wrap64 (1 + y0)) y1 y2 o1 u1 v1 v2 v3 _ HI.out HB.out ?j3 BK.out HO.out HV.out).mono ?_
           (case j1 => exact HL.out)
           (case j2 => have := HS.out; omega)
           (case j3 => have := HS.out; have := HW.out; omega)
           rintro e w6 ⟨rfl, q1, q2, u2, q3, q4, q5, q6⟩
           have rne := (IsS69.ne_blk HI.out BR.out (by decide)).symm
           have BR6 := blk_kept BR.out q5 (by rintro (h | h | h); exact rne h; (have := HS.out; omega); exact Kd.R_ne HO.out BR.out (by decide) h)
           have KB6 := Kept.keepG KB.out q5 (fun k hk => by
             rcases hk with h | h | h
             · exact Or.inl h
             · exact Or.inr (by have := HS.out; omega)
             · exact Or.inr (own_base (Kd.R_own HO.out).choose_spec k h.symm))
           have HW6 : W.heap.size < w6.heap.size := Nat.lt_of_lt_of_le HW.out q5.1))
      rw [hwk]
      go_roundg (r1.toNat - (kk + 1))
      rotate_left
      · omega
      · exact ⟨kk + 1, v1, v2, v3, u2, by omega, by omega, by simp, ⟨q1⟩, ⟨q2⟩, ⟨q3⟩, ⟨q4⟩, ⟨KB6⟩, ⟨BR6⟩, ⟨HW6⟩, ⟨HN.out⟩⟩
    · have hltz : ¬ (kk : Int) < r1 := by omega
      have HG2 := HG.out
      rw [show r1.toNat - kk = 0 by omega] at HG2
      obtain ⟨rfl, rfl, rfl⟩ : c1 = b1 ∧ c2 = b2 ∧ o1 = bo := by simpa [spec_l04Mesh.go] using HG2
      obtain ⟨Ao, co, eo⟩ := Kd.R_slice HO.out
      subst eo
      have hd0 : wr.cell? ⟨w.heap.size, 0, none⟩ = some (.int .i64 0) := (blk_cell BR.out 0).trans rfl
      have hd1 : wr.cell? ⟨w.heap.size, 1, none⟩ = some (.slice none 0 0) := (blk_cell BR.out 1).trans rfl
      have hf0 := blk_frozen BR.out 0
      have hf1 := blk_frozen BR.out 1
      have hnb : w.heap.size ≠ W.heap.size := by have := HS.out; omega
      go_wp2
      refine bodyPost_ret (results_cell_row rfl _ _ w.heap.size 29 #[.int .i64 r1, .slice Ao o1.length co] (0, 0) _ rfl (by refine blk_put (cs := #[.int .i64 r1, .slice none 0 0]) ?_ 1 _ rfl; refine blk_put (cs := #[.int .i64 0, .slice none 0 0]) ?_ 0 _ rfl; exact BR.out) Try.underlying29 rfl (by kernel_rfl)) rfl ?_
      refine ⟨_, rfl, ?_, ?_, ?_, ?_⟩
      · exact Kd.R_mono (Kd.R_far (p := ⟨w.heap.size, 1, none⟩) (Kd.R_far (p := ⟨w.heap.size, 0, none⟩) (Kd.R_types HO.out BR.out (by decide)) (fun _ hk => hk.2) _) (fun _ hk => hk.2) _) (fun _ hk => trivial)
      · exact IsS69.far (IsS69.far HI.out (IsS69.ne_blk HI.out BR.out (by decide)) _) (IsS69.ne_blk HI.out BR.out (by decide)) _
      · exact (HB.out.setCell (by have := HL.out; exact this) _).setCell (by have := HL.out; exact this) _
      · exact keep_far (p := ⟨w.heap.size, 1, none⟩) (keep_far (p := ⟨w.heap.size, 0, none⟩) KB.out (Nat.le_refl _) _) (Nat.le_refl _) _

/-! ### spec_l05Mesh: function 51 -/
def spec_l05Mesh.f (k : Nat) (s0_0 : List Int) (s0_1 : Int) (s0_2 : Int) : Option (Int × (List (S41)) × Int × Int) := (spec_l04Mesh.f s0_0 s0_1 s0_2).bind fun bt265 => ((spec_Balance.f k bt265.1 bt265.2.1).bind fun bt271 => (some (bt271.1, bt271.2, bt265.2.2.1, bt265.2.2.2)))
theorem spec_l05Mesh.mono : ∀ a0 a1 a2 k, LeO (spec_l05Mesh.f k a0 a1 a2) (spec_l05Mesh.f (k + 1) a0 a1 a2) := by
  intro a0 a1 a2 k
  unfold spec_l05Mesh.f
  repeat' first
      | (with_reducible exact spec_Balance.mono _ _ _)
      | (with_reducible exact LeO.refl _)
      | (with_reducible exact LeO.none _)
      | (with_reducible refine LeO.ite ?_ ?_)
      | (with_reducible refine LeO.bind ?_ (fun _ => ?_))
      | exact spec_Balance.mono _ _ _
      | exact LeO.none _
      | refine LeO.ite ?_ ?_
      | refine LeO.bind ?_ (fun _ => ?_)
set_option maxHeartbeats 8000000 in
set_option maxRecDepth 100000 in
theorem spec_l05Mesh.calls (k : Nat) (g : Nat) (s0_0 : List Int) (s0_1 : Int) (s0_2 : Int) (r1 : Int) (r2 : List (S41)) (r3 : Int) (r4 : Int) (w0 w : World) (hI : IsS69 w0 w g s0_0 s0_1 s0_2) (hB : Below w0.heap.size w0 w) (h : spec_l05Mesh.f k s0_0 s0_1 s0_2 = some (r1, r2, r3, r4)) :
    Calls Try.prog 51 #[.pointer (some ⟨g, 0, none⟩)] w fun e w' => ∃ v1_ : Value, e = .returned (.agg #[.int .i64 r1, v1_]) ∧ Kd.R k41 41 w' w.heap.size (fun _ => True) v1_ r2 ∧ IsS69 w0 w' g s0_0 r3 r4 ∧ Below w0.heap.size w0 w' ∧ KeepBut w w' g none := by
  have hu29 := Try.underlying29
  have HI0 := Aside0.mk hI
  have HK := Aside0.mk (KeepBut.refl w g none)
  have HL := Aside0.mk hB.size
  clear hI
  have HW0 := Aside0.mk hB.size
  have HB := Aside0.mk hB
  clear hB
  have H : ((spec_l04Mesh.f s0_0 s0_1 s0_2).bind fun bt265 => ((spec_Balance.f k bt265.1 bt265.2.1).bind fun bt271 => (some (bt271.1, bt271.2, bt265.2.2.1, bt265.2.2.2)))) = some (r1, r2, r3, r4) := h
  clear h
  replace H := Option.bind_eq_some_iff.mp H
  obtain ⟨⟨t265, t266, t269, t270⟩, A20, H⟩ := H
  replace H : ((spec_Balance.f k t265 t266).bind fun bt271 => (some (bt271.1, bt271.2, t269, t270))) = some (r1, r2, r3, r4) := H
  have A2 := Aside0.mk A20
  clear A20
  replace H := Option.bind_eq_some_iff.mp H
  obtain ⟨⟨t271, t272⟩, A30, H⟩ := H
  replace H : (some (t271, t272, t269, t270)) = some (r1, r2, r3, r4) := H
  have A3 := Aside0.mk A30
  clear A30
  simp only [Option.some.injEq, Prod.mk.injEq] at H
  obtain ⟨rfl, rfl, rfl, rfl⟩ := H
  go_enter Try.func51, Try.ntmps51
  go_wp2_with (first | ((with_reducible refine gate_dst (N := 2) rfl ?_); refine box_event ?hg (N := 2) ?hd (cs := #[.int .i64 0, .slice none 0 0]) (t := 29) ?hr ?_; (case hd => rfl); (case hg => rfl); (case hr => first | (go_simp; done) | (go_simp; rfl)); intro gb264 hg w4 hbox hb; have n0_ := Aside0.mk (IsS69.below (by repeat (first | (with_reducible first | exact HI0.out | apply IsS69.alloc | apply IsS69.drewN | apply IsS69.drew | apply IsS69.set_1 | apply IsS69.set_2) | exact HI0.out)) hb); have n1_ := Aside0.mk (KeepBut.trans (by repeat (first | (with_reducible first | exact HK.out | apply KeepBut.set_ | apply keep_drewN | apply keep_drew | apply keep_alloc) | exact HK.out)) (KeepBut.of_below hb g none) (.inl rfl)); have n2_ := Aside0.mk (below_step (by repeat (first | (with_reducible first | exact HB.out | apply below_alloc | apply pw_below_drewN | apply below_drew1 | refine below_set ?_ (IsS69.ge HI0.out)) | exact HB.out)) hb); have n3_ := Aside0.mk (hbox); have n4_ := Aside0.mk ((by rw [hg]; exact (keep_size (w := w) (g := g) (row := none) (by repeat (first | (with_reducible first | exact HK.out | apply KeepBut.set_ | apply keep_drewN | apply keep_drew | apply keep_alloc) | exact HK.out))) : w.heap.size ≤ gb264)); have n5_ := Aside0.mk ((Nat.le_trans HW0.out (by rw [hg]; exact (keep_size (w := w) (g := g) (row := none) (by repeat (first | (with_reducible first | exact HK.out | apply KeepBut.set_ | apply keep_drewN | apply keep_drew | apply keep_alloc) | exact HK.out))) : w.heap.size ≤ gb264) : w0.heap.size ≤ gb264)); have n6_ := Aside0.mk ((by rw [hg]; exact Nat.ne_of_lt (IsS69.lt (show IsS69 w0 _ g s0_0 s0_1 s0_2 from by repeat (first | (with_reducible first | exact HI0.out | apply IsS69.alloc | apply IsS69.drewN | apply IsS69.drew | apply IsS69.set_1 | apply IsS69.set_2) | exact HI0.out))) : g ≠ gb264)); have n7_ := Aside0.mk ((by rw [hg]; exact Nat.ne_of_gt (IsS69.lt (show IsS69 w0 _ g s0_0 s0_1 s0_2 from by repeat (first | (with_reducible first | exact HI0.out | apply IsS69.alloc | apply IsS69.drewN | apply IsS69.drew | apply IsS69.set_1 | apply IsS69.set_2) | exact HI0.out))) : gb264 ≠ g)); clear HI0; clear HK; clear HB; have HI0 := n0_; have HK := n1_; have HB := n2_; have BK264 := n3_; have GW264 := n4_; have GE264 := n5_; have NB0_264 := n6_; have NB264_0 := n7_; clear n0_ n1_ n2_ n3_ n4_ n5_ n6_ n7_; clear hb hbox hg) | ((with_reducible refine gate_callee (f := 44) rfl ?_); refine goesL_ (some 4) rfl rfl Try.func44 (by kernel_rfl) rfl #[.pointer (some ⟨g, 0, none⟩)] rfl (by (try simp only [List.map_toArray, List.map_cons, List.map_nil]); first | done | rfl | (simp only [List.length_drop, List.length_take]; rfl)) ?_; (with_reducible refine (spec_l04Mesh.calls g s0_0 s0_1 s0_2 t265 t266 t269 t270 w0 _ ?side1 ?side2 A2.out).mono ?_); (case side1 => repeat (first | (with_reducible first | exact HI0.out | apply IsS69.alloc | apply IsS69.drewN | apply IsS69.drew | apply IsS69.set_1 | apply IsS69.set_2 | refine IsS69.far ?_ NB0_264.out _) | exact HI0.out)); (case side2 => repeat (first | (with_reducible first | exact HB.out | apply below_alloc | apply pw_below_drewN | apply below_drew1 | refine below_set ?_ (IsS69.ge HI0.out) | refine below_set ?_ GE264.out) | exact HB.out)); rintro e w5 ⟨v267, rfl, ho0, hi, hb, hk⟩; refine ⟨_, rfl, ?_⟩; have n0_ := Aside0.mk (KeepBut.blk hk (g' := gb264) (o := .cells #[.int .i64 0, .slice none 0 0] 29 (0, 0)) (by (with_reducible repeat (first | refine blk_drewN ?_ _ | refine blk_drew ?_ | refine blk_alloc ?_ _)); exact BK264.out) NB264_0.out (by simp)); have n1_ := Aside0.mk (Kd.R_lower ho0 (keep_size (w := w) (g := g) (row := none) (by repeat (first | (with_reducible first | exact HK.out | apply KeepBut.set_ | apply keep_drewN | apply keep_drew | apply keep_alloc | refine keep_far ?_ GW264.out _) | exact HK.out)))); have n2_ := Aside0.mk (KeepBut.trans (by repeat (first | (with_reducible first | exact HK.out | apply KeepBut.set_ | apply keep_drewN | apply keep_drew | apply keep_alloc | refine keep_far ?_ GW264.out _) | exact HK.out)) hk (.inl rfl)); have n3_ := Aside0.mk (hb); have n4_ := Aside0.mk (hi); clear BK264; clear HK; clear HB; clear HI0; have BK264 := n0_; have HO268 := n1_; have HK := n2_; have HB := n3_; have HI0 := n4_; clear n0_ n1_ n2_ n3_ n4_; (try clear hb); (try clear hb2); (try clear hk); (try clear hi); (try clear ho0); obtain ⟨Ao6, co6, eo6⟩ := Kd.R_slice HO268.out; subst eo6) | ((with_reducible refine gate_callee (f := 35) rfl ?_); refine goesL_ (some 5) rfl rfl Try.func35 (by kernel_rfl) rfl #[.agg #[.int .i64 t265, .slice Ao6 t266.length co6]] rfl (by (try simp only [List.map_toArray, List.map_cons, List.map_nil]); first | done | rfl | (simp only [List.length_drop, List.length_take]; rfl)) ?_; (with_reducible refine (spec_Balance.calls k t265 _ _ t266 t271 t272 _ ?side1 ?side2 A3.out).mono ?_); (case side1 => repeat (first | exact (Kd.R_reads' HO268.out).2.2 | (with_reducible refine Kd.C_alloc ?_ _) | (with_reducible refine Kd.C_drewN ?_ _) | (with_reducible refine Kd.C_drew ?_))); (case side2 => exact (Kd.R_reads' HO268.out).2.1); rintro e w7 ⟨v273, rfl, ho0, hb⟩; refine ⟨_, rfl, ?_⟩; have n0_ := Aside0.mk (Kd.R_elder' (by (with_reducible repeat (first | apply Kd.R_alloc | apply Kd.R_drewN | apply Kd.R_drew)); exact HO268.out) (Kd.R_base ho0) hb); have n1_ := Aside0.mk (Kd.R_lower (Kd.R_new' ho0 (Kd.R_lt (by (with_reducible repeat (first | apply Kd.R_alloc | apply Kd.R_drewN | apply Kd.R_drew)); exact HO268.out))) (keep_size (w := w) (g := g) (row := none) (by repeat (first | (with_reducible first | exact HK.out | apply KeepBut.set_ | apply keep_drewN | apply keep_drew | apply keep_alloc | refine keep_far ?_ GW264.out _) | exact HK.out)))); have n2_ := Aside0.mk (IsS69.below (by repeat (first | (with_reducible first | exact HI0.out | apply IsS69.alloc | apply IsS69.drewN | apply IsS69.drew | apply IsS69.set_1 | apply IsS69.set_2 | refine IsS69.far ?_ NB0_264.out _) | exact HI0.out)) hb); have n3_ := Aside0.mk (blk_below (g := gb264) (o := .cells #[.int .i64 0, .slice none 0 0] 29 (0, 0)) (by (with_reducible repeat (first | refine blk_drewN ?_ _ | refine blk_drew ?_ | refine blk_alloc ?_ _)); exact BK264.out) hb); have n4_ := Aside0.mk (KeepBut.trans (by repeat (first | (with_reducible first | exact HK.out | apply KeepBut.set_ | apply keep_drewN | apply keep_drew | apply keep_alloc | refine keep_far ?_ GW264.out _) | exact HK.out)) (KeepBut.of_below hb g none) (.inl rfl)); have n5_ := Aside0.mk (below_step (by repeat (first | (with_reducible first | exact HB.out | apply below_alloc | apply pw_below_drewN | apply below_drew1 | refine below_set ?_ (IsS69.ge HI0.out) | refine below_set ?_ GE264.out) | exact HB.out)) hb); clear HO268; clear HI0; clear BK264; clear HK; clear HB; have HO268 := n0_; have HO274 := n1_; have HI0 := n2_; have BK264 := n3_; have HK := n4_; have HB := n5_; clear n0_ n1_ n2_ n3_ n4_ n5_; (try clear hb); (try clear hb2); (try clear hk); (try clear hi); (try clear ho0); have hnb8 := NB264_0.out; have hnc8 := NB0_264.out; have hcz9_0 : w7.cell? ⟨gb264, 0, none⟩ = some (.int .i64 0) := (blk_cell BK264.out 0).trans rfl; have hcz9_1 : w7.cell? ⟨gb264, 1, none⟩ = some (.slice none 0 0) := (blk_cell BK264.out 1).trans rfl; have hfz9_0 := blk_frozen BK264.out 0; have hfz9_1 := blk_frozen BK264.out 1; obtain ⟨Ao10, co10, eo10⟩ := Kd.R_slice HO274.out; subst eo10))
  refine bodyPost_ret (results_cell_row rfl _ _ gb264 29 #[.int .i64 t271, .slice Ao10 t272.length co10] (0, 0) _ rfl (by (with_reducible repeat (first | refine blk_drewN ?_ _ | refine blk_drew ?_ | refine blk_alloc ?_ _)); refine blk_put (cs := #[.int .i64 t271, .slice none 0 0]) ?_ 1 _ rfl; (with_reducible repeat (first | refine blk_drewN ?_ _ | refine blk_drew ?_ | refine blk_alloc ?_ _)); refine blk_put (cs := #[.int .i64 0, .slice none 0 0]) ?_ 0 _ rfl; (with_reducible repeat (first | refine blk_drewN ?_ _ | refine blk_drew ?_ | refine blk_alloc ?_ _)); exact BK264.out) Try.underlying29 rfl (by kernel_rfl)) rfl ?_
  exact ⟨_, by first | rfl | (simp [errW_none, errW_some] <;> rfl) | (simp [*, errW_none, errW_some] <;> rfl), by (with_reducible repeat (first | apply Kd.R_alloc | apply Kd.R_drewN | apply Kd.R_drew)); exact Kd.R_mono (Kd.R_far (p := ⟨gb264, 1, none⟩) (Kd.R_far (p := ⟨gb264, 0, none⟩) (Kd.R_types HO274.out BK264.out (by decide)) (fun _ hk => hk.2) (.int .i64 t271)) (fun _ hk => hk.2) (.slice Ao10 t272.length co10)) (fun _ hk => trivial), by repeat (first | (with_reducible first | exact HI0.out | apply IsS69.alloc | apply IsS69.drewN | apply IsS69.drew | apply IsS69.set_1 | apply IsS69.set_2 | refine IsS69.far ?_ NB0_264.out _) | exact HI0.out), by repeat (first | (with_reducible first | exact HB.out | apply below_alloc | apply pw_below_drewN | apply below_drew1 | refine below_set ?_ (IsS69.ge HI0.out) | refine below_set ?_ GE264.out) | exact HB.out), by repeat (first | (with_reducible first | exact HK.out | apply KeepBut.set_ | apply keep_drewN | apply keep_drew | apply keep_alloc | refine keep_far ?_ GW264.out _) | exact HK.out)⟩

/-! ### spec_DrawBalanced: function 23 -/
def spec_DrawBalanced.f (k : Nat) (l0 : List Int) : Option (Int × (List (S41))) := (spec_l01New.f k l0).bind fun bt276 => ((spec_l05Mesh.f k bt276.1 bt276.2.1 bt276.2.2).bind fun bt280 => (some (bt280.1, bt280.2.1)))
theorem spec_DrawBalanced.mono : ∀ a0 k, LeO (spec_DrawBalanced.f k a0) (spec_DrawBalanced.f (k + 1) a0) := by
  intro a0 k
  unfold spec_DrawBalanced.f
  repeat' first
      | (with_reducible exact spec_l01New.mono _ _)
      | (with_reducible exact spec_l05Mesh.mono _ _ _ _)
      | (with_reducible exact LeO.refl _)
      | (with_reducible exact LeO.none _)
      | (with_reducible refine LeO.ite ?_ ?_)
      | (with_reducible refine LeO.bind ?_ (fun _ => ?_))
      | exact spec_l01New.mono _ _
      | exact spec_l05Mesh.mono _ _ _ _
      | exact LeO.none _
      | refine LeO.ite ?_ ?_
      | refine LeO.bind ?_ (fun _ => ?_)
set_option maxHeartbeats 8000000 in
set_option maxRecDepth 100000 in
theorem spec_DrawBalanced.calls (k : Nat) (A0 : Option Addr) (c0 : Nat) (l0 : List Int) (r1 : Int) (r2 : List (S41)) (w : World) (hr0 : Kd.C (Kd.int .u8) w A0 l0.length l0) (hc0 : l0.length ≤ c0) (h : spec_DrawBalanced.f k l0 = some (r1, r2)) :
    Calls Try.prog 23 #[.slice A0 l0.length c0] w fun e w' => ∃ v1_ : Value, e = .returned (.agg #[.int .i64 r1, v1_]) ∧ Kd.R k41 41 w' w.heap.size (fun _ => True) v1_ r2 ∧ Below w.heap.size w w' := by
  have hu29 := Try.underlying29
  have HR0 := Aside0.mk hr0
  have HC0 := Aside0.mk hc0
  clear hr0 hc0
  have HB := Aside0.mk (Below.refl w.heap.size w)
  have H : ((spec_l01New.f k l0).bind fun bt276 => ((spec_l05Mesh.f k bt276.1 bt276.2.1 bt276.2.2).bind fun bt280 => (some (bt280.1, bt280.2.1)))) = some (r1, r2) := h
  clear h
  replace H := Option.bind_eq_some_iff.mp H
  obtain ⟨⟨t276, t277, t278⟩, A20, H⟩ := H
  replace H : ((spec_l05Mesh.f k t276 t277 t278).bind fun bt280 => (some (bt280.1, bt280.2.1))) = some (r1, r2) := H
  have A2 := Aside0.mk A20
  clear A20
  replace H := Option.bind_eq_some_iff.mp H
  obtain ⟨⟨t280, t281, t284, t285⟩, A30, H⟩ := H
  replace H : (some (t280, t281)) = some (r1, r2) := H
  have A3 := Aside0.mk A30
  clear A30
  simp only [Option.some.injEq, Prod.mk.injEq] at H
  obtain ⟨rfl, rfl⟩ := H
  go_enter Try.func23, Try.ntmps23
  go_wp2_with (first | ((with_reducible refine gate_dst (N := 2) rfl ?_); refine box_event ?hg (N := 2) ?hd (cs := #[.int .i64 0, .slice none 0 0]) (t := 29) ?hr ?_; (case hd => rfl); (case hg => rfl); (case hr => first | (go_simp; done) | (go_simp; rfl)); intro gb275 hg w4 hbox hb; have n0_ := Aside0.mk (below_step (by repeat (first | (with_reducible first | exact HB.out | apply below_alloc | apply pw_below_drewN | apply below_drew1) | exact HB.out)) hb); have n1_ := Aside0.mk (hbox); have n2_ := Aside0.mk ((by rw [hg]; exact (below_size (by repeat (first | (with_reducible first | exact HB.out | apply below_alloc | apply pw_below_drewN | apply below_drew1) | exact HB.out))) : w.heap.size ≤ gb275)); have n3_ := Aside0.mk ((by rw [hg]; exact (below_size (by repeat (first | (with_reducible first | exact HB.out | apply below_alloc | apply pw_below_drewN | apply below_drew1) | exact HB.out))) : w.heap.size ≤ gb275)); clear HB; have HB := n0_; have BK275 := n1_; have GW275 := n2_; have GE275 := n3_; clear n0_ n1_ n2_ n3_; clear hb hbox hg) | ((with_reducible refine gate_callee (f := 45) rfl ?_); refine goesL_ (some 4) rfl rfl Try.func45 (by kernel_rfl) rfl #[.slice A0 l0.length c0] rfl (by (try simp only [List.map_toArray, List.map_cons, List.map_nil]); first | done | rfl | (simp only [List.length_drop, List.length_take]; rfl)) ?_; (with_reducible refine (spec_l01New.calls k _ _ l0 t276 t277 t278 w _ ?side1 ?side2 ?side3 A2.out).mono ?_); (case side1 => repeat (first | (with_reducible first | exact HB.out | apply below_alloc | apply pw_below_drewN | apply below_drew1 | refine below_set ?_ GE275.out) | exact HB.out)); (case side2 => exact HR0.out); (case side3 => exact HC0.out); rintro e w5 ⟨g279, rfl, hi, hb, hb2⟩; refine ⟨_, rfl, ?_⟩; have n0_ := Aside0.mk (blk_below (g := gb275) (o := .cells #[.int .i64 0, .slice none 0 0] 29 (0, 0)) (by (with_reducible repeat (first | refine blk_drewN ?_ _ | refine blk_drew ?_ | refine blk_alloc ?_ _)); exact BK275.out) hb2); have n1_ := Aside0.mk (hb); have n2_ := Aside0.mk (hi); have n3_ := Aside0.mk (IsS69.ne_blk hi (blk_below (g := gb275) (o := .cells #[.int .i64 0, .slice none 0 0] 29 (0, 0)) (by (with_reducible repeat (first | refine blk_drewN ?_ _ | refine blk_drew ?_ | refine blk_alloc ?_ _)); exact BK275.out) hb2) (by decide)); have n4_ := Aside0.mk (Ne.symm (IsS69.ne_blk hi (blk_below (g := gb275) (o := .cells #[.int .i64 0, .slice none 0 0] 29 (0, 0)) (by (with_reducible repeat (first | refine blk_drewN ?_ _ | refine blk_drew ?_ | refine blk_alloc ?_ _)); exact BK275.out) hb2) (by decide))); clear BK275; clear HB; have BK275 := n0_; have HB := n1_; have HI279 := n2_; have NB279_275 := n3_; have NB275_279 := n4_; clear n0_ n1_ n2_ n3_ n4_; (try clear hb); (try clear hb2); (try clear hk); (try clear hi)) | ((with_reducible refine gate_callee (f := 51) rfl ?_); refine goesL_ (some 5) rfl rfl Try.func51 (by kernel_rfl) rfl #[.pointer (some ⟨g279, 0, none⟩)] rfl (by (try simp only [List.map_toArray, List.map_cons, List.map_nil]); first | done | rfl | (simp only [List.length_drop, List.length_take]; rfl)) ?_; (with_reducible refine (spec_l05Mesh.calls k g279 t276 t277 t278 t280 t281 t284 t285 w _ ?side1 ?side2 A3.out).mono ?_); (case side1 => repeat (first | (with_reducible first | exact HI279.out | apply IsS69.alloc | apply IsS69.drewN | apply IsS69.drew | apply IsS69.set_1 | apply IsS69.set_2 | refine IsS69.far ?_ NB279_275.out _) | exact HI279.out)); (case side2 => repeat (first | (with_reducible first | exact HB.out | apply below_alloc | apply pw_below_drewN | apply below_drew1 | refine below_set ?_ (IsS69.ge HI279.out) | refine below_set ?_ GE275.out) | exact HB.out)); rintro e w6 ⟨v282, rfl, ho0, hi, hb, hk⟩; refine ⟨_, rfl, ?_⟩; have n0_ := Aside0.mk (KeepBut.blk hk (g' := gb275) (o := .cells #[.int .i64 0, .slice none 0 0] 29 (0, 0)) (by (with_reducible repeat (first | refine blk_drewN ?_ _ | refine blk_drew ?_ | refine blk_alloc ?_ _)); exact BK275.out) NB275_279.out (by simp)); have n1_ := Aside0.mk (Kd.R_lower ho0 (below_size (by repeat (first | (with_reducible first | exact HB.out | apply below_alloc | apply pw_below_drewN | apply below_drew1 | refine below_set ?_ (IsS69.ge HI279.out) | refine below_set ?_ GE275.out) | exact HB.out)))); have n2_ := Aside0.mk (hb); have n3_ := Aside0.mk (hi); clear BK275; clear HB; clear HI279; have BK275 := n0_; have HO283 := n1_; have HB := n2_; have HI279 := n3_; clear n0_ n1_ n2_ n3_; (try clear hb); (try clear hb2); (try clear hk); (try clear hi); (try clear ho0); have hnb7 := NB275_279.out; have hnc7 := NB279_275.out; have hcz8_0 : w6.cell? ⟨gb275, 0, none⟩ = some (.int .i64 0) := (blk_cell BK275.out 0).trans rfl; have hcz8_1 : w6.cell? ⟨gb275, 1, none⟩ = some (.slice none 0 0) := (blk_cell BK275.out 1).trans rfl; have hfz8_0 := blk_frozen BK275.out 0; have hfz8_1 := blk_frozen BK275.out 1; obtain ⟨Ao9, co9, eo9⟩ := Kd.R_slice HO283.out; subst eo9))
  refine bodyPost_ret (results_cell_row rfl _ _ gb275 29 #[.int .i64 t280, .slice Ao9 t281.length co9] (0, 0) _ rfl (by (with_reducible repeat (first | refine blk_drewN ?_ _ | refine blk_drew ?_ | refine blk_alloc ?_ _)); refine blk_put (cs := #[.int .i64 t280, .slice none 0 0]) ?_ 1 _ rfl; (with_reducible repeat (first | refine blk_drewN ?_ _ | refine blk_drew ?_ | refine blk_alloc ?_ _)); refine blk_put (cs := #[.int .i64 0, .slice none 0 0]) ?_ 0 _ rfl; (with_reducible repeat (first | refine blk_drewN ?_ _ | refine blk_drew ?_ | refine blk_alloc ?_ _)); exact BK275.out) Try.underlying29 rfl (by kernel_rfl)) rfl ?_
  exact ⟨_, by first | rfl | (simp [errW_none, errW_some] <;> rfl) | (simp [*, errW_none, errW_some] <;> rfl), by (with_reducible repeat (first | apply Kd.R_alloc | apply Kd.R_drewN | apply Kd.R_drew)); exact Kd.R_mono (Kd.R_far (p := ⟨gb275, 1, none⟩) (Kd.R_far (p := ⟨gb275, 0, none⟩) (Kd.R_types HO283.out BK275.out (by decide)) (fun _ hk => hk.2) (.int .i64 t280)) (fun _ hk => hk.2) (.slice Ao9 t281.length co9)) (fun _ hk => trivial), by repeat (first | (with_reducible first | exact HB.out | apply below_alloc | apply pw_below_drewN | apply below_drew1 | refine below_set ?_ (IsS69.ge HI279.out) | refine below_set ?_ GE275.out) | exact HB.out)⟩

/-! ### impl_Id_74: function 74 (given) -/
def impl_Id_74.f (l0 : List S41) : Option (List S41) := if l0.length < 5864062014805 then some l0 else none
set_option maxHeartbeats 8000000 in
set_option maxRecDepth 100000 in
theorem impl_Id_74.calls (A0 : Option Addr) (c0 : Nat) (l0 : List S41) (r1 : List S41) (w : World) (hr0 : Kd.C k41 w A0 l0.length l0) (hc0 : l0.length ≤ c0) (h : impl_Id_74.f l0 = some r1) :
    Calls Try.prog 74 #[.slice A0 l0.length c0] w fun e w' => ∃ v_ : Value, e = .returned v_ ∧ Kd.R k41 41 w' w.heap.size (fun _ => True) v_ r1 ∧ Below w.heap.size w w' := by
  unfold impl_Id_74.f at h
  by_cases c : l0.length < 5864062014805
  · rw [if_pos c] at h
    obtain rfl := Option.some.inj h
    clear h
    cases A0 with
    | none =>
      have hz : l0.length = 0 := by
        obtain ⟨_, _, h3⟩ := hr0
        rcases Nat.eq_zero_or_pos l0.length with h | h
        · exact h
        · obtain ⟨ad, e, _⟩ := h3 h
          cases e
      obtain rfl : l0 = [] := List.length_eq_zero_iff.1 hz
      have en : ∀ w, (binOp .eql 27 (.slice none 0 c0) (.slice none 0 0)).run Try.prog w = .ok (.bool true) w := fun w => Lib.run_eql_slice_nil w 27 41 none 0 c0 0 0 Try.underlying27
      go_enter Try.func74, Try.ntmps74
      go_wp2
      go_ret
      exact ⟨_, rfl, Kd.R_nil _ _ _ _ _, by repeat (first | exact Below.refl _ _ | apply pw_below_drewN | apply below_drew1)⟩
    | some ad =>
      have HR := Aside0.mk hr0
      have HB := Aside0.mk (Below.refl w.heap.size w)
      clear hr0
      have en : ∀ w, (binOp .eql 27 (.slice (some ad) l0.length c0) (.slice none 0 0)).run Try.prog w = .ok (.bool false) w := fun w => Lib.run_eql_slice_nil w 27 41 (some ad) l0.length c0 0 0 Try.underlying27
      go_enter Try.func74, Try.ntmps74
      go_wp2_with (first
        | ((with_reducible refine gate_dst (N := 5) rfl ?_); refine Kd.R_lit k41 _ 41 ?hg (N := 5) ?hd (xs := ([] : List S41)) (inner := []) (ok := fun _ => True) (okp := fun _ => True) ?hr ?hp (fun _ hk => hk) trivial (Below.refl _ _) (Nat.le_refl _) (by simp) ?_
           (case hd => rfl)
           (case hg => rfl)
           (case hr => first | (go_simp; done) | (go_simp; rfl))
           (case hp => exact (Reps.none _ _))
           intro v1 W ho hb _ _
           have HB1 := Aside0.mk hb
           have HO1 := Aside0.mk ho
           clear ho hb)
        | ((with_reducible refine gate_builtin (b := .append) (xs := #[.tmp 5, .tmp 6]) rfl ?_); at_builtin
           refine Kd.R_append_rows k41 (w0 := w) w.heap.size rfl (.tmp 5) (.tmp 6) 27 41 (.agg #[(.int .i64 0), (.int .i64 0), (.int .i64 0)]) 24 rfl Try.underlying27 info41 rfl (by decide) (by omega) v1 [] l0 _ _ _ (fun _ => True) (fun _ => False) rfl rfl ?aO ?aR (fun _ _ h => h) (fun _ h => h.elim) ?aF ?aB ?aS ?aL ?_
           (case aR => exact Kd.C_below HR.out HB1.out)
           (case aB => exact HB1.out)
           (case aF => exact (fun _ _ => trivial))
           (case aO => exact HO1.out)
           (case aS => exact HB1.out.size)
           (case aL => simp; omega)
           intro v2 W2 ho hb _ _
           have HB2 := Aside0.mk hb
           have HO2 := Aside0.mk ho
           clear ho hb))
      go_wp2
      go_ret
      exact ⟨_, rfl, by simpa using HO2.out, HB2.out⟩
  · rw [if_neg c] at h; cases h

/-! ### impl_copyMesh: function 46 -/
def impl_copyMesh.f (a0_0 : Int) (l0_1 : List (S41)) : Option (Int × (List (S41))) := (impl_Id_74.f l0_1).bind fun t288 => (some (a0_0, t288))
set_option maxHeartbeats 8000000 in
set_option maxRecDepth 100000 in
theorem impl_copyMesh.calls (a0_0 : Int) (A0_1 : Option Addr) (c0_1 : Nat) (l0_1 : List (S41)) (r1 : Int) (r2 : List (S41)) (w : World) (hr0_1 : Kd.C k41 w A0_1 l0_1.length l0_1) (hc0_1 : l0_1.length ≤ c0_1) (h : impl_copyMesh.f a0_0 l0_1 = some (r1, r2)) :
    Calls Try.prog 46 #[.agg #[.int .i64 a0_0, .slice A0_1 l0_1.length c0_1]] w fun e w' => ∃ v1_ : Value, e = .returned (.agg #[.int .i64 r1, v1_]) ∧ Kd.R k41 41 w' w.heap.size (fun _ => True) v1_ r2 ∧ Below w.heap.size w w' := by
  have hu29 := Try.underlying29
  have HR0_1 := Aside0.mk hr0_1
  have HC0_1 := Aside0.mk hc0_1
  clear hr0_1 hc0_1
  have HB := Aside0.mk (Below.refl w.heap.size w)
  have H : ((impl_Id_74.f l0_1).bind fun t288 => (some (a0_0, t288))) = some (r1, r2) := h
  clear h
  replace H := Option.bind_eq_some_iff.mp H
  obtain ⟨t288, A20, H⟩ := H
  replace H : (some (a0_0, t288)) = some (r1, r2) := H
  have A2 := Aside0.mk A20
  clear A20
  simp only [Option.some.injEq, Prod.mk.injEq] at H
  obtain ⟨rfl, rfl⟩ := H
  go_enter Try.func46, Try.ntmps46
  try go_wp2_with (first | ((with_reducible refine gate_dst (N := 1) rfl ?_); refine box_event ?hg (N := 1) ?hd (cs := #[.int .i64 a0_0, .slice A0_1 l0_1.length c0_1]) (t := 29) ?hr ?_; (case hd => rfl); (case hg => rfl); (case hr => first | (go_simp; done) | (go_simp; rfl)); intro gb286 hg w3 hbox hb; have n0_ := Aside0.mk (below_step (by repeat (first | (with_reducible first | exact HB.out | apply below_alloc | apply pw_below_drewN | apply below_drew1) | exact HB.out)) hb); have n1_ := Aside0.mk (hbox); have n2_ := Aside0.mk ((by rw [hg]; exact (below_size (by repeat (first | (with_reducible first | exact HB.out | apply below_alloc | apply pw_below_drewN | apply below_drew1) | exact HB.out))) : w.heap.size ≤ gb286)); have n3_ := Aside0.mk ((by rw [hg]; exact (below_size (by repeat (first | (with_reducible first | exact HB.out | apply below_alloc | apply pw_below_drewN | apply below_drew1) | exact HB.out))) : w.heap.size ≤ gb286)); clear HB; have HB := n0_; have BK286 := n1_; have GW286 := n2_; have GE286 := n3_; clear n0_ n1_ n2_ n3_; clear hb hbox hg) | ((with_reducible refine gate_dst (N := 2) rfl ?_); refine box_event ?hg (N := 2) ?hd (cs := #[.int .i64 0, .slice none 0 0]) (t := 29) ?hr ?_; (case hd => rfl); (case hg => rfl); (case hr => first | (go_simp; done) | (go_simp; rfl)); intro gb287 hg w4 hbox hb; have n0_ := Aside0.mk (blk_below (g := gb286) (o := .cells #[.int .i64 a0_0, .slice A0_1 l0_1.length c0_1] 29 (0, 0)) (by (with_reducible repeat (first | refine blk_drewN ?_ _ | refine blk_drew ?_ | refine blk_alloc ?_ _)); exact BK286.out) hb); have n1_ := Aside0.mk (below_step (by repeat (first | (with_reducible first | exact HB.out | apply below_alloc | apply pw_below_drewN | apply below_drew1 | refine below_set ?_ GE286.out) | exact HB.out)) hb); have n2_ := Aside0.mk (hbox); have n3_ := Aside0.mk ((by rw [hg]; exact (below_size (by repeat (first | (with_reducible first | exact HB.out | apply below_alloc | apply pw_below_drewN | apply below_drew1 | refine below_set ?_ GE286.out) | exact HB.out))) : w.heap.size ≤ gb287)); have n4_ := Aside0.mk ((by rw [hg]; exact (below_size (by repeat (first | (with_reducible first | exact HB.out | apply below_alloc | apply pw_below_drewN | apply below_drew1 | refine below_set ?_ GE286.out) | exact HB.out))) : w.heap.size ≤ gb287)); have n5_ := Aside0.mk ((by rw [hg]; exact Nat.ne_of_lt (blk_lt (g := gb286) (o := .cells #[.int .i64 a0_0, .slice A0_1 l0_1.length c0_1] 29 (0, 0)) (by (with_reducible repeat (first | refine blk_drewN ?_ _ | refine blk_drew ?_ | refine blk_alloc ?_ _)); exact BK286.out)) : gb286 ≠ gb287)); have n6_ := Aside0.mk ((by rw [hg]; exact Nat.ne_of_gt (blk_lt (g := gb286) (o := .cells #[.int .i64 a0_0, .slice A0_1 l0_1.length c0_1] 29 (0, 0)) (by (with_reducible repeat (first | refine blk_drewN ?_ _ | refine blk_drew ?_ | refine blk_alloc ?_ _)); exact BK286.out)) : gb287 ≠ gb286)); clear BK286; clear HB; have BK286 := n0_; have HB := n1_; have BK287 := n2_; have GW287 := n3_; have GE287 := n4_; have NB286_287 := n5_; have NB287_286 := n6_; clear n0_ n1_ n2_ n3_ n4_ n5_ n6_; clear hb hbox hg))
  have n0_ := Aside0.mk (blk_drew BK286.out)
  have n1_ := Aside0.mk (blk_drew BK287.out)
  have n2_ := Aside0.mk (below_drew1 HB.out)
  clear BK286
  clear BK287
  clear HB
  have BK286 := n0_
  have BK287 := n1_
  have HB := n2_
  clear n0_ n1_ n2_
  refine start_ (n := 7) (S := fun w' => w'.cell? ⟨gb286, 0, none⟩ = some (.int .i64 a0_0) ∧ w'.cell? ⟨gb286, 1, none⟩ = some (.slice A0_1 l0_1.length c0_1)) (ds := []) #[false, false, false, false, false, false, false] (by kernel_rfl) rfl rfl ⟨(blk_cell BK286.out 0).trans rfl, (blk_cell BK286.out 1).trans rfl⟩ (fun hHeld => ?_)
  generalize w4.drew = w5 at BK286 BK287 HB hHeld ⊢
  refine pure_ (i := 0) (N := some 3) (v := ?_) (a' := ?_) #[true, false, false, false, false, false, false] rfl rfl (by kernel_rfl) (fun _ _ _ h => h) (Or.inl ⟨by rfl, ?_⟩) ?_ ?_
  rotate_left
  · intro w'
    go_simp
    with_reducible rfl
  rotate_left
  · simp only [Act.put, List.setIfInBounds_toArray, List.set_cons_zero, List.set_cons_succ, i64_w, i32_w]
    rfl
  refine pure_ (i := 2) (N := some 5) (v := ?_) (a' := ?_) #[true, false, true, false, false, false, false] rfl rfl (by kernel_rfl) (fun _ _ _ h => h) (Or.inl ⟨by rfl, ?_⟩) ?_ ?_
  rotate_left
  · intro w'
    go_simp
    with_reducible rfl
  rotate_left
  · simp only [Act.put, List.setIfInBounds_toArray, List.set_cons_zero, List.set_cons_succ, i64_w, i32_w]
    rfl
  refine take_ (i := 1) (N := some 4) (v := ?_) (a' := ?_) #[true, true, true, false, false, false, false] rfl rfl (by kernel_rfl) (fun _ _ _ h => h) (Or.inl ⟨by rfl, ?_⟩) hHeld ?_ ?_
  rotate_left
  · rintro w' ⟨s0, s1⟩
    go_simp
    with_reducible rfl
  rotate_left
  · simp only [Act.put, List.setIfInBounds_toArray, List.set_cons_zero, List.set_cons_succ, i64_w, i32_w]
    rfl
  refine take_ (i := 3) (N := some 6) (v := ?_) (a' := ?_) #[true, true, true, true, false, false, false] rfl rfl (by kernel_rfl) (fun _ _ _ h => h) (Or.inl ⟨by rfl, ?_⟩) hHeld ?_ ?_
  rotate_left
  · rintro w' ⟨s0, s1⟩
    go_simp
    with_reducible rfl
  rotate_left
  · simp only [Act.put, List.setIfInBounds_toArray, List.set_cons_zero, List.set_cons_succ, i64_w, i32_w]
    rfl
  refine one_ (i := 4) (N := some 7) #[true, true, true, true, true, false, false] rfl rfl (by kernel_rfl) (by decide) (fun K hK => ?_)
  refine goes_ Try.func74 (by kernel_rfl) rfl #[.slice A0_1 l0_1.length c0_1] (by rfl) rfl rfl (by (try simp only [List.map_toArray, List.map_cons, List.map_nil]); first | done | rfl | (simp only [List.length_drop, List.length_take]; rfl)) ?_
  with_reducible refine (impl_Id_74.calls _ _ l0_1 t288 _ ?side1 ?side2 A2.out).mono ?_
  (case side1 => repeat (first | exact (Kd.C_below HR0_1.out HB.out) | (with_reducible refine Kd.C_alloc ?_ _) | (with_reducible refine Kd.C_drewN ?_ _) | (with_reducible refine Kd.C_drew ?_)))
  (case side2 => exact HC0_1.out)
  rintro e w6 ⟨v289, rfl, ho0, hb⟩
  refine ⟨_, rfl, ?_⟩
  have n0_ := Aside0.mk (Kd.R_lower ho0 (below_size (by repeat (first | (with_reducible first | exact HB.out | apply below_alloc | apply pw_below_drewN | apply below_drew1 | refine below_set ?_ GE286.out | refine below_set ?_ GE287.out) | exact HB.out))))
  have n1_ := Aside0.mk (blk_below (g := gb286) (o := .cells #[.int .i64 a0_0, .slice A0_1 l0_1.length c0_1] 29 (0, 0)) (by (with_reducible repeat (first | refine blk_drewN ?_ _ | refine blk_drew ?_ | refine blk_alloc ?_ _)); exact BK286.out) hb)
  have n2_ := Aside0.mk (blk_below (g := gb287) (o := .cells #[.int .i64 0, .slice none 0 0] 29 (0, 0)) (by (with_reducible repeat (first | refine blk_drewN ?_ _ | refine blk_drew ?_ | refine blk_alloc ?_ _)); exact BK287.out) hb)
  have n3_ := Aside0.mk (below_step (by repeat (first | (with_reducible first | exact HB.out | apply below_alloc | apply pw_below_drewN | apply below_drew1 | refine below_set ?_ GE286.out | refine below_set ?_ GE287.out) | exact HB.out)) hb)
  clear BK286
  clear BK287
  clear HB
  have HO290 := n0_
  have BK286 := n1_
  have BK287 := n2_
  have HB := n3_
  clear n0_ n1_ n2_ n3_
  (try clear hb)
  (try clear hb2)
  (try clear hk)
  (try clear hi)
  (try clear ho0)
  obtain ⟨Ao7, co7, eo7⟩ := Kd.R_slice HO290.out
  (first | subst eo7 | (injection eo7 with f1_ f2_ f3_; have f4_ := f1_.symm; have f5_ := f3_.symm; clear f1_ f2_ f3_; subst f4_; subst f5_))
  refine hK.out _ _ ⟨(blk_cell BK286.out 0).trans rfl, (blk_cell BK286.out 1).trans rfl⟩ (fun hHeld => ?_)
  clear hK K
  refine norm_ (a' := ?_) ?_ ?_
  rotate_left
  · show Act.put _ (some 7) _ = _
    simp only [Act.put, List.setIfInBounds_toArray, List.set_cons_zero, List.set_cons_succ, i64_w, i32_w]
    rfl
  refine pure_ (i := 5) (N := some 8) (v := ?_) (a' := ?_) #[true, true, true, true, true, true, false] rfl rfl (by kernel_rfl) (fun _ _ _ h => h) (Or.inl ⟨by rfl, ?_⟩) ?_ ?_
  rotate_left
  · intro w'
    go_simp
    with_reducible rfl
  rotate_left
  · simp only [Act.put, List.setIfInBounds_toArray, List.set_cons_zero, List.set_cons_succ, i64_w, i32_w]
    rfl
  refine one_ (i := 6) (N := none) #[true, true, true, true, true, true, true] rfl rfl (by kernel_rfl) (by decide) (fun K hK => ?_)
  have hs8 : w6.cell? ⟨gb287, 0, none⟩ = some (.int .i64 0) := (blk_cell BK287.out 0).trans rfl
  have hfs8 := blk_frozen BK287.out 0
  have hns8_0 := NB286_287.out
  have hms8_0 := NB287_286.out
  have hs9 : w6.cell? ⟨gb287, 1, none⟩ = some (.slice none 0 0) := (blk_cell BK287.out 1).trans rfl
  have hfs9 := blk_frozen BK287.out 1
  have hns9_0 := NB286_287.out
  have hms9_0 := NB287_286.out
  refine skip_ (w1 := ?_) (by rfl) rfl ?_ ?_
  rotate_left
  · go_simp
    rfl
  refine hK.out _ _ ⟨((cell_far (p := ⟨gb287, _, none⟩) NB286_287.out _).trans (((cell_far (p := ⟨gb287, _, none⟩) NB286_287.out _).trans (hHeld.1)))), ((cell_far (p := ⟨gb287, _, none⟩) NB286_287.out _).trans (((cell_far (p := ⟨gb287, _, none⟩) NB286_287.out _).trans (hHeld.2))))⟩ (fun hHeld => ?_)
  clear hK K
  refine done_ (by kernel_rfl) ?_
  try go_wp2
  refine bodyPost_ret (results_cell_row rfl _ _ gb287 29 #[.int .i64 a0_0, .slice Ao7 t288.length co7] (0, 0) _ rfl (by (with_reducible repeat (first | refine blk_drewN ?_ _ | refine blk_drew ?_ | refine blk_alloc ?_ _)); refine blk_put (cs := #[.int .i64 a0_0, .slice none 0 0]) ?_ 1 _ rfl; (with_reducible repeat (first | refine blk_drewN ?_ _ | refine blk_drew ?_ | refine blk_alloc ?_ _)); refine blk_put (cs := #[.int .i64 0, .slice none 0 0]) ?_ 0 _ rfl; (with_reducible repeat (first | refine blk_drewN ?_ _ | refine blk_drew ?_ | refine blk_alloc ?_ _)); exact BK287.out) Try.underlying29 rfl (by kernel_rfl)) rfl ?_
  exact ⟨_, by first | rfl | (simp [errW_none, errW_some] <;> rfl) | (simp [*, errW_none, errW_some] <;> rfl), by (with_reducible repeat (first | apply Kd.R_alloc | apply Kd.R_drewN | apply Kd.R_drew)); exact Kd.R_mono (Kd.R_far (p := ⟨gb287, 1, none⟩) (Kd.R_far (p := ⟨gb287, 0, none⟩) (Kd.R_types HO290.out BK287.out (by decide)) (fun _ hk => hk.2) (.int .i64 a0_0)) (fun _ hk => hk.2) (.slice Ao7 t288.length co7)) (fun _ hk => trivial), by repeat (first | (with_reducible first | exact HB.out | apply below_alloc | apply pw_below_drewN | apply below_drew1 | refine below_set ?_ GE286.out | refine below_set ?_ GE287.out) | exact HB.out)⟩

-- NOT PRINTED: function 87 (impl_Id_87)

/-! ### impl_Id_91: function 91 (given) -/
def impl_Id_91.f : Unit := ()

/-! ### impl_Id_90: function 90 (given) -/
def impl_Id_90.f : Unit := ()

/-! ### impl_Id_88: function 88 (given) -/
def impl_Id_88.f : Unit := ()

-- NOT PRINTED: function 86 (impl_Id_86)

-- NOT PRINTED: function 89 (impl_Id_89)

-- NOT PRINTED: function 75 (impl_Id_75)

end Go.Proofs.Ytnkdnijnhaamiaa.PFnRefined
