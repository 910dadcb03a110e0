/- Written by this repo's own copy of a print: plain functions beneath a law, and the proof that the program computes them; no condition. -/
import Derived.Test.YtpjmlgcpeebkdaaDoorPFnMeshTextsx0
import Derived.Test.YtpjmlgcpeebkdaaDoorPFnMeshTextsx3
namespace Go.Proofs.YtpjmlgcpeebkdaaDoor.PFnMeshTexts
open Go.RowKit Go.Proofs.YtpjmlgcpeebkdaaDoorW.PrintWords Go.Proofs.YtpjmlgcpeebkdaaDoorW.PrintLast Go.Proofs.YtpjmlgcpeebkdaaDoorW.PrintMore
attribute [local go_sem] max2_int min2_int max_two min_two max_three min_three max_four min_four   -- for this text's walks alone
set_option linter.unusedVariables false
set_option linter.unusedSimpArgs false

/-! ### spec_l04Mesh: function 61 (given) -/
def spec_l04Root.kids (F : Int → Int → S69 → List S69 → Option (Int × Int × List S69)) (x : S69) : Nat → Int → Int → Int → List S69 → Option (Int × Int × List S69)
  | 0, _, s1, s2, out => some (s1, s2, out)
  | n + 1, s, s1, s2, out => (spec_ChildOf.f x.f0 x.f1 x.f2 s).bind fun y => (F s1 s2 ⟨y.1, y.2.1, y.2.2.1⟩ out).bind fun u => spec_l04Root.kids F x n (s + 1) u.1 u.2.1 u.2.2
def spec_l04Root.add (s1 s2 : Int) (out : List S69) (x : S69) : Option (Int × Int × List S69) := if out.length < 5864062014805 then some (s1, s2, out ++ [x]) else none
def spec_l04Root.f : Nat → List Int → Int → Int → S69 → Int → List S69 → Option (Int × Int × List S69)
  | 0, _, _, _, _, _, _ => none
  | d + 1, s0, s1, s2, x, ch, out =>
    if x.f1 = 4 then spec_l04Root.add s1 s2 out x
    else (spec_l01Once.f s0 s1 s2 ch).bind fun t => if t.1 = true then spec_l04Root.kids (fun a b y o => spec_l04Root.f d s0 a b y (wrap64 (ch + 1)) o) x 2 0 t.2.1 t.2.2 out
      else spec_l04Root.add t.2.1 t.2.2 out x
def spec_l04Root.Post (w0 : World) (base g gb : Nat) (s0 : List Int) (R : Int) (u : Value) (w w' : World) (t1 t2 : Int) (res : List S69) : Prop :=
  IsS91 w0 w' g s0 t1 t2 ∧ Below w0.heap.size w0 w' ∧ ∃ u', w'.heap[gb]? = some (.cells #[.int .i64 R, u'] 42 (0, 0)) ∧ Kd.R k69 69 w' base (fun _ => True) u' res ∧ Kept w w' (fun k => k = g ∨ k = gb ∨ some k = u.ownBlock) ∧ (u'.ownBlock = u.ownBlock ∨ ∃ b, u'.ownBlock = some b ∧ w.heap.size ≤ b)
set_option maxHeartbeats 8000000 in
set_option maxRecDepth 100000 in
theorem spec_l04Root.calls (w0 : World) (base g gb : Nat) (s0 : List Int) (R : Int) (hb0 : w0.heap.size ≤ base) (hgb : base ≤ gb) :
    ∀ (d : Nat) (x : S69) (ch s1 s2 : Int) (out : List S69) (u : Value) (t1 t2 : Int) (res : List S69) (w : World), IsS91 w0 w g s0 s1 s2 → Below w0.heap.size w0 w → base ≤ w.heap.size → w.heap[gb]? = some (.cells #[.int .i64 R, u] 42 (0, 0)) → Kd.R k69 69 w base (fun _ => True) u out → spec_l04Root.f d s0 s1 s2 x ch out = some (t1, t2, res) →
      Calls Tryd.prog 87 #[.pointer (some ⟨g, 0, none⟩), .agg #[.int .i64 x.f0, .int .i64 x.f1, .int .i64 x.f2], .int .i64 ch, .pointer (some ⟨gb, 1, none⟩)] w fun e w' => e = .returned (.tuple #[]) ∧ spec_l04Root.Post w0 base g gb s0 R u w w' t1 t2 res := by
  intro d
  induction d with
  | zero => intro x ch s1 s2 out u t1 t2 res w _ _ _ _ _ h; cases h
  | succ d ih =>
    intro x ch s1 s2 out u t1 t2 res w hI hB hbw hb hR h
    obtain ⟨xa, xb, xc⟩ := x
    show Calls Tryd.prog 87 #[.pointer (some ⟨g, 0, none⟩), .agg #[.int .i64 xa, .int .i64 xb, .int .i64 xc], .int .i64 ch, .pointer (some ⟨gb, 1, none⟩)] w fun e w' => e = .returned (.tuple #[]) ∧ spec_l04Root.Post w0 base g gb s0 R u w w' t1 t2 res
    have huI := Tryd.underlying69
    have NX := Aside0.mk (show some w.heap.size ≠ u.ownBlock from fun e => by have := Kd.R_lt hR _ e.symm; omega)
    have HI := Aside0.mk (hI.alloc (.cells #[.int .i64 xa, .int .i64 xb, .int .i64 xc] 69))
    have HB := Aside0.mk (below_alloc hB (.cells #[.int .i64 xa, .int .i64 xb, .int .i64 xc] 69))
    have BK := Aside0.mk (blk_alloc hb (.cells #[.int .i64 xa, .int .i64 xb, .int .i64 xc] 69))
    have BX := Aside0.mk (blk_new w (.cells #[.int .i64 xa, .int .i64 xb, .int .i64 xc] 69))
    have HO := Aside0.mk (Kd.R_alloc hR (.cells #[.int .i64 xa, .int .i64 xb, .int .i64 xc] 69))
    have KP := Aside0.mk ((Kept.refl w (fun k => k = g ∨ k = gb ∨ some k = u.ownBlock)).alloc (.cells #[.int .i64 xa, .int .i64 xb, .int .i64 xc] 69))
    have HS := Aside0.mk (show w.heap.size < (w.alloc (.cells #[.int .i64 xa, .int .i64 xb, .int .i64 xc] 69)).heap.size by simp)
    have hx0 : (w.alloc (.cells #[.int .i64 xa, .int .i64 xb, .int .i64 xc] 69)).cell? ⟨w.heap.size, 1, none⟩ = some (.int .i64 xb) := (blk_cell BX.out 1).trans rfl
    clear hI hB hR hb
    unfold spec_l04Root.f at h
    dsimp only at h
    by_cases c4 : xb = 4
    · rw [if_pos c4] at h
      obtain rfl : xb = 4 := c4
      unfold spec_l04Root.add at h
      by_cases cl : out.length < 5864062014805
      · rw [if_pos cl] at h
        obtain ⟨rfl, rfl, hres⟩ : s1 = t1 ∧ s2 = t2 ∧ out ++ [⟨xa, 4, xc⟩] = res := by simpa using h
        clear h
        go_enter Tryd.func87, Tryd.ntmps87
        go_wp2
        generalize w.alloc (.cells #[.int .i64 xa, .int .i64 4, .int .i64 xc] 69) = W at HI HB BK BX HO KP HS hx0 ⊢
        refine start_ (n := 9) (S := fun w' => w'.cell? ⟨gb, 1, none⟩ = some u ∧ w'.cell? ⟨w.heap.size, 0, none⟩ = some (.int .i64 xa) ∧ w'.cell? ⟨w.heap.size, 1, none⟩ = some (.int .i64 4) ∧ w'.cell? ⟨w.heap.size, 2, none⟩ = some (.int .i64 xc)) (ds := [8]) #[false, false, false, false, false, false, false, false, false] (by kernel_rfl) rfl rfl ⟨(blk_cell BK.out 1).trans rfl, (blk_cell BX.out 0).trans rfl, (blk_cell BX.out 1).trans rfl, (blk_cell BX.out 2).trans rfl⟩ (fun hHeld => ?_)
        replace HI := Aside0.mk (IsS91.drew HI.out); replace HB := Aside0.mk (below_drew1 HB.out); replace BK := Aside0.mk (blk_drew BK.out); replace BX := Aside0.mk (blk_drew BX.out); replace HO := Aside0.mk (Kd.R_drew HO.out); replace KP := Aside0.mk (Kept.drew KP.out); replace HS := Aside0.mk (show w.heap.size < W.drew.heap.size from HS.out)
        generalize W.drew = W2 at HI HB BK BX HO KP HS hHeld ⊢
        refine pure_ (i := 0) (N := some 20) (v := ?_) (a' := ?_) #[true, false, false, false, false, false, false, false, false] rfl rfl (by kernel_rfl) (fun _ _ _ h => h) (Or.inl ⟨by rfl, ?_⟩) ?_ ?_
        rotate_left
        · intro w'
          go_simp
          with_reducible rfl
        rotate_left
        · simp only [Act.put, List.setIfInBounds_toArray, List.set_cons_zero, List.set_cons_succ, i64_w, i32_w]
          rfl
        refine pure_ (i := 1) (N := some 21) (v := ?_) (a' := ?_) #[true, true, false, false, false, false, false, false, false] rfl rfl (by kernel_rfl) (fun _ _ _ h => h) (Or.inl ⟨by rfl, ?_⟩) ?_ ?_
        rotate_left
        · intro w'
          go_simp
          with_reducible rfl
        rotate_left
        · simp only [Act.put, List.setIfInBounds_toArray, List.set_cons_zero, List.set_cons_succ, i64_w, i32_w]
          rfl
        refine pure_ (i := 2) (N := some 22) (v := ?_) (a' := ?_) #[true, true, true, false, false, false, false, false, false] rfl rfl (by kernel_rfl) (fun _ _ _ h => h) (Or.inl ⟨by rfl, ?_⟩) ?_ ?_
        rotate_left
        · intro w'
          go_simp
          with_reducible rfl
        rotate_left
        · simp only [Act.put, List.setIfInBounds_toArray, List.set_cons_zero, List.set_cons_succ, i64_w, i32_w]
          rfl
        refine take_ (i := 3) (N := some 23) (v := ?_) (a' := ?_) #[true, true, true, true, false, false, false, false, false] rfl rfl (by kernel_rfl) (fun _ _ _ h => h) (Or.inl ⟨by rfl, ?_⟩) hHeld ?_ ?_
        rotate_left
        · rintro w' ⟨s0, s1, s2, s3⟩
          go_simp
          with_reducible rfl
        rotate_left
        · simp only [Act.put, List.setIfInBounds_toArray, List.set_cons_zero, List.set_cons_succ, i64_w, i32_w]
          rfl
        refine take_ (i := 4) (N := some 24) (v := ?_) (a' := ?_) #[true, true, true, true, true, false, false, false, false] rfl rfl (by kernel_rfl) (fun _ _ _ h => h) (Or.inl ⟨by rfl, ?_⟩) hHeld ?_ ?_
        rotate_left
        · rintro w' ⟨s0, s1, s2, s3⟩
          go_simp
          with_reducible rfl
        rotate_left
        · simp only [Act.put, List.setIfInBounds_toArray, List.set_cons_zero, List.set_cons_succ, i64_w, i32_w]
          rfl
        refine one_ (i := 5) (N := some 25) #[true, true, true, true, true, true, false, false, false] rfl rfl (by kernel_rfl) (by decide) (fun K hK => ?_)
        refine value_ (w1 := ?_) (v := ?_) (by rfl) rfl ?_ ?_
        rotate_left 2
        · go_simp
          constructor
          · rfl
          · rfl
        refine hK.out _ _ ⟨(blk_cell (blk_alloc BK.out _) 1).trans rfl, (blk_cell (blk_alloc BX.out _) 0).trans rfl, (blk_cell (blk_alloc BX.out _) 1).trans rfl, (blk_cell (blk_alloc BX.out _) 2).trans rfl⟩ (fun hHeld => ?_)
        clear hK K
        refine norm_ (a' := ?_) ?_ ?_
        rotate_left
        · show Act.put _ (some 25) _ = _
          simp only [Act.put, List.setIfInBounds_toArray, List.set_cons_zero, List.set_cons_succ, i64_w, i32_w]
          rfl
        refine one_ (i := 6) (N := some 26) #[true, true, true, true, true, true, true, false, false] rfl rfl (by kernel_rfl) (by decide) (fun K hK => ?_)
        refine Kd.R_append_step k69 (w0 := W2) base (by rfl) (.tmp 23) (.tmp 25) 40 69 (.agg #[(.int .i64 0), (.int .i64 0), (.int .i64 0)]) 24 rfl Tryd.underlying40 info69 rfl (by decide) (by omega) u out (⟨xa, 4, xc⟩ : S69) [.int .i64 xa, .int .i64 4, .int .i64 xc] (fun _ => True) (fun _ => False) rfl rfl ?aP (fun _ hk => hk.elim) ?aF ?aO ?aB ?aS ?aL ?_
        (case aP => exact k69_mkM _ _ _ (⟨xa, 4, xc⟩ : S69))
        (case aB => exact (Below.refl _ _))
        (case aF => exact (fun _ _ => trivial))
        (case aO => exact HO.out)
        (case aS => have := HS.out; omega)
        (case aL => omega)
        intro v1 W3 ho hb hg hat
        rw [hres] at ho
        obtain ⟨Ao, co, eo⟩ := Kd.R_slice ho; subst eo
        have hge : ∀ k, u.ownBlock = some k → base ≤ k := fun k hk => own_base (Kd.R_own HO.out).choose_spec k hk
        have hlt := Kd.R_lt HO.out
        have nx : some w.heap.size ≠ u.ownBlock := NX.out
        have BK3 := blk_grown BK.out hg (Kd.R_ne HO.out BK.out (by decide))
        have BX3 := blk_grown BX.out hg nx
        have HI3 := IsS91.grown HI.out hg (IsS91.own_ne HI.out HO.out (by decide))
        have HB3 := HB.out.trans (hb.mono hb0)
        have KP3 := Kept.of_grown hg KP.out (fun k hk => Or.inl (Or.inr (Or.inr hk.symm)))
        have HS3 : W2.heap.size ≤ W3.heap.size := hg.size
        refine hK.out _ _ ⟨(blk_cell BK3 1).trans rfl, (blk_cell BX3 0).trans rfl, (blk_cell BX3 1).trans rfl, (blk_cell BX3 2).trans rfl⟩ (fun hHeld => ?_)
        clear hK K
        refine norm_ (a' := ?_) ?_ ?_
        rotate_left
        · show Act.put _ (some 26) _ = _
          simp only [Act.put, List.setIfInBounds_toArray, List.set_cons_zero, List.set_cons_succ, i64_w, i32_w]
          rfl
        refine pure_ (i := 7) (N := some 27) (v := ?_) (a' := ?_) #[true, true, true, true, true, true, true, true, false] rfl rfl (by kernel_rfl) (fun _ _ _ h => h) (Or.inl ⟨by rfl, ?_⟩) ?_ ?_
        rotate_left
        · intro w'
          go_simp
          with_reducible rfl
        rotate_left
        · simp only [Act.put, List.setIfInBounds_toArray, List.set_cons_zero, List.set_cons_succ, i64_w, i32_w]
          rfl
        refine last_ (i := 8) (N := none) #[true, true, true, true, true, true, true, true, true] rfl rfl (by kernel_rfl) (by decide) (fun K hK => ?_)
        have hfz := blk_frozen BK3 1
        have hcz : W3.cell? ⟨gb, 1, none⟩ = some u := (blk_cell BK3 1).trans rfl
        refine skip_ (w1 := ?_) (by rfl) rfl ?_ ?_
        rotate_left
        · go_simp
          rfl
        refine hK.out _ _ ?_
        clear hK K
        refine done_ (by kernel_rfl) ?_
        go_wp2
        (try simp only [Exit.inBlock, Exit.then])
        refine bodyPost_ret (results_none rfl _ _ _) rfl ?_
        refine ⟨rfl, IsS91.far HI3 (IsS91.ne_blk HI3 BK3 (by decide)) _, HB3.setCell (by show w0.heap.size ≤ gb; omega) _, _, blk_put BK3 1 _ rfl, Kd.R_mono (Kd.R_far (p := ⟨gb, 1, none⟩) (Kd.R_types ho BK3 (by decide)) (fun _ hk => hk.2) _) (fun _ hk => trivial), KP3.setCell (Or.inl (Or.inr (Or.inl rfl))) _, ?_⟩
        rcases hat with hat | ⟨b, h1, h2⟩
        · exact Or.inl hat
        · exact Or.inr ⟨b, h1, by have := HS.out; omega⟩
      · rw [if_neg cl] at h; cases h
    · rw [if_neg c4] at h
      obtain ⟨⟨t, a1, a2⟩, hA, h⟩ := Option.bind_eq_some_iff.1 h
      have HA := Aside0.mk hA
      clear hA
      dsimp only at h
      have c4b : decide (xb = 4) = false := decide_eq_false c4
      have c4c : (xb == 4) = false := by simpa using c4
      clear c4
      cases t with
      | false =>
        rw [if_neg (by decide)] at h
        unfold spec_l04Root.add at h
        by_cases cl : out.length < 5864062014805
        · rw [if_pos cl] at h
          obtain ⟨rfl, rfl, hres⟩ : a1 = t1 ∧ a2 = t2 ∧ out ++ [⟨xa, xb, xc⟩] = res := by simpa using h
          clear h
          go_enter Tryd.func87, Tryd.ntmps87
          go_wp2_with (
            go_at_call 48; refine (spec_l01Once.calls g s0 s1 s2 ch false a1 a2 w0 _ HI.out HB.out HA.out).mono ?_
            rintro e W ⟨rfl, hi, hb, hk⟩
            have gne := (IsS91.ne_blk HI.out BK.out (by decide)).symm
            have xne := (IsS91.ne_blk HI.out BX.out (by decide)).symm
            replace BK := Aside0.mk (hk.blk BK.out gne (by simp))
            replace BX := Aside0.mk (hk.blk BX.out xne (by simp))
            replace HO := Aside0.mk (Kd.R_mono (Kd.R_keep (IsS91.apart HI.out HO.out (by decide)) hk (fun _ h => h.2)) (fun _ _ => trivial))
            replace KP := Aside0.mk (KP.out.of_keep hk (Or.inl (Or.inl rfl)))
            replace HS := Aside0.mk (Nat.lt_of_lt_of_le HS.out hk.1)
            replace HI := Aside0.mk hi
            replace HB := Aside0.mk hb
            clear hi hb hk gne xne hx0)
          go_wp2
          refine start_ (n := 9) (S := fun w' => w'.cell? ⟨gb, 1, none⟩ = some u ∧ w'.cell? ⟨w.heap.size, 0, none⟩ = some (.int .i64 xa) ∧ w'.cell? ⟨w.heap.size, 1, none⟩ = some (.int .i64 xb) ∧ w'.cell? ⟨w.heap.size, 2, none⟩ = some (.int .i64 xc)) (ds := [8]) #[false, false, false, false, false, false, false, false, false] (by kernel_rfl) rfl rfl ⟨(blk_cell BK.out 1).trans rfl, (blk_cell BX.out 0).trans rfl, (blk_cell BX.out 1).trans rfl, (blk_cell BX.out 2).trans rfl⟩ (fun hHeld => ?_)
          replace HI := Aside0.mk (IsS91.drew HI.out); replace HB := Aside0.mk (below_drew1 HB.out); replace BK := Aside0.mk (blk_drew BK.out); replace BX := Aside0.mk (blk_drew BX.out); replace HO := Aside0.mk (Kd.R_drew HO.out); replace KP := Aside0.mk (Kept.drew KP.out); replace HS := Aside0.mk (show w.heap.size < W.drew.heap.size from HS.out)
          generalize W.drew = W2 at HI HB BK BX HO KP HS hHeld ⊢
          refine pure_ (i := 0) (N := some 20) (v := ?_) (a' := ?_) #[true, false, false, false, false, false, false, false, false] rfl rfl (by kernel_rfl) (fun _ _ _ h => h) (Or.inl ⟨by rfl, ?_⟩) ?_ ?_
          rotate_left
          · intro w'
            go_simp
            with_reducible rfl
          rotate_left
          · simp only [Act.put, List.setIfInBounds_toArray, List.set_cons_zero, List.set_cons_succ, i64_w, i32_w]
            rfl
          refine pure_ (i := 1) (N := some 21) (v := ?_) (a' := ?_) #[true, true, false, false, false, false, false, false, false] rfl rfl (by kernel_rfl) (fun _ _ _ h => h) (Or.inl ⟨by rfl, ?_⟩) ?_ ?_
          rotate_left
          · intro w'
            go_simp
            with_reducible rfl
          rotate_left
          · simp only [Act.put, List.setIfInBounds_toArray, List.set_cons_zero, List.set_cons_succ, i64_w, i32_w]
            rfl
          refine pure_ (i := 2) (N := some 22) (v := ?_) (a' := ?_) #[true, true, true, false, false, false, false, false, false] rfl rfl (by kernel_rfl) (fun _ _ _ h => h) (Or.inl ⟨by rfl, ?_⟩) ?_ ?_
          rotate_left
          · intro w'
            go_simp
            with_reducible rfl
          rotate_left
          · simp only [Act.put, List.setIfInBounds_toArray, List.set_cons_zero, List.set_cons_succ, i64_w, i32_w]
            rfl
          refine take_ (i := 3) (N := some 23) (v := ?_) (a' := ?_) #[true, true, true, true, false, false, false, false, false] rfl rfl (by kernel_rfl) (fun _ _ _ h => h) (Or.inl ⟨by rfl, ?_⟩) hHeld ?_ ?_
          rotate_left
          · rintro w' ⟨s0, s1, s2, s3⟩
            go_simp
            with_reducible rfl
          rotate_left
          · simp only [Act.put, List.setIfInBounds_toArray, List.set_cons_zero, List.set_cons_succ, i64_w, i32_w]
            rfl
          refine take_ (i := 4) (N := some 24) (v := ?_) (a' := ?_) #[true, true, true, true, true, false, false, false, false] rfl rfl (by kernel_rfl) (fun _ _ _ h => h) (Or.inl ⟨by rfl, ?_⟩) hHeld ?_ ?_
          rotate_left
          · rintro w' ⟨s0, s1, s2, s3⟩
            go_simp
            with_reducible rfl
          rotate_left
          · simp only [Act.put, List.setIfInBounds_toArray, List.set_cons_zero, List.set_cons_succ, i64_w, i32_w]
            rfl
          refine one_ (i := 5) (N := some 25) #[true, true, true, true, true, true, false, false, false] rfl rfl (by kernel_rfl) (by decide) (fun K hK => ?_)
          refine value_ (w1 := ?_) (v := ?_) (by rfl) rfl ?_ ?_
          rotate_left 2
          · go_simp
            constructor
            · rfl
            · rfl
          refine hK.out _ _ ⟨(blk_cell (blk_alloc BK.out _) 1).trans rfl, (blk_cell (blk_alloc BX.out _) 0).trans rfl, (blk_cell (blk_alloc BX.out _) 1).trans rfl, (blk_cell (blk_alloc BX.out _) 2).trans rfl⟩ (fun hHeld => ?_)
          clear hK K
          refine norm_ (a' := ?_) ?_ ?_
          rotate_left
          · show Act.put _ (some 25) _ = _
            simp only [Act.put, List.setIfInBounds_toArray, List.set_cons_zero, List.set_cons_succ, i64_w, i32_w]
            rfl
          refine one_ (i := 6) (N := some 26) #[true, true, true, true, true, true, true, false, false] rfl rfl (by kernel_rfl) (by decide) (fun K hK => ?_)
          refine Kd.R_append_step k69 (w0 := W2) base (by rfl) (.tmp 23) (.tmp 25) 40 69 (.agg #[(.int .i64 0), (.int .i64 0), (.int .i64 0)]) 24 rfl Tryd.underlying40 info69 rfl (by decide) (by omega) u out (⟨xa, xb, xc⟩ : S69) [.int .i64 xa, .int .i64 xb, .int .i64 xc] (fun _ => True) (fun _ => False) rfl rfl ?aP (fun _ hk => hk.elim) ?aF ?aO ?aB ?aS ?aL ?_
          (case aP => exact k69_mkM _ _ _ (⟨xa, xb, xc⟩ : S69))
          (case aB => exact (Below.refl _ _))
          (case aF => exact (fun _ _ => trivial))
          (case aO => exact HO.out)
          (case aS => have := HS.out; omega)
          (case aL => omega)
          intro v1 W3 ho hb hg hat
          rw [hres] at ho
          obtain ⟨Ao, co, eo⟩ := Kd.R_slice ho; subst eo
          have hge : ∀ k, u.ownBlock = some k → base ≤ k := fun k hk => own_base (Kd.R_own HO.out).choose_spec k hk
          have hlt := Kd.R_lt HO.out
          have nx : some w.heap.size ≠ u.ownBlock := NX.out
          have BK3 := blk_grown BK.out hg (Kd.R_ne HO.out BK.out (by decide))
          have BX3 := blk_grown BX.out hg nx
          have HI3 := IsS91.grown HI.out hg (IsS91.own_ne HI.out HO.out (by decide))
          have HB3 := HB.out.trans (hb.mono hb0)
          have KP3 := Kept.of_grown hg KP.out (fun k hk => Or.inl (Or.inr (Or.inr hk.symm)))
          have HS3 : W2.heap.size ≤ W3.heap.size := hg.size
          refine hK.out _ _ ⟨(blk_cell BK3 1).trans rfl, (blk_cell BX3 0).trans rfl, (blk_cell BX3 1).trans rfl, (blk_cell BX3 2).trans rfl⟩ (fun hHeld => ?_)
          clear hK K
          refine norm_ (a' := ?_) ?_ ?_
          rotate_left
          · show Act.put _ (some 26) _ = _
            simp only [Act.put, List.setIfInBounds_toArray, List.set_cons_zero, List.set_cons_succ, i64_w, i32_w]
            rfl
          refine pure_ (i := 7) (N := some 27) (v := ?_) (a' := ?_) #[true, true, true, true, true, true, true, true, false] rfl rfl (by kernel_rfl) (fun _ _ _ h => h) (Or.inl ⟨by rfl, ?_⟩) ?_ ?_
          rotate_left
          · intro w'
            go_simp
            with_reducible rfl
          rotate_left
          · simp only [Act.put, List.setIfInBounds_toArray, List.set_cons_zero, List.set_cons_succ, i64_w, i32_w]
            rfl
          refine last_ (i := 8) (N := none) #[true, true, true, true, true, true, true, true, true] rfl rfl (by kernel_rfl) (by decide) (fun K hK => ?_)
          have hfz := blk_frozen BK3 1
          have hcz : W3.cell? ⟨gb, 1, none⟩ = some u := (blk_cell BK3 1).trans rfl
          refine skip_ (w1 := ?_) (by rfl) rfl ?_ ?_
          rotate_left
          · go_simp
            rfl
          refine hK.out _ _ ?_
          clear hK K
          refine done_ (by kernel_rfl) ?_
          go_wp2
          (try simp only [Exit.inBlock, Exit.then])
          refine bodyPost_ret (results_none rfl _ _ _) rfl ?_
          refine ⟨rfl, IsS91.far HI3 (IsS91.ne_blk HI3 BK3 (by decide)) _, HB3.setCell (by show w0.heap.size ≤ gb; omega) _, _, blk_put BK3 1 _ rfl, Kd.R_mono (Kd.R_far (p := ⟨gb, 1, none⟩) (Kd.R_types ho BK3 (by decide)) (fun _ hk => hk.2) _) (fun _ hk => trivial), KP3.setCell (Or.inl (Or.inr (Or.inl rfl))) _, ?_⟩
          rcases hat with hat | ⟨b, h1, h2⟩
          · exact Or.inl hat
          · exact Or.inr ⟨b, h1, by have := HS.out; omega⟩
        · rw [if_neg cl] at h; cases h
      | true =>
        rw [if_pos rfl] at h
        have HG := Aside0.mk h
        clear h
        go_enter Tryd.func87, Tryd.ntmps87
        go_wp2_with (
          go_at_call 48; refine (spec_l01Once.calls g s0 s1 s2 ch true a1 a2 w0 _ HI.out HB.out HA.out).mono ?_
          rintro e W ⟨rfl, hi, hb, hk⟩
          have gne := (IsS91.ne_blk HI.out BK.out (by decide)).symm
          have xne := (IsS91.ne_blk HI.out BX.out (by decide)).symm
          replace BK := Aside0.mk (hk.blk BK.out gne (by simp))
          replace BX := Aside0.mk (hk.blk BX.out xne (by simp))
          replace HO := Aside0.mk (Kd.R_mono (Kd.R_keep (IsS91.apart HI.out HO.out (by decide)) hk (fun _ h => h.2)) (fun _ _ => trivial))
          replace KP := Aside0.mk (KP.out.of_keep hk (Or.inl (Or.inl rfl)))
          replace HS := Aside0.mk (Nat.lt_of_lt_of_le HS.out hk.1)
          replace HI := Aside0.mk hi
          replace HB := Aside0.mk hb
          clear hi hb hk gne xne hx0)
        go_loopg [8] 2 (fun gg v8 wr => ∃ (kk : Nat) (b1 b2 : Int) (o1 : List S69) (u1 : Value), kk ≤ 2 ∧ 2 - kk ≤ gg ∧ v8 = .int .i64 kk ∧ Aside0 (IsS91 w0 wr g s0 b1 b2) ∧ Aside0 (Below w0.heap.size w0 wr) ∧ Aside0 (wr.heap[gb]? = some (.cells #[.int .i64 R, u1] 42 (0, 0))) ∧ Aside0 (Kd.R k69 69 wr base (fun _ => True) u1 o1) ∧ Aside0 (Kept w wr (fun k => k = g ∨ k = gb ∨ some k = u.ownBlock)) ∧ Aside0 (u1.ownBlock = u.ownBlock ∨ ∃ b, u1.ownBlock = some b ∧ w.heap.size < b) ∧ Aside0 (wr.heap[w.heap.size]? = some (.cells #[.int .i64 xa, .int .i64 xb, .int .i64 xc] 69 (0, 0))) ∧ Aside0 (w.heap.size < wr.heap.size) ∧ Aside0 (spec_l04Root.kids (fun a b y o => spec_l04Root.f d s0 a b y (wrap64 (ch + 1)) o) ⟨xa, xb, xc⟩ (2 - kk) kk b1 b2 o1 = some (t1, t2, res)))
        case atStart => exact ⟨0, a1, a2, out, u, by omega, by omega, rfl, HI, HB, BK, HO, KP, ⟨Or.inl rfl⟩, BX, HS, HG⟩
        case round =>
          clear HI HB BK HO KP BX HS HG
          obtain ⟨kk, b1, b2, o1, u1, hkk, hgk, rfl, HI, HB, BK, HO, KP, HU, BX, HS, HG⟩ := hrel
          have NR := Aside0.mk (show some w.heap.size ≠ u1.ownBlock from fun e => by
            rcases HU.out with hu | ⟨b, hu, hlt⟩
            · exact NX.out (e.trans hu)
            · rw [hu] at e; have := Option.some.inj e; omega)
          have hy0 : wr.cell? ⟨w.heap.size, 0, none⟩ = some (.int .i64 xa) := (blk_cell BX.out 0).trans rfl
          have hy1 : wr.cell? ⟨w.heap.size, 1, none⟩ = some (.int .i64 xb) := (blk_cell BX.out 1).trans rfl
          have hy2 : wr.cell? ⟨w.heap.size, 2, none⟩ = some (.int .i64 xc) := (blk_cell BX.out 2).trans rfl
          by_cases hlt : kk < 2
          · have hltz : (kk : Int) < 2 := by omega
            have HG2 := HG.out
            rw [show 2 - kk = (2 - (kk + 1)) + 1 by omega] at HG2
            unfold spec_l04Root.kids at HG2
            obtain ⟨⟨y0, y1, y2, yb⟩, hY, HG2⟩ := Option.bind_eq_some_iff.1 HG2
            obtain ⟨⟨v1, v2, v3⟩, hV, HG2⟩ := Option.bind_eq_some_iff.1 HG2
            have HY := Aside0.mk hY
            have HV := Aside0.mk hV
            have HN := Aside0.mk HG2
            clear hY hV HG2 HG
            go_wp2_with (first
              | (go_at_call 94; refine (spec_ChildOf.calls xa xb xc kk y0 y1 y2 yb _ HY.out).mono ?_
                 rintro e w5 ⟨rfl, hb5⟩
                 replace HI := Aside0.mk (HI.out.below hb5)
                 replace HB := Aside0.mk (below_step HB.out hb5)
                 replace BK := Aside0.mk (blk_below BK.out hb5)
                 replace BX := Aside0.mk (blk_below BX.out hb5)
                 replace HO := Aside0.mk (Kd.R_below HO.out hb5)
                 replace KP := Aside0.mk (KP.out.below hb5)
                 replace HS := Aside0.mk (Nat.lt_of_lt_of_le HS.out hb5.size)
                 clear hb5 hy0 hy1 hy2)
              | (go_at_call 87; refine (ih ⟨y0, y1, y2⟩ (wrap64 (ch + 1)) b1 b2 o1 u1 v1 v2 v3 _ ?i1 ?i2 ?i3 ?i4 ?i5 HV.out).mono ?_
                 (case i1 => exact HI.out.below (by repeat (first | exact Below.refl _ _ | refine Below.setCell ?_ (by simp) _ | refine Below.alloc ?_ (Nat.le_refl _) _)))
                 (case i2 => exact below_step HB.out (by repeat (first | exact Below.refl _ _ | refine Below.setCell ?_ (by simp) _ | refine Below.alloc ?_ (Nat.le_refl _) _)))
                 (case i3 => exact Nat.le_trans hbw (Nat.le_trans (Nat.le_of_lt HS.out) (Below.size (B := w5.heap.size) (w := w5) (by repeat (first | exact Below.refl _ _ | refine Below.setCell ?_ (by simp) _ | refine Below.alloc ?_ (Nat.le_refl _) _)))))
                 (case i4 => exact blk_below BK.out (by repeat (first | exact Below.refl _ _ | refine Below.setCell ?_ (by simp) _ | refine Below.alloc ?_ (Nat.le_refl _) _)))
                 (case i5 => exact Kd.R_below HO.out (by repeat (first | exact Below.refl _ _ | refine Below.setCell ?_ (by simp) _ | refine Below.alloc ?_ (Nat.le_refl _) _)))
                 rintro e w6 ⟨rfl, q1, q2, u2, q3, q4, q5, q6⟩
                 have gne := (IsS91.ne_blk HI.out BX.out (by decide)).symm
                 have bne := blk_ne BX.out BK.out (by decide)
                 have BX6 := blk_kept (blk_below BX.out (by repeat (first | exact Below.refl _ _ | refine Below.setCell ?_ (by simp) _ | refine Below.alloc ?_ (Nat.le_refl _) _))) q5 (by rintro (h | h | h); exact gne h; exact bne h; exact NR.out h)
                 have KP6 := (KP.out.below (W2 := _) (by repeat (first | exact Below.refl _ _ | refine Below.setCell ?_ (by simp) _ | refine Below.alloc ?_ (Nat.le_refl _) _))).then_ q5 (fun k hk => by
                   rcases hk with h | h | h
                   · exact Or.inl (Or.inl h)
                   · exact Or.inl (Or.inr (Or.inl h))
                   · rcases HU.out with hu | ⟨b, hu, hl⟩
                     · exact Or.inl (Or.inr (Or.inr (h.trans hu)))
                     · rw [hu] at h; have := Option.some.inj h; exact Or.inr (by omega))
                 have HS6 : w.heap.size < w6.heap.size := Nat.lt_of_lt_of_le HS.out (Nat.le_trans (Below.size (B := w5.heap.size) (w := w5) (by repeat (first | exact Below.refl _ _ | refine Below.setCell ?_ (by simp) _ | refine Below.alloc ?_ (Nat.le_refl _) _))) q5.1)
                 have HU6 : u2.ownBlock = u.ownBlock ∨ ∃ b, u2.ownBlock = some b ∧ w.heap.size < b := by
                   rcases q6 with hq | ⟨b, hq, hl⟩
                   · rw [hq]; exact HU.out
                   · exact Or.inr ⟨b, hq, Nat.lt_of_lt_of_le HS.out (Nat.le_trans (Below.size (B := w5.heap.size) (w := w5) (by repeat (first | exact Below.refl _ _ | refine Below.setCell ?_ (by simp) _ | refine Below.alloc ?_ (Nat.le_refl _) _))) hl)⟩))
            go_roundg (2 - (kk + 1))
            rotate_left
            · omega
            · exact ⟨kk + 1, v1, v2, v3, u2, by omega, by omega, by simp, ⟨q1⟩, ⟨q2⟩, ⟨q3⟩, ⟨q4⟩, ⟨KP6⟩, ⟨HU6⟩, ⟨BX6⟩, ⟨HS6⟩, ⟨HN.out⟩⟩
          · have hk2 : kk = 2 := by omega
            have HG2 := HG.out
            rw [hk2] at HG2
            obtain ⟨rfl, rfl, rfl⟩ : b1 = t1 ∧ b2 = t2 ∧ o1 = res := by simpa [spec_l04Root.kids] using HG2
            have hltz : ¬ (kk : Int) < 2 := by omega
            go_wp2
            go_end0
            refine ⟨rfl, HI.out, HB.out, u1, BK.out, HO.out, KP.out, ?_⟩
            rcases HU.out with hu | ⟨b, hu, hl⟩
            · exact Or.inl hu
            · exact Or.inr ⟨b, hu, by omega⟩
def spec_l04Mesh.go : Nat → List Int → Int → Int → Int → List S69 → Option (Int × Int × List S69)
  | 0, _, s1, s2, _, out => some (s1, s2, out)
  | n + 1, s0, s1, s2, r, out => (spec_l01Below.f s0 s1 s2 2).bind fun t => (spec_l04Root.f 6 s0 t.2.1 t.2.2 ⟨r, 0, 0⟩ (wrap64 (1 + t.1)) out).bind fun u => spec_l04Mesh.go n s0 u.1 u.2.1 (r + 1) u.2.2
def spec_l04Mesh.f (s0_0 : List Int) (s0_1 : Int) (s0_2 : Int) : Option (Int × (List S69) × Int × Int) := (spec_l01Below.f s0_0 s0_1 s0_2 3).bind fun t => (spec_l04Mesh.go (wrap64 (1 + t.1)).toNat s0_0 t.2.1 t.2.2 0 []).bind fun u => some (wrap64 (1 + t.1), u.2.2, u.1, u.2.1)
set_option maxHeartbeats 8000000 in
set_option maxRecDepth 100000 in
theorem spec_l04Mesh.calls (g : Nat) (s0_0 : List Int) (s0_1 : Int) (s0_2 : Int) (r1 : Int) (r2 : List (S69)) (r3 : Int) (r4 : Int) (w0 w : World) (hI : IsS91 w0 w g s0_0 s0_1 s0_2) (hB : Below w0.heap.size w0 w) (h : spec_l04Mesh.f s0_0 s0_1 s0_2 = some (r1, r2, r3, r4)) :
    Calls Tryd.prog 61 #[.pointer (some ⟨g, 0, none⟩)] w fun e w' => ∃ v_, e = .returned (.agg #[.int .i64 r1, v_]) ∧ Kd.R k69 69 w' w.heap.size (fun _ => True) v_ r2 ∧ IsS91 w0 w' g s0_0 r3 r4 ∧ Below w0.heap.size w0 w' ∧ KeepBut w w' g none := by
  have huM := Tryd.underlying42
  obtain ⟨⟨t, a1, a2⟩, hA, h⟩ := Option.bind_eq_some_iff.1 h
  obtain ⟨⟨b1, b2, bo⟩, hG, h⟩ := Option.bind_eq_some_iff.1 h
  dsimp only at h hG
  obtain ⟨hR, rfl, rfl, rfl⟩ : wrap64 (1 + t) = r1 ∧ bo = r2 ∧ b1 = r3 ∧ b2 = r4 := by simpa using h
  rw [hR] at hG
  have HM := Aside0.mk (show r1 ≤ 9223372036854775807 by rw [← hR]; unfold wrap64; omega)
  have HI := Aside0.mk hI
  have HB := Aside0.mk hB
  have HL := Aside0.mk hB.size
  have HA := Aside0.mk hA
  have HG := Aside0.mk hG
  clear hI hB hA hG h
  go_enter Tryd.func61, Tryd.ntmps61
  have BRi := blk_new w (.cells #[.int .i64 0, .slice none 0 0] 42)
  go_wp2_with (
    go_at_call 50; refine (spec_l01Below.calls g s0_0 s0_1 s0_2 3 t a1 a2 w0 _ (HI.out.alloc _) (below_alloc HB.out _) HA.out).mono ?_
    rintro e W ⟨rfl, hi, hb, hk⟩
    have rne := (IsS91.ne_blk (HI.out.alloc _) BRi (by decide)).symm
    have BR := Aside0.mk (hk.blk BRi rne (by simp))
    have KB := Aside0.mk (KeepBut.trans (keep_alloc (KeepBut.refl w g none) _) hk (.inl rfl))
    have HS := Aside0.mk (show w.heap.size < W.heap.size from Nat.lt_of_lt_of_le (by simp) hk.1)
    replace HI := Aside0.mk hi
    replace HB := Aside0.mk hb
    clear hi hb hk BRi)
  rw [hR]
  clear hR
  have hr0 : ((0 : Nat) : Int) = 0 := rfl
  go_loopg [4] r1.toNat (fun gg v4 wr => ∃ (kk : Nat) (c1 c2 : Int) (o1 : List S69) (u1 : Value), kk ≤ r1.toNat ∧ r1.toNat - kk ≤ gg ∧ v4 = .int .i64 kk ∧ Aside0 (IsS91 w0 wr g s0_0 c1 c2) ∧ Aside0 (Below w0.heap.size w0 wr) ∧ Aside0 (wr.heap[W.heap.size]? = some (.cells #[.int .i64 r1, u1] 42 (0, 0))) ∧ Aside0 (Kd.R k69 69 wr w.heap.size (fun _ => True) u1 o1) ∧ Aside0 (KeepBut w wr g none) ∧ Aside0 (wr.heap[w.heap.size]? = some (.cells #[.int .i64 0, .slice none 0 0] 42 (0, 0))) ∧ Aside0 (W.heap.size < wr.heap.size) ∧ Aside0 (spec_l04Mesh.go (r1.toNat - kk) s0_0 c1 c2 kk o1 = some (b1, b2, bo)))
  case atStart => exact ⟨0, a1, a2, [], .slice none 0 0, by omega, by omega, rfl, ⟨HI.out.alloc _⟩, ⟨below_alloc HB.out _⟩, ⟨blk_new W _⟩, ⟨Kd.R_nil _ _ _ _ _⟩, ⟨keep_alloc KB.out _⟩, ⟨blk_alloc BR.out _⟩, ⟨by simp⟩, HG⟩
  case round =>
    clear HI HB BR KB HG
    obtain ⟨kk, c1, c2, o1, u1, hkk, hgk, rfl, HI, HB, BK, HO, KB, BR, HW, HG⟩ := hrel
    have hc0 : wr.cell? ⟨W.heap.size, 0, none⟩ = some (.int .i64 r1) := (blk_cell BK.out 0).trans rfl
    have hc1 : wr.cell? ⟨W.heap.size, 1, none⟩ = some u1 := (blk_cell BK.out 1).trans rfl
    by_cases hlt : kk < r1.toNat
    · have hltz : (kk : Int) < r1 := by omega
      have hwk : wrap64 ((kk : Int) + 1) = (kk : Int) + 1 := by
        have := HM.out
        unfold wrap64
        omega
      have HG2 := HG.out
      rw [show r1.toNat - kk = (r1.toNat - (kk + 1)) + 1 by omega] at HG2
      unfold spec_l04Mesh.go at HG2
      obtain ⟨⟨y0, y1, y2⟩, hY, HG2⟩ := Option.bind_eq_some_iff.1 HG2
      obtain ⟨⟨v1, v2, v3⟩, hV, HG2⟩ := Option.bind_eq_some_iff.1 HG2
      have HY := Aside0.mk hY
      have HV := Aside0.mk hV
      have HN := Aside0.mk HG2
      clear hY hV HG2 HG
      go_wp2_with (first
        | (go_at_call 50; refine (spec_l01Below.calls g s0_0 c1 c2 2 y0 y1 y2 w0 _ HI.out HB.out HY.out).mono ?_
           rintro e w5 ⟨rfl, hi, hb, hk⟩
           have bne := (IsS91.ne_blk HI.out BK.out (by decide)).symm
           have rne := (IsS91.ne_blk HI.out BR.out (by decide)).symm
           replace BK := Aside0.mk (hk.blk BK.out bne (by simp))
           replace BR := Aside0.mk (hk.blk BR.out rne (by simp))
           replace HO := Aside0.mk (Kd.R_mono (Kd.R_keep (IsS91.apart HI.out HO.out (by decide)) hk (fun _ h => h.2)) (fun _ _ => trivial))
           replace KB := Aside0.mk (KeepBut.trans KB.out hk (.inl rfl))
           replace HW := Aside0.mk (Nat.lt_of_lt_of_le HW.out hk.1)
           replace HI := Aside0.mk hi
           replace HB := Aside0.mk hb
           clear hi hb hk bne rne hc0 hc1)
        | (go_at_call 87; refine (spec_l04Root.calls w0 w.heap.size g W.heap.size s0_0 r1 ?j1 ?j2 6 ⟨kk, 0, 0⟩ (wrap64 (1 + y0)) y1 y2 o1 u1 v1 v2 v3 _ HI.out HB.out ?j3 BK.out HO.out HV.out).mono ?_
           (case j1 => exact HL.out)
           (case j2 => have := HS.out; omega)
           (case j3 => have := HS.out; have := HW.out; omega)
           rintro e w6 ⟨rfl, q1, q2, u2, q3, q4, q5, q6⟩
           have rne := (IsS91.ne_blk HI.out BR.out (by decide)).symm
           have BR6 := blk_kept BR.out q5 (by rintro (h | h | h); exact rne h; (have := HS.out; omega); exact Kd.R_ne HO.out BR.out (by decide) h)
           have KB6 := Kept.keepG KB.out q5 (fun k hk => by
             rcases hk with h | h | h
             · exact Or.inl h
             · exact Or.inr (by have := HS.out; omega)
             · exact Or.inr (own_base (Kd.R_own HO.out).choose_spec k h.symm))
           have HW6 : W.heap.size < w6.heap.size := Nat.lt_of_lt_of_le HW.out q5.1))
      rw [hwk]
      go_roundg (r1.toNat - (kk + 1))
      rotate_left
      · omega
      · exact ⟨kk + 1, v1, v2, v3, u2, by omega, by omega, by simp, ⟨q1⟩, ⟨q2⟩, ⟨q3⟩, ⟨q4⟩, ⟨KB6⟩, ⟨BR6⟩, ⟨HW6⟩, ⟨HN.out⟩⟩
    · have hltz : ¬ (kk : Int) < r1 := by omega
      have HG2 := HG.out
      rw [show r1.toNat - kk = 0 by omega] at HG2
      obtain ⟨rfl, rfl, rfl⟩ : c1 = b1 ∧ c2 = b2 ∧ o1 = bo := by simpa [spec_l04Mesh.go] using HG2
      obtain ⟨Ao, co, eo⟩ := Kd.R_slice HO.out
      subst eo
      have hd0 : wr.cell? ⟨w.heap.size, 0, none⟩ = some (.int .i64 0) := (blk_cell BR.out 0).trans rfl
      have hd1 : wr.cell? ⟨w.heap.size, 1, none⟩ = some (.slice none 0 0) := (blk_cell BR.out 1).trans rfl
      have hf0 := blk_frozen BR.out 0
      have hf1 := blk_frozen BR.out 1
      have hnb : w.heap.size ≠ W.heap.size := by have := HS.out; omega
      go_wp2
      refine bodyPost_ret (results_cell_row rfl _ _ w.heap.size 42 #[.int .i64 r1, .slice Ao o1.length co] (0, 0) _ rfl (by refine blk_put (cs := #[.int .i64 r1, .slice none 0 0]) ?_ 1 _ rfl; refine blk_put (cs := #[.int .i64 0, .slice none 0 0]) ?_ 0 _ rfl; exact BR.out) Tryd.underlying42 rfl (by kernel_rfl)) rfl ?_
      refine ⟨_, rfl, ?_, ?_, ?_, ?_⟩
      · exact Kd.R_mono (Kd.R_far (p := ⟨w.heap.size, 1, none⟩) (Kd.R_far (p := ⟨w.heap.size, 0, none⟩) (Kd.R_types HO.out BR.out (by decide)) (fun _ hk => hk.2) _) (fun _ hk => hk.2) _) (fun _ hk => trivial)
      · exact IsS91.far (IsS91.far HI.out (IsS91.ne_blk HI.out BR.out (by decide)) _) (IsS91.ne_blk HI.out BR.out (by decide)) _
      · exact (HB.out.setCell (by have := HL.out; exact this) _).setCell (by have := HL.out; exact this) _
      · exact keep_far (p := ⟨w.heap.size, 1, none⟩) (keep_far (p := ⟨w.heap.size, 0, none⟩) KB.out (Nat.le_refl _) _) (Nat.le_refl _) _

/-! ### spec_DrawMesh: function 28 -/
def spec_DrawMesh.f (k : Nat) (l0 : List Int) : Option (Int × (List (S69))) := (spec_l01New.f k l0).bind fun bt151 => ((spec_l04Mesh.f bt151.1 bt151.2.1 bt151.2.2).bind fun bt155 => (some (bt155.1, bt155.2.1)))
theorem spec_DrawMesh.mono : ∀ a0 k, LeO (spec_DrawMesh.f k a0) (spec_DrawMesh.f (k + 1) a0) := by
  intro a0 k
  unfold spec_DrawMesh.f
  repeat' first
      | (with_reducible exact spec_l01New.mono _ _)
      | (with_reducible exact LeO.refl _)
      | (with_reducible exact LeO.none _)
      | (with_reducible refine LeO.ite ?_ ?_)
      | (with_reducible refine LeO.bind ?_ (fun _ => ?_))
      | exact spec_l01New.mono _ _
      | exact LeO.none _
      | refine LeO.ite ?_ ?_
      | refine LeO.bind ?_ (fun _ => ?_)
set_option maxHeartbeats 8000000 in
set_option maxRecDepth 100000 in
theorem spec_DrawMesh.calls (k : Nat) (A0 : Option Addr) (c0 : Nat) (l0 : List Int) (r1 : Int) (r2 : List (S69)) (w : World) (hr0 : Kd.C (Kd.int .u8) w A0 l0.length l0) (hc0 : l0.length ≤ c0) (h : spec_DrawMesh.f k l0 = some (r1, r2)) :
    Calls Tryd.prog 28 #[.slice A0 l0.length c0] w fun e w' => ∃ v1_ : Value, e = .returned (.agg #[.int .i64 r1, v1_]) ∧ Kd.R k69 69 w' w.heap.size (fun _ => True) v1_ r2 ∧ Below w.heap.size w w' := by
  have hu42 := Tryd.underlying42
  have HR0 := Aside0.mk hr0
  have HC0 := Aside0.mk hc0
  clear hr0 hc0
  have HB := Aside0.mk (Below.refl w.heap.size w)
  have H : ((spec_l01New.f k l0).bind fun bt151 => ((spec_l04Mesh.f bt151.1 bt151.2.1 bt151.2.2).bind fun bt155 => (some (bt155.1, bt155.2.1)))) = some (r1, r2) := h
  clear h
  replace H := Option.bind_eq_some_iff.mp H
  obtain ⟨⟨t151, t152, t153⟩, A20, H⟩ := H
  replace H : ((spec_l04Mesh.f t151 t152 t153).bind fun bt155 => (some (bt155.1, bt155.2.1))) = some (r1, r2) := H
  have A2 := Aside0.mk A20
  clear A20
  replace H := Option.bind_eq_some_iff.mp H
  obtain ⟨⟨t155, t156, t159, t160⟩, A30, H⟩ := H
  replace H : (some (t155, t156)) = some (r1, r2) := H
  have A3 := Aside0.mk A30
  clear A30
  simp only [Option.some.injEq, Prod.mk.injEq] at H
  obtain ⟨rfl, rfl⟩ := H
  go_enter Tryd.func28, Tryd.ntmps28
  go_wp2_with (first | ((with_reducible refine gate_dst (N := 2) rfl ?_); refine box_event ?hg (N := 2) ?hd (cs := #[.int .i64 0, .slice none 0 0]) (t := 42) ?hr ?_; (case hd => rfl); (case hg => rfl); (case hr => first | (go_simp; done) | (go_simp; rfl)); intro gb150 hg w4 hbox hb; have n0_ := Aside0.mk (below_step (by repeat (first | (with_reducible first | exact HB.out | apply below_alloc | apply pw_below_drewN | apply below_drew1) | exact HB.out)) hb); have n1_ := Aside0.mk (hbox); have n2_ := Aside0.mk ((by rw [hg]; exact (below_size (by repeat (first | (with_reducible first | exact HB.out | apply below_alloc | apply pw_below_drewN | apply below_drew1) | exact HB.out))) : w.heap.size ≤ gb150)); have n3_ := Aside0.mk ((by rw [hg]; exact (below_size (by repeat (first | (with_reducible first | exact HB.out | apply below_alloc | apply pw_below_drewN | apply below_drew1) | exact HB.out))) : w.heap.size ≤ gb150)); clear HB; have HB := n0_; have BK150 := n1_; have GW150 := n2_; have GE150 := n3_; clear n0_ n1_ n2_ n3_; clear hb hbox hg) | ((with_reducible refine gate_callee (f := 47) rfl ?_); refine goesL_ (some 4) rfl rfl Tryd.func47 (by kernel_rfl) rfl #[.slice A0 l0.length c0] rfl (by (try simp only [List.map_toArray, List.map_cons, List.map_nil]); first | done | rfl | (simp only [List.length_drop, List.length_take]; rfl)) ?_; (with_reducible refine (spec_l01New.calls k _ _ l0 t151 t152 t153 w _ ?side1 ?side2 ?side3 A2.out).mono ?_); (case side1 => repeat (first | (with_reducible first | exact HB.out | apply below_alloc | apply pw_below_drewN | apply below_drew1 | refine below_set ?_ GE150.out) | exact HB.out)); (case side2 => exact HR0.out); (case side3 => exact HC0.out); rintro e w5 ⟨g154, rfl, hi, hb, hb2⟩; refine ⟨_, rfl, ?_⟩; have n0_ := Aside0.mk (blk_below (g := gb150) (o := .cells #[.int .i64 0, .slice none 0 0] 42 (0, 0)) (by (with_reducible repeat (first | refine blk_drewN ?_ _ | refine blk_drew ?_ | refine blk_alloc ?_ _)); exact BK150.out) hb2); have n1_ := Aside0.mk (hb); have n2_ := Aside0.mk (hi); have n3_ := Aside0.mk (IsS91.ne_blk hi (blk_below (g := gb150) (o := .cells #[.int .i64 0, .slice none 0 0] 42 (0, 0)) (by (with_reducible repeat (first | refine blk_drewN ?_ _ | refine blk_drew ?_ | refine blk_alloc ?_ _)); exact BK150.out) hb2) (by decide)); have n4_ := Aside0.mk (Ne.symm (IsS91.ne_blk hi (blk_below (g := gb150) (o := .cells #[.int .i64 0, .slice none 0 0] 42 (0, 0)) (by (with_reducible repeat (first | refine blk_drewN ?_ _ | refine blk_drew ?_ | refine blk_alloc ?_ _)); exact BK150.out) hb2) (by decide))); clear BK150; clear HB; have BK150 := n0_; have HB := n1_; have HI154 := n2_; have NB154_150 := n3_; have NB150_154 := n4_; clear n0_ n1_ n2_ n3_ n4_; (try clear hb); (try clear hb2); (try clear hk); (try clear hi)) | ((with_reducible refine gate_callee (f := 61) rfl ?_); refine goesL_ (some 5) rfl rfl Tryd.func61 (by kernel_rfl) rfl #[.pointer (some ⟨g154, 0, none⟩)] rfl (by (try simp only [List.map_toArray, List.map_cons, List.map_nil]); first | done | rfl | (simp only [List.length_drop, List.length_take]; rfl)) ?_; (with_reducible refine (spec_l04Mesh.calls g154 t151 t152 t153 t155 t156 t159 t160 w _ ?side1 ?side2 A3.out).mono ?_); (case side1 => repeat (first | (with_reducible first | exact HI154.out | apply IsS91.alloc | apply IsS91.drewN | apply IsS91.drew | apply IsS91.set_1 | apply IsS91.set_2 | refine IsS91.far ?_ NB154_150.out _) | exact HI154.out)); (case side2 => repeat (first | (with_reducible first | exact HB.out | apply below_alloc | apply pw_below_drewN | apply below_drew1 | refine below_set ?_ (IsS91.ge HI154.out) | refine below_set ?_ GE150.out) | exact HB.out)); rintro e w6 ⟨v157, rfl, ho0, hi, hb, hk⟩; refine ⟨_, rfl, ?_⟩; have n0_ := Aside0.mk (KeepBut.blk hk (g' := gb150) (o := .cells #[.int .i64 0, .slice none 0 0] 42 (0, 0)) (by (with_reducible repeat (first | refine blk_drewN ?_ _ | refine blk_drew ?_ | refine blk_alloc ?_ _)); exact BK150.out) NB150_154.out (by simp)); have n1_ := Aside0.mk (Kd.R_lower ho0 (below_size (by repeat (first | (with_reducible first | exact HB.out | apply below_alloc | apply pw_below_drewN | apply below_drew1 | refine below_set ?_ (IsS91.ge HI154.out) | refine below_set ?_ GE150.out) | exact HB.out)))); have n2_ := Aside0.mk (hb); have n3_ := Aside0.mk (hi); clear BK150; clear HB; clear HI154; have BK150 := n0_; have HO158 := n1_; have HB := n2_; have HI154 := n3_; clear n0_ n1_ n2_ n3_; (try clear hb); (try clear hb2); (try clear hk); (try clear hi); (try clear ho0); have hnb7 := NB150_154.out; have hnc7 := NB154_150.out; have hcz8_0 : w6.cell? ⟨gb150, 0, none⟩ = some (.int .i64 0) := (blk_cell BK150.out 0).trans rfl; have hcz8_1 : w6.cell? ⟨gb150, 1, none⟩ = some (.slice none 0 0) := (blk_cell BK150.out 1).trans rfl; have hfz8_0 := blk_frozen BK150.out 0; have hfz8_1 := blk_frozen BK150.out 1; obtain ⟨Ao9, co9, eo9⟩ := Kd.R_slice HO158.out; subst eo9))
  refine bodyPost_ret (results_cell_row rfl _ _ gb150 42 #[.int .i64 t155, .slice Ao9 t156.length co9] (0, 0) _ rfl (by (with_reducible repeat (first | refine blk_drewN ?_ _ | refine blk_drew ?_ | refine blk_alloc ?_ _)); refine blk_put (cs := #[.int .i64 t155, .slice none 0 0]) ?_ 1 _ rfl; (with_reducible repeat (first | refine blk_drewN ?_ _ | refine blk_drew ?_ | refine blk_alloc ?_ _)); refine blk_put (cs := #[.int .i64 0, .slice none 0 0]) ?_ 0 _ rfl; (with_reducible repeat (first | refine blk_drewN ?_ _ | refine blk_drew ?_ | refine blk_alloc ?_ _)); exact BK150.out) Tryd.underlying42 rfl (by kernel_rfl)) rfl ?_
  exact ⟨_, by first | rfl | (simp [errW_none, errW_some] <;> rfl) | (simp [*, errW_none, errW_some] <;> rfl), by (with_reducible repeat (first | apply Kd.R_alloc | apply Kd.R_drewN | apply Kd.R_drew)); exact Kd.R_mono (Kd.R_far (p := ⟨gb150, 1, none⟩) (Kd.R_far (p := ⟨gb150, 0, none⟩) (Kd.R_types HO158.out BK150.out (by decide)) (fun _ hk => hk.2) (.int .i64 t155)) (fun _ hk => hk.2) (.slice Ao9 t156.length co9)) (fun _ hk => trivial), by repeat (first | (with_reducible first | exact HB.out | apply below_alloc | apply pw_below_drewN | apply below_drew1 | refine below_set ?_ (IsS91.ge HI154.out) | refine below_set ?_ GE150.out) | exact HB.out)⟩

end Go.Proofs.YtpjmlgcpeebkdaaDoor.PFnMeshTexts
