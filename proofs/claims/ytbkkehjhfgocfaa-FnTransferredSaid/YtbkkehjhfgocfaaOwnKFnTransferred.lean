/- Lists told by the cells of their elements, one behind the other, and rows that are written anew, in the print's words; no condition. -/
import Derived.Test.YtbkkehjhfgocfaaOwn
import Derived.Test.YtbkkehjhfgocfaaUFnTransferred
set_option linter.unusedVariables false
namespace Go.Proofs.Ytbkkehjhfgocfaa.OwnK
open Go Go.RowKit Go.Proofs.Ytbkkehjhfgocfaa Go.Proofs.YtbkkehjhfgocfaaW.PrintWords Go.Proofs.YtbkkehjhfgocfaaW.PrintLast Go.Proofs.YtbkkehjhfgocfaaW.PrintMore

variable {α : Type}
theorem reps_flat {R : α → List Value → Prop} {size : Nat} {f : α → List Value} (hf : ∀ p c, R p c → c = f p) : ∀ (ps : List α) (cs : List Value), Reps R size ps cs → cs = ps.flatMap f
  | [], cs, h => by
    have := h.1
    simp at this
    rw [this]; rfl
  | p :: ps, cs, h => by
    have h0 := hf _ _ (h.2 0 p rfl)
    have h1 := reps_flat hf ps (cs.drop (1 * size)) (by simpa using Kd.reps_drop (m := 1) h)
    rw [Nat.zero_mul, List.drop_zero] at h0
    rw [Nat.one_mul] at h1
    rw [List.flatMap_cons, ← h0, ← h1, List.take_append_drop]
theorem flat_length {size : Nat} {f : α → List Value} (hf : ∀ p, (f p).length = size) : ∀ (ps : List α), (ps.flatMap f).length = ps.length * size
  | [] => by simp
  | p :: ps => by rw [List.flatMap_cons, List.length_append, hf, flat_length hf ps, List.length_cons, Nat.succ_mul]; omega
theorem flat_reps {R : α → List Value → Prop} {size : Nat} {f : α → List Value} (hR : ∀ p, R p (f p)) (hf : ∀ p, (f p).length = size) (ps : List α) : Reps R size ps (ps.flatMap f) := by
  refine ⟨flat_length hf ps, ?_⟩
  induction ps with
  | nil => intro j p h; simp at h
  | cons q ps ih =>
    intro j p h
    cases j with
    | zero =>
      obtain rfl : q = p := by simpa using h
      rw [Nat.zero_mul, List.drop_zero, List.flatMap_cons, ← hf q, List.take_left]
      exact hR q
    | succ j =>
      have := ih j p (by simpa using h)
      rw [List.flatMap_cons, Nat.succ_mul, Nat.add_comm (j * size) size, ← List.drop_drop]
      have e : (f q ++ ps.flatMap f).drop size = ps.flatMap f := by
        have := List.drop_left (l₁ := f q) (l₂ := ps.flatMap f)
        rwa [hf q] at this
      rw [e]
      exact this
theorem flat_take {size : Nat} {f : α → List Value} (hf : ∀ p, (f p).length = size) : ∀ (ps : List α) (i : Nat), (ps.flatMap f).take (i * size) = (ps.take i).flatMap f
  | [], i => by simp
  | p :: ps, 0 => by simp
  | p :: ps, i + 1 => by
    rw [List.take_succ_cons, List.flatMap_cons, List.flatMap_cons, ← flat_take hf ps i, Nat.succ_mul, Nat.add_comm (i * size) size]
    have := List.take_length_add_append (l₁ := f p) (l₂ := ps.flatMap f) (i := i * size)
    rwa [hf p] at this
theorem flat_drop {size : Nat} {f : α → List Value} (hf : ∀ p, (f p).length = size) : ∀ (ps : List α) (i : Nat), (ps.flatMap f).drop (i * size) = (ps.drop i).flatMap f
  | [], i => by simp
  | p :: ps, 0 => by simp
  | p :: ps, i + 1 => by
    rw [List.drop_succ_cons, List.flatMap_cons, ← flat_drop hf ps i, Nat.succ_mul, Nat.add_comm (i * size) size]
    have := List.drop_length_add_append (l₁ := f p) (l₂ := ps.flatMap f) (i := i * size)
    rwa [hf p] at this
theorem flat_one {f : α → List Value} (h : ∀ p, ∀ u ∈ f p, u.oneCell' = true) (ps : List α) : ∀ u ∈ ps.flatMap f, u.oneCell' = true := by
  intro u hu
  obtain ⟨p, _, hp⟩ := List.mem_flatMap.1 hu
  exact h p u hp
theorem own_of_Kd {d : Kd α} {f : α → List Value} {e : Nat} {w : World} {base : Nat} {ok : Nat → Prop} {v : Value} {l : List α} (hM : ∀ {w base ok} {x : α} {cs : List Value}, d.M w base ok x cs → cs = f x) (h : Kd.R d e w base ok v l) : w.ownsRow base e d.sz v l.length (l.flatMap f) := by
  obtain ⟨_, inner, ho, hr⟩ := h
  rwa [reps_flat (fun p c hp => hM hp) l inner hr] at ho
theorem Kd_of_own {d : Kd α} {f : α → List Value} {e : Nat} {w : World} {base : Nat} {v : Value} {l : List α} (hmk : ∀ w base ok (x : α), d.M w base ok x (f x)) (h : w.ownsRow base e d.sz v l.length (l.flatMap f)) : Kd.R d e w base (fun _ => True) v l :=
  ⟨fun _ _ => trivial, _, h, flat_reps (fun p => hmk _ _ _ p) (fun p => d.K_len (d.K_of_M (hmk w base (fun _ => True) p))) l⟩
theorem R_C {d : Kd α} {e : Nat} {w : World} {base : Nat} {ok : Nat → Prop} {A : Option Addr} {n c : Nat} {l : List α} (h : Kd.R d e w base ok (.slice A n c) l) : Kd.C d w A l.length l := by
  obtain ⟨A', c', he, _, hc⟩ := Kd.R_reads h
  injection he with h1
  rw [h1]; exact hc
theorem R_cap {d : Kd α} {e : Nat} {w : World} {base : Nat} {ok : Nat → Prop} {A : Option Addr} {n c : Nat} {l : List α} (h : Kd.R d e w base ok (.slice A n c) l) : l.length ≤ c := by
  obtain ⟨A', c', he, hl, _⟩ := Kd.R_reads h
  injection he with _ _ h3
  rw [h3]; exact hl
theorem R_at {k : IntKind} {e : Nat} {w : World} {base n c : Nat} {ok : Nat → Prop} {A : Option Addr} {l : List Int} (h : Kd.R (Kd.int k) e w base ok (.slice A n c) l) (hl : 0 < l.length) :
    ∃ g cur, A = some ⟨g, 0, none⟩ ∧ w.heap[g]? = some (.cells cur e (0, 0)) ∧ l.length ≤ cur.size := by
  obtain ⟨_, h2⟩ := Kd.own_of_R h
  rcases h2 with ⟨_, e1⟩ | ⟨g, cap, cur, e1, _, hg, hnc, _, hcs, _⟩
  · omega
  · injection e1 with e2
    exact ⟨g, cur, e2, hg, by omega⟩
theorem R_put {k : IntKind} {e : Nat} {w : World} {base g n cap : Nat} {ok : Nat → Prop} {l : List Int} (h : Kd.R (Kd.int k) e w base ok (.slice (some ⟨g, 0, none⟩) n cap) l) (i : Nat) (hi : i < l.length) (x : Int) :
    Kd.R (Kd.int k) e (w.setCell ⟨g, i, none⟩ (.int k x)) base ok (.slice (some ⟨g, 0, none⟩) n cap) (l.set i x) := by
  have hok := h.1
  have ho := Kd.own_of_R h
  refine Kd.R_of_own ?_ hok
  obtain ⟨h1, h2⟩ := ho
  rcases h2 with ⟨e1, _⟩ | ⟨g', cap', cur, e1, hb, hg, hnc, hcm, hcs, htake⟩
  · cases e1
  · injection e1 with e2 e3 e4
    injection e2 with e2
    injection e2 with e2
    subst e2 e3 e4
    refine ⟨by simp [encs], .inr ⟨g, cap, cur.setIfInBounds i (.int k x), by rw [List.length_set], hb, ?_, by rw [List.length_set]; exact hnc, hcm, by simpa using hcs, ?_⟩⟩
    · rw [setCell_eq_setRow w g i cur e (0, 0) _ hg]
      exact setRow_heap w g cur _ e (0, 0) hg
    · rw [List.length_set, Array.toList_setIfInBounds, List.take_set, htake]
      simp [encs, List.map_set]
theorem kept_of_grown {w w' : World} {r : Option Nat} (h : w.grownBy w' r) : Kept w w' (fun k => some k = r) := ⟨h.size, fun k hk hn => h.block k hk hn⟩
theorem below_of_grown {w0 w w' : World} {g base : Nat} (hb : Below w0.heap.size w0 w) (h : w.grownBy w' (some g)) (hbase : w0.heap.size ≤ w.heap.size) (hg : w0.heap.size ≤ g) : Below w0.heap.size w0 w' := hb.grown h hbase (fun k hk => by injection hk with hk; omega)
end Go.Proofs.Ytbkkehjhfgocfaa.OwnK
