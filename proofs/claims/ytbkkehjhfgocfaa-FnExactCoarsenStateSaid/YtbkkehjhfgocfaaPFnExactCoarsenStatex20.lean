/- Functions of the reference and of the program over states, walked by hand; no condition. -/
import Derived.Test.YtbkkehjhfgocfaaPFnExactCoarsenStatex7
import Derived.Test.YtbkkehjhfgocfaaPFnExactCoarsenStatex16
import Derived.Test.YtbkkehjhfgocfaaPFnExactCoarsenStatex17
import Derived.Test.YtbkkehjhfgocfaaPFnExactCoarsenStatex18
import Derived.Test.YtbkkehjhfgocfaaPFnExactCoarsenStatex19
namespace Go.Proofs.Ytbkkehjhfgocfaa.PFnExactCoarsenState
open Go.RowKit Go.Proofs.YtbkkehjhfgocfaaW.PrintWords Go.Proofs.YtbkkehjhfgocfaaW.PrintLast Go.Proofs.YtbkkehjhfgocfaaW.PrintMore
set_option linter.unusedVariables false
set_option linter.unusedSimpArgs false
/-- A state of the call's own in blocks from lo on and below hi; its rows of numbers are three. -/
structure Ow (lo hi : Nat) (w : World) (u1 : Value) (l : List S36) (u2 : Value) (m : List Int) (u3 : Value) (t : List Int) (u4 : Value) (b : List Int) : Prop where
  r1 : Kd.R k36 36 w lo (fun k => k < hi) u1 l
  r2 : Kd.R (Kd.int .i64) 3 w lo (fun k => k < hi ∧ Ap u3 u4 k) u2 m
  r3 : Kd.R (Kd.int .i64) 3 w lo (fun k => k < hi ∧ Ap u2 u4 k) u3 t
  r4 : Kd.R (Kd.int .i64) 3 w lo (fun k => k < hi ∧ Ap u2 u3 k) u4 b
  top : hi ≤ w.heap.size
namespace Ow
variable {lo hi : Nat} {w w1 : World} {u1 u2 u3 u4 : Value} {l : List S36} {m t b : List Int}
theorem of_ (h1 : Kd.R k36 36 w1 lo (fun _ => True) u1 l) (h2 : Kd.R (Kd.int .i64) 3 w1 lo (Ap u3 u4) u2 m) (h3 : Kd.R (Kd.int .i64) 3 w1 lo (Ap u2 u4) u3 t) (h4 : Kd.R (Kd.int .i64) 3 w1 lo (Ap u2 u3) u4 b) : Ow lo w1.heap.size w1 u1 l u2 m u3 t u4 b :=
  ⟨Kd.R_mono (Kd.R_bound h1) (fun _ hk => hk.2.2.1), Kd.R_mono (Kd.R_bound h2) (fun _ hk => ⟨hk.2.2.1, hk.1⟩), Kd.R_mono (Kd.R_bound h3) (fun _ hk => ⟨hk.2.2.1, hk.1⟩), Kd.R_mono (Kd.R_bound h4) (fun _ hk => ⟨hk.2.2.1, hk.1⟩), Nat.le_refl _⟩
theorem step (h : Ow lo hi w u1 l u2 m u3 t u4 b) (hs : w.heap.size ≤ w1.heap.size) (hm : ∀ k, lo ≤ k → k < hi → k < w.heap.size → (∃ q, (q = 36 ∨ q = 3) ∧ ∃ cells, w.heap[k]? = some (.cells cells q (0, 0))) → w1.heap[k]? = w.heap[k]?) : Ow lo hi w1 u1 l u2 m u3 t u4 b := by
  have q1 : ∀ q, q ∈ (36 :: k36.E) → q = 36 ∨ q = 3 := by decide
  have q2 : ∀ q, q ∈ (3 :: (Kd.int .i64).E) → q = 36 ∨ q = 3 := by decide
  refine ⟨Kd.R_mono (Kd.R_move (Kd.R_bound h.r1) ?_) (fun _ hk => hk.1), Kd.R_mono (Kd.R_move (Kd.R_bound h.r2) ?_) (fun _ hk => hk.1), Kd.R_mono (Kd.R_move (Kd.R_bound h.r3) ?_) (fun _ hk => hk.1), Kd.R_mono (Kd.R_move (Kd.R_bound h.r4) ?_) (fun _ hk => hk.1), Nat.le_trans h.top hs⟩
  · intro k hk; obtain ⟨h1, h2, h3, q, hq, hc⟩ := hk; exact hm k h2 h1 h3 ⟨q, q1 q hq, hc⟩
  · intro k hk; obtain ⟨h1, h2, h3, q, hq, hc⟩ := hk; exact hm k h2 h1.1 h3 ⟨q, q2 q hq, hc⟩
  · intro k hk; obtain ⟨h1, h2, h3, q, hq, hc⟩ := hk; exact hm k h2 h1.1 h3 ⟨q, q2 q hq, hc⟩
  · intro k hk; obtain ⟨h1, h2, h3, q, hq, hc⟩ := hk; exact hm k h2 h1.1 h3 ⟨q, q2 q hq, hc⟩
theorem below (h : Ow lo hi w u1 l u2 m u3 t u4 b) (hb : Below w.heap.size w w1) : Ow lo hi w1 u1 l u2 m u3 t u4 b := h.step hb.size (fun k _ _ hk _ => hb.block k hk)
theorem kept (h : Ow lo hi w u1 l u2 m u3 t u4 b) {S : Nat → Prop} (hk : Kept w w1 S) (hn : ∀ k, lo ≤ k → k < hi → ¬ S k) : Ow lo hi w1 u1 l u2 m u3 t u4 b := h.step hk.1 (fun k h1 h2 h3 _ => hk.2 k h3 (hn k h1 h2))
theorem set5 (h : Ow lo hi w u1 l u2 m u3 t u4 b) {g : Nat} {cs : Array Value} (hb : w.heap[g]? = some (.cells cs 29 (0, 0))) {x0 x1 x2 x3 x4 : Value} : Ow lo hi (set5 w g x0 x1 x2 x3 x4) u1 l u2 m u3 t u4 b :=
  h.step (by simp [World.setCell]) (fun k _ _ _ hc => set5_old _ _ _ _ _ k (by
    rintro rfl
    obtain ⟨q, hq, cells, hc⟩ := hc
    rw [hc] at hb
    injection hb with hb
    injection hb with _ hb
    rcases hq with rfl | rfl
    · exact absurd hb (by decide)
    · exact absurd hb (by decide)))
theorem topl (h : Ow lo hi w u1 l u2 m u3 t u4 b) (hb : Below w.heap.size w w1) : hi ≤ w.heap.size := h.top
theorem slices (h : Ow lo hi w u1 l u2 m u3 t u4 b) : ∃ A1 c1 A2 c2 A3 c3 A4 c4, u1 = .slice A1 l.length c1 ∧ u2 = .slice A2 m.length c2 ∧ u3 = .slice A3 t.length c3 ∧ u4 = .slice A4 b.length c4 := by
  obtain ⟨A1, c1, e1⟩ := Kd.R_slice h.r1
  obtain ⟨A2, c2, e2⟩ := Kd.R_slice h.r2
  obtain ⟨A3, c3, e3⟩ := Kd.R_slice h.r3
  obtain ⟨A4, c4, e4⟩ := Kd.R_slice h.r4
  exact ⟨A1, c1, A2, c2, A3, c3, A4, c4, e1, e2, e3, e4⟩
end Ow
theorem szl {w0 w w1 : World} (h : Below w0.heap.size w0 w) (hb : Below w.heap.size w w1) : w0.heap.size ≤ w.heap.size := h.size
/-- Four rows that can be read. -/
structure Rd {α : Type} (d : Kd α) (w : World) (A1 : Option Addr) (c1 : Nat) (l : List α) (A2 : Option Addr) (c2 : Nat) (m : List Int) (A3 : Option Addr) (c3 : Nat) (t : List Int) (A4 : Option Addr) (c4 : Nat) (b : List Int) : Prop where
  r1 : d.C w A1 l.length l
  k1 : l.length ≤ c1
  r2 : (Kd.int .i64).C w A2 m.length m
  k2 : m.length ≤ c2
  r3 : (Kd.int .i64).C w A3 t.length t
  k3 : t.length ≤ c3
  r4 : (Kd.int .i64).C w A4 b.length b
  k4 : b.length ≤ c4
theorem Rd.below {α : Type} {d : Kd α} {w w1 : World} {A1 A2 A3 A4 : Option Addr} {c1 c2 c3 c4 : Nat} {l : List α} {m t b : List Int} (h : Rd d w A1 c1 l A2 c2 m A3 c3 t A4 c4 b) (hb : Below w.heap.size w w1) : Rd d w1 A1 c1 l A2 c2 m A3 c3 t A4 c4 b :=
  ⟨Kd.C_below h.r1 hb, h.k1, Kd.C_below h.r2 hb, h.k2, Kd.C_below h.r3 hb, h.k3, Kd.C_below h.r4 hb, h.k4⟩
theorem Ow.rd {lo hi : Nat} {w : World} {A1 A2 A3 A4 : Option Addr} {c1 c2 c3 c4 n1 n2 n3 n4 : Nat} {l : List S36} {m t b : List Int} (h : Ow lo hi w (.slice A1 n1 c1) l (.slice A2 n2 c2) m (.slice A3 n3 c3) t (.slice A4 n4 c4) b) : Rd k36 w A1 c1 l A2 c2 m A3 c3 t A4 c4 b :=
  ⟨OwnK.R_C h.r1, OwnK.R_cap h.r1, OwnK.R_C h.r2, OwnK.R_cap h.r2, OwnK.R_C h.r3, OwnK.R_cap h.r3, OwnK.R_C h.r4, OwnK.R_cap h.r4⟩
/-- What a state is as a value. -/
abbrev stv (R : Int) (u1 u2 u3 u4 : Value) : Value := .agg #[.int .i64 R, u1, u2, u3, u4]
theorem raise36 {w : World} {b b' : Nat} {ok : Nat → Prop} {u : Value} {l : List S36} (h : Kd.R k36 36 w b ok u l) (hb : ∀ k, u.ownBlock = some k → b' ≤ k) : Kd.R k36 36 w b' ok u l := Kd.R_raise (b := b) (fun w ok x cs (h : k36.M w b ok x cs) => (show k36.M w b' ok x cs from h)) h hb
theorem raise3 {w : World} {b b' : Nat} {ok : Nat → Prop} {u : Value} {l : List Int} (h : Kd.R (Kd.int .i64) 3 w b ok u l) (hb : ∀ k, u.ownBlock = some k → b' ≤ k) : Kd.R (Kd.int .i64) 3 w b' ok u l := Kd.R_raise (b := b) (fun w ok x cs (h : (Kd.int .i64).M w b ok x cs) => (show (Kd.int .i64).M w b' ok x cs from h)) h hb
theorem Ow.back {lo hi : Nat} {w w0 w1 : World} {u1 u2 u3 u4 : Value} {l l' : List S36} {m t b m' t' b' : List Int} {o1 o2 o3 o4 : Nat → Prop} (h : Ow lo hi w u1 l u2 m u3 t u4 b) (hs : w.heap.size ≤ w1.heap.size)
    (h1 : Kd.R k36 36 w1 w0.heap.size o1 u1 l') (h2 : Kd.R (Kd.int .i64) 3 w1 w0.heap.size o2 u2 m') (h3 : Kd.R (Kd.int .i64) 3 w1 w0.heap.size o3 u3 t') (h4 : Kd.R (Kd.int .i64) 3 w1 w0.heap.size o4 u4 b') : Ow lo hi w1 u1 l' u2 m' u3 t' u4 b' :=
  ⟨Kd.R_reok rfl (raise36 h1 (fun k hk => own_base (Kd.R_own h.r1).choose_spec k hk)) h.r1.1, Kd.R_reok rfl (raise3 h2 (fun k hk => own_base (Kd.R_own h.r2).choose_spec k hk)) h.r2.1, Kd.R_reok rfl (raise3 h3 (fun k hk => own_base (Kd.R_own h.r3).choose_spec k hk)) h.r3.1, Kd.R_reok rfl (raise3 h4 (fun k hk => own_base (Kd.R_own h.r4).choose_spec k hk)) h.r4.1, Nat.le_trans h.top hs⟩
/-- What a call that makes a state leaves. -/
def Made (w : World) (R : Int) (l : List S36) (m t b : List Int) (out : Value → Ending) (e : Ending) (w1 : World) : Prop :=
  ∃ A1 c1 A2 c2 A3 c3 A4 c4, e = out (.agg #[.int .i64 R, .slice A1 l.length c1, .slice A2 m.length c2, .slice A3 t.length c3, .slice A4 b.length c4]) ∧ Ow w.heap.size w1.heap.size w1 (.slice A1 l.length c1) l (.slice A2 m.length c2) m (.slice A3 t.length c3) t (.slice A4 b.length c4) b ∧ Below w.heap.size w w1
theorem Made.of_ {w w1 : World} {R : Int} {l : List S36} {m t b : List Int} {out : Value → Ending} {e : Ending} (h : ∃ v1_ v2_ v3_ v4_ : Value, e = out (.agg #[.int .i64 R, v1_, v2_, v3_, v4_]) ∧ Kd.R k36 36 w1 w.heap.size (fun _ => True) v1_ l ∧ Kd.R (Kd.int .i64) 3 w1 w.heap.size (fun k_ => some k_ ≠ (v3_ : Value).ownBlock ∧ some k_ ≠ (v4_ : Value).ownBlock) v2_ m ∧ Kd.R (Kd.int .i64) 3 w1 w.heap.size (fun k_ => some k_ ≠ (v2_ : Value).ownBlock ∧ some k_ ≠ (v4_ : Value).ownBlock) v3_ t ∧ Kd.R (Kd.int .i64) 3 w1 w.heap.size (fun k_ => some k_ ≠ (v2_ : Value).ownBlock ∧ some k_ ≠ (v3_ : Value).ownBlock) v4_ b ∧ Below w.heap.size w w1) : Made w R l m t b out e w1 := by
  obtain ⟨v1, v2, v3, v4, rfl, h1, h2, h3, h4, hb⟩ := h
  have ho := Ow.of_ h1 h2 h3 h4
  obtain ⟨A1, c1, A2, c2, A3, c3, A4, c4, rfl, rfl, rfl, rfl⟩ := ho.slices
  exact ⟨A1, c1, A2, c2, A3, c3, A4, c4, rfl, ho, hb⟩
section
variable {k : Nat} {A1 A2 A3 A4 B1 B2 B3 B4 : Option Addr} {c1 c2 c3 c4 d1 d2 d3 d4 : Nat} {R R' : Int} {m t b m' t' b' : List Int} {w : World}
theorem to_go {l : List S101} {l' : List S36} (h : laws_toState.f k R l m t b = some (R', l', m', t', b')) (ha : Rd k101 w A1 c1 l A2 c2 m A3 c3 t A4 c4 b) :
    Calls Try.prog 24 #[.agg #[.int .i64 R, .slice A1 l.length c1, .slice A2 m.length c2, .slice A3 t.length c3, .slice A4 b.length c4]] w (Made w R' l' m' t' b' .returned) :=
  (laws_toState.calls k R A1 c1 l A2 c2 m A3 c3 t A4 c4 b R' l' m' t' b' w ha.r1 ha.k1 ha.r2 ha.k2 ha.r3 ha.k3 ha.r4 ha.k4 h).mono (fun _ _ hq => Made.of_ hq)
theorem sz_go {l : List S101} {n r : Int} (h : laws_szState.f R l m t b n = some r) (ha : Rd k101 w A1 c1 l A2 c2 m A3 c3 t A4 c4 b) :
    Calls Try.prog 22 #[.agg #[.int .i64 R, .slice A1 l.length c1, .slice A2 m.length c2, .slice A3 t.length c3, .slice A4 b.length c4], .int .i64 n] w fun e w' => e = .returned (.int .i64 r) ∧ Below w.heap.size w w' :=
  laws_szState.calls R A1 c1 l A2 c2 m A3 c3 t A4 c4 b n r w ha.r1 ha.k1 ha.r2 ha.k2 ha.r3 ha.k3 ha.r4 ha.k4 h
variable {l l' : List S36}
theorem mark_go {w0 : World} {lo hi : Nat} {u1 u2 u3 u4 : Value} {n r : Int} (h : laws_markState.f k R l m t b n = some (r, l', m', t', b')) (hB : Below w0.heap.size w0 w) (hl : w0.heap.size ≤ lo) (ha : Ow lo hi w u1 l u2 m u3 t u4 b) :
    Calls Try.prog 26 #[.agg #[.int .i64 R, u1, u2, u3, u4], .int .i64 n] w fun e w' => e = .returned (.int .i64 r) ∧ Ow lo hi w' u1 l' u2 m' u3 t' u4 b' ∧ Below w0.heap.size w0 w' ∧ Kept w w' (fun k => lo ≤ k ∧ k < hi ∧ ∃ q, (q = 36 ∨ q = 3) ∧ ∃ cells, w.heap[k]? = some (.cells cells q (0, 0))) := by
  refine (laws_markState.calls k R (fun k_ => some k_ = u1.ownBlock) u1 l (fun k_ => some k_ = u2.ownBlock) u2 m (fun k_ => some k_ = u3.ownBlock) u3 t (fun k_ => some k_ = u4.ownBlock) u4 b n r l' m' t' b' w0 w hB (Kd.R_tight rfl (Kd.R_lower ha.r1 hl)) (Kd.R_tight rfl (Kd.R_lower ha.r2 hl)) (fun k_ e => (ha.r2.1 k_ e.symm).2.1) (fun k_ e => (ha.r2.1 k_ e.symm).2.2) (Kd.R_tight rfl (Kd.R_lower ha.r3 hl)) (fun k_ e => (ha.r3.1 k_ e.symm).2.1) (fun k_ e => (ha.r3.1 k_ e.symm).2.2) (Kd.R_tight rfl (Kd.R_lower ha.r4 hl)) (fun k_ e => (ha.r4.1 k_ e.symm).2.1) (fun k_ e => (ha.r4.1 k_ e.symm).2.2) h).mono ?_
  rintro e w1 ⟨rfl, h1, h2, h3, h4, hb, hk⟩
  refine ⟨rfl, ha.back hk.1 h1 h2 h3 h4, hb, hk.mono ?_⟩
  rintro k_ (e | e | e | e)
  · exact ⟨own_base (Kd.R_own ha.r1).choose_spec k_ e.symm, ha.r1.1 k_ e.symm, 36, Or.inl rfl, Kd.R_typed ha.r1 k_ e.symm⟩
  · exact ⟨own_base (Kd.R_own ha.r2).choose_spec k_ e.symm, (ha.r2.1 k_ e.symm).1, 3, Or.inr rfl, Kd.R_typed ha.r2 k_ e.symm⟩
  · exact ⟨own_base (Kd.R_own ha.r3).choose_spec k_ e.symm, (ha.r3.1 k_ e.symm).1, 3, Or.inr rfl, Kd.R_typed ha.r3 k_ e.symm⟩
  · exact ⟨own_base (Kd.R_own ha.r4).choose_spec k_ e.symm, (ha.r4.1 k_ e.symm).1, 3, Or.inr rfl, Kd.R_typed ha.r4 k_ e.symm⟩
theorem box_kept {w1 : World} {lo hi g : Nat} {cs : Array Value} {T : Nat} (hb : w.heap[g]? = some (.cells cs T (0, 0))) (hT : T ≠ 36 ∧ T ≠ 3) (hk : Kept w w1 (fun k => lo ≤ k ∧ k < hi ∧ ∃ q, (q = 36 ∨ q = 3) ∧ ∃ cells, w.heap[k]? = some (.cells cells q (0, 0)))) : w1.heap[g]? = some (.cells cs T (0, 0)) :=
  blk_kept hb hk (by
    rintro ⟨_, _, q, hq, cells, hc⟩
    rw [hc] at hb
    injection hb with hb
    injection hb with _ hb
    rcases hq with rfl | rfl
    · exact hT.1 hb.symm
    · exact hT.2 hb.symm)
end
def laws_eqState.f (k : Nat) (a0_0 : Int) (l0_1 : List (S36)) (l0_2 : List Int) (l0_3 : List Int) (l0_4 : List Int) (a1_0 : Int) (l1_1 : List (S36)) (l1_2 : List Int) (l1_3 : List Int) (l1_4 : List Int) : Option (Bool) := (laws_eqMesh.f k a0_0 l0_1 a1_0 l1_1).bind fun t484 => (if t484 = true then ((laws_eqIntS.f k l0_2 l1_2).bind fun t485 => (if t485 = true then ((laws_eqIntS.f k l0_3 l1_3).bind fun t486 => (if t486 = true then ((laws_eqIntS.f k l0_4 l1_4).bind fun t487 => (if t487 = true then (some true) else (some false))) else (some false))) else (some false))) else (some false))
set_option maxHeartbeats 8000000 in
set_option maxRecDepth 100000 in
theorem eq_go {k : Nat} {A1 A2 A3 A4 B_1 B_2 B_3 B_4 : Option Addr} {a1 a2 a3 a4 b_1 b_2 b_3 b_4 : Nat} {R R' : Int} {m t b m' t' b' : List Int} {w : World} {l l' : List S36} (h : laws_eqState.f k R l m t b R' l' m' t' b' = some true) (ha : Rd k36 w A1 a1 l A2 a2 m A3 a3 t A4 a4 b) (hb : Rd k36 w B_1 b_1 l' B_2 b_2 m' B_3 b_3 t' B_4 b_4 b') :
    Calls Try.prog 25 #[.agg #[.int .i64 R, .slice A1 l.length a1, .slice A2 m.length a2, .slice A3 t.length a3, .slice A4 b.length a4], .agg #[.int .i64 R', .slice B_1 l'.length b_1, .slice B_2 m'.length b_2, .slice B_3 t'.length b_3, .slice B_4 b'.length b_4]] w fun e w' => e = .returned (.bool true) ∧ Below w.heap.size w w' := by
  have hu29 := Try.underlying29
  have hu26 := Try.underlying26
  unfold laws_eqState.f at h
  obtain ⟨b1, e1, h⟩ := Option.bind_eq_some_iff.1 h
  cases b1
  · simp at h
  rw [if_pos rfl] at h
  obtain ⟨b2, e2, h⟩ := Option.bind_eq_some_iff.1 h
  cases b2
  · simp at h
  rw [if_pos rfl] at h
  obtain ⟨b3, e3, h⟩ := Option.bind_eq_some_iff.1 h
  cases b3
  · simp at h
  rw [if_pos rfl] at h
  obtain ⟨b4, e4, h⟩ := Option.bind_eq_some_iff.1 h
  cases b4
  · simp at h
  have E1 := Aside0.mk e1; have E2 := Aside0.mk e2; have E3 := Aside0.mk e3; have E4 := Aside0.mk e4; have HA := Aside0.mk ha; have HA' := Aside0.mk hb
  clear h e1 e2 e3 e4 ha hb
  go_enter Try.func25, Try.ntmps25
  go_wp2_with (first
   | ((with_reducible refine gate_dst (N := 2) rfl ?_); refine box_event ?hg (N := 2) ?hd (cs := #[.int .i64 R, .slice A1 l.length a1, .slice A2 m.length a2, .slice A3 t.length a3, .slice A4 b.length a4]) (t := 29) ?hr ?_; (case hd => rfl); (case hg => rfl); (case hr => first | (go_simp; done) | (go_simp; rfl)); intro gA hg wZ hbox hb; have GEA := Aside0.mk (by rw [hg]; exact Nat.le_refl _ : w.heap.size ≤ gA); have BA := Aside0.mk hbox; have HB := Aside0.mk hb; clear hb hbox hg; have hzA := cells5 BA.out)
   | ((with_reducible refine gate_dst (N := 3) rfl ?_); refine box_event ?hg (N := 3) ?hd (cs := #[.int .i64 R', .slice B_1 l'.length b_1, .slice B_2 m'.length b_2, .slice B_3 t'.length b_3, .slice B_4 b'.length b_4]) (t := 29) ?hr ?_; (case hd => rfl); (case hg => rfl); (case hr => first | (go_simp; done) | (go_simp; rfl)); intro gB hg w_3 hbox hb; have GEB := Aside0.mk (by rw [hg]; exact HB.out.size : w.heap.size ≤ gB); have NAB := Aside0.mk (by rw [hg]; exact Nat.ne_of_lt (blk_lt BA.out) : gA ≠ gB); have NBA := Aside0.mk (Ne.symm NAB.out); have nAB := NAB.out; have nBA := NBA.out; replace BA := Aside0.mk (blk_below BA.out hb); replace HB := Aside0.mk (below_step HB.out hb); clear hzA hb hg; have BB := Aside0.mk hbox; clear hbox; have hzA := cells5 BA.out; have hzB := cells5 BB.out)
   | ((with_reducible refine gate_dst (N := 9) rfl ?_); refine goesL_ (some 9) rfl rfl Try.func40 (by kernel_rfl) rfl #[.agg #[.int .i64 R, .slice A1 l.length a1], .agg #[.int .i64 R', .slice B_1 l'.length b_1]] rfl (by first | rfl | (simp only [List.map_toArray, List.map_cons, List.map_nil]; rfl)) ?_; refine (laws_eqMesh.calls k R A1 a1 l R' B_1 b_1 l' true _ (HA.out.below HB.out).r1 HA.out.k1 (HA'.out.below HB.out).r1 HA'.out.k1 E1.out).mono ?_; rintro e w9 ⟨rfl, hb⟩; refine ⟨_, rfl, ?_⟩; replace BA := Aside0.mk (blk_below BA.out hb); replace BB := Aside0.mk (blk_below BB.out hb); replace HB := Aside0.mk (below_step HB.out hb); clear hzA hzB hb; have hzA := cells5 BA.out; have hzB := cells5 BB.out)
   | ((with_reducible refine gate_dst (N := 15) rfl ?_); refine goesL_ (some 15) rfl rfl Try.func41 (by kernel_rfl) rfl #[.slice A2 m.length a2, .slice B_2 m'.length b_2] rfl (by first | rfl | (simp only [List.map_toArray, List.map_cons, List.map_nil]; rfl)) ?_; refine (laws_eqIntS.calls k A2 a2 m B_2 b_2 m' true _ (HA.out.below HB.out).r2 HA.out.k2 (HA'.out.below HB.out).r2 HA'.out.k2 E2.out).mono ?_; rintro e w15 ⟨rfl, hq⟩; have hb := hq.below; clear hq; refine ⟨_, rfl, ?_⟩; replace BA := Aside0.mk (blk_below BA.out hb); replace BB := Aside0.mk (blk_below BB.out hb); replace HB := Aside0.mk (below_step HB.out hb); clear hzA hzB hb; have hzA := cells5 BA.out; have hzB := cells5 BB.out)
   | ((with_reducible refine gate_dst (N := 21) rfl ?_); refine goesL_ (some 21) rfl rfl Try.func41 (by kernel_rfl) rfl #[.slice A3 t.length a3, .slice B_3 t'.length b_3] rfl (by first | rfl | (simp only [List.map_toArray, List.map_cons, List.map_nil]; rfl)) ?_; refine (laws_eqIntS.calls k A3 a3 t B_3 b_3 t' true _ (HA.out.below HB.out).r3 HA.out.k3 (HA'.out.below HB.out).r3 HA'.out.k3 E3.out).mono ?_; rintro e w21 ⟨rfl, hq⟩; have hb := hq.below; clear hq; refine ⟨_, rfl, ?_⟩; replace BA := Aside0.mk (blk_below BA.out hb); replace BB := Aside0.mk (blk_below BB.out hb); replace HB := Aside0.mk (below_step HB.out hb); clear hzA hzB hb; have hzA := cells5 BA.out; have hzB := cells5 BB.out)
   | ((with_reducible refine gate_dst (N := 27) rfl ?_); refine goesL_ (some 27) rfl rfl Try.func41 (by kernel_rfl) rfl #[.slice A4 b.length a4, .slice B_4 b'.length b_4] rfl (by first | rfl | (simp only [List.map_toArray, List.map_cons, List.map_nil]; rfl)) ?_; refine (laws_eqIntS.calls k A4 a4 b B_4 b_4 b' true _ (HA.out.below HB.out).r4 HA.out.k4 (HA'.out.below HB.out).r4 HA'.out.k4 E4.out).mono ?_; rintro e w27 ⟨rfl, hq⟩; have hb := hq.below; clear hq; refine ⟨_, rfl, ?_⟩; replace BA := Aside0.mk (blk_below BA.out hb); replace BB := Aside0.mk (blk_below BB.out hb); replace HB := Aside0.mk (below_step HB.out hb); clear hzA hzB hb; have hzA := cells5 BA.out; have hzB := cells5 BB.out))
  go_ret
  exact ⟨rfl, HB.out⟩
def laws_heldState.f (k : Nat) (a0_0 : Int) (l0_1 : List (S36)) (l0_2 : List Int) (l0_3 : List Int) (l0_4 : List Int) (a1 : Int) : Option (Int) := (laws_heldMesh.f k a0_0 l0_1 a1).bind fun t511 => (if t511 < 0 then (some (-1)) else ((laws_heldIntS.f k l0_2 t511).bind fun t512 => (if t512 < 0 then (some (-1)) else ((laws_heldIntS.f k l0_3 t512).bind fun t513 => (if t513 < 0 then (some (-1)) else ((laws_heldIntS.f k l0_4 t513).bind fun t514 => (if t514 < 0 then (some (-1)) else (some t514))))))))
set_option maxHeartbeats 8000000 in
set_option maxRecDepth 100000 in
theorem held_at {k : Nat} {A1 A2 A3 A4 : Option Addr} {a1 a2 a3 a4 : Nat} {R n r : Int} {m t b : List Int} {w : World} {l : List S36} (h : laws_heldState.f k R l m t b n = some r) (h0 : 0 ≤ r) (ha : Rd k36 w A1 a1 l A2 a2 m A3 a3 t A4 a4 b) :
    Calls Try.prog 27 #[.agg #[.int .i64 R, .slice A1 l.length a1, .slice A2 m.length a2, .slice A3 t.length a3, .slice A4 b.length a4], .int .i64 n] w fun e w' => e = .returned (.int .i64 r) ∧ Below w.heap.size w w' := by
  have hu29 := Try.underlying29
  have hu26 := Try.underlying26
  unfold laws_heldState.f at h
  obtain ⟨r1, e1, h⟩ := Option.bind_eq_some_iff.1 h
  by_cases c1 : r1 < 0
  · rw [if_pos c1] at h; have := Option.some.inj h; omega
  rw [if_neg c1] at h
  obtain ⟨r2, e2, h⟩ := Option.bind_eq_some_iff.1 h
  by_cases c2 : r2 < 0
  · rw [if_pos c2] at h; have := Option.some.inj h; omega
  rw [if_neg c2] at h
  obtain ⟨r3, e3, h⟩ := Option.bind_eq_some_iff.1 h
  by_cases c3 : r3 < 0
  · rw [if_pos c3] at h; have := Option.some.inj h; omega
  rw [if_neg c3] at h
  obtain ⟨r4, e4, h⟩ := Option.bind_eq_some_iff.1 h
  by_cases c4 : r4 < 0
  · rw [if_pos c4] at h; have := Option.some.inj h; omega
  rw [if_neg c4] at h
  obtain rfl := Option.some.inj h
  have d1 := decide_eq_false c1; have d2 := decide_eq_false c2; have d3 := decide_eq_false c3; have d4 := decide_eq_false c4
  have E1 := Aside0.mk e1; have E2 := Aside0.mk e2; have E3 := Aside0.mk e3; have E4 := Aside0.mk e4; have HA := Aside0.mk ha
  clear h e1 e2 e3 e4 ha c1 c2 c3 c4 h0
  go_enter Try.func27, Try.ntmps27
  go_wp2_with (first
   | ((with_reducible refine gate_dst (N := 2) rfl ?_); refine box_event ?hg (N := 2) ?hd (cs := #[.int .i64 R, .slice A1 l.length a1, .slice A2 m.length a2, .slice A3 t.length a3, .slice A4 b.length a4]) (t := 29) ?hr ?_; (case hd => rfl); (case hg => rfl); (case hr => first | (go_simp; done) | (go_simp; rfl)); intro gA hg wZ hbox hb; have GEA := Aside0.mk (by rw [hg]; exact Nat.le_refl _ : w.heap.size ≤ gA); have BA := Aside0.mk hbox; have HB := Aside0.mk hb; clear hb hbox hg; have hzA := cells5 BA.out)
   | ((with_reducible refine gate_dst (N := 8) rfl ?_); refine goesL_ (some 8) rfl rfl Try.func62 (by kernel_rfl) rfl #[.agg #[.int .i64 R, .slice A1 l.length a1], .int .i64 n] rfl (by first | rfl | (simp only [List.map_toArray, List.map_cons, List.map_nil]; rfl)) ?_; refine (laws_heldMesh.calls k R A1 a1 l n r1 _ (HA.out.below HB.out).r1 HA.out.k1 E1.out).mono ?_; rintro e w8 ⟨rfl, hb⟩; refine ⟨_, rfl, ?_⟩; replace BA := Aside0.mk (blk_below BA.out hb); replace HB := Aside0.mk (below_step HB.out hb); clear hzA hb; have hzA := cells5 BA.out)
   | ((with_reducible refine gate_dst (N := 14) rfl ?_); refine goesL_ (some 14) rfl rfl Try.func63 (by kernel_rfl) rfl #[.slice A2 m.length a2, .int .i64 r1] rfl (by first | rfl | (simp only [List.map_toArray, List.map_cons, List.map_nil]; rfl)) ?_; refine (laws_heldIntS.calls k A2 a2 m r1 r2 _ (HA.out.below HB.out).r2 HA.out.k2 E2.out).mono ?_; rintro e w14 ⟨rfl, hq⟩; have hb := hq.below; clear hq; refine ⟨_, rfl, ?_⟩; replace BA := Aside0.mk (blk_below BA.out hb); replace HB := Aside0.mk (below_step HB.out hb); clear hzA hb; have hzA := cells5 BA.out)
   | ((with_reducible refine gate_dst (N := 20) rfl ?_); refine goesL_ (some 20) rfl rfl Try.func63 (by kernel_rfl) rfl #[.slice A3 t.length a3, .int .i64 r2] rfl (by first | rfl | (simp only [List.map_toArray, List.map_cons, List.map_nil]; rfl)) ?_; refine (laws_heldIntS.calls k A3 a3 t r2 r3 _ (HA.out.below HB.out).r3 HA.out.k3 E3.out).mono ?_; rintro e w20 ⟨rfl, hq⟩; have hb := hq.below; clear hq; refine ⟨_, rfl, ?_⟩; replace BA := Aside0.mk (blk_below BA.out hb); replace HB := Aside0.mk (below_step HB.out hb); clear hzA hb; have hzA := cells5 BA.out)
   | ((with_reducible refine gate_dst (N := 26) rfl ?_); refine goesL_ (some 26) rfl rfl Try.func63 (by kernel_rfl) rfl #[.slice A4 b.length a4, .int .i64 r3] rfl (by first | rfl | (simp only [List.map_toArray, List.map_cons, List.map_nil]; rfl)) ?_; refine (laws_heldIntS.calls k A4 a4 b r3 _ _ (HA.out.below HB.out).r4 HA.out.k4 E4.out).mono ?_; rintro e w26 ⟨rfl, hq⟩; have hb := hq.below; clear hq; refine ⟨_, rfl, ?_⟩; replace BA := Aside0.mk (blk_below BA.out hb); replace HB := Aside0.mk (below_step HB.out hb); clear hzA hb; have hzA := cells5 BA.out))
  go_ret
  exact ⟨rfl, HB.out⟩
theorem held_go {k : Nat} {R : Int} {m t b : List Int} {w : World} {l : List S36} {n r : Int} {lo hi : Nat} {u1 u2 u3 u4 : Value} (h : laws_heldState.f k R l m t b n = some r) (h0 : 0 ≤ r) (ha : Ow lo hi w u1 l u2 m u3 t u4 b) :
    Calls Try.prog 27 #[.agg #[.int .i64 R, u1, u2, u3, u4], .int .i64 n] w fun e w' => e = .returned (.int .i64 r) ∧ Below w.heap.size w w' := by
  obtain ⟨A1, c1, A2, c2, A3, c3, A4, c4, rfl, rfl, rfl, rfl⟩ := ha.slices
  exact held_at h h0 ha.rd
end Go.Proofs.Ytbkkehjhfgocfaa.PFnExactCoarsenState
