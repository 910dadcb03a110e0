/- Balancing a drawn mesh gives a balanced mesh, finer and not deeper, which is not changed again, for every draw (one of more than 1048576 bytes is passed over by the statement itself); no condition. -/
import Derived.Test.YtnkdnijnhaamiaaCFnBalanced
set_option linter.unusedSimpArgs false
set_option linter.unusedVariables false
namespace Go.Proofs.Ytnkdnijnhaamiaa.Pure
open Go.RowKit Go.Proofs.Ytnkdnijnhaamiaa.PFnBalanced Go.Proofs.YtnkdnijnhaamiaaW.PrintWords Go.Proofs.YtnkdnijnhaamiaaW.PrintLast Go.Proofs.YtnkdnijnhaamiaaW.PrintMore Go.Proofs.Ytnkdnijnhaamiaa.CoreFnBalanced

def CO (x y : Cell) : Bool := containsB x.f0 x.f1 x.f2 y.f0 y.f1 y.f2
/-- b is finer than m. -/
inductive Finer : Mid → Mid → Prop
  | nil : Finer [] []
  | cons (x : Cell) (ys m b : Mid) : (∀ y ∈ ys, CO x y = true) → Finer m b → Finer (x :: m) (ys ++ b)
theorem co_self {x : Cell} (h : idokB x.f0 x.f1 x.f2 = true) : CO x x = true := by
  unfold CO
  rw [contains_iff h h]
  simp
theorem co_kids {x y : Cell} (hx : idokB x.f0 x.f1 x.f2 = true) (hy : idokB y.f0 y.f1 y.f2 = true) (h4 : y.f1 ≠ 4) (h : CO x y = true) : ∀ z ∈ kids y, CO x z = true := by
  obtain ⟨a1, a2, a3⟩ := child_key hy h4 0 (by omega) (by omega)
  obtain ⟨b1, b2, b3⟩ := child_key hy h4 1 (by omega) (by omega)
  have hw := width_bd (y.f1 + 1)
  unfold CO at h ⊢
  rw [contains_iff hx hy, decide_eq_true_eq] at h
  intro z hz
  rcases List.mem_cons.1 hz with rfl | hz
  · show containsB _ _ _ y.f0 (y.f1 + 1) (2 * y.f2 + 0) = true
    rw [contains_iff hx a1, decide_eq_true_eq, a2]
    omega
  · rcases List.mem_cons.1 hz with rfl | hz
    · show containsB _ _ _ y.f0 (y.f1 + 1) (2 * y.f2 + 1) = true
      rw [contains_iff hx b1, decide_eq_true_eq, b2]
      omega
    · cases hz
theorem Finer.refl : ∀ (m : Mid), (∀ x ∈ m, idokB x.f0 x.f1 x.f2 = true) → Finer m m
  | [], _ => Finer.nil
  | x :: m, h => Finer.cons x [x] m m (fun y hy => by rw [List.mem_singleton.1 hy]; exact co_self (h x (List.mem_cons_self ..))) (Finer.refl m (fun y hy => h y (List.mem_cons_of_mem _ hy)))
theorem Finer.split {m b : Mid} (h : Finer m b) : (∀ x ∈ m, idokB x.f0 x.f1 x.f2 = true) → ∀ (b1 b2 : Mid) (y : Cell), b = b1 ++ y :: b2 → idokB y.f0 y.f1 y.f2 = true → y.f1 ≠ 4 → Finer m (b1 ++ kids y ++ b2) := by
  induction h with
  | nil => intro _ b1 b2 y e; cases b1 <;> cases e
  | cons x ys m b hys hf ih =>
    intro hm b1 b2 y e hy h4
    have hm' : ∀ z ∈ m, idokB z.f0 z.f1 z.f2 = true := fun z hz => hm z (List.mem_cons_of_mem _ hz)
    rcases List.append_eq_append_iff.1 e with ⟨t, e1, e2⟩ | ⟨t, e1, e2⟩
    · -- b1 = ys ++ t
      rw [e1, List.append_assoc, List.append_assoc, ← List.append_assoc t]
      exact Finer.cons x ys m _ hys (ih hm' t b2 y e2 hy h4)
    · cases t with
      | nil =>
        rw [List.append_nil] at e1
        rw [List.nil_append] at e2
        rw [← e1, List.append_assoc]
        exact Finer.cons x ys m _ hys (by have := ih hm' [] b2 y e2.symm hy h4; simpa using this)
      | cons z t =>
        injection e2 with e3 e4
        subst e3
        rw [e4]
        show Finer (x :: m) (b1 ++ kids y ++ (t ++ b))
        rw [show b1 ++ kids y ++ (t ++ b) = (b1 ++ kids y ++ t) ++ b by simp]
        refine Finer.cons x _ m b (fun z hz => ?_) hf
        rw [e1] at hys
        rcases List.mem_append.1 hz with hz | hz
        · rcases List.mem_append.1 hz with hz | hz
          · exact hys z (List.mem_append_left _ hz)
          · exact co_kids (hm x (List.mem_cons_self ..)) hy h4 (hys y (by simp)) z hz
        · exact hys z (by simp [hz])
theorem Finer.tail {m b : Mid} (h : Finer m b) : ∀ (y : Cell) (b' : Mid), b = y :: b' → Finer m b' := by
  induction h with
  | nil => intro y b' e; cases e
  | cons x ys m b hys hf ih =>
    intro y b' e
    cases ys with
    | nil => exact Finer.cons x [] m b' (fun _ h => by cases h) (ih y b' e)
    | cons z ys =>
      injection e with e1 e2
      rw [← e2]
      exact Finer.cons x ys m b (fun w hw => hys w (List.mem_cons_of_mem _ hw)) hf
theorem Finer.head {x : Cell} {m b' : Mid} {y : Cell} (h : Finer (x :: m) (y :: b')) : CO x y = true ∨ Finer m (y :: b') := by
  generalize e1 : x :: m = m0 at h
  generalize e2 : y :: b' = b0 at h
  cases h with
  | nil => cases e1
  | cons x' ys m' b hys hf =>
    injection e1 with e3 e4
    subst e3 e4
    cases ys with
    | nil => exact .inr hf
    | cons z ys =>
      injection e2 with e5 e6
      subst e5
      exact .inl (hys _ (List.mem_cons_self ..))
theorem balN_finer {R : Int} (m : Mid) (hm : ∀ x ∈ m, idokB x.f0 x.f1 x.f2 = true) : ∀ (n : Nat) (l : Mid), meshOkB R l = true → Finer m l → Finer m (balN n l)
  | 0, l, _, h => h
  | n + 1, l, ho, h => by
    rw [balN]
    split
    · rename_i hp
      rcases toRef_spec ho with ⟨_, h2⟩ | ⟨_, _, j, hj, h2, h3, h4⟩
      · omega
      · rw [h2, Int.toNat_natCast]
        refine balN_finer m hm n _ (split_ok ho j hj (by omega)) ?_
        rw [splitP_at l j hj]
        exact h.split hm (l.take j) (l.drop (j + 1)) l[j] (by rw [← List.drop_eq_getElem_cons hj, List.take_append_drop]) h4 (by omega)
    · exact h
theorem deep_le (B : Int) : ∀ (l : Mid) (m : Int), deepGo m l ≤ B ↔ (m ≤ B ∧ ∀ x ∈ l, x.f1 ≤ B)
  | [], m => by simp [deepGo]
  | x :: l, m => by
    have := deep_le B l (mx m x.f1)
    unfold deepGo at this ⊢
    rw [List.foldl_cons, this]
    have hmx : mx m x.f1 ≤ B ↔ m ≤ B ∧ x.f1 ≤ B := by unfold mx; split <;> omega
    rw [hmx]
    simp [and_assoc]
theorem deep_eq {l l' : Mid} (h : ∀ B, (∀ x ∈ l, x.f1 ≤ B) ↔ (∀ x ∈ l', x.f1 ≤ B)) : deepGo 0 l = deepGo 0 l' := by
  have h1 := (deep_le (deepGo 0 l') l 0).2 ⟨((deep_le _ l' 0).1 (Int.le_refl _)).1, (h _).2 ((deep_le _ l' 0).1 (Int.le_refl _)).2⟩
  have h2 := (deep_le (deepGo 0 l) l' 0).2 ⟨((deep_le _ l 0).1 (Int.le_refl _)).1, (h _).1 ((deep_le _ l 0).1 (Int.le_refl _)).2⟩
  omega
/-- The leaf that is refined for balance has a neighbour that is deeper by two. -/
theorem toRef_nb {R : Int} {l : Mid} (hm : meshOkB R l = true) (h : toRefP l ≥ 0) : ∃ n : Nat, ∃ h : n < l.length, toRefP l = n ∧ ∃ z ∈ l, z.f1 ≥ l[n].f1 + 2 := by
  unfold toRefP at h ⊢
  rcases firstFrom_spec l 0 with h0 | ⟨n, h1, h2, h3⟩
  · have h' : firstUn l = -1 := h0
    rw [h', if_neg (by decide)] at h
    exact absurd h (by decide)
  · have h' : firstUn l = (n : Int) := by rw [firstUn, h1, Nat.zero_add]
    rw [h', if_pos (by omega), rdc l n (by omega), show ((n : Int) + 1) = ((n + 1 : Nat) : Int) by omega, rdc l (n + 1) h2]
    by_cases hg : l[n].f1 > l[n + 1].f1
    · rw [if_pos hg]
      exact ⟨n + 1, h2, rfl, l[n], List.getElem_mem _, by omega⟩
    · rw [if_neg hg]
      exact ⟨n, by omega, rfl, l[n + 1], List.getElem_mem _, by omega⟩
theorem balN_deep {R : Int} : ∀ (n : Nat) (l : Mid), meshOkB R l = true → deepGo 0 (balN n l) = deepGo 0 l
  | 0, l, _ => rfl
  | n + 1, l, ho => by
    rw [balN]
    split
    · rename_i hp
      obtain ⟨j, hj, h2, z, hz, hzl⟩ := toRef_nb ho hp
      rcases toRef_spec ho with ⟨_, h2'⟩ | ⟨_, _, j', hj', h2', h3, h4⟩
      · omega
      · obtain rfl : j = j' := by omega
        rw [h2, Int.toNat_natCast, balN_deep n _ (split_ok ho j hj (by omega))]
        refine deep_eq (fun B => ?_)
        have e : l = l.take j ++ l[j] :: l.drop (j + 1) := by rw [← List.drop_eq_getElem_cons hj, List.take_append_drop]
        rw [splitP_at l j hj]
        constructor
        · intro h x hx
          rw [e] at hx
          rcases List.mem_append.1 hx with hx | hx
          · exact h x (by simp [hx])
          · rcases List.mem_cons.1 hx with rfl | hx
            · have := h ⟨l[j].f0, l[j].f1 + 1, 2 * l[j].f2 + 0⟩ (by simp [kids])
              have e2 : l[j].f1 + 1 ≤ B := this
              omega
            · exact h x (by simp [hx])
        · intro h x hx
          have hz' := h z hz
          rcases List.mem_append.1 hx with hx | hx
          · rcases List.mem_append.1 hx with hx | hx
            · exact h x (List.mem_of_mem_take hx)
            · have : x.f1 = l[j].f1 + 1 := by
                rcases List.mem_cons.1 hx with rfl | hx
                · rfl
                · rw [List.mem_singleton.1 hx]
              omega
          · exact h x (List.mem_of_mem_drop hx)
    · rfl

theorem loops (R R' : Int) (m b : Mid) (hm : m.length ≤ 1048576) (hb : b.length ≤ 1048576) (hfin : Ev (fun k => (impl_Balance.f k R' b).bind fun bt => (spec_SameMesh.f k bt.1 bt.2 R' b).bind fun t => some t) true) :
    ∀ (d k0 i : Nat), (m.length - k0) + 2 * (b.length - i) ≤ d → i ≤ b.length → k0 ≤ m.length → Finer (m.drop k0) (b.drop i) →
      Ev (fun k => laws_FnBalanced.l0 k (k0 : Int) (i : Int) R m R' b) true ∧ (i < b.length → Ev (fun k => laws_FnBalanced.l1 k (k0 : Int) (i : Int) R m R' b) true) := by
  intro d
  induction d with
  | zero =>
    intro k0 i hd hi hk hf
    refine ⟨?_, fun h => by omega⟩
    refine Ev.step (fun k => rfl) ?_
    simp only [laws_FnBalanced.l0, show ¬ ((i : Int) < (b.length : Int)) by omega, if_false]
    exact hfin
  | succ d ih =>
    intro k0 i hd hi hk hf
    have key : ∀ (_ : i < b.length), Ev (fun k => laws_FnBalanced.l1 k (k0 : Int) (i : Int) R m R' b) true := by
      intro h
      rw [List.drop_eq_getElem_cons h] at hf
      have hk' : k0 < m.length := by
        rcases Nat.lt_or_ge k0 m.length with h' | h'
        · exact h'
        · rw [List.drop_eq_nil_of_le h'] at hf
          generalize e : b[i] :: b.drop (i + 1) = b0 at hf
          cases hf with
          | nil => cases e
      refine Ev.step (fun k => rfl) ?_
      simp only [laws_FnBalanced.l1, show ((k0 : Int) < (m.length : Int)) by omega, show (0 : Int) ≤ (k0 : Int) by omega, show (0 : Int) ≤ (i : Int) by omega, show ((i : Int) < (b.length : Int)) by omega, if_true, rdc m k0 hk', rdc b i h, s_contains, Option.bind_some]
      have hf' := hf
      rw [List.drop_eq_getElem_cons hk'] at hf
      by_cases hc : CO m[k0] b[i] = true
      · have hc' : containsB m[k0].f0 m[k0].f1 m[k0].f2 b[i].f0 b[i].f1 b[i].f2 = true := hc
        simp only [hc', if_true, show ¬ ((k0 : Int) = (m.length : Int)) by omega, if_false, wsucc (show i < 4611686018427387904 by omega)]
        exact (ih k0 (i + 1) (by omega) (by omega) hk (hf'.tail _ _ rfl)).1
      · have hc' : containsB m[k0].f0 m[k0].f1 m[k0].f2 b[i].f0 b[i].f1 b[i].f2 = false := by
          have := Bool.eq_false_iff.mpr hc; exact this
        simp only [hc', Bool.false_eq_true, if_false, wsucc (show k0 < 4611686018427387904 by omega)]
        rcases hf.head with h1 | h1
        · exact absurd h1 hc
        · refine (ih (k0 + 1) i (by omega) hi (by omega) ?_).2 h
          rw [List.drop_eq_getElem_cons h]
          exact h1
    refine ⟨?_, key⟩
    by_cases h : i < b.length
    · refine Ev.step (fun k => rfl) ?_
      simp only [laws_FnBalanced.l0, show ((i : Int) < (b.length : Int)) by omega, if_true]
      exact key h
    · refine Ev.step (fun k => rfl) ?_
      simp only [laws_FnBalanced.l0, show ¬ ((i : Int) < (b.length : Int)) by omega, if_false]
      exact hfin

theorem FnBalanced : laws_FnBalanced.Pure := by
  intro l _ _ _
  refine Ev.rounds ?_
  unfold laws_FnBalanced.f
  simp only [big_eq, Option.bind_some, decide_eq_true_eq]
  by_cases h : (l.length : Int) > 1048576
  · simp only [h, if_true]; exact Ev.now _
  · simp only [h, if_false]
    obtain ⟨R, m, ed, hok, hR1, hR3, hml⟩ := s_drawMesh l (by omega)
    refine Ev.bind ed ?_
    refine Ev.bind (i_balance R m (by omega)) ?_
    have hb : balP R m = balN 129 m := by rw [balP, if_pos hok]
    have hbok := balN_ok 129 m hok
    have hbal := balN_bal 129 m hok (by omega)
    have hfin := balN_finer m (meshOk_all hok) 129 m hok (Finer.refl m (meshOk_all hok))
    have hdeep := balN_deep 129 m hok
    rw [hb]
    generalize balN 129 m = b at hbok hbal hfin hdeep
    have hbl := meshOk_len hbok
    have hB : balB R b = true := by unfold balB; rw [if_pos hbok, hbal]; decide
    have hF : funB R b = -1 := by unfold funB; rw [if_pos hbok, hbal]
    have hD : deepB R b = deepB R m := by unfold deepB; rw [if_pos hbok, if_pos hok, hdeep]
    simp only
    refine Ev.bind (i_bal R b (by omega)) ?_
    simp only [hB, if_true]
    refine Ev.bind (i_fun R b (by omega)) ?_
    simp only [hF, if_true]
    refine Ev.bind (s_deep R b (by omega)) ?_
    refine Ev.bind (s_deep R m (by omega)) ?_
    simp only [hD, bne_self_eq_false]
    refine Ev.step (fun k => rfl) ?_
    simp only [laws_FnBalanced.j0, Bool.false_eq_true, if_false]
    refine (loops R R m b (by omega) (by omega) ?_ _ 0 0 (Nat.le_refl _) (by omega) (by omega) (by simpa using hfin)).1
    refine Ev.bind (i_balance R b (by omega)) ?_
    have hself : balP R b = b := by rw [balP, if_pos hbok]; exact balN_self 129 hbal
    simp only [hself]
    refine Ev.bind (s_same R R b b (by omega)) ?_
    simp only [and_self, decide_true]
    exact Ev.now _

end Go.Proofs.Ytnkdnijnhaamiaa.Pure
