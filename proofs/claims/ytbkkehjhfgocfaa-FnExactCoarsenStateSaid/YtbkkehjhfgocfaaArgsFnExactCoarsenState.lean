/- What the reading of an argument says, in the words of the print's kinds: integers, slices, structs of these; no condition. -/
import Derived.Test.YtbkkehjhfgocfaaUFnExactCoarsenState
import Derived.ChangeArms
import Derived.DataReads
import Derived.WideShapes
import Derived.Deep.Slices
set_option linter.unusedVariables false
namespace Go.Proofs.Ytbkkehjhfgocfaa.Args
open Go.RowKit Go.ChangeShapes Go.WideShapes Go.Deep Go.Proofs.YtbkkehjhfgocfaaW.PrintWords

/-- Whatever reads as data of type t is told by the kind d. -/
def Opens (P : Program) (t : TypeId) {α : Type} (d : Kd α) : Prop :=
  ∀ (H : Type) (enc : TypeId × Value → H) (w : World) (base : Nat) (spare : Nat → Bool) (held : Bool) (fuel : Nat) (cs : List Value) (x : DataW H × List MemPlace), DataW.trod enc P w base spare held fuel t cs = some x → ∃ a : α, d.K w a cs

variable {P : Program} {α β : Type}

theorem opens_int {t : TypeId} {k : IntKind} (ht : P.underlying t = some (.int k)) : Opens P t (Kd.int k) := by
  intro H enc w base spare held fuel cs x h
  obtain ⟨n, rfl, _, _⟩ := DataW.trod_int ht h
  exact ⟨n, rfl⟩

theorem choose_list {Q : Nat → α → Prop} : ∀ n : Nat, (∀ i, i < n → ∃ y, Q i y) → ∃ l : List α, l.length = n ∧ ∀ i y, l[i]? = some y → Q i y := by
  intro n
  induction n with
  | zero => exact fun _ => ⟨[], rfl, fun i y h => by simp at h⟩
  | succ n ih =>
    intro h
    obtain ⟨l, hl, hq⟩ := ih (fun i hi => h i (by omega))
    obtain ⟨y, hy⟩ := h n (by omega)
    refine ⟨l ++ [y], by simp [hl], fun i z hz => ?_⟩
    by_cases hi : i < n
    · rw [List.getElem?_append_left (by omega)] at hz
      exact hq i z hz
    · rw [List.getElem?_append_right (by omega)] at hz
      have : i - l.length = 0 := by
        have := (List.getElem?_eq_some_iff.1 hz).1
        simp at this
        omega
      rw [this] at hz
      have hin : i = n := by omega
      simp at hz
      subst hz hin
      exact hy

theorem opens_slice {t e : TypeId} {d : Kd α} (ht : P.underlying t = some (.slice e)) (hs : P.cellsOf e = d.sz) (hd : Opens P e d) : Opens P t (Kd.slice e d) := by
  intro H enc w base spare held fuel cs x h
  rcases DataW.trod_slice ht h with ⟨rfl, _⟩ | ⟨a, len, cap, elems, rest, n, _, rfl, _, _, hl, hm, hlen, hel, _⟩
  · exact ⟨[], none, 0, rfl, Nat.le_refl _, Kd.C_nil d w⟩
  · have g : ∀ i, i < len → ∃ y : α, ∃ c, c.length = d.sz ∧ d.K w y c ∧ ∀ j u, c[j]? = some u → w.cell? (a.add (i * d.sz + j)) = some u := by
      intro i hi
      have h1 := hel i hi
      have h2 : i < elems.length := by omega
      rw [List.getElem?_eq_getElem h2] at h1
      obtain ⟨c, hc, ht'⟩ := Option.bind_eq_some_iff.1 h1
      obtain ⟨_, hcl, hat⟩ := World.cells?_some hc
      obtain ⟨y, hy⟩ := hd _ _ _ _ _ _ _ _ _ ht'
      refine ⟨y, c, by rw [hcl, hs], hy, fun j u hu => ?_⟩
      have hj := (List.getElem?_eq_some_iff.1 hu).1
      rw [← hs, ← Deep.add_add, hat j (by omega), hu]
    obtain ⟨l, hll, hq⟩ := choose_list len g
    refine ⟨l, some a, cap, by rw [hll], by omega, rfl, by unfold maxLen at hm; omega, fun _ => ⟨a, rfl, fun j p hj => hq j p hj⟩⟩

/-- The fields of a struct from field i (at cell off) on. -/
def OpensFrom (P : Program) (t : TypeId) (fs : Array Field) (i off : Nat) (d : Kd α) : Prop :=
  ∀ (H : Type) (enc : TypeId × Value → H) (w : World) (base : Nat) (spare : Nat → Bool) (held : Bool) (fuel : Nat) (cs : List Value), cs.length = P.cellsOf t →
    (∀ (j : Nat) (f : Field), fs[j]? = some f → ∃ x, DataW.trod enc P w base spare held fuel f.type ((cs.drop f.offset).take (P.cellsOf f.type)) = some x) → ∃ a : α, d.K w a (cs.drop off)

theorem opens_last {t : TypeId} {fs : Array Field} {i off : Nat} {d : Kd α} (f : Field) (hf : fs[i]? = some f) (ho : f.offset = off) (hc : P.cellsOf f.type = d.sz) (ht : P.cellsOf t = off + d.sz) (hd : Opens P f.type d) : OpensFrom P t fs i off d := by
  intro H enc w base spare held fuel cs hl h
  obtain ⟨x, hx⟩ := h i f hf
  obtain ⟨a, ha⟩ := hd _ _ _ _ _ _ _ _ _ hx
  refine ⟨a, ?_⟩
  rw [ho, List.take_of_length_le (by rw [List.length_drop]; omega)] at ha
  exact ha

theorem opens_cons {t : TypeId} {fs : Array Field} {i off : Nat} {d : Kd α} {d' : Kd β} (f : Field) (hf : fs[i]? = some f) (ho : f.offset = off) (hc : P.cellsOf f.type = d.sz) (hd : Opens P f.type d) (hr : OpensFrom P t fs (i + 1) (off + d.sz) d') : OpensFrom P t fs i off (Kd.pair d d') := by
  intro H enc w base spare held fuel cs hl h
  obtain ⟨x, hx⟩ := h i f hf
  obtain ⟨a, ha⟩ := hd _ _ _ _ _ _ _ _ _ hx
  obtain ⟨b, hb⟩ := hr _ _ _ _ _ _ _ _ hl h
  refine ⟨(a, b), _, _, ?_, ha, hb⟩
  rw [ho, hc, ← List.drop_drop, List.take_append_drop]

theorem opens_struct {t : TypeId} {fs : Array Field} {d : Kd α} (ht : P.underlying t = some (.struct fs)) (hr : OpensFrom P t fs 0 0 d) : Opens P t d := by
  intro H enc w base spare held fuel cs x h
  obtain ⟨xs, n, _, _, hl, hlen, hf⟩ := DataW.trod_struct ht h
  obtain ⟨a, ha⟩ := hr H enc w base spare held n cs hl (fun j f hj => by
    have hj' : j < fs.size := (Array.getElem?_eq_some_iff.1 hj).1
    exact ⟨_, (hf j f hj).trans (List.getElem?_eq_getElem (by omega))⟩)
  exact ⟨a, by simpa using ha⟩

theorem opens_iso {t : TypeId} {d : Kd α} (f : β → α) (g : α → β) (hfg : ∀ a, f (g a) = a) (hd : Opens P t d) : Opens P t (Kd.iso d f) := by
  intro H enc w base spare held fuel cs x h
  obtain ⟨a, ha⟩ := hd _ _ _ _ _ _ _ _ _ h
  exact ⟨g a, by show d.K w (f (g a)) cs; rw [hfg]; exact ha⟩

/-- A parameter by value: a struct. -/
theorem opens_agg {H : Type} {enc : TypeId × Value → H} {w : World} {base b0 : Nat} {r : Reach} {spare : Nat → Bool} {held : Bool} {t : TypeId} {fs : Array Field} {d : Kd α} {v : Value} {x : DataW H} {p : List MemPlace} (ht : P.underlying t = some (.struct fs)) (hd : Opens P t d)
    (hv : Value.okWide P w r b0 t v) (h : DataW.Trod enc P w base spare held t v x p) : ∃ a : α, ∃ cs : List Value, d.K w a cs ∧ v = .agg cs.toArray := by
  obtain ⟨cs, rfl, hsz⟩ := okWide_struct ht hv
  obtain ⟨fuel, hf⟩ := h
  obtain ⟨a, ha⟩ := hd _ _ _ _ _ _ _ _ _ hf
  exact ⟨a, cs.toList, by simpa [Value.cells] using ha, by simp⟩

/-- A parameter that is a slice. -/
theorem opens_sl {H : Type} {enc : TypeId × Value → H} {w : World} {base b0 : Nat} {r : Reach} {spare : Nat → Bool} {held : Bool} {t e : TypeId} {d : Kd α} {v : Value} {x : DataW H} {p : List MemPlace} (ht : P.underlying t = some (.slice e)) (hd : Opens P t (Kd.slice e d))
    (hv : Value.okWide P w r b0 t v) (h : DataW.Trod enc P w base spare held t v x p) : ∃ (l : List α) (A : Option Addr) (c : Nat), v = .slice A l.length c ∧ l.length ≤ c ∧ d.C w A l.length l := by
  obtain ⟨A, len, cap, rfl⟩ := okWide_slice ht hv
  obtain ⟨fuel, hf⟩ := h
  obtain ⟨a, A', c, h1, h2, h3⟩ := hd _ _ _ _ _ _ _ _ _ hf
  simp [Value.cells] at h1
  obtain ⟨rfl, rfl, rfl⟩ := h1
  exact ⟨a, A, cap, rfl, h2, h3⟩

end Go.Proofs.Ytbkkehjhfgocfaa.Args
