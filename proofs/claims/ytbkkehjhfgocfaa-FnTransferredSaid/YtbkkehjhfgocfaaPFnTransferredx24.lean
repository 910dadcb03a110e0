/- Functions of the reference and of the program over states, walked by hand; no condition. -/
import Derived.Test.YtbkkehjhfgocfaaPFnTransferredx12
import Derived.Test.YtbkkehjhfgocfaaPFnTransferredx16
import Derived.Test.YtbkkehjhfgocfaaPFnTransferredx23
namespace Go.Proofs.Ytbkkehjhfgocfaa.PFnTransferred
open Go.RowKit Go.Proofs.YtbkkehjhfgocfaaW.PrintWords Go.Proofs.YtbkkehjhfgocfaaW.PrintLast Go.Proofs.YtbkkehjhfgocfaaW.PrintMore
set_option linter.unusedVariables false
set_option linter.unusedSimpArgs false
/-! ### two calls in any order -/
section
variable {P : Program} {ops : Array Oper} {Q : Exit → Act → World → Prop} {md : Region.Mode} {S : World → Prop} {ds : List Nat}
theorem put_comm {a : Act} {i j : Tmp} (h : i ≠ j) (u v : Value) : (a.put (some j) v).put (some i) u = (a.put (some i) u).put (some j) v := by
  simp only [Act.put]
  rw [Array.setIfInBounds_comm _ _ (Ne.symm h)]
/-- Two operations may come up; each keeps S, and yields the same behind the other: what follows is shown once. -/
theorem pair_ {i j : Nat} {Ni Nj : Tmp} {oi oj : Oper} {fuel : Nat} {l : Array Bool} {a : Act} {w : World} (li lj lij : Array Bool) (v1 v2 : Value) (hi : ops[i]? = some oi) (hj : ops[j]? = some oj) (hNi : oi.dst = some Ni) (hNj : oj.dst = some Nj)
    (hc : (Region.ready md ops l == [i, j] && l.setIfInBounds i true == li && l.setIfInBounds j true == lj) = true) (hc1 : readyB md ops li lij j = true) (hc2 : readyB md ops lj lij i = true) (hdi : i ∉ ds) (hdj : j ∉ ds) (hne : Ni ≠ Nj) (hS : S w)
    (h1 : ∀ a' w, a' = a ∨ a' = a.put (some Nj) v2 → S w → ∀ K : Act → World → Prop, (∀ w', S w' → K (a'.put (some Ni) v1) w') → if Region.wanted oi (yielded ops a'.tmps) = true then Oper.wp P oi a' w K Q else K (a'.put (some Ni) undef) w)
    (h2 : ∀ a' w, a' = a ∨ a' = a.put (some Ni) v1 → S w → ∀ K : Act → World → Prop, (∀ w', S w' → K (a'.put (some Nj) v2) w') → if Region.wanted oj (yielded ops a'.tmps) = true then Oper.wp P oj a' w K Q else K (a'.put (some Nj) undef) w)
    (h : ∀ w', S w' → wpAnyLast P md ops Q S ds fuel lij ((a.put (some Ni) v1).put (some Nj) v2) w') : wpAnyLast P md ops Q S ds (fuel + 2) l a w := by
  refine two_ li lj hi hj hNi hNj hc hdi hdj (fun K hK => h1 a w (.inl rfl) hS K (fun w' hw => hK.out _ _ hw (fun _ => ?_))) (fun K hK => h2 a w (.inl rfl) hS K (fun w' hw => hK.out _ _ hw (fun _ => ?_)))
  · exact one_ lij hj hNj hc1 hdj (fun K hK => h2 _ w' (.inr rfl) hw K (fun w2 hw2 => hK.out _ _ hw2 (fun _ => h w2 hw2)))
  · exact one_ lij hi hNi hc2 hdi (fun K hK => h1 _ w' (.inr rfl) hw K (fun w2 hw2 => hK.out _ _ hw2 (fun _ => by rw [put_comm hne]; exact h w2 hw2)))
end
/-! ### steps of a drawn region without a table -/
section
variable {P : Program} {ops : Array Oper} {Q : Exit → Act → World → Prop} {md : Region.Mode} {S : World → Prop} {ds : List Nat} {fuel : Nat} {l : Array Bool} {a a' : Act} {w : World} {oi : Oper} {v : Value}
theorem pq_ (i N : Nat) (l' : Array Bool) (h : wpAnyLast P md ops Q S ds fuel l' a' w) (hi : ops[i]? = some oi := by rfl) (hN : oi.dst = some N := by rfl) (hc : anyB md ops l l' i = true := by kernel_rfl) (hQ : ∀ c a w, Q (.panic c) (a.put oi.dst v) w → Q (.panic c) a w := by exact fun _ _ _ h => h)
  (hw : Region.wanted oi (yielded ops a.tmps) = true := by rfl) (hy : ∀ w, (execOp a.eval oi).run P w = .ok (.value v) w := by (intro w'; go_simp; with_reducible rfl)) (ha : a.put (some N) v = a' := by (simp only [Act.put, q1_, q2_, q3_, i64_w, i32_w]; rfl)) : wpAnyLast P md ops Q S ds (fuel + 1) l a w :=
  pure_ l' hi hN hc hQ (Or.inl ⟨hw, hy⟩) ha h
theorem tq_ (hS : S w) (i N : Nat) (l' : Array Bool) (h : wpAnyLast P md ops Q S ds fuel l' a' w) (hi : ops[i]? = some oi := by rfl) (hN : oi.dst = some N := by rfl) (hc : takeB md ops ds l l' i = true := by kernel_rfl) (hQ : ∀ c a w, Q (.panic c) (a.put oi.dst v) w → Q (.panic c) a w := by exact fun _ _ _ h => h)
  (hw : Region.wanted oi (yielded ops a.tmps) = true := by rfl) (hy : ∀ w, S w → (execOp a.eval oi).run P w = .ok (.value v) w := by (intro w' hs_; go_simp; with_reducible rfl)) (ha : a.put (some N) v = a' := by (simp only [Act.put, q1_, q2_, q3_, i64_w, i32_w]; rfl)) : wpAnyLast P md ops Q S ds (fuel + 1) l a w :=
  take_ l' hi hN hc hQ (Or.inl ⟨hw, hy⟩) hS ha h
end
/-! ### laws_FnTransferred: function 3 (given) -/
section
variable {k : Nat} {A1 A2 A3 A4 : Option Addr} {c1 c2 c3 c4 : Nat} {R : Int} {m t b : List Int} {w : World} {l : List S36}
theorem tm_go {x : Int} (h : spec_TotalMass.f k R l m t b = some x) (ha : Rd k36 w A1 c1 l A2 c2 m A3 c3 t A4 c4 b) :
    Calls Try.prog 18 #[.agg #[.int .i64 R, .slice A1 l.length c1, .slice A2 m.length c2, .slice A3 t.length c3, .slice A4 b.length c4]] w fun e w' => e = .returned (.int .i64 x) ∧ Below w.heap.size w w' :=
  spec_TotalMass.calls k R A1 c1 l A2 c2 m A3 c3 t A4 c4 b x w ha.r1 ha.k1 ha.r2 ha.k2 ha.r3 ha.k3 ha.r4 ha.k4 h
theorem tt_go {x : Int} (h : spec_TotalTracer.f k R l m t b = some x) (ha : Rd k36 w A1 c1 l A2 c2 m A3 c3 t A4 c4 b) :
    Calls Try.prog 19 #[.agg #[.int .i64 R, .slice A1 l.length c1, .slice A2 m.length c2, .slice A3 t.length c3, .slice A4 b.length c4]] w fun e w' => e = .returned (.int .i64 x) ∧ Below w.heap.size w w' :=
  spec_TotalTracer.calls k R A1 c1 l A2 c2 m A3 c3 t A4 c4 b x w ha.r1 ha.k1 ha.r2 ha.k2 ha.r3 ha.k3 ha.r4 ha.k4 h
theorem mc_go {i : Int} {x : Bool} (h : spec_MayCoarsen.f k R l i = some x) (ha : Rd k36 w A1 c1 l A2 c2 m A3 c3 t A4 c4 b) :
    Calls Try.prog 21 #[.agg #[.int .i64 R, .slice A1 l.length c1], .int .i64 i] w fun e w' => e = .returned (.bool x) ∧ Below w.heap.size w w' := spec_MayCoarsen.calls k R A1 c1 l i x w ha.r1 ha.k1 h
theorem ds_go {A0 : Option Addr} {c0 : Nat} {l0 : List Int} (h : spec_DrawState.f k l0 = some (R, l, m, t, b)) (hr : Kd.C (Kd.int .u8) w A0 l0.length l0) (hc : l0.length ≤ c0) :
    Calls Try.prog 14 #[.slice A0 l0.length c0] w (Made w R l m t b .returned) := (spec_DrawState.calls k A0 c0 l0 R l m t b w hr hc h).mono (fun _ _ hq => Made.of_ hq)
end
/-- What the law asks of a refined state. -/
structure Good (k : Nat) (R : Int) (b : List Int) (M T : Int) (l : List S36) (m t : List Int) : Prop where
  sok : spec_StateOk.f k R l m t b = some true
  mass : spec_TotalMass.f k R l m t b = some M
  tr : spec_TotalTracer.f k R l m t b = some T
  len : m.length < 4611686018427387904
  co : ∀ j : Nat, j < m.length → ∃ (is : Bool) (l3 : List S36) (m3 t3 : List Int), spec_MayCoarsen.f k R l (j : Int) = some is ∧ spec_StateOk.f k R l3 m3 t3 b = some true ∧ spec_TotalMass.f k R l3 m3 t3 b = some M ∧ spec_TotalTracer.f k R l3 m3 t3 b = some T ∧
    (∀ (w : World) (A1 A2 A3 A4 : Option Addr) (c1 c2 c3 c4 : Nat), Rd k36 w A1 c1 l A2 c2 m A3 c3 t A4 c4 b → Calls Try.prog 20 #[.agg #[.int .i64 R, .slice A1 l.length c1, .slice A2 m.length c2, .slice A3 t.length c3, .slice A4 b.length c4], .int .i64 (j : Int)] w (Made w R l3 m3 t3 b (fun v => .returned (.tuple #[v, .bool is]))))
set_option maxHeartbeats 8000000 in
set_option maxRecDepth 100000 in
theorem law_big (A0 : Option Addr) (c0 : Nat) (l0 : List Int) (w : World) (hr0 : Kd.C (Kd.int .u8) w A0 l0.length l0) (hc0 : l0.length ≤ c0) (hb : laws_big.f l0 = some true) :
    Calls Try.prog 3 #[.slice A0 l0.length c0] w fun e w' => e = .returned (.bool true) ∧ Below w.heap.size w w' := by
  have HR := Aside0.mk hr0; have HC := Aside0.mk hc0; have HBIG := Aside0.mk hb; have HB := Aside0.mk (Below.refl w.heap.size w)
  clear hr0 hc0 hb
  go_enter Try.func3, Try.ntmps3
  go_wp2_with (first
   | ((with_reducible refine gate_dst (N := 12) rfl ?_); refine goesL_ (some 12) rfl rfl Try.func13 (by kernel_rfl) rfl #[.slice A0 l0.length c0] rfl (by first | rfl | (simp only [List.map_toArray, List.map_cons, List.map_nil]; rfl)) ?_; refine (laws_big.calls A0 c0 l0 _ _ (Kd.C_below HR.out HB.out) HC.out HBIG.out).mono ?_; rintro e w12 ⟨rfl, hq⟩; have hb := hq.below; clear hq; refine ⟨_, rfl, ?_⟩; replace HB := Aside0.mk (below_step HB.out hb); clear hb))
  go_ret
  exact ⟨rfl, HB.out⟩
set_option maxHeartbeats 16000000 in
set_option maxRecDepth 100000 in
theorem law_walk (k : Nat) (A0 : Option Addr) (c0 : Nat) (l0 : List Int) (w : World) (hr0 : Kd.C (Kd.int .u8) w A0 l0.length l0) (hc0 : l0.length ≤ c0) (hbig : laws_big.f l0 = some false) (R : Int) (l : List S36) (m t b p : List Int) (hds : spec_DrawState.f k l0 = some (R, l, m, t, b)) (hdp : spec_DrawPlaces.f k l0 = some p) (hp0 : 0 < p.length) (hm0 : 0 < m.length)
    (i : Nat) (hi : Int.tmod (rd p 0) (m.length : Int) = (i : Int)) (hil : i < l.length) (M T : Int) (hM : spec_TotalMass.f k R l m t b = some M) (hT : spec_TotalTracer.f k R l m t b = some T) (ok : Bool) (hok : ok = decide ((rd_T36 l (i : Int)).f1 < 4)) (P : List S36 → List Int → List Int → Prop)
    (hbr : ∀ (w : World) (A1 A2 A3 A4 : Option Addr) (c1 c2 c3 c4 : Nat), Rd k36 w A1 c1 l A2 c2 m A3 c3 t A4 c4 b → Calls Try.prog 16 #[.agg #[.int .i64 R, .slice A1 l.length c1, .slice A2 m.length c2, .slice A3 t.length c3, .slice A4 b.length c4], .int .i64 (i : Int)] w (fun e w' => ∃ l2 m2 t2, P l2 m2 t2 ∧ Made w R l2 m2 t2 b (fun v => .returned (.tuple #[v, .bool ok])) e w'))
    (hgood : ∀ l2 m2 t2, P l2 m2 t2 → Good k R b M T l2 m2 t2) :
    Calls Try.prog 3 #[.slice A0 l0.length c0] w fun e w' => e = .returned (.bool true) ∧ Below w.heap.size w w' := by
  have hu29 := Try.underlying29
  have hu26 := Try.underlying26
  have HR := Aside0.mk hr0; have HC := Aside0.mk hc0; have HBIG := Aside0.mk hbig; have HB := Aside0.mk (Below.refl w.heap.size w); have HDS := Aside0.mk hds; have HDP := Aside0.mk hdp; have HI := Aside0.mk (And.intro hi (And.intro hil (And.intro hp0 hm0))); have HMT := Aside0.mk (And.intro hM hT); have HBR := Aside0.mk hbr; have HG := Aside0.mk hgood
  clear hr0 hc0 hbig hds hdp hi hil hp0 hm0 hM hT hbr hgood
  subst hok
  go_enter Try.func3, Try.ntmps3
  go_wp2_with (first
   | ((with_reducible refine gate_dst (N := 12) rfl ?_); refine goesL_ (some 12) rfl rfl Try.func13 (by kernel_rfl) rfl #[.slice A0 l0.length c0] rfl (by first | rfl | (simp only [List.map_toArray, List.map_cons, List.map_nil]; rfl)) ?_; refine (laws_big.calls A0 c0 l0 _ _ (Kd.C_below HR.out HB.out) HC.out HBIG.out).mono ?_; rintro e w12 ⟨rfl, hq⟩; have hb := hq.below; clear hq; refine ⟨_, rfl, ?_⟩; replace HB := Aside0.mk (below_step HB.out hb); clear hb)
   | ((with_reducible refine gate_dst (N := 14) rfl ?_); refine goesL_ (some 14) rfl rfl Try.func14 (by kernel_rfl) rfl #[.slice A0 l0.length c0] rfl (by first | rfl | (simp only [List.map_toArray, List.map_cons, List.map_nil]; rfl)) ?_; refine (ds_go HDS.out (Kd.C_below HR.out HB.out) HC.out).mono ?_; rintro e w14 ⟨S1, s1, S2, s2, S3, s3, S4, s4, rfl, ho, hb⟩; refine ⟨_, rfl, ?_⟩; have LS := Aside0.mk (szl HB.out hb); replace HB := Aside0.mk (below_step HB.out hb); have OS := Aside0.mk ho; clear ho; clear hb)
   | ((with_reducible refine gate_dst (N := 3) rfl ?_); refine box_event ?hg (N := 3) ?hd (cs := #[.int .i64 0, .slice none 0 0, .slice none 0 0, .slice none 0 0, .slice none 0 0]) (t := 29) ?hr ?_; (case hd => rfl); (case hg => rfl); (case hr => first | (go_simp; done) | (go_simp; rfl)); intro gA hg w_3 hbox hb; have GEA := Aside0.mk (by rw [hg]; exact HB.out.size : w.heap.size ≤ gA); replace OS := Aside0.mk (OS.out.below hb); replace HB := Aside0.mk (below_step HB.out hb); clear hb hg; have BA := Aside0.mk hbox; clear hbox; have hzA := cells5 BA.out; have hf := free5 BA.out)
   | ((with_reducible refine gate_dst (N := 16) rfl ?_); refine goesL_ (some 16) rfl rfl Try.func15 (by kernel_rfl) rfl #[.slice A0 l0.length c0] rfl (by first | rfl | (simp only [List.map_toArray, List.map_cons, List.map_nil]; rfl)) ?_; refine (spec_DrawPlaces.calls k A0 c0 l0 p _ (Kd.C_below HR.out (set5_below HB.out GEA.out)) HC.out HDP.out).mono ?_; rintro e w16 ⟨v0, rfl, hp, hb⟩; refine ⟨_, rfl, ?_⟩; replace OS := Aside0.mk ((OS.out.set5 BA.out).below hb); replace BA := Aside0.mk (blk_below (set5_here BA.out _ _ _ _ _) hb); replace HB := Aside0.mk (below_step (set5_below HB.out GEA.out) hb); have HPL := Aside0.mk hp; clear hp; clear hzA hb hf; have hzA := cells5 BA.out))
  obtain ⟨PA, pc, rfl⟩ := Kd.R_slice HPL.out
  have p0 : 0 ≤ (0 : Int) := by omega
  have q0 : 0 < (p.length : Int) := by have := HI.out.2.2.1; omega
  obtain ⟨ad, e0, hx0⟩ := Kd.at_int (OwnK.R_C HPL.out) 0 p0 q0
  cases e0
  have qi : (0 < p.length) = True := eq_true (by omega)
  have qm : ((m.length : Int) == 0) = false := beq_eq_false_iff_ne.mpr (by have := HI.out.2.2.2; omega)
  have qn : (m = []) = False := eq_false (by intro e; have := HI.out.2.2.2; rw [e] at this; exact absurd this (by decide))
  rw [show ((0 : Int)).toNat = 0 from rfl] at hx0
  rw [Addr.add_zero'] at hx0
  replace p0 := eq_true p0
  replace q0 := eq_true q0
  have hd := (Below.refl w16.heap.size w16).drew
  replace BA := Aside0.mk (blk_below BA.out hd); replace OS := Aside0.mk (OS.out.below hd); replace HB := Aside0.mk (below_step HB.out hd); have HX := Aside0.mk (pw_cell_below hd hx0)
  clear hd hx0 hzA
  refine start_ (n := 8) (S := fun w' => (w'.cell? ⟨gA, 0, none⟩ = some (.int .i64 R) ∧ w'.cell? ⟨gA, 1, none⟩ = some (.slice S1 l.length s1) ∧ w'.cell? ⟨gA, 2, none⟩ = some (.slice S2 m.length s2) ∧ w'.cell? ⟨gA, 3, none⟩ = some (.slice S3 t.length s3) ∧ w'.cell? ⟨gA, 4, none⟩ = some (.slice S4 b.length s4)) ∧ w'.cell? ad = some (.int .i64 (rd p 0))) (ds := []) #[N_,N_,N_,N_,N_,N_,N_,N_] (by kernel_rfl) rfl rfl ⟨cells5 BA.out, HX.out⟩ (fun hHeld => ?_)
  generalize w16.drew = w17 at BA OS HB HX hHeld ⊢
  refine pq_ 0 17 #[Y_,N_,N_,N_,N_,N_,N_,N_] ?_
  refine pq_ 1 18 #[Y_,Y_,N_,N_,N_,N_,N_,N_] ?_
  refine tq_ hHeld 2 19 #[Y_,Y_,Y_,N_,N_,N_,N_,N_] ?_
  refine pq_ 3 20 #[Y_,Y_,Y_,Y_,N_,N_,N_,N_] ?_
  refine tq_ hHeld 4 21 #[Y_,Y_,Y_,Y_,Y_,N_,N_,N_] ?_
  refine pq_ 5 22 #[Y_,Y_,Y_,Y_,Y_,Y_,N_,N_] ?_
  refine pq_ 6 23 #[Y_,Y_,Y_,Y_,Y_,Y_,Y_,N_] ?_
  refine pq_ 7 5 #[Y_,Y_,Y_,Y_,Y_,Y_,Y_,Y_] ?_
  refine done_ (by kernel_rfl) ?_
  rw [HI.out.1]
  clear hHeld HX qi qm qn p0 q0
  have hzA := cells5 BA.out
  go_wp2_with (first
   | ((with_reducible refine gate_dst (N := 27) rfl ?_); refine goesL_ (some 27) rfl rfl Try.func16 (by kernel_rfl) rfl #[.agg #[.int .i64 R, .slice S1 l.length s1, .slice S2 m.length s2, .slice S3 t.length s3, .slice S4 b.length s4], .int .i64 (i : Int)] rfl (by first | rfl | (simp only [List.map_toArray, List.map_cons, List.map_nil]; rfl)) ?_; refine (HBR.out _ _ _ _ _ _ _ _ _ OS.out.rd).mono ?_; rintro e w27 ⟨l2, m2, t2, hpp, X1, x1, X2, x2, X3, x3, X4, x4, rfl, ho, hb⟩; refine ⟨_, rfl, ?_⟩; have LX := Aside0.mk (szl HB.out hb); replace BA := Aside0.mk (blk_below BA.out hb); replace OS := Aside0.mk (OS.out.below hb); replace HB := Aside0.mk (below_step HB.out hb); have OX := Aside0.mk ho; clear ho; clear hzA hb; have hzA := cells5 BA.out)
   | ((with_reducible refine gate_dst (N := 6) rfl ?_); refine box_event ?hg (N := 6) ?hd (cs := #[.int .i64 0, .slice none 0 0, .slice none 0 0, .slice none 0 0, .slice none 0 0]) (t := 29) ?hr ?_; (case hd => rfl); (case hg => rfl); (case hr => first | (go_simp; done) | (go_simp; rfl)); intro gX hg w_6 hbox hb; have GEX := Aside0.mk (by rw [hg]; exact HB.out.size : w.heap.size ≤ gX); have NAX := Aside0.mk (by rw [hg]; exact Nat.ne_of_lt (blk_lt BA.out) : gA ≠ gX); have NXA := Aside0.mk (Ne.symm NAX.out); have nAX := NAX.out; have nXA := NXA.out; replace BA := Aside0.mk (blk_below BA.out hb); replace OS := Aside0.mk (OS.out.below hb); replace OX := Aside0.mk (OX.out.below hb); replace HB := Aside0.mk (below_step HB.out hb); clear hzA hb hg; have BX := Aside0.mk hbox; clear hbox; have hzA := cells5 BA.out; have hzX := cells5 BX.out; have hf := free5 BX.out))
  have hG := HG.out l2 m2 t2 hpp
  have HGd := Aside0.mk hG
  clear hpp hG hf hzA hzX
  replace OS := Aside0.mk (show Ow _ _ (((((w_6.setCell ⟨gX, 0, none⟩ (.int .i64 R)).setCell ⟨gX, 1, none⟩ (.slice X1 l2.length x1)).setCell ⟨gX, 2, none⟩ (.slice X2 m2.length x2)).setCell ⟨gX, 3, none⟩ (.slice X3 t2.length x3)).setCell ⟨gX, 4, none⟩ (.slice X4 b.length x4)) _ _ _ _ _ _ _ _ from OS.out.set5 BX.out); replace OX := Aside0.mk (show Ow _ _ (((((w_6.setCell ⟨gX, 0, none⟩ (.int .i64 R)).setCell ⟨gX, 1, none⟩ (.slice X1 l2.length x1)).setCell ⟨gX, 2, none⟩ (.slice X2 m2.length x2)).setCell ⟨gX, 3, none⟩ (.slice X3 t2.length x3)).setCell ⟨gX, 4, none⟩ (.slice X4 b.length x4)) _ _ _ _ _ _ _ _ from OX.out.set5 BX.out); replace BA := Aside0.mk (show (((((w_6.setCell ⟨gX, 0, none⟩ (.int .i64 R)).setCell ⟨gX, 1, none⟩ (.slice X1 l2.length x1)).setCell ⟨gX, 2, none⟩ (.slice X2 m2.length x2)).setCell ⟨gX, 3, none⟩ (.slice X3 t2.length x3)).setCell ⟨gX, 4, none⟩ (.slice X4 b.length x4)).heap[gA]? = _ from set5_blk BA.out NAX.out); replace HB := Aside0.mk (show Below _ _ (((((w_6.setCell ⟨gX, 0, none⟩ (.int .i64 R)).setCell ⟨gX, 1, none⟩ (.slice X1 l2.length x1)).setCell ⟨gX, 2, none⟩ (.slice X2 m2.length x2)).setCell ⟨gX, 3, none⟩ (.slice X3 t2.length x3)).setCell ⟨gX, 4, none⟩ (.slice X4 b.length x4)) from set5_below HB.out GEX.out); replace BX := Aside0.mk (show (((((w_6.setCell ⟨gX, 0, none⟩ (.int .i64 R)).setCell ⟨gX, 1, none⟩ (.slice X1 l2.length x1)).setCell ⟨gX, 2, none⟩ (.slice X2 m2.length x2)).setCell ⟨gX, 3, none⟩ (.slice X3 t2.length x3)).setCell ⟨gX, 4, none⟩ (.slice X4 b.length x4)).heap[gX]? = _ from set5_here BX.out _ _ _ _ _)
  generalize ((((w_6.setCell ⟨gX, 0, none⟩ (.int .i64 R)).setCell ⟨gX, 1, none⟩ (.slice X1 l2.length x1)).setCell ⟨gX, 2, none⟩ (.slice X2 m2.length x2)).setCell ⟨gX, 3, none⟩ (.slice X3 t2.length x3)).setCell ⟨gX, 4, none⟩ (.slice X4 b.length x4) = w60 at OS OX BA HB BX ⊢
  have hd := (Below.refl w60.heap.size w60).drew
  replace BA := Aside0.mk (blk_below BA.out hd); replace BX := Aside0.mk (blk_below BX.out hd); replace OS := Aside0.mk (OS.out.below hd); replace OX := Aside0.mk (OX.out.below hd); replace HB := Aside0.mk (below_step HB.out hd)
  obtain ⟨ad3, e3, hx30, hx31, hx32⟩ := at_T36 (OwnK.R_C OS.out.r1) (i : Int) (by omega) (by have := HI.out.2.1; omega)
  cases e3
  have HX3 := Aside0.mk hx31
  have p3 : (0 ≤ (i : Int)) = True := eq_true (by omega)
  have q3 : ((i : Int) < (l.length : Int)) = True := eq_true (by have := HI.out.2.1; omega)
  have r3 : (i < l.length) = True := eq_true HI.out.2.1
  clear hd hx30 hx31 hx32
  have hSt := Aside0.mk (show ∀ w', Below w60.drew.heap.size w60.drew w' → (((w'.cell? ⟨gA, 0, none⟩ = some (.int .i64 R) ∧ w'.cell? ⟨gA, 1, none⟩ = some (.slice (some ad3) l.length s1) ∧ w'.cell? ⟨gA, 2, none⟩ = some (.slice S2 m.length s2) ∧ w'.cell? ⟨gA, 3, none⟩ = some (.slice S3 t.length s3) ∧ w'.cell? ⟨gA, 4, none⟩ = some (.slice S4 b.length s4)) ∧ (w'.cell? ⟨gX, 0, none⟩ = some (.int .i64 R) ∧ w'.cell? ⟨gX, 1, none⟩ = some (.slice X1 l2.length x1) ∧ w'.cell? ⟨gX, 2, none⟩ = some (.slice X2 m2.length x2) ∧ w'.cell? ⟨gX, 3, none⟩ = some (.slice X3 t2.length x3) ∧ w'.cell? ⟨gX, 4, none⟩ = some (.slice X4 b.length x4))) ∧ w'.cell? ⟨(ad3.add (i * 3)).block, (ad3.add (i * 3)).off + 1, none⟩ = some (.int .i64 (rd_T36 l (i : Int)).f1)) ∧ Below w60.drew.heap.size w60.drew w' from fun w' hb => ⟨⟨⟨cells5 (blk_below BA.out hb), cells5 (blk_below BX.out hb)⟩, pw_cell_below hb HX3.out⟩, hb⟩)
  refine start_ (n := 29) (S := fun w' => (((w'.cell? ⟨gA, 0, none⟩ = some (.int .i64 R) ∧ w'.cell? ⟨gA, 1, none⟩ = some (.slice (some ad3) l.length s1) ∧ w'.cell? ⟨gA, 2, none⟩ = some (.slice S2 m.length s2) ∧ w'.cell? ⟨gA, 3, none⟩ = some (.slice S3 t.length s3) ∧ w'.cell? ⟨gA, 4, none⟩ = some (.slice S4 b.length s4)) ∧ (w'.cell? ⟨gX, 0, none⟩ = some (.int .i64 R) ∧ w'.cell? ⟨gX, 1, none⟩ = some (.slice X1 l2.length x1) ∧ w'.cell? ⟨gX, 2, none⟩ = some (.slice X2 m2.length x2) ∧ w'.cell? ⟨gX, 3, none⟩ = some (.slice X3 t2.length x3) ∧ w'.cell? ⟨gX, 4, none⟩ = some (.slice X4 b.length x4))) ∧ w'.cell? ⟨(ad3.add (i * 3)).block, (ad3.add (i * 3)).off + 1, none⟩ = some (.int .i64 (rd_T36 l (i : Int)).f1)) ∧ Below w60.drew.heap.size w60.drew w') (ds := []) #[N_,N_,N_,N_,N_,N_,N_,N_,N_,N_,N_,N_,N_,N_,N_,N_,N_,N_,N_,N_,N_,N_,N_,N_,N_,N_,N_,N_,N_] (by kernel_rfl) rfl rfl (hSt.out _ (Below.refl _ _)) (fun hHeld => ?_)
  generalize w60.drew = w61 at BA BX OS OX HB hSt hHeld ⊢
  refine tq_ hHeld 0 30 #[Y_,N_,N_,N_,N_,N_,N_,N_,N_,N_,N_,N_,N_,N_,N_,N_,N_,N_,N_,N_,N_,N_,N_,N_,N_,N_,N_,N_,N_] ?_
  refine one_ (i := 1) (N := some 31) #[Y_,Y_,N_,N_,N_,N_,N_,N_,N_,N_,N_,N_,N_,N_,N_,N_,N_,N_,N_,N_,N_,N_,N_,N_,N_,N_,N_,N_,N_] rfl rfl (by kernel_rfl) (by decide) (fun K hK => ?_)
  refine goes_ Try.func17 (by kernel_rfl) (by kernel_rfl) #[.agg #[.int .i64 R, .slice X1 l2.length x1, .slice X2 m2.length x2, .slice X3 t2.length x3, .slice X4 b.length x4]] (by rfl) rfl rfl (by simp [Act.eval]) ?_
  refine (sok_go HGd.out.sok (OX.out.below hHeld.2).rd).mono ?_
  rintro e w9 ⟨rfl, hb⟩
  refine ⟨_, rfl, ?_⟩
  refine hK.out _ _ (hSt.out _ (below_step hHeld.2 hb)) (fun hHeld => ?_)
  clear hK K hb
  refine norm_ (a' := ?_) ?_ ?_
  rotate_left
  · (show Act.put _ (some 31) _ = _; simp only [Act.put, q1_, q2_, q3_, i64_w, i32_w]; rfl)
  refine pq_ 2 32 #[Y_,Y_,Y_,N_,N_,N_,N_,N_,N_,N_,N_,N_,N_,N_,N_,N_,N_,N_,N_,N_,N_,N_,N_,N_,N_,N_,N_,N_,N_] ?_
  refine pq_ 3 33 #[Y_,Y_,Y_,Y_,N_,N_,N_,N_,N_,N_,N_,N_,N_,N_,N_,N_,N_,N_,N_,N_,N_,N_,N_,N_,N_,N_,N_,N_,N_] ?_
  refine pq_ 4 34 #[Y_,Y_,Y_,Y_,Y_,N_,N_,N_,N_,N_,N_,N_,N_,N_,N_,N_,N_,N_,N_,N_,N_,N_,N_,N_,N_,N_,N_,N_,N_] ?_
  refine pq_ 5 35 #[Y_,Y_,Y_,Y_,Y_,Y_,N_,N_,N_,N_,N_,N_,N_,N_,N_,N_,N_,N_,N_,N_,N_,N_,N_,N_,N_,N_,N_,N_,N_] ?_
  refine pq_ 6 36 #[Y_,Y_,Y_,Y_,Y_,Y_,Y_,N_,N_,N_,N_,N_,N_,N_,N_,N_,N_,N_,N_,N_,N_,N_,N_,N_,N_,N_,N_,N_,N_] ?_
  refine tq_ hHeld 7 37 #[Y_,Y_,Y_,Y_,Y_,Y_,Y_,Y_,N_,N_,N_,N_,N_,N_,N_,N_,N_,N_,N_,N_,N_,N_,N_,N_,N_,N_,N_,N_,N_] ?_
  refine pq_ 8 38 #[Y_,Y_,Y_,Y_,Y_,Y_,Y_,Y_,Y_,N_,N_,N_,N_,N_,N_,N_,N_,N_,N_,N_,N_,N_,N_,N_,N_,N_,N_,N_,N_] ?_
  refine pq_ 9 39 #[Y_,Y_,Y_,Y_,Y_,Y_,Y_,Y_,Y_,Y_,N_,N_,N_,N_,N_,N_,N_,N_,N_,N_,N_,N_,N_,N_,N_,N_,N_,N_,N_] ?_
  refine pq_ 10 40 #[Y_,Y_,Y_,Y_,Y_,Y_,Y_,Y_,Y_,Y_,Y_,N_,N_,N_,N_,N_,N_,N_,N_,N_,N_,N_,N_,N_,N_,N_,N_,N_,N_] ?_
  refine tq_ hHeld 11 41 #[Y_,Y_,Y_,Y_,Y_,Y_,Y_,Y_,Y_,Y_,Y_,Y_,N_,N_,N_,N_,N_,N_,N_,N_,N_,N_,N_,N_,N_,N_,N_,N_,N_] ?_
  refine pq_ 12 42 #[Y_,Y_,Y_,Y_,Y_,Y_,Y_,Y_,Y_,Y_,Y_,Y_,Y_,N_,N_,N_,N_,N_,N_,N_,N_,N_,N_,N_,N_,N_,N_,N_,N_] ?_
  refine pq_ 13 43 #[Y_,Y_,Y_,Y_,Y_,Y_,Y_,Y_,Y_,Y_,Y_,Y_,Y_,Y_,N_,N_,N_,N_,N_,N_,N_,N_,N_,N_,N_,N_,N_,N_,N_] ?_
  refine pq_ 14 44 #[Y_,Y_,Y_,Y_,Y_,Y_,Y_,Y_,Y_,Y_,Y_,Y_,Y_,Y_,Y_,N_,N_,N_,N_,N_,N_,N_,N_,N_,N_,N_,N_,N_,N_] ?_
  refine pq_ 15 45 #[Y_,Y_,Y_,Y_,Y_,Y_,Y_,Y_,Y_,Y_,Y_,Y_,Y_,Y_,Y_,Y_,N_,N_,N_,N_,N_,N_,N_,N_,N_,N_,N_,N_,N_] ?_
  refine tq_ hHeld 16 46 #[Y_,Y_,Y_,Y_,Y_,Y_,Y_,Y_,Y_,Y_,Y_,Y_,Y_,Y_,Y_,Y_,Y_,N_,N_,N_,N_,N_,N_,N_,N_,N_,N_,N_,N_] ?_
  refine tq_ hHeld 18 48 #[Y_,Y_,Y_,Y_,Y_,Y_,Y_,Y_,Y_,Y_,Y_,Y_,Y_,Y_,Y_,Y_,Y_,N_,Y_,N_,N_,N_,N_,N_,N_,N_,N_,N_,N_] ?_
  refine one_ (i := 17) (N := some 47) #[Y_,Y_,Y_,Y_,Y_,Y_,Y_,Y_,Y_,Y_,Y_,Y_,Y_,Y_,Y_,Y_,Y_,Y_,Y_,N_,N_,N_,N_,N_,N_,N_,N_,N_,N_] rfl rfl (by kernel_rfl) (by decide) (fun K hK => ?_)
  refine goes_ Try.func18 (by kernel_rfl) (by kernel_rfl) #[.agg #[.int .i64 R, .slice X1 l2.length x1, .slice X2 m2.length x2, .slice X3 t2.length x3, .slice X4 b.length x4]] (by rfl) rfl rfl (by simp [Act.eval]) ?_
  refine (tm_go HGd.out.mass (OX.out.below hHeld.2).rd).mono ?_
  rintro e w9 ⟨rfl, hb⟩
  refine ⟨_, rfl, ?_⟩
  refine hK.out _ _ (hSt.out _ (below_step hHeld.2 hb)) (fun hHeld => ?_)
  clear hK K hb
  refine norm_ (a' := ?_) ?_ ?_
  rotate_left
  · (show Act.put _ (some 47) _ = _; simp only [Act.put, q1_, q2_, q3_, i64_w, i32_w]; rfl)
  refine one_ (i := 19) (N := some 49) #[Y_,Y_,Y_,Y_,Y_,Y_,Y_,Y_,Y_,Y_,Y_,Y_,Y_,Y_,Y_,Y_,Y_,Y_,Y_,Y_,N_,N_,N_,N_,N_,N_,N_,N_,N_] rfl rfl (by kernel_rfl) (by decide) (fun K hK => ?_)
  refine goes_ Try.func18 (by kernel_rfl) (by kernel_rfl) #[.agg #[.int .i64 R, .slice (some ad3) l.length s1, .slice S2 m.length s2, .slice S3 t.length s3, .slice S4 b.length s4]] (by rfl) rfl rfl (by simp [Act.eval]) ?_
  refine (tm_go HMT.out.1 (OS.out.below hHeld.2).rd).mono ?_
  rintro e w9 ⟨rfl, hb⟩
  refine ⟨_, rfl, ?_⟩
  refine hK.out _ _ (hSt.out _ (below_step hHeld.2 hb)) (fun hHeld => ?_)
  clear hK K hb
  refine norm_ (a' := ?_) ?_ ?_
  rotate_left
  · (show Act.put _ (some 49) _ = _; simp only [Act.put, q1_, q2_, q3_, i64_w, i32_w]; rfl)
  refine pq_ 20 50 #[Y_,Y_,Y_,Y_,Y_,Y_,Y_,Y_,Y_,Y_,Y_,Y_,Y_,Y_,Y_,Y_,Y_,Y_,Y_,Y_,Y_,N_,N_,N_,N_,N_,N_,N_,N_] ?_
  refine pq_ 21 51 #[Y_,Y_,Y_,Y_,Y_,Y_,Y_,Y_,Y_,Y_,Y_,Y_,Y_,Y_,Y_,Y_,Y_,Y_,Y_,Y_,Y_,Y_,N_,N_,N_,N_,N_,N_,N_] ?_
  refine pq_ 22 52 #[Y_,Y_,Y_,Y_,Y_,Y_,Y_,Y_,Y_,Y_,Y_,Y_,Y_,Y_,Y_,Y_,Y_,Y_,Y_,Y_,Y_,Y_,Y_,N_,N_,N_,N_,N_,N_] ?_
  refine tq_ hHeld 23 53 #[Y_,Y_,Y_,Y_,Y_,Y_,Y_,Y_,Y_,Y_,Y_,Y_,Y_,Y_,Y_,Y_,Y_,Y_,Y_,Y_,Y_,Y_,Y_,Y_,N_,N_,N_,N_,N_] ?_
  refine tq_ hHeld 25 55 #[Y_,Y_,Y_,Y_,Y_,Y_,Y_,Y_,Y_,Y_,Y_,Y_,Y_,Y_,Y_,Y_,Y_,Y_,Y_,Y_,Y_,Y_,Y_,Y_,N_,Y_,N_,N_,N_] ?_
  refine one_ (i := 24) (N := some 54) #[Y_,Y_,Y_,Y_,Y_,Y_,Y_,Y_,Y_,Y_,Y_,Y_,Y_,Y_,Y_,Y_,Y_,Y_,Y_,Y_,Y_,Y_,Y_,Y_,Y_,Y_,N_,N_,N_] rfl rfl (by kernel_rfl) (by decide) (fun K hK => ?_)
  refine goes_ Try.func19 (by kernel_rfl) (by kernel_rfl) #[.agg #[.int .i64 R, .slice X1 l2.length x1, .slice X2 m2.length x2, .slice X3 t2.length x3, .slice X4 b.length x4]] (by rfl) rfl rfl (by simp [Act.eval]) ?_
  refine (tt_go HGd.out.tr (OX.out.below hHeld.2).rd).mono ?_
  rintro e w9 ⟨rfl, hb⟩
  refine ⟨_, rfl, ?_⟩
  refine hK.out _ _ (hSt.out _ (below_step hHeld.2 hb)) (fun hHeld => ?_)
  clear hK K hb
  refine norm_ (a' := ?_) ?_ ?_
  rotate_left
  · (show Act.put _ (some 54) _ = _; simp only [Act.put, q1_, q2_, q3_, i64_w, i32_w]; rfl)
  refine one_ (i := 26) (N := some 56) #[Y_,Y_,Y_,Y_,Y_,Y_,Y_,Y_,Y_,Y_,Y_,Y_,Y_,Y_,Y_,Y_,Y_,Y_,Y_,Y_,Y_,Y_,Y_,Y_,Y_,Y_,Y_,N_,N_] rfl rfl (by kernel_rfl) (by decide) (fun K hK => ?_)
  refine goes_ Try.func19 (by kernel_rfl) (by kernel_rfl) #[.agg #[.int .i64 R, .slice (some ad3) l.length s1, .slice S2 m.length s2, .slice S3 t.length s3, .slice S4 b.length s4]] (by rfl) rfl rfl (by simp [Act.eval]) ?_
  refine (tt_go HMT.out.2 (OS.out.below hHeld.2).rd).mono ?_
  rintro e w9 ⟨rfl, hb⟩
  refine ⟨_, rfl, ?_⟩
  refine hK.out _ _ (hSt.out _ (below_step hHeld.2 hb)) (fun hHeld => ?_)
  clear hK K hb
  refine norm_ (a' := ?_) ?_ ?_
  rotate_left
  · (show Act.put _ (some 56) _ = _; simp only [Act.put, q1_, q2_, q3_, i64_w, i32_w]; rfl)
  refine pq_ 27 57 #[Y_,Y_,Y_,Y_,Y_,Y_,Y_,Y_,Y_,Y_,Y_,Y_,Y_,Y_,Y_,Y_,Y_,Y_,Y_,Y_,Y_,Y_,Y_,Y_,Y_,Y_,Y_,Y_,N_] ?_
  refine pq_ 28 58 #[Y_,Y_,Y_,Y_,Y_,Y_,Y_,Y_,Y_,Y_,Y_,Y_,Y_,Y_,Y_,Y_,Y_,Y_,Y_,Y_,Y_,Y_,Y_,Y_,Y_,Y_,Y_,Y_,Y_] ?_
  refine done_ (by kernel_rfl) ?_
  have hb9 := hHeld.2
  clear hHeld hSt
  replace BA := Aside0.mk (blk_below BA.out hb9); replace BX := Aside0.mk (blk_below BX.out hb9); replace OS := Aside0.mk (OS.out.below hb9); replace OX := Aside0.mk (OX.out.below hb9); replace HB := Aside0.mk (below_step HB.out hb9)
  clear hb9
  have hzA := cells5 BA.out; have hzX := cells5 BX.out
  try go_wp2
  clear hzA hzX
  go_loopg [8] m2.length (fun gg v8 w' => ∃ j : Nat, j ≤ m2.length ∧ m2.length - j ≤ gg ∧ v8 = .int .i64 (j : Int) ∧ Aside0 (w'.heap[gA]? = some (.cells #[.int .i64 R, .slice (some ad3) l.length s1, .slice S2 m.length s2, .slice S3 t.length s3, .slice S4 b.length s4] 29 (0, 0))) ∧ Aside0 (w'.heap[gX]? = some (.cells #[.int .i64 R, .slice X1 l2.length x1, .slice X2 m2.length x2, .slice X3 t2.length x3, .slice X4 b.length x4] 29 (0, 0))) ∧ Aside0 (∃ lo hi, Ow lo hi w' (.slice (some ad3) l.length s1) l (.slice S2 m.length s2) m (.slice S3 t.length s3) t (.slice S4 b.length s4) b) ∧ Aside0 (∃ lo hi, Ow lo hi w' (.slice X1 l2.length x1) l2 (.slice X2 m2.length x2) m2 (.slice X3 t2.length x3) t2 (.slice X4 b.length x4) b) ∧ Aside0 (Below w.heap.size w w'))
  case atStart => exact ⟨0, Nat.zero_le _, by omega, rfl, BA, BX, ⟨_, _, OS.out⟩, ⟨_, _, OX.out⟩, HB⟩
  case round =>
  clear BA BX OS OX HB
  obtain ⟨j, hj, hgj, rfl, BA, BX, ⟨_, _, hos⟩, ⟨_, _, hox⟩, HB⟩ := hrel
  have OS := Aside0.mk hos; have OX := Aside0.mk hox
  clear hos hox
  have hzA := cells5 BA.out; have hzX := cells5 BX.out
  by_cases hlt : j < m2.length
  rotate_left
  · have hd : decide ((j : Int) < (m2.length : Int)) = false := decide_eq_false (by omega)
    have hd2 : (j < m2.length) = False := eq_false hlt
    go_wp2
    go_ret
    exact ⟨rfl, HB.out⟩
  cases gk with
  | zero => exact absurd hgj (by omega)
  | succ k1 =>
  obtain ⟨is, l3, m3, t3, hmc, hs3, hm3, ht3, hco⟩ := HGd.out.co j hlt
  have HCO := Aside0.mk hco; have HMC := Aside0.mk hmc; have HS3 := Aside0.mk hs3; have HM3 := Aside0.mk hm3; have HT3 := Aside0.mk ht3
  clear hco hmc hs3 hm3 ht3
  have hd : decide ((j : Int) < (m2.length : Int)) = true := decide_eq_true (by omega)
  have hd2 : (j < m2.length) = True := eq_true hlt
  go_wp2_with (first
   | ((with_reducible refine gate_dst (N := 69) rfl ?_); refine goesL_ (some 69) rfl rfl Try.func20 (by kernel_rfl) rfl #[.agg #[.int .i64 R, .slice X1 l2.length x1, .slice X2 m2.length x2, .slice X3 t2.length x3, .slice X4 b.length x4], .int .i64 (j : Int)] rfl (by first | rfl | (simp only [List.map_toArray, List.map_cons, List.map_nil]; rfl)) ?_; refine (HCO.out _ _ _ _ _ _ _ _ _ OX.out.rd).mono ?_; rintro e w69 ⟨Y1, y1, Y2, y2, Y3, y3, Y4, y4, rfl, ho, hb⟩; refine ⟨_, rfl, ?_⟩; have LY := Aside0.mk (szl HB.out hb); replace BA := Aside0.mk (blk_below BA.out hb); replace BX := Aside0.mk (blk_below BX.out hb); replace OS := Aside0.mk (OS.out.below hb); replace OX := Aside0.mk (OX.out.below hb); replace HB := Aside0.mk (below_step HB.out hb); have OY := Aside0.mk ho; clear ho; clear hzA hzX hb; have hzA := cells5 BA.out; have hzX := cells5 BX.out)
   | ((with_reducible refine gate_dst (N := 9) rfl ?_); refine box_event ?hg (N := 9) ?hd (cs := #[.int .i64 0, .slice none 0 0, .slice none 0 0, .slice none 0 0, .slice none 0 0]) (t := 29) ?hr ?_; (case hd => rfl); (case hg => rfl); (case hr => first | (go_simp; done) | (go_simp; rfl)); intro gY hg w_9 hbox hb; have GEY := Aside0.mk (by rw [hg]; exact HB.out.size : w.heap.size ≤ gY); have NAY := Aside0.mk (by rw [hg]; exact Nat.ne_of_lt (blk_lt BA.out) : gA ≠ gY); have NYA := Aside0.mk (Ne.symm NAY.out); have nAY := NAY.out; have nYA := NYA.out; have NXY := Aside0.mk (by rw [hg]; exact Nat.ne_of_lt (blk_lt BX.out) : gX ≠ gY); have NYX := Aside0.mk (Ne.symm NXY.out); have nXY := NXY.out; have nYX := NYX.out; replace BA := Aside0.mk (blk_below BA.out hb); replace BX := Aside0.mk (blk_below BX.out hb); replace OS := Aside0.mk (OS.out.below hb); replace OX := Aside0.mk (OX.out.below hb); replace OY := Aside0.mk (OY.out.below hb); replace HB := Aside0.mk (below_step HB.out hb); clear hzA hzX hb hg; have BY := Aside0.mk hbox; clear hbox; have hzA := cells5 BA.out; have hzX := cells5 BX.out; have hzY := cells5 BY.out; have hf := free5 BY.out))
  clear hf hzA hzX hzY
  replace OS := Aside0.mk (show Ow _ _ (((((w_9.setCell ⟨gY, 0, none⟩ (.int .i64 R)).setCell ⟨gY, 1, none⟩ (.slice Y1 l3.length y1)).setCell ⟨gY, 2, none⟩ (.slice Y2 m3.length y2)).setCell ⟨gY, 3, none⟩ (.slice Y3 t3.length y3)).setCell ⟨gY, 4, none⟩ (.slice Y4 b.length y4)) _ _ _ _ _ _ _ _ from OS.out.set5 BY.out); replace OX := Aside0.mk (show Ow _ _ (((((w_9.setCell ⟨gY, 0, none⟩ (.int .i64 R)).setCell ⟨gY, 1, none⟩ (.slice Y1 l3.length y1)).setCell ⟨gY, 2, none⟩ (.slice Y2 m3.length y2)).setCell ⟨gY, 3, none⟩ (.slice Y3 t3.length y3)).setCell ⟨gY, 4, none⟩ (.slice Y4 b.length y4)) _ _ _ _ _ _ _ _ from OX.out.set5 BY.out); replace OY := Aside0.mk (show Ow _ _ (((((w_9.setCell ⟨gY, 0, none⟩ (.int .i64 R)).setCell ⟨gY, 1, none⟩ (.slice Y1 l3.length y1)).setCell ⟨gY, 2, none⟩ (.slice Y2 m3.length y2)).setCell ⟨gY, 3, none⟩ (.slice Y3 t3.length y3)).setCell ⟨gY, 4, none⟩ (.slice Y4 b.length y4)) _ _ _ _ _ _ _ _ from OY.out.set5 BY.out); replace BA := Aside0.mk (show (((((w_9.setCell ⟨gY, 0, none⟩ (.int .i64 R)).setCell ⟨gY, 1, none⟩ (.slice Y1 l3.length y1)).setCell ⟨gY, 2, none⟩ (.slice Y2 m3.length y2)).setCell ⟨gY, 3, none⟩ (.slice Y3 t3.length y3)).setCell ⟨gY, 4, none⟩ (.slice Y4 b.length y4)).heap[gA]? = _ from set5_blk BA.out NAY.out); replace BX := Aside0.mk (show (((((w_9.setCell ⟨gY, 0, none⟩ (.int .i64 R)).setCell ⟨gY, 1, none⟩ (.slice Y1 l3.length y1)).setCell ⟨gY, 2, none⟩ (.slice Y2 m3.length y2)).setCell ⟨gY, 3, none⟩ (.slice Y3 t3.length y3)).setCell ⟨gY, 4, none⟩ (.slice Y4 b.length y4)).heap[gX]? = _ from set5_blk BX.out NXY.out); replace HB := Aside0.mk (show Below _ _ (((((w_9.setCell ⟨gY, 0, none⟩ (.int .i64 R)).setCell ⟨gY, 1, none⟩ (.slice Y1 l3.length y1)).setCell ⟨gY, 2, none⟩ (.slice Y2 m3.length y2)).setCell ⟨gY, 3, none⟩ (.slice Y3 t3.length y3)).setCell ⟨gY, 4, none⟩ (.slice Y4 b.length y4)) from set5_below HB.out GEY.out); replace BY := Aside0.mk (show (((((w_9.setCell ⟨gY, 0, none⟩ (.int .i64 R)).setCell ⟨gY, 1, none⟩ (.slice Y1 l3.length y1)).setCell ⟨gY, 2, none⟩ (.slice Y2 m3.length y2)).setCell ⟨gY, 3, none⟩ (.slice Y3 t3.length y3)).setCell ⟨gY, 4, none⟩ (.slice Y4 b.length y4)).heap[gY]? = _ from set5_here BY.out _ _ _ _ _)
  generalize ((((w_9.setCell ⟨gY, 0, none⟩ (.int .i64 R)).setCell ⟨gY, 1, none⟩ (.slice Y1 l3.length y1)).setCell ⟨gY, 2, none⟩ (.slice Y2 m3.length y2)).setCell ⟨gY, 3, none⟩ (.slice Y3 t3.length y3)).setCell ⟨gY, 4, none⟩ (.slice Y4 b.length y4) = w70 at OS OX OY BA BX HB BY ⊢
  have hd9 := (Below.refl w70.heap.size w70).drew
  replace BA := Aside0.mk (blk_below BA.out hd9); replace BX := Aside0.mk (blk_below BX.out hd9); replace BY := Aside0.mk (blk_below BY.out hd9); replace OS := Aside0.mk (OS.out.below hd9); replace OX := Aside0.mk (OX.out.below hd9); replace OY := Aside0.mk (OY.out.below hd9); replace HB := Aside0.mk (below_step HB.out hd9)
  clear hd9
  have hSt := Aside0.mk (show ∀ w', Below w70.drew.heap.size w70.drew w' → ((w'.cell? ⟨gA, 0, none⟩ = some (.int .i64 R) ∧ w'.cell? ⟨gA, 1, none⟩ = some (.slice (some ad3) l.length s1) ∧ w'.cell? ⟨gA, 2, none⟩ = some (.slice S2 m.length s2) ∧ w'.cell? ⟨gA, 3, none⟩ = some (.slice S3 t.length s3) ∧ w'.cell? ⟨gA, 4, none⟩ = some (.slice S4 b.length s4)) ∧ (w'.cell? ⟨gX, 0, none⟩ = some (.int .i64 R) ∧ w'.cell? ⟨gX, 1, none⟩ = some (.slice X1 l2.length x1) ∧ w'.cell? ⟨gX, 2, none⟩ = some (.slice X2 m2.length x2) ∧ w'.cell? ⟨gX, 3, none⟩ = some (.slice X3 t2.length x3) ∧ w'.cell? ⟨gX, 4, none⟩ = some (.slice X4 b.length x4)) ∧ (w'.cell? ⟨gY, 0, none⟩ = some (.int .i64 R) ∧ w'.cell? ⟨gY, 1, none⟩ = some (.slice Y1 l3.length y1) ∧ w'.cell? ⟨gY, 2, none⟩ = some (.slice Y2 m3.length y2) ∧ w'.cell? ⟨gY, 3, none⟩ = some (.slice Y3 t3.length y3) ∧ w'.cell? ⟨gY, 4, none⟩ = some (.slice Y4 b.length y4))) ∧ Below w70.drew.heap.size w70.drew w' from fun w' hb => ⟨⟨cells5 (blk_below BA.out hb), cells5 (blk_below BX.out hb), cells5 (blk_below BY.out hb)⟩, hb⟩)
  refine start_ (n := 25) (S := fun w' => ((w'.cell? ⟨gA, 0, none⟩ = some (.int .i64 R) ∧ w'.cell? ⟨gA, 1, none⟩ = some (.slice (some ad3) l.length s1) ∧ w'.cell? ⟨gA, 2, none⟩ = some (.slice S2 m.length s2) ∧ w'.cell? ⟨gA, 3, none⟩ = some (.slice S3 t.length s3) ∧ w'.cell? ⟨gA, 4, none⟩ = some (.slice S4 b.length s4)) ∧ (w'.cell? ⟨gX, 0, none⟩ = some (.int .i64 R) ∧ w'.cell? ⟨gX, 1, none⟩ = some (.slice X1 l2.length x1) ∧ w'.cell? ⟨gX, 2, none⟩ = some (.slice X2 m2.length x2) ∧ w'.cell? ⟨gX, 3, none⟩ = some (.slice X3 t2.length x3) ∧ w'.cell? ⟨gX, 4, none⟩ = some (.slice X4 b.length x4)) ∧ (w'.cell? ⟨gY, 0, none⟩ = some (.int .i64 R) ∧ w'.cell? ⟨gY, 1, none⟩ = some (.slice Y1 l3.length y1) ∧ w'.cell? ⟨gY, 2, none⟩ = some (.slice Y2 m3.length y2) ∧ w'.cell? ⟨gY, 3, none⟩ = some (.slice Y3 t3.length y3) ∧ w'.cell? ⟨gY, 4, none⟩ = some (.slice Y4 b.length y4))) ∧ Below w70.drew.heap.size w70.drew w') (ds := []) #[N_,N_,N_,N_,N_,N_,N_,N_,N_,N_,N_,N_,N_,N_,N_,N_,N_,N_,N_,N_,N_,N_,N_,N_,N_] (by kernel_rfl) rfl rfl (hSt.out _ (Below.refl _ _)) (fun hHeld => ?_)
  generalize w70.drew = w71 at BA BX BY OS OX OY HB hSt hHeld ⊢
  refine tq_ hHeld 0 72 #[Y_,N_,N_,N_,N_,N_,N_,N_,N_,N_,N_,N_,N_,N_,N_,N_,N_,N_,N_,N_,N_,N_,N_,N_,N_] ?_
  refine one_ (i := 1) (N := some 73) #[Y_,Y_,N_,N_,N_,N_,N_,N_,N_,N_,N_,N_,N_,N_,N_,N_,N_,N_,N_,N_,N_,N_,N_,N_,N_] rfl rfl (by kernel_rfl) (by decide) (fun K hK => ?_)
  refine goes_ Try.func17 (by kernel_rfl) (by kernel_rfl) #[.agg #[.int .i64 R, .slice Y1 l3.length y1, .slice Y2 m3.length y2, .slice Y3 t3.length y3, .slice Y4 b.length y4]] (by rfl) rfl rfl (by simp [Act.eval]) ?_
  refine (sok_go HS3.out (OY.out.below hHeld.2).rd).mono ?_
  rintro e w9 ⟨rfl, hb⟩
  refine ⟨_, rfl, ?_⟩
  refine hK.out _ _ (hSt.out _ (below_step hHeld.2 hb)) (fun hHeld => ?_)
  clear hK K hb
  refine norm_ (a' := ?_) ?_ ?_
  rotate_left
  · (show Act.put _ (some 73) _ = _; simp only [Act.put, q1_, q2_, q3_, i64_w, i32_w]; rfl)
  refine pq_ 2 74 #[Y_,Y_,Y_,N_,N_,N_,N_,N_,N_,N_,N_,N_,N_,N_,N_,N_,N_,N_,N_,N_,N_,N_,N_,N_,N_] ?_
  refine pq_ 3 75 #[Y_,Y_,Y_,Y_,N_,N_,N_,N_,N_,N_,N_,N_,N_,N_,N_,N_,N_,N_,N_,N_,N_,N_,N_,N_,N_] ?_
  refine pq_ 4 76 #[Y_,Y_,Y_,Y_,Y_,N_,N_,N_,N_,N_,N_,N_,N_,N_,N_,N_,N_,N_,N_,N_,N_,N_,N_,N_,N_] ?_
  refine pq_ 5 77 #[Y_,Y_,Y_,Y_,Y_,Y_,N_,N_,N_,N_,N_,N_,N_,N_,N_,N_,N_,N_,N_,N_,N_,N_,N_,N_,N_] ?_
  refine tq_ hHeld 6 78 #[Y_,Y_,Y_,Y_,Y_,Y_,Y_,N_,N_,N_,N_,N_,N_,N_,N_,N_,N_,N_,N_,N_,N_,N_,N_,N_,N_] ?_
  refine pq_ 7 79 #[Y_,Y_,Y_,Y_,Y_,Y_,Y_,Y_,N_,N_,N_,N_,N_,N_,N_,N_,N_,N_,N_,N_,N_,N_,N_,N_,N_] ?_
  refine one_ (i := 8) (N := some 80) #[Y_,Y_,Y_,Y_,Y_,Y_,Y_,Y_,Y_,N_,N_,N_,N_,N_,N_,N_,N_,N_,N_,N_,N_,N_,N_,N_,N_] rfl rfl (by kernel_rfl) (by decide) (fun K hK => ?_)
  refine goes_ Try.func21 (by kernel_rfl) (by kernel_rfl) #[.agg #[.int .i64 R, .slice X1 l2.length x1], .int .i64 (j : Int)] (by rfl) rfl rfl (by simp [Act.eval]) ?_
  refine (mc_go HMC.out (OX.out.below hHeld.2).rd).mono ?_
  rintro e w9 ⟨rfl, hb⟩
  refine ⟨_, rfl, ?_⟩
  refine hK.out _ _ (hSt.out _ (below_step hHeld.2 hb)) (fun hHeld => ?_)
  clear hK K hb
  refine norm_ (a' := ?_) ?_ ?_
  rotate_left
  · (show Act.put _ (some 80) _ = _; simp only [Act.put, q1_, q2_, q3_, i64_w, i32_w]; rfl)
  refine pq_ 9 81 #[Y_,Y_,Y_,Y_,Y_,Y_,Y_,Y_,Y_,Y_,N_,N_,N_,N_,N_,N_,N_,N_,N_,N_,N_,N_,N_,N_,N_] ?_
  refine pq_ 10 82 #[Y_,Y_,Y_,Y_,Y_,Y_,Y_,Y_,Y_,Y_,Y_,N_,N_,N_,N_,N_,N_,N_,N_,N_,N_,N_,N_,N_,N_] ?_
  refine pq_ 11 83 #[Y_,Y_,Y_,Y_,Y_,Y_,Y_,Y_,Y_,Y_,Y_,Y_,N_,N_,N_,N_,N_,N_,N_,N_,N_,N_,N_,N_,N_] ?_
  refine tq_ hHeld 12 84 #[Y_,Y_,Y_,Y_,Y_,Y_,Y_,Y_,Y_,Y_,Y_,Y_,Y_,N_,N_,N_,N_,N_,N_,N_,N_,N_,N_,N_,N_] ?_
  refine tq_ hHeld 14 86 #[Y_,Y_,Y_,Y_,Y_,Y_,Y_,Y_,Y_,Y_,Y_,Y_,Y_,N_,Y_,N_,N_,N_,N_,N_,N_,N_,N_,N_,N_] ?_
  refine one_ (i := 13) (N := some 85) #[Y_,Y_,Y_,Y_,Y_,Y_,Y_,Y_,Y_,Y_,Y_,Y_,Y_,Y_,Y_,N_,N_,N_,N_,N_,N_,N_,N_,N_,N_] rfl rfl (by kernel_rfl) (by decide) (fun K hK => ?_)
  refine goes_ Try.func18 (by kernel_rfl) (by kernel_rfl) #[.agg #[.int .i64 R, .slice Y1 l3.length y1, .slice Y2 m3.length y2, .slice Y3 t3.length y3, .slice Y4 b.length y4]] (by rfl) rfl rfl (by simp [Act.eval]) ?_
  refine (tm_go HM3.out (OY.out.below hHeld.2).rd).mono ?_
  rintro e w9 ⟨rfl, hb⟩
  refine ⟨_, rfl, ?_⟩
  refine hK.out _ _ (hSt.out _ (below_step hHeld.2 hb)) (fun hHeld => ?_)
  clear hK K hb
  refine norm_ (a' := ?_) ?_ ?_
  rotate_left
  · (show Act.put _ (some 85) _ = _; simp only [Act.put, q1_, q2_, q3_, i64_w, i32_w]; rfl)
  refine one_ (i := 15) (N := some 87) #[Y_,Y_,Y_,Y_,Y_,Y_,Y_,Y_,Y_,Y_,Y_,Y_,Y_,Y_,Y_,Y_,N_,N_,N_,N_,N_,N_,N_,N_,N_] rfl rfl (by kernel_rfl) (by decide) (fun K hK => ?_)
  refine goes_ Try.func18 (by kernel_rfl) (by kernel_rfl) #[.agg #[.int .i64 R, .slice (some ad3) l.length s1, .slice S2 m.length s2, .slice S3 t.length s3, .slice S4 b.length s4]] (by rfl) rfl rfl (by simp [Act.eval]) ?_
  refine (tm_go HMT.out.1 (OS.out.below hHeld.2).rd).mono ?_
  rintro e w9 ⟨rfl, hb⟩
  refine ⟨_, rfl, ?_⟩
  refine hK.out _ _ (hSt.out _ (below_step hHeld.2 hb)) (fun hHeld => ?_)
  clear hK K hb
  refine norm_ (a' := ?_) ?_ ?_
  rotate_left
  · (show Act.put _ (some 87) _ = _; simp only [Act.put, q1_, q2_, q3_, i64_w, i32_w]; rfl)
  refine pq_ 16 88 #[Y_,Y_,Y_,Y_,Y_,Y_,Y_,Y_,Y_,Y_,Y_,Y_,Y_,Y_,Y_,Y_,Y_,N_,N_,N_,N_,N_,N_,N_,N_] ?_
  refine pq_ 17 89 #[Y_,Y_,Y_,Y_,Y_,Y_,Y_,Y_,Y_,Y_,Y_,Y_,Y_,Y_,Y_,Y_,Y_,Y_,N_,N_,N_,N_,N_,N_,N_] ?_
  refine pq_ 18 90 #[Y_,Y_,Y_,Y_,Y_,Y_,Y_,Y_,Y_,Y_,Y_,Y_,Y_,Y_,Y_,Y_,Y_,Y_,Y_,N_,N_,N_,N_,N_,N_] ?_
  refine tq_ hHeld 19 91 #[Y_,Y_,Y_,Y_,Y_,Y_,Y_,Y_,Y_,Y_,Y_,Y_,Y_,Y_,Y_,Y_,Y_,Y_,Y_,Y_,N_,N_,N_,N_,N_] ?_
  refine tq_ hHeld 21 93 #[Y_,Y_,Y_,Y_,Y_,Y_,Y_,Y_,Y_,Y_,Y_,Y_,Y_,Y_,Y_,Y_,Y_,Y_,Y_,Y_,N_,Y_,N_,N_,N_] ?_
  refine one_ (i := 20) (N := some 92) #[Y_,Y_,Y_,Y_,Y_,Y_,Y_,Y_,Y_,Y_,Y_,Y_,Y_,Y_,Y_,Y_,Y_,Y_,Y_,Y_,Y_,Y_,N_,N_,N_] rfl rfl (by kernel_rfl) (by decide) (fun K hK => ?_)
  refine goes_ Try.func19 (by kernel_rfl) (by kernel_rfl) #[.agg #[.int .i64 R, .slice Y1 l3.length y1, .slice Y2 m3.length y2, .slice Y3 t3.length y3, .slice Y4 b.length y4]] (by rfl) rfl rfl (by simp [Act.eval]) ?_
  refine (tt_go HT3.out (OY.out.below hHeld.2).rd).mono ?_
  rintro e w9 ⟨rfl, hb⟩
  refine ⟨_, rfl, ?_⟩
  refine hK.out _ _ (hSt.out _ (below_step hHeld.2 hb)) (fun hHeld => ?_)
  clear hK K hb
  refine norm_ (a' := ?_) ?_ ?_
  rotate_left
  · (show Act.put _ (some 92) _ = _; simp only [Act.put, q1_, q2_, q3_, i64_w, i32_w]; rfl)
  refine one_ (i := 22) (N := some 94) #[Y_,Y_,Y_,Y_,Y_,Y_,Y_,Y_,Y_,Y_,Y_,Y_,Y_,Y_,Y_,Y_,Y_,Y_,Y_,Y_,Y_,Y_,Y_,N_,N_] rfl rfl (by kernel_rfl) (by decide) (fun K hK => ?_)
  refine goes_ Try.func19 (by kernel_rfl) (by kernel_rfl) #[.agg #[.int .i64 R, .slice (some ad3) l.length s1, .slice S2 m.length s2, .slice S3 t.length s3, .slice S4 b.length s4]] (by rfl) rfl rfl (by simp [Act.eval]) ?_
  refine (tt_go HMT.out.2 (OS.out.below hHeld.2).rd).mono ?_
  rintro e w9 ⟨rfl, hb⟩
  refine ⟨_, rfl, ?_⟩
  refine hK.out _ _ (hSt.out _ (below_step hHeld.2 hb)) (fun hHeld => ?_)
  clear hK K hb
  refine norm_ (a' := ?_) ?_ ?_
  rotate_left
  · (show Act.put _ (some 94) _ = _; simp only [Act.put, q1_, q2_, q3_, i64_w, i32_w]; rfl)
  refine pq_ 23 95 #[Y_,Y_,Y_,Y_,Y_,Y_,Y_,Y_,Y_,Y_,Y_,Y_,Y_,Y_,Y_,Y_,Y_,Y_,Y_,Y_,Y_,Y_,Y_,Y_,N_] ?_
  refine pq_ 24 96 #[Y_,Y_,Y_,Y_,Y_,Y_,Y_,Y_,Y_,Y_,Y_,Y_,Y_,Y_,Y_,Y_,Y_,Y_,Y_,Y_,Y_,Y_,Y_,Y_,Y_] ?_
  refine done_ (by kernel_rfl) ?_
  go_wp2
  go_roundg k1
  case measure => omega
  case rel => exact ⟨j + 1, hlt, by omega, by have h9 := HGd.out.len; first | (simp only [Value.int.injEq, true_and, IntKind.wrap_i64]; omega) | (simp only [Value.int.injEq, true_and, wrap64]; omega), ⟨blk_below BA.out hHeld.2⟩, ⟨blk_below BX.out hHeld.2⟩, ⟨_, _, OS.out.below hHeld.2⟩, ⟨_, _, OX.out.below hHeld.2⟩, ⟨below_step HB.out hHeld.2⟩⟩

end Go.Proofs.Ytbkkehjhfgocfaa.PFnTransferred
