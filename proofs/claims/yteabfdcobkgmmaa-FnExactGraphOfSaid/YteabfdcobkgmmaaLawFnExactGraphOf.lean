/- The statement of FnExactGraphOf, for every input: out of the contract of the law's own function and the plain statement Pure.FnExactGraphOf. -/
import Derived.Test.YteabfdcobkgmmaaRows
import Derived.Test.YteabfdcobkgmmaaGof
import Derived.WalkKit
import Derived.ProofKit
import Derived.OpenShut
import Derived.ShutString
import Derived.ChangeOld
import Derived.Below
import Derived.SizedLaws
import Derived.Lib.SmallJoins
import Derived.Test.YteabfdcobkgmmaaWSized
import Derived.Test.YteabfdcobkgmmaaWWords
namespace Go.Proofs.Yteabfdcobkgmmaa.fnExactGraphOf
open Go.ChangeShapes Go.WideShapes Go.ChangeAt Go.RowKit Go.Joins
open Go.ChangeMaps (open_string shut_string)
set_option linter.unusedVariables false
theorem own : ownKnob Try.prog.godebug = none := by kernel_rfl
theorem laidOut : laidOutB Try.prog = true := by kernel_rfl
def IsRow (k : IntKind) (w : World) (a : Option Addr) (len cap : Nat) (zs : List Int) : Prop :=
  (a = none ∧ len = 0 ∧ cap = 0 ∧ zs = []) ∨
  ∃ x, a = some x ∧ len ≤ cap ∧ cap ≤ maxLen ∧ zs.length = cap ∧ (∀ i, i < zs.length → w.cell? (x.add i) = some (.int k (zs.getD i 0))) ∧ ∀ n ∈ zs, (Lit.int k n).wf = true
/-- A slice of slices of whole numbers, read: a list of rows. -/
theorem open_rows {H : Type} {enc : TypeId × Value → H} {P : Program} {w : World} {held : Bool} {tss ti : TypeId} {base : Nat} {a : Option Addr} {len cap : Nat} {x : DataW H × List MemPlace}
    (ht : P.underlying tss = some (.slice 22)) (hs : P.underlying 22 = some (.slice ti)) (hi : P.underlying ti = some (.int .i64)) (hc1 : P.cellsOf ti = 1) (hc2 : P.cellsOf 22 = 1)
    (h0 : ∃ fuel, DataW.trod enc P w base (fun _ => true) held fuel tss [.slice a len cap] = some x) :
    ∃ l : List (List Int), len = l.length ∧ (Go.Proofs.YteabfdcobkgmmaaW.PrintWords.Kd.slice 22 (Go.Proofs.YteabfdcobkgmmaaW.PrintWords.Kd.int .i64)).C w a l.length l ∧ l.length ≤ maxLen ∧ (∀ x ∈ l, x.length ≤ maxLen) ∧ l.length ≤ cap := by
  obtain ⟨fuel, h⟩ := h0
  rcases DataW.trod_slice ht h with ⟨e, _⟩ | ⟨ad, len', cap', elems, rest, n, _, e, _, hb, hl, hm, hlen, hel, _, _⟩
  · simp only [List.cons.injEq, Value.slice.injEq, and_true] at e
    obtain ⟨rfl, rfl, rfl⟩ := e
    exact ⟨[], rfl, ⟨rfl, by decide, fun h => absurd h (by decide)⟩, Nat.zero_le _, fun _ h => (nomatch h), Nat.le_refl _⟩
  · simp only [List.cons.injEq, Value.slice.injEq, and_true] at e
    obtain ⟨rfl, rfl, rfl⟩ := e
    have each : ∀ i, i < len → ∃ r : List Int, ∃ A0 c0, w.cell? (ad.add i) = some (.slice A0 r.length c0) ∧ r.length ≤ c0 ∧ (Go.Proofs.YteabfdcobkgmmaaW.PrintWords.Kd.int .i64).C w A0 r.length r ∧ r.length ≤ maxLen := by
      intro i hii
      have hb' := hel i hii
      rw [hc2, Nat.mul_one, List.getElem?_eq_getElem (by omega), Option.bind_eq_some_iff] at hb'
      obtain ⟨cs', hcs, hy⟩ := hb'
      rcases open_ints hs hi hc1 hy with ⟨rfl, _⟩ | ⟨a2, len2, cap2, zs, rfl, _, hl2, hm2, hz2, _, hcell, hwz⟩
      · exact ⟨[], none, 0, cell_of_cells?_one hcs, Nat.le_refl _, ⟨rfl, by decide, fun h => absurd h (by decide)⟩, Nat.zero_le _⟩
      · obtain ⟨l2, rfl, hr, hmm, _, hc⟩ := Go.Proofs.YteabfdcobkgmmaaW.PrintWords.ReadsInt.ofRowC (.inr ⟨_, rfl, hl2, hm2, by simpa using hz2, hcell, hwz⟩)
        exact ⟨l2, _, _, cell_of_cells?_one hcs, hc, Go.Proofs.YteabfdcobkgmmaaW.PrintWords.Kd.C_of_reads (d := (0 : Int)) (h1 := fun _ => rfl) hr, hmm⟩
    have hf : ∃ f : Nat → List Int, ∀ i, i < len → ∃ A0 c0, w.cell? (ad.add i) = some (.slice A0 (f i).length c0) ∧ (f i).length ≤ c0 ∧ (Go.Proofs.YteabfdcobkgmmaaW.PrintWords.Kd.int .i64).C w A0 (f i).length (f i) ∧ (f i).length ≤ maxLen :=
      ⟨fun i => if hh : i < len then (each i hh).choose else [], fun i hh => by
        dsimp only
        rw [dif_pos hh]
        exact (each i hh).choose_spec⟩
    obtain ⟨f, hf⟩ := hf
    have hlen2 : ((List.range len).map f).length = len := by simp
    refine ⟨(List.range len).map f, hlen2.symm, ⟨rfl, by rw [hlen2]; unfold maxLen at hm; omega, fun _ => ⟨ad, rfl, fun j p hj => ?_⟩⟩, by rw [hlen2]; omega, fun x hx => ?_, by rw [hlen2]; exact hl⟩
    · have hj2 : j < len := by
        have := (List.getElem?_eq_some_iff.1 hj).1
        rw [hlen2] at this; exact this
      rw [List.getElem?_map, List.getElem?_range hj2] at hj
      obtain rfl := Option.some.inj hj
      obtain ⟨A0, c0, g1, g2, g3, _⟩ := hf j hj2
      refine ⟨[.slice A0 (f j).length c0], rfl, ⟨A0, c0, rfl, g2, g3⟩, fun i u hu => ?_⟩
      cases i with
      | zero =>
        obtain rfl := Option.some.inj hu
        show w.cell? (ad.add (j * 1 + 0)) = _
        rw [Nat.mul_one, Nat.add_zero]; exact g1
      | succ i => simp at hu
    · obtain ⟨i, hi2, rfl⟩ := List.mem_map.1 hx
      obtain ⟨_, _, _, _, _, g⟩ := hf i (List.mem_range.1 hi2)
      exact g
set_option maxRecDepth 100000 in
theorem lifted (os : Os) (started : os.Started) (H : Type) (enc : TypeId × Value → H) :
    ReturnsInHanded {} Try.checked os 4 .any (Rows.fnExactGraphOfSpec.pre6 enc Try.prog Try.f4 Rows.fnExactGraphOfRow.domain false) (Rows.fnExactGraphOfSpec.post enc Try.prog Try.f4 false true false false) := by
  refine returnsInHanded_of_change_sized (C := Try.checked) own started (by kernel_rfl) Try.func4
    (ChangeSpec.witness6 (enc := enc) (C := Try.checked) false ⟨#[], #[.int .i64 0, .slice none 0 0, .bool false], []⟩ 8 (by kernel_rfl) (by kernel_rfl) (by kernel_rfl) (by kernel_rfl)) ?_
  intro W base args ds gs before hval0 hW hcnd hsz0 _
  have hsz : (DataW.weightsEach Try.prog (Try.f4.params.toList ++ Rows.fnExactGraphOfSpec.plain.varTypes Try.prog) (ds ++ gs)).all (· ≤ reachBytes) = true := hsz0
  have hval : ∀ (j : Nat) t v, Try.f4.params[j]? = some t → args[j]? = some v → Value.okWide Try.prog W .any base t v := hval0
  have hW' := hW
  obtain ⟨p, q, hA0, hV, rfl, hfz, hnd⟩ := hW
  have hA : DataW.TrodAll enc Try.prog W 0 (fun _ => true) true Try.f4.params.toList args.toList ds p := hA0
  rw [Try.params4] at hA hval hsz
  obtain ⟨v0, vs0, d0, ds0, p0, q0, hargs, rfl, rfl, h0, r0⟩ := trodAll_cons hA
  obtain ⟨v1, vs1, d1, ds1, p1, q1, rfl, rfl, rfl, h1, r1⟩ := trodAll_cons r0
  obtain ⟨v2, vs2, d2, ds2, p2, q2, rfl, rfl, rfl, h2, r2⟩ := trodAll_cons r1
  obtain ⟨rfl, rfl, rfl⟩ := trodAll_nil r2
  obtain rfl : args = #[v0, v1, v2] := by cases args; simp_all
  obtain ⟨rfl, rfl⟩ := trodVars_none hV
  obtain ⟨a0, rfl, rfl, rfl, w0⟩ := open_int Try.underlying3 (hval 0 3 v0 rfl rfl) h0
  obtain ⟨a1, len1, cap1, rfl⟩ := okWide_slice Try.underlying33 (hval 1 33 v1 rfl rfl)
  have k1 := h1
  have lt1 : ∀ x ∈ p1, x.block < W.heap.size := by obtain ⟨m, hm⟩ := k1; exact DataW.trod_lt m _ _ _ hm
  obtain ⟨l1, rfl, hr1, hm1, hx1, hc1⟩ := open_rows Try.underlying33 Try.underlying22 Try.underlying3 (by kernel_rfl) (by kernel_rfl) h1
  obtain ⟨a2, rfl, rfl, rfl⟩ := open_bool Try.underlying4 (hval 2 4 v2 rfl rfl) h2
  clear hA0 hval0 hsz0 hsz

  refine (Gof.law a0 _ _ l1 a2 W w0 hm1 hx1 hr1 hc1).mono fun e W' ⟨he, bel0⟩ => ?_
  have bel : Below W.heap.size W W' := by first | exact bel0 | exact bel0.below
  subst he
  exact ⟨_, rfl, _, _, _, [], _, [], hW', trodAll_mk1 (shut_bool Try.underlying4 _), (trodAll_cons_mk (shut_int Try.underlying3 w0) (trodAll_cons_mk (Below.trod laidOut (by kernel_rfl) (of_decide_eq_true (by kernel_rfl)) k1 bel lt1) (trodAll_cons_mk (shut_bool Try.underlying4 _) trodAll_mk0))), rfl, bel.frame _, fun h => by cases h⟩
theorem over : Rows.fnExactGraphOfRow.holds Try.pinned (OpenSpec.ofChange Rows.fnExactGraphOfSpec) :=
  OpenClaim.holds_of_wide 4 Try.f4 rfl rfl rfl rfl rfl rfl rfl ⟨rfl, rfl, rfl, rfl, rfl⟩ rfl rfl rfl rfl rfl (by kernel_rfl) Try.func4 (by kernel_rfl)
    (of_decide_eq_true (by kernel_rfl)) (by unfold Func.isWrapper; first | (rw [if_pos (by decide +kernel)]; kernel_rfl) | (rw [if_neg (by decide +kernel)]; exact ⟨rfl, rfl⟩))
    (fun os started H enc _ => lifted os started H enc)
theorem proved : Rows.FnExactGraphOfSaid := over
#print axioms proved
end Go.Proofs.Yteabfdcobkgmmaa.fnExactGraphOf
namespace Go.Proofs.Yteabfdcobkgmmaa
/-- The row, under a short name, for the claim. -/
theorem fnExactGraphOf_holds : Rows.FnExactGraphOfSaid := fnExactGraphOf.proved
end Go.Proofs.Yteabfdcobkgmmaa
