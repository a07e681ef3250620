/- Whatever value and whatever text it is given, the law SayValues returns true and leaves both as they were. There is no condition. -/
import Derived.Test.YtokkjnfdfbpphaaRows
import Derived.Test.YtokkjnfdfbpphaaOpen
import Derived.Test.YtokkjnfdfbpphaaV3
namespace Go.Proofs.Ytokkjnfdfbpphaa.sayValues
open Go.ChangeShapes Go.WideShapes Go.ChangeAt Go.RowKit
open Go.ChangeMaps (open_string shut_string)
open Go.Proofs.Ytokkjnfdfbpphaa.A Go.Proofs.YtokkjnfdfbpphaaW.PrintWords
set_option linter.unusedVariables false
theorem own : ownKnob Try.prog.godebug = none := by kernel_rfl
theorem laidOut : laidOutB Try.prog = true := by kernel_rfl
theorem opens33 : Opens Try.prog 33 k33 (fun x => -9223372036854775808 ≤ x.f2 ∧ x.f2 < 9223372036854775808 ∧ 0 ≤ x.f3 ∧ x.f3 < 18446744073709551616) := by
  refine Opens.mono (Opens.iso (Opens.struct Try.underlying33 (by kernel_rfl) (OpensF.cons (Opens.int (k := .i64) (by kernel_rfl)) (by kernel_rfl) (by kernel_rfl) (OpensF.cons (Opens.bool (by kernel_rfl)) (by kernel_rfl) (by kernel_rfl) (OpensF.cons (Opens.int (k := .i64) (by kernel_rfl)) (by kernel_rfl) (by kernel_rfl) (OpensF.cons (Opens.int (k := .u64) (by kernel_rfl)) (by kernel_rfl) (by kernel_rfl) (OpensF.one (Opens.string (by kernel_rfl)) (by kernel_rfl) (by kernel_rfl)))))))
    (fun x : S33 => (x.f0, x.f1, x.f2, x.f3, x.f4)) (fun a => ⟨a.1, a.2.1, a.2.2.1, a.2.2.2.1, a.2.2.2.2⟩) (fun _ => rfl)) (fun x h => ?_)
  obtain ⟨h0, _, h2, h3, _⟩ := h
  exact ⟨(wf_i64 h2).1, (wf_i64 h2).2, (wf_u64 h3).1, (wf_u64 h3).2⟩
set_option maxRecDepth 100000 in
theorem lifted (os : Os) (started : os.Started) (H : Type) (enc : TypeId × Value → H) :
    ReturnsInHanded {} Try.checked os 4 .any (Rows.sayValuesSpec.pre6 enc Try.prog Try.f4 Rows.sayValuesRow.domain false) (Rows.sayValuesSpec.post enc Try.prog Try.f4 false true false false) := by
  refine returnsInHanded_of_change_sized (C := Try.checked) own started (by kernel_rfl) Try.func4
    (ChangeSpec.witness6 (enc := enc) (C := Try.checked) false ⟨#[], #[.agg #[.int .i64 0, .bool false, .int .i64 0, .int .u64 0, .string ByteArray.empty], .string ByteArray.empty], []⟩ 8 (by kernel_rfl) (by kernel_rfl) (by kernel_rfl) (by kernel_rfl)) ?_
  intro W base args ds gs before hval0 hW hcnd hsz0 _
  have hval : ∀ (j : Nat) t v, Try.f4.params[j]? = some t → args[j]? = some v → Value.okWide Try.prog W .any base t v := hval0
  have hW' := hW
  have hlt0 := hW.lt
  obtain ⟨p, q, hA0, hV, rfl, hfz, hnd⟩ := hW
  have hA : DataW.TrodAll enc Try.prog W 0 (fun _ => true) true Try.f4.params.toList args.toList ds p := hA0
  rw [Try.params4] at hA hval
  obtain ⟨v0, vs0, d0, ds0, p0, q0, hargs, rfl, rfl, h0, r0⟩ := trodAll_cons hA
  obtain ⟨v1, vs1, d1, ds1, p1, q1, rfl, rfl, rfl, h1, r1⟩ := trodAll_cons r0
  obtain ⟨rfl, rfl, rfl⟩ := trodAll_nil r1
  obtain rfl : args = #[v0, v1] := by cases args; simp_all
  obtain ⟨rfl, rfl⟩ := trodVars_none hV
  have h0k := h0
  have hlt : ∀ x ∈ p0, x.block < W.heap.size := fun x hx => hlt0 x (by simp [hx])
  obtain ⟨x, cs, hv0, hK, g1, g2, g3, g4⟩ := Opens.structArg Try.underlying33 opens33 (hval 0 33 v0 rfl rfl) h0
  obtain rfl := k33_open hK
  obtain ⟨a1, rfl, rfl, rfl, y1⟩ := open_string Try.underlying9 (hval 1 9 v1 rfl rfl) h1
  clear hA0 hval0 hsz0
  subst hv0
  refine (values_all x.f0 x.f1 x.f2 x.f3 x.f4 a1 W g1 g2 g3 g4).mono fun e W' ⟨he, bel⟩ => ?_
  subst he
  refine ⟨_, rfl, _, _, _, [], _, [], hW', trodAll_mk1 (shut_bool Try.underlying4 _), (trodAll_cons_mk (Below.trod laidOut (by kernel_rfl) (of_decide_eq_true (by kernel_rfl)) h0k bel hlt) (trodAll_cons_mk (shut_string Try.underlying9 y1) trodAll_mk0)), rfl, bel.frame _, fun h => by cases h⟩
theorem over : Rows.sayValuesRow.holds Try.pinned (OpenSpec.ofChange Rows.sayValuesSpec) :=
  OpenClaim.holds_of_wide 4 Try.f4 rfl rfl rfl rfl rfl rfl rfl ⟨rfl, rfl, rfl, rfl, rfl⟩ rfl rfl rfl rfl rfl (by kernel_rfl) Try.func4 (by kernel_rfl)
    (of_decide_eq_true (by kernel_rfl)) (by unfold Func.isWrapper; first | (rw [if_pos (by decide +kernel)]; kernel_rfl) | (rw [if_neg (by decide +kernel)]; exact ⟨rfl, rfl⟩))
    (fun os started H enc _ => lifted os started H enc)
theorem proved : Rows.SayValuesSaid := over
#print axioms proved
end Go.Proofs.Ytokkjnfdfbpphaa.sayValues
namespace Go.Proofs.Ytokkjnfdfbpphaa
/-- The row, under a short name, for the claim. -/
theorem sayValues_holds : Rows.SayValuesSaid := sayValues.proved
end Go.Proofs.Ytokkjnfdfbpphaa
