/- The law FnExactSameSrv returns true for every input, and each argument reads behind the call as before. No condition. -/
import Derived.Test.YtigoeooelfeopaaRows
import Derived.Test.YtigoeooelfeopaaVSameSrvG31
import Derived.WalkKit
import Derived.ProofKit
import Derived.OpenShut
import Derived.ShutString
import Derived.ChangeOld
import Derived.Below
import Derived.SizedLaws
import Derived.Carry
namespace Go.Proofs.Ytigoeooelfeopaa.fnExactSameSrv
open Go.ChangeShapes Go.WideShapes Go.ChangeAt Go.RowKit Go.Proofs.YtigoeooelfeopaaW.PrintWords Go.Proofs.Ytigoeooelfeopaa Go.Proofs.Ytigoeooelfeopaa.Q
open Go.ChangeMaps (open_string shut_string)
set_option linter.unusedVariables false
theorem own : ownKnob Try.prog.godebug = none := by kernel_rfl
theorem laidOut : laidOutB Try.prog = true := by kernel_rfl
set_option maxRecDepth 100000 in
set_option maxHeartbeats 4000000 in
theorem lifted (os : Os) (started : os.Started) (H : Type) (enc : TypeId × Value → H) :
    ReturnsInHanded {} Try.checked os 7 .any (Rows.fnExactSameSrvSpec.pre6 enc Try.prog Try.f7 Rows.fnExactSameSrvRow.domain false) (Rows.fnExactSameSrvSpec.post enc Try.prog Try.f7 false true false false) := by
  refine returnsInHanded_of_change_sized (C := Try.checked) own started (by kernel_rfl) Try.func7
    (ChangeSpec.witness6 (enc := enc) (C := Try.checked) false ⟨#[], #[.agg #[.slice none 0 0, .slice none 0 0, .int .i64 0, .int .i64 0, .slice none 0 0, .slice none 0 0], .agg #[.slice none 0 0, .slice none 0 0, .int .i64 0, .int .i64 0, .slice none 0 0, .slice none 0 0]], []⟩ 8 (by kernel_rfl) (by kernel_rfl) (by kernel_rfl) (by kernel_rfl)) ?_
  intro W base args ds gs before hval0 hW hcnd hsz0 _
  have hval : ∀ (j : Nat) t v, Try.f7.params[j]? = some t → args[j]? = some v → Value.okWide Try.prog W .any base t v := hval0
  have hW' := hW
  obtain ⟨p, q, hA0, hV, rfl, hfz, hnd⟩ := hW
  have hA : DataW.TrodAll enc Try.prog W 0 (fun _ => true) true Try.f7.params.toList args.toList ds p := hA0
  rw [Try.params7] at hA hval
  obtain ⟨v0, vs0, d0, ds0, p0, q0, hargs, rfl, rfl, h0, r0⟩ := trodAll_cons hA
  obtain ⟨v1, vs1, d1, ds1, p1, q1, rfl, rfl, rfl, h1, r1⟩ := trodAll_cons r0
  obtain ⟨rfl, rfl, rfl⟩ := trodAll_nil r1
  obtain rfl : args = #[v0, v1] := by cases args; simp_all
  obtain ⟨rfl, rfl⟩ := trodVars_none hV
  have k0 := h0
  have lt0 : ∀ x ∈ p0, x.block < W.heap.size := by obtain ⟨m, hm⟩ := k0; exact DataW.trod_lt m _ _ _ hm
  obtain ⟨cs0, rfl, hsz0⟩ := okWide_struct Try.underlying48 (hval 0 48 v0 rfl rfl)
  obtain ⟨f0, hf0⟩ := h0
  obtain ⟨x0, hK0, hg0⟩ := opens48 _ _ _ hf0
  obtain ⟨A0_0, c0_0, A0_1, c0_1, A0_4, c0_4, A0_5, c0_5, hcs0, hc0_0, hr0_0, hc0_1, hr0_1, hc0_4, hr0_4, hc0_5, hr0_5⟩ := k48_open hK0
  obtain rfl : cs0 = #[.slice A0_0 x0.f0.length c0_0, .slice A0_1 x0.f1.length c0_1, .int .i64 x0.f2, .int .i64 x0.f3, .slice A0_4 x0.f4.length c0_4, .slice A0_5 x0.f5.length c0_5] := by
    cases cs0
    simpa [Value.cells] using hcs0
  have k1 := h1
  have lt1 : ∀ x ∈ p1, x.block < W.heap.size := by obtain ⟨m, hm⟩ := k1; exact DataW.trod_lt m _ _ _ hm
  obtain ⟨cs1, rfl, hsz1⟩ := okWide_struct Try.underlying48 (hval 1 48 v1 rfl rfl)
  obtain ⟨f1, hf1⟩ := h1
  obtain ⟨x1, hK1, hg1⟩ := opens48 _ _ _ hf1
  obtain ⟨A1_0, c1_0, A1_1, c1_1, A1_4, c1_4, A1_5, c1_5, hcs1, hc1_0, hr1_0, hc1_1, hr1_1, hc1_4, hr1_4, hc1_5, hr1_5⟩ := k48_open hK1
  obtain rfl : cs1 = #[.slice A1_0 x1.f0.length c1_0, .slice A1_1 x1.f1.length c1_1, .int .i64 x1.f2, .int .i64 x1.f3, .slice A1_4 x1.f4.length c1_4, .slice A1_5 x1.f5.length c1_5] := by
    cases cs1
    simpa [Value.cells] using hcs1
  clear hA0 hval0 hsz0
  obtain ⟨k, hk⟩ := (Pure.FnExactSameSrv x0 x1 hg0 hg1)
  refine (laws_FnExactSameSrv.calls k _ _ x0.f0 _ _ x0.f1 x0.f2 x0.f3 _ _ x0.f4 _ _ x0.f5 _ _ x1.f0 _ _ x1.f1 x1.f2 x1.f3 _ _ x1.f4 _ _ x1.f5 true W hr0_0 hc0_0 hr0_1 hc0_1 hr0_4 hc0_4 hr0_5 hc0_5 hr1_0 hc1_0 hr1_1 hc1_1 hr1_4 hc1_4 hr1_5 hc1_5 hk).mono fun e W' he => ?_
  obtain ⟨he, bel0⟩ := he
  have bel : Below W.heap.size W W' := bel0
  subst he
  exact ⟨_, rfl, _, _, _, [], _, [], hW', trodAll_mk1 (shut_bool Try.underlying4 _), (trodAll_cons_mk (Below.trod laidOut (by kernel_rfl) (of_decide_eq_true (by kernel_rfl)) k0 bel lt0) (trodAll_cons_mk (Below.trod laidOut (by kernel_rfl) (of_decide_eq_true (by kernel_rfl)) k1 bel lt1) trodAll_mk0)), rfl, bel.frame _, fun h => by cases h⟩
theorem over : Rows.fnExactSameSrvRow.holds Try.pinned (OpenSpec.ofChange Rows.fnExactSameSrvSpec) :=
  OpenClaim.holds_of_wide 7 Try.f7 rfl rfl rfl rfl rfl rfl rfl ⟨rfl, rfl, rfl, rfl, rfl⟩ rfl rfl rfl rfl rfl (by kernel_rfl) Try.func7 (by kernel_rfl)
    (of_decide_eq_true (by kernel_rfl)) (by unfold Func.isWrapper; first | (rw [if_pos (by decide +kernel)]; kernel_rfl) | (rw [if_neg (by decide +kernel)]; exact ⟨rfl, rfl⟩))
    (fun os started H enc _ => lifted os started H enc)
theorem proved : Rows.FnExactSameSrvSaid := over
end Go.Proofs.Ytigoeooelfeopaa.fnExactSameSrv
namespace Go.Proofs.Ytigoeooelfeopaa
theorem fnExactSameSrv_holds : Rows.FnExactSameSrvSaid := fnExactSameSrv.proved
end Go.Proofs.Ytigoeooelfeopaa
