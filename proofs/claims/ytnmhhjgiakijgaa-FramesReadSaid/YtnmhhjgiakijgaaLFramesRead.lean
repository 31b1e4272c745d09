/- FramesRead returns true for any list of symbols; it reads as before. No condition. -/
import Derived.Test.YtnmhhjgiakijgaaF2
import Derived.Test.YtnmhhjgiakijgaaF1
import Derived.Test.YtnmhhjgiakijgaaB10
namespace Go.Proofs.Ytnmhhjgiakijgaa.lawFramesRead
open Go.ChangeShapes Go.WideShapes Go.ChangeAt Go.RowKit
set_option linter.unusedVariables false

set_option maxRecDepth 100000 in
theorem lifted (os : Os) (started : os.Started) (H : Type) (enc : TypeId × Value → H) :
    ReturnsInHanded {} Try.checked os 14 .any (Rows.framesReadSpec.pre6 enc Try.prog Try.f14 Rows.framesReadRow.domain false) (Rows.framesReadSpec.post enc Try.prog Try.f14 false true false false) := by
  refine returnsInHanded_of_change (C := Try.checked) own started (by kernel_rfl) Try.func14
    (ChangeSpec.witness6 (enc := enc) (C := Try.checked) false ⟨#[], #[.slice none 0 0], []⟩ 8 (by kernel_rfl) (by kernel_rfl) (by kernel_rfl) (by kernel_rfl)) ?_
  intro W base args ds gs before hval0 hW hcnd _
  have hval : ∀ (j : Nat) t v, Try.f14.params[j]? = some t → args[j]? = some v → Value.okWide Try.prog W .any base t v := hval0
  have hW' := hW
  obtain ⟨p, q, hA0, hV, rfl, hfz, hnd⟩ := hW
  have hA : DataW.TrodAll enc Try.prog W 0 (fun _ => true) true Try.f14.params.toList args.toList ds p := hA0
  rw [Try.params14] at hA hval
  obtain ⟨v0, vs0, d0, ds0, p0, q0, hargs, rfl, rfl, h0, r0⟩ := trodAll_cons hA
  obtain ⟨rfl, rfl, rfl⟩ := trodAll_nil r0
  obtain rfl : args = #[v0] := by cases args; simp_all
  obtain ⟨rfl, rfl⟩ := trodVars_none hV
  have k0 := h0
  have lt0 : ∀ x ∈ p0, x.block < W.heap.size := by obtain ⟨m, hm⟩ := k0; exact DataW.trod_lt m _ _ _ hm
  obtain ⟨A, n, c, xs, rfl, hr, hc, hm, hw⟩ := open_rd (k := .u8) Try.underlying22 Try.underlying50 (by kernel_rfl) (hval 0 22 v0 rfl rfl) h0
  clear hA0 hval0
  refine (framesread_walk A n c xs W hr hc hm (fun z hz => bd_u8 (hw z hz))).mono fun e W' ⟨he, bel⟩ => ?_
  subst he
  exact ⟨_, rfl, _, _, _, [], _, [], hW', trodAll_mk1 (shut_bool Try.underlying4 _), (trodAll_cons_mk (Below.trod laidOut (by kernel_rfl) (of_decide_eq_true (by kernel_rfl)) k0 bel lt0) trodAll_mk0), rfl, bel.frame _, fun h => by cases h⟩

theorem inPlace : Try.prog.inPlace 14 = [] := by kernel_rfl
theorem unf : Try.prog.unfollowed 14 = true := by kernel_rfl
theorem recs : Try.prog.recurses 14 = true := by kernel_rfl
theorem vars : Try.prog.varsNamed 14 = [] := by kernel_rfl
theorem joined : joinedFacts Try.prog 14 Try.f14 Rows.framesReadSpec Rows.framesReadRow = true := by
  unfold joinedFacts
  rw [fact_laid, fact_maps, fact_stops, fact_knobs, inPlace, unf, recs, vars, fact_keys, fact_heard, fact_may, fact_lifts, fact_make]
  kernel_rfl

theorem over : Rows.framesReadRow.holds Try.pinned (OpenSpec.ofChange Rows.framesReadSpec) :=
  OpenClaim.holds_of_wide 14 Try.f14 rfl rfl rfl rfl rfl rfl rfl ⟨rfl, rfl, rfl, rfl, rfl⟩ rfl rfl rfl rfl rfl (by kernel_rfl) Try.func14 joined
    (of_decide_eq_true (by kernel_rfl)) (by unfold Func.isWrapper; first | (rw [if_pos (by decide +kernel)]; kernel_rfl) | (rw [if_neg (by decide +kernel)]; exact ⟨rfl, rfl⟩))
    (fun os started H enc _ => lifted os started H enc)

theorem proved : Rows.FramesReadSaid := over
#print axioms proved
end Go.Proofs.Ytnmhhjgiakijgaa.lawFramesRead
