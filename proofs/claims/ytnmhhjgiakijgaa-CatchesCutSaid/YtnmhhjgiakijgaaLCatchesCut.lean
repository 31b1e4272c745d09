/- CatchesCut returns true for any owner, any payload and any two places. No condition. -/
import Derived.Test.YtnmhhjgiakijgaaKF2
import Derived.Test.YtnmhhjgiakijgaaF1
import Derived.Test.YtnmhhjgiakijgaaB15
namespace Go.Proofs.Ytnmhhjgiakijgaa.lawCatchesCut
open Go.ChangeShapes Go.WideShapes Go.ChangeAt Go.RowKit
set_option linter.unusedVariables false

set_option maxRecDepth 100000 in
theorem lifted (os : Os) (started : os.Started) (H : Type) (enc : TypeId × Value → H) :
    ReturnsInHanded {} Try.checked os 21 .any (Rows.catchesCutSpec.pre6 enc Try.prog Try.f21 Rows.catchesCutRow.domain false) (Rows.catchesCutSpec.post enc Try.prog Try.f21 false true false false) := by
  refine returnsInHanded_of_change (C := Try.checked) own started (by kernel_rfl) Try.func21
    (ChangeSpec.witness6 (enc := enc) (C := Try.checked) false ⟨#[], #[.int .u8 0, .agg #[.int .u8 0, .int .u8 0, .int .u32 0, .int .u32 0], .agg #[.int .u8 0, .int .u8 0]], []⟩ 8 (by kernel_rfl) (by kernel_rfl) (by kernel_rfl) (by kernel_rfl)) ?_
  intro W base args ds gs before hval0 hW hcnd _
  have hval : ∀ (j : Nat) t v, Try.f21.params[j]? = some t → args[j]? = some v → Value.okWide Try.prog W .any base t v := hval0
  have hW' := hW
  obtain ⟨p, q, hA0, hV, rfl, hfz, hnd⟩ := hW
  have hA : DataW.TrodAll enc Try.prog W 0 (fun _ => true) true Try.f21.params.toList args.toList ds p := hA0
  rw [Try.params21] at hA hval
  obtain ⟨v0, vs0, d0, ds0, p0, q0, hargs, rfl, rfl, h0, r0⟩ := trodAll_cons hA
  obtain ⟨v1, vs1, d1, ds1, p1, q1, rfl, rfl, rfl, h1, r1⟩ := trodAll_cons r0
  obtain ⟨v2, vs2, d2, ds2, p2, q2, rfl, rfl, rfl, h2, r2⟩ := trodAll_cons r1
  obtain ⟨rfl, rfl, rfl⟩ := trodAll_nil r2
  obtain rfl : args = #[v0, v1, v2] := by cases args; simp_all
  obtain ⟨rfl, rfl⟩ := trodVars_none hV
  have k0 := h0
  have lt0 : ∀ x ∈ p0, x.block < W.heap.size := by obtain ⟨m, hm⟩ := k0; exact DataW.trod_lt m _ _ _ hm
  have k1 := h1
  have lt1 : ∀ x ∈ p1, x.block < W.heap.size := by obtain ⟨m, hm⟩ := k1; exact DataW.trod_lt m _ _ _ hm
  have k2 := h2
  have lt2 : ∀ x ∈ p2, x.block < W.heap.size := by obtain ⟨m, hm⟩ := k2; exact DataW.trod_lt m _ _ _ hm
  obtain ⟨x, rfl, rfl, rfl, wx⟩ := open_int Try.underlying5 (hval 0 5 v0 rfl rfl) h0
  obtain ⟨k, s, q, z, rfl, lk, ls, lq, lz⟩ := open_payload (hval 1 82 v1 rfl rfl) h1
  obtain ⟨a, b, rfl, wa, wb⟩ := open_two (k := .u8) Try.underlying149 Try.underlying5 (by kernel_rfl) (by kernel_rfl) (hval 2 149 v2 rfl rfl) h2
  clear hA0 hval0
  obtain ⟨x, rfl⟩ := Int.eq_ofNat_of_zero_le (bd_u8 wx).1
  obtain ⟨a, rfl⟩ := Int.eq_ofNat_of_zero_le (bd_u8 wa).1
  obtain ⟨b, rfl⟩ := Int.eq_ofNat_of_zero_le (bd_u8 wb).1
  refine (cut_walk x k s q z a b W (by have := bd_u8 wx; omega) lk ls lq lz (by have := bd_u8 wa; omega) (by have := bd_u8 wb; omega)).mono fun e W' ⟨he, bel⟩ => ?_
  subst he
  exact ⟨_, rfl, _, _, _, [], _, [], hW', trodAll_mk1 (shut_bool Try.underlying4 _), (trodAll_cons_mk (Below.trod laidOut (by kernel_rfl) (of_decide_eq_true (by kernel_rfl)) k0 bel lt0) (trodAll_cons_mk (Below.trod laidOut (by kernel_rfl) (of_decide_eq_true (by kernel_rfl)) k1 bel lt1) (trodAll_cons_mk (Below.trod laidOut (by kernel_rfl) (of_decide_eq_true (by kernel_rfl)) k2 bel lt2) trodAll_mk0))), rfl, bel.frame _, fun h => by cases h⟩

theorem inPlace : Try.prog.inPlace 21 = [] := by kernel_rfl
theorem unf : Try.prog.unfollowed 21 = true := by kernel_rfl
theorem recs : Try.prog.recurses 21 = true := by kernel_rfl
theorem vars : Try.prog.varsNamed 21 = [] := by kernel_rfl
theorem joined : joinedFacts Try.prog 21 Try.f21 Rows.catchesCutSpec Rows.catchesCutRow = true := by
  unfold joinedFacts
  rw [fact_laid, fact_maps, fact_stops, fact_knobs, inPlace, unf, recs, vars, fact_keys, fact_heard, fact_may, fact_lifts, fact_make]
  kernel_rfl

theorem over : Rows.catchesCutRow.holds Try.pinned (OpenSpec.ofChange Rows.catchesCutSpec) :=
  OpenClaim.holds_of_wide 21 Try.f21 rfl rfl rfl rfl rfl rfl rfl ⟨rfl, rfl, rfl, rfl, rfl⟩ rfl rfl rfl rfl rfl (by kernel_rfl) Try.func21 joined
    (of_decide_eq_true (by kernel_rfl)) (by unfold Func.isWrapper; first | (rw [if_pos (by decide +kernel)]; kernel_rfl) | (rw [if_neg (by decide +kernel)]; exact ⟨rfl, rfl⟩))
    (fun os started H enc _ => lifted os started H enc)

theorem proved : Rows.CatchesCutSaid := over
#print axioms proved
end Go.Proofs.Ytnmhhjgiakijgaa.lawCatchesCut
