/- CatchesChain returns true for any owner, any payload and any four numbers. No condition. -/
import Derived.Test.YtnmhhjgiakijgaaF4
import Derived.Test.YtnmhhjgiakijgaaF1
import Derived.Test.YtnmhhjgiakijgaaB16
namespace Go.Proofs.Ytnmhhjgiakijgaa.lawCatchesChain
open Go.ChangeShapes Go.WideShapes Go.ChangeAt Go.RowKit
set_option linter.unusedVariables false

set_option maxRecDepth 100000 in
theorem lifted (os : Os) (started : os.Started) (H : Type) (enc : TypeId × Value → H) :
    ReturnsInHanded {} Try.checked os 17 .any (Rows.catchesChainSpec.pre6 enc Try.prog Try.f17 Rows.catchesChainRow.domain false) (Rows.catchesChainSpec.post enc Try.prog Try.f17 false true false false) := by
  refine returnsInHanded_of_change (C := Try.checked) own started (by kernel_rfl) Try.func17
    (ChangeSpec.witness6 (enc := enc) (C := Try.checked) false ⟨#[], #[.int .u8 0, .agg #[.int .u8 0, .int .u8 0, .int .u32 0, .int .u32 0], .agg #[.int .u8 0, .int .u8 0, .int .u8 0, .int .u8 0]], []⟩ 8 (by kernel_rfl) (by kernel_rfl) (by kernel_rfl) (by kernel_rfl)) ?_
  intro W base args ds gs before hval0 hW hcnd _
  have hval : ∀ (j : Nat) t v, Try.f17.params[j]? = some t → args[j]? = some v → Value.okWide Try.prog W .any base t v := hval0
  have hW' := hW
  obtain ⟨p, q, hA0, hV, rfl, hfz, hnd⟩ := hW
  have hA : DataW.TrodAll enc Try.prog W 0 (fun _ => true) true Try.f17.params.toList args.toList ds p := hA0
  rw [Try.params17] at hA hval
  obtain ⟨v0, vs0, d0, ds0, p0, q0, hargs, rfl, rfl, h0, r0⟩ := trodAll_cons hA
  obtain ⟨v1, vs1, d1, ds1, p1, q1, rfl, rfl, rfl, h1, r1⟩ := trodAll_cons r0
  obtain ⟨v2, vs2, d2, ds2, p2, q2, rfl, rfl, rfl, h2, r2⟩ := trodAll_cons r1
  obtain ⟨rfl, rfl, rfl⟩ := trodAll_nil r2
  obtain rfl : args = #[v0, v1, v2] := by cases args; simp_all
  obtain ⟨rfl, rfl⟩ := trodVars_none hV
  have k0 := h0
  have lt0 : ∀ x ∈ p0, x.block < W.heap.size := by obtain ⟨m, hm⟩ := k0; exact DataW.trod_lt m _ _ _ hm
  have k1 := h1
  have lt1 : ∀ x ∈ p1, x.block < W.heap.size := by obtain ⟨m, hm⟩ := k1; exact DataW.trod_lt m _ _ _ hm
  have k2 := h2
  have lt2 : ∀ x ∈ p2, x.block < W.heap.size := by obtain ⟨m, hm⟩ := k2; exact DataW.trod_lt m _ _ _ hm
  obtain ⟨x, rfl, rfl, rfl, wx⟩ := open_int Try.underlying5 (hval 0 5 v0 rfl rfl) h0
  obtain ⟨k, s, q, z, rfl, lk, ls, lq, lz⟩ := open_payload (hval 1 82 v1 rfl rfl) h1
  obtain ⟨a, b, c, e, rfl, wa, wb, wc, we⟩ := open_four (k := .u8) Try.underlying123 Try.underlying5 (by kernel_rfl) (by kernel_rfl) (hval 2 123 v2 rfl rfl) h2
  clear hA0 hval0
  obtain ⟨x, rfl⟩ := Int.eq_ofNat_of_zero_le (bd_u8 wx).1
  obtain ⟨a, rfl⟩ := Int.eq_ofNat_of_zero_le (bd_u8 wa).1
  obtain ⟨b, rfl⟩ := Int.eq_ofNat_of_zero_le (bd_u8 wb).1
  obtain ⟨c, rfl⟩ := Int.eq_ofNat_of_zero_le (bd_u8 wc).1
  obtain ⟨e, rfl⟩ := Int.eq_ofNat_of_zero_le (bd_u8 we).1
  refine (chain_walk x k s q z a b c e W (by have := bd_u8 wx; omega) lk ls lq lz (by have := bd_u8 wa; omega) (by have := bd_u8 wb; omega) (by have := bd_u8 wc; omega) (by have := bd_u8 we; omega)).mono fun e W' ⟨he, bel⟩ => ?_
  subst he
  exact ⟨_, rfl, _, _, _, [], _, [], hW', trodAll_mk1 (shut_bool Try.underlying4 _), (trodAll_cons_mk (Below.trod laidOut (by kernel_rfl) (of_decide_eq_true (by kernel_rfl)) k0 bel lt0) (trodAll_cons_mk (Below.trod laidOut (by kernel_rfl) (of_decide_eq_true (by kernel_rfl)) k1 bel lt1) (trodAll_cons_mk (Below.trod laidOut (by kernel_rfl) (of_decide_eq_true (by kernel_rfl)) k2 bel lt2) trodAll_mk0))), rfl, bel.frame _, fun h => by cases h⟩

theorem inPlace : Try.prog.inPlace 17 = [] := by kernel_rfl
theorem unf : Try.prog.unfollowed 17 = true := by kernel_rfl
theorem recs : Try.prog.recurses 17 = true := by kernel_rfl
theorem vars : Try.prog.varsNamed 17 = [] := by kernel_rfl
theorem joined : joinedFacts Try.prog 17 Try.f17 Rows.catchesChainSpec Rows.catchesChainRow = true := by
  unfold joinedFacts
  rw [fact_laid, fact_maps, fact_stops, fact_knobs, inPlace, unf, recs, vars, fact_keys, fact_heard, fact_may, fact_lifts, fact_make]
  kernel_rfl

theorem over : Rows.catchesChainRow.holds Try.pinned (OpenSpec.ofChange Rows.catchesChainSpec) :=
  OpenClaim.holds_of_wide 17 Try.f17 rfl rfl rfl rfl rfl rfl rfl ⟨rfl, rfl, rfl, rfl, rfl⟩ rfl rfl rfl rfl rfl (by kernel_rfl) Try.func17 joined
    (of_decide_eq_true (by kernel_rfl)) (by unfold Func.isWrapper; first | (rw [if_pos (by decide +kernel)]; kernel_rfl) | (rw [if_neg (by decide +kernel)]; exact ⟨rfl, rfl⟩))
    (fun os started H enc _ => lifted os started H enc)

theorem proved : Rows.CatchesChainSaid := over
#print axioms proved
end Go.Proofs.Ytnmhhjgiakijgaa.lawCatchesChain
