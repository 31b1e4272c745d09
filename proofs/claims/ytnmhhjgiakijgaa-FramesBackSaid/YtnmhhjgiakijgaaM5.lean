/- Plain words on what is put and got back: no program in sight. -/
import Derived.Test.YtnmhhjgiakijgaaM4
namespace Go.Proofs.Ytnmhhjgiakijgaa

theorem chunk_of (bs : List Int) (k : Nat) (hk : k < bs.length) : chunk (ofL bs) k = putL (gt bs k).toNat 8 := ofL_part bs k hk
theorem wholeL_of (bs : List Int) : wholeL (ofL bs) = true := by
  rw [wholeL_chunks _ bs.length (ofL_length bs)]
  intro k hk
  rw [chunk_of bs k hk]
  exact wholeL_putL _ _
theorem byteOf_of (bs : List Int) (hb : bytesOk bs) (k : Nat) (hk : k < bs.length) : byteOf (ofL bs) k = gt bs k := by
  unfold byteOf
  rw [chunk_of bs k hk, numL_putL]
  have := bytesOk_gt hb hk
  omega
theorem bytesN_of (bs : List Int) (hb : bytesOk bs) : bytesN (ofL bs) bs.length = bs := by
  refine gt_ext (bytesN_length _ _) (fun j hj => ?_)
  rw [bytesN_length] at hj
  have : gt (bytesN (ofL bs) bs.length) j = byteOf (ofL bs) j := by
    unfold gt bytesN
    rw [List.getD_eq_getElem?_getD, List.getElem?_map, List.getElem?_range hj]
    rfl
  rw [this, byteOf_of bs hb j hj]
theorem byV_of (bs : List Int) (hb : bytesOk bs) : byOk (ofL bs) = true ∧ byV (ofL bs) = bs := by
  obtain ⟨h1, h2⟩ := byV_true (ofL bs) bs.length (ofL_length bs) (wholeL_of bs)
  exact ⟨h1, by rw [h2, bytesN_of bs hb]⟩
theorem wholeL_set (xs : List Int) (i : Nat) (hi : i < xs.length) : wholeL (xs.set i 0) = false := by
  refine wholeL_false (j := i) (by simpa using hi) ?_
  rw [gt_set _ _ _ _ hi, if_pos rfl]
  rfl
theorem set_part (xs : List Int) (i : Nat) (hi : i < xs.length) : ((xs.set i 0).drop i).take 1 = [0] := by
  rw [List.drop_set, if_neg (by omega), Nat.sub_self, List.drop_eq_getElem_cons hi]
  rfl
theorem put_len (N k : Nat) (h : k ≤ 64) : (putA [] N (k : Int)).length = k := by rw [putA_length, many_cast k h]; simp
theorem put_ok (N k : Nat) (h : k ≤ 64) : numOk (putA [] N (k : Int)) = true := by unfold putA; rw [many_cast k h, List.nil_append]; exact numOk_putL N k h
theorem put_v (N k : Nat) (h : k ≤ 64) : numV (putA [] N (k : Int)) = N % 2 ^ k := by unfold putA; rw [many_cast k h, List.nil_append]; exact numV_putL N k h
end Go.Proofs.Ytnmhhjgiakijgaa
