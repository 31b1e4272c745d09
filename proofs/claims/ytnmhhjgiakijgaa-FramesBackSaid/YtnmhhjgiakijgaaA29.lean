/- Bytes: clones, sameness; the bytes behind which their sum stands. -/
import Derived.Test.YtnmhhjgiakijgaaA27
namespace Go.Proofs.Ytnmhhjgiakijgaa
open Go.RowKit
set_option linter.unusedVariables false

set_option maxHeartbeats 400000 in
set_option maxRecDepth 20000 in
theorem clone5 (A : Option Addr) (n c : Nat) (cs : List Value) (w : World) (hr : Rv w A n cs) (h1 : ∀ u ∈ cs, u.oneCell' = true) (hc : n ≤ c) (hn : n ≤ 60000) :
    Calls Try.prog 165 #[.slice A n c] w fun e w' => ∃ A' c', e = .returned (.slice A' n c') ∧ n ≤ c' ∧ Mn w' w.heap.size 5 1 (.slice A' n c') n cs ∧ Below w.heap.size w w' := by
  cases A with
  | none =>
    have h0 : n = 0 := by
      rcases Nat.eq_zero_or_pos n with h | h
      · exact h
      · obtain ⟨b, o, e, _⟩ := hr.at_ h
        cases e
    subst h0
    have hcs : cs = [] := List.eq_nil_of_length_eq_zero hr.1
    subst hcs
    clear hr h1
    have hnil := fun wx => Lib.run_eql_slice_nil (P := Try.prog) wx 43 5 none 0 c 0 0 Try.underlying43
    go_enter Try.func165, Try.ntmps165
    go_wp2
    go_ret
    exact ⟨none, 0, rfl, Nat.le_refl _, Mn.nil _ _ _ _, Below.refl _ _⟩
  | some a =>
    have HR := Lib.hid hr
    have H1 := Lib.hid h1
    clear hr h1
    have hnil := fun wx => Lib.run_eql_slice_nil (P := Try.prog) wx 43 5 (some a) n c 0 0 Try.underlying43
    go_enter Try.func165, Try.ntmps165
    go_wp2_with (first
      | (at_builtin
         refine wpList_append_mn _ rfl _ _ _ rfl w.heap.size 5 _ 1 1 Try.underlying43 info5 rfl (by omega) (.slice (some ⟨w.heap.size, 0, none⟩) 0 0) 0 [] rfl (Mn.lit w 5 1 0 #[] (Nat.le_refl _) (by simp) (by omega)) (some a) n c cs rfl (by rw [Nat.mul_one]; exact HR.out.alloc _) H1.out (by omega) (by omega) (by simp) ?_
         intro A1 c1 w1 hc1 hm1 hg1 hat1))
    go_ret
    exact ⟨A1, c1, rfl, by omega, by simpa using hm1, ((Below.refl _ _).alloc (Nat.le_refl _) _).grown hg1 (by simp) (fun k hk => by simp [Value.ownBlock] at hk; omega)⟩

set_option maxHeartbeats 1600000 in
set_option maxRecDepth 20000 in
theorem equal5_calls (A B : Option Addr) (n m c d : Nat) (xs ys : List Int) (w : World) (hr : Rd w .u8 A n xs) (hs : Rd w .u8 B m ys) (hc : n ≤ c) (hd : m ≤ d) (hn : n ≤ 60000) :
    Calls Try.prog 166 #[.slice A n c, .slice B m d] w fun e w' => e = .returned (.bool (sameL xs ys)) ∧ ∃ q, w' = w.drewN q := by
  have HR := Lib.hid hr
  have HS := Lib.hid hs
  have HL := Lib.hid hr.len
  have HM := Lib.hid hs.len
  clear hr hs
  by_cases hnm : n = m
  · subst hnm
    go_enter Try.func166, Try.ntmps166
    go_wp2
    go_loopg [13] n (fun g v w' => ∃ k q : Nat, g + k = n ∧ v = .int .i64 k ∧ (∀ j, j < k → gt xs j = gt ys j) ∧ w' = w.drewN q)
    case atStart => exact ⟨0, 0, rfl, rfl, fun j hj => absurd hj (by omega), rfl⟩
    case round =>
      obtain ⟨k, q, hk, rfl, heq, rfl⟩ := hrel
      have HE := Lib.hid heq
      clear heq
      by_cases hlt : k < n
      · obtain ⟨b, o, rfl, hcell⟩ := HR.out.at_ k hlt
        obtain ⟨b', o', rfl, hcell'⟩ := HS.out.at_ k hlt
        by_cases hx : gt xs k = gt ys k
        · have hx' : (gt xs k != gt ys k) = false := by simp [hx]
          have HX := Lib.hid hx
          clear hx
          have HK := Lib.hid hk
          clear hk
          go_wp2
          go_quiet (fail)
          go_wp2
          obtain ⟨g', rfl⟩ : ∃ g', gk = g' + 1 := ⟨gk - 1, by have := HK.out; omega⟩
          go_roundg g'
          case measure => omega
          case rel => exact ⟨k + 1, _, by have := HK.out; omega, by go_num, fun j hj => by
            rcases Nat.lt_succ_iff_lt_or_eq.1 hj with h | h
            · exact HE.out j h
            · rw [h]; exact HX.out, rfl⟩
        · have hx' : (gt xs k != gt ys k) = true := by simp [hx]
          have HX := Lib.hid hx
          clear hx
          go_wp2
          go_quiet (fail)
          go_wp2
          go_ret
          refine ⟨?_, _, World.drewN_drewN ..⟩
          have : sameL xs ys = false := by
            unfold sameL
            exact decide_eq_false fun e => HX.out (by rw [e])
          rw [this]; rfl
      · have e : k = n := by omega
        subst e
        have hfin : sameL xs ys = true := by
          unfold sameL
          exact decide_eq_true (gt_ne_of (HL.out.trans HM.out.symm) (fun j hj => HE.out j (by have := HL.out; omega)))
        have HF := Lib.hid hfin
        clear hfin
        go_wp2
        go_ret
        exact ⟨by rw [HF.out]; rfl, _, rfl⟩
  · have hx' : ((n : Int) != (m : Int)) = true := by simp; omega
    have hfin : sameL xs ys = false := by
      unfold sameL
      exact decide_eq_false fun e => hnm (by rw [← HL.out, ← HM.out, e])
    have HF := Lib.hid hfin
    clear hfin
    go_enter Try.func166, Try.ntmps166
    go_wp2
    go_ret
    exact ⟨by rw [HF.out]; rfl, 0, rfl⟩

theorem bits_or_u32 (a b : Nat) (ha : a < 16777216) (hb : b < 256) : bits .or .u32 ((a : Int) * 256) (b : Int) = ((a * 256 + b : Nat) : Int) := by
  have h : bits .or .u32 ((a : Int) * 256) (b : Int) = IntKind.u32.wrap ((BitVec.ofInt 32 ((a : Int) * 256) ||| BitVec.ofInt 32 (b : Int)).toNat : Int) := rfl
  have h0 : ∀ c : Nat, BitVec.ofInt 32 (c : Int) = BitVec.ofNat 32 c := fun c => by simp
  have h1 : BitVec.ofInt 32 ((a : Int) * 256) = BitVec.ofNat 32 (a * 256) := by
    rw [show (a : Int) * 256 = ((a * 256 : Nat) : Int) from by omega]; exact h0 _
  have h2 : BitVec.ofInt 32 (b : Int) = BitVec.ofNat 32 b := by simp
  have h3 : a * 256 ||| b = a * 256 + b := by
    have := Nat.shiftLeft_add_eq_or_of_lt (b := b) (i := 8) (by omega) a
    rw [Nat.shiftLeft_eq] at this
    exact this.symm
  rw [h, h1, h2, BitVec.toNat_or, BitVec.toNat_ofNat, BitVec.toNat_ofNat, Nat.mod_eq_of_lt (by omega), Nat.mod_eq_of_lt (by omega), h3, wrap_u32]
  omega
/-- the number of k bytes from 'off' on, the highest first -/
def numAt (l : List Int) (off : Nat) : Nat → Nat
  | 0 => 0
  | k + 1 => numAt l off k * 256 + (gt l (off + k)).toNat
theorem numAt_lt (l : List Int) (off : Nat) (h : bytesOk l) : ∀ k, off + k ≤ l.length → numAt l off k < 256 ^ k := by
  intro k
  induction k with
  | zero => intro _; show 0 < 256 ^ 0; decide
  | succ k ih =>
    intro hk
    have h1 := ih (by omega)
    have h2 := bytesOk_gt h (j := off + k) (by omega)
    show numAt l off k * 256 + _ < _
    rw [Nat.pow_succ]
    have : numAt l off k + 1 ≤ 256 ^ k := h1
    have := Nat.mul_le_mul_right 256 this
    omega
theorem numAt_sub (l : List Int) (off : Nat) : ∀ k, k ≤ 4 → off + 4 ≤ l.length → numAt ((l.drop off).take 4) 0 k = numAt l off k := by
  intro k
  induction k with
  | zero => intro _ _; rfl
  | succ k ih =>
    intro hk hl
    show numAt _ 0 k * 256 + _ = numAt l off k * 256 + _
    rw [ih (by omega) hl]
    congr 2
    unfold gt
    rw [List.getD_eq_getElem?_getD, List.getD_eq_getElem?_getD, List.getElem?_take, if_pos (by omega), List.getElem?_drop, Nat.zero_add]

set_option maxHeartbeats 1600000 in
set_option maxRecDepth 20000 in
theorem number_calls (A : Option Addr) (c : Nat) (l : List Int) (w : World) (hr : Rd w .u8 A 4 l) (hc : 4 ≤ c) (hb : bytesOk l) :
    Calls Try.prog 128 #[.slice A 4 c] w fun e w' => e = .returned (.int .u32 (numAt l 0 4)) ∧ w = w' := by
  have HR := Lib.hid hr
  have HL := Lib.hid hr.len
  have HB := Lib.hid hb
  clear hr hb
  go_enter Try.func128, Try.ntmps128
  go_wp2
  go_loopw [2, 7] (fun lu lv w' => ∃ k x : Nat, k ≤ 4 ∧ lv = .int .i64 k ∧ lu = .int .u32 x ∧ Hid (x = numAt l 0 k) ∧ w = w') (fun _ lv _ => 4 - (intOf lv).toNat)
  case atStart => exact ⟨0, 0, by omega, rfl, rfl, Lib.hid rfl, rfl⟩
  case round =>
    obtain ⟨k, x, hk, rfl, rfl, HX, rfl⟩ := hrel
    by_cases hlt : k < 4
    · obtain ⟨b, o, rfl, hcell⟩ := HR.out.at_ k hlt
      have h255 := bytesOk_gt HB.out (j := k) (by rw [HL.out]; exact hlt)
      obtain ⟨y, hy⟩ : ∃ y : Nat, gt l k = y := ⟨(gt l k).toNat, by omega⟩
      rw [hy] at hcell h255
      have hx24 : x < 16777216 := by
        have h1 := numAt_lt l 0 HB.out k (by rw [HL.out]; omega)
        rw [← HX.out] at h1
        have : (256 : Nat) ^ k ≤ 256 ^ 3 := Nat.pow_le_pow_right (by omega) (by omega)
        omega
      have hor := bits_or_u32 x y hx24 (by omega)
      have HN := Lib.hid (show x * 256 + y = numAt l 0 (k + 1) from by
        show _ = numAt l 0 k * 256 + (gt l (0 + k)).toNat
        rw [HX.out, Nat.zero_add, hy]
        rfl)
      obtain ⟨z, hz⟩ : ∃ z, z = x * 256 + y := ⟨_, rfl⟩
      rw [← hz] at hor
      have hz32 : z < 4294967296 := by omega
      have hy8 : y ≤ 255 := by omega
      have HZ := Lib.hid hz
      have HY := Lib.hid hy
      have hsh : ((x : Int) * 256) % 4294967296 = (x : Int) * 256 := by omega
      clear hz hy h255
      go_wp2
      go_roundw
      case rel => exact ⟨k + 1, z, by omega, by go_num, rfl, Lib.hid (by rw [HZ.out]; exact HN.out), by first | rfl | trivial⟩
      case measure => simp [intOf]; omega
    · have hk4 : k = 4 := by omega
      subst hk4
      go_wp2
      go_ret
      exact ⟨by rw [HX.out]; rfl, rfl⟩
end Go.Proofs.Ytnmhhjgiakijgaa
