/- Frames got and read: contracts, and what they come to. -/
import Derived.Test.YtnmhhjgiakijgaaK2
import Derived.StillTailTactics
import Derived.Laws.StructEq
/- Bytes: clones, sameness; the bytes behind which their sum stands. -/
namespace Go.Proofs.Ytnmhhjgiakijgaa
open Go.RowKit
set_option linter.unusedVariables false

set_option maxHeartbeats 400000 in
set_option maxRecDepth 20000 in
theorem clone5 (A : Option Addr) (n c : Nat) (cs : List Value) (w : World) (hr : Rv w A n cs) (h1 : ∀ u ∈ cs, u.oneCell' = true) (hc : n ≤ c) (hn : n ≤ 60000) :
    Calls Try.prog 165 #[.slice A n c] w fun e w' => ∃ A' c', e = .returned (.slice A' n c') ∧ n ≤ c' ∧ Mn w' w.heap.size 5 1 (.slice A' n c') n cs ∧ Below w.heap.size w w' := by
  cases A with
  | none =>
    have h0 : n = 0 := by
      rcases Nat.eq_zero_or_pos n with h | h
      · exact h
      · obtain ⟨b, o, e, _⟩ := hr.at_ h
        cases e
    subst h0
    have hcs : cs = [] := List.eq_nil_of_length_eq_zero hr.1
    subst hcs
    clear hr h1
    have hnil := fun wx => Lib.run_eql_slice_nil (P := Try.prog) wx 43 5 none 0 c 0 0 Try.underlying43
    go_enter Try.func165, Try.ntmps165
    go_wp2
    go_ret
    exact ⟨none, 0, rfl, Nat.le_refl _, Mn.nil _ _ _ _, Below.refl _ _⟩
  | some a =>
    have HR := Lib.hid hr
    have H1 := Lib.hid h1
    clear hr h1
    have hnil := fun wx => Lib.run_eql_slice_nil (P := Try.prog) wx 43 5 (some a) n c 0 0 Try.underlying43
    go_enter Try.func165, Try.ntmps165
    go_wp2_with (first
      | (at_builtin
         refine wpList_append_mn _ rfl _ _ _ rfl w.heap.size 5 _ 1 1 Try.underlying43 info5 rfl (by omega) (.slice (some ⟨w.heap.size, 0, none⟩) 0 0) 0 [] rfl (Mn.lit w 5 1 0 #[] (Nat.le_refl _) (by simp) (by omega)) (some a) n c cs rfl (by rw [Nat.mul_one]; exact HR.out.alloc _) H1.out (by omega) (by omega) (by simp) ?_
         intro A1 c1 w1 hc1 hm1 hg1 hat1))
    go_ret
    exact ⟨A1, c1, rfl, by omega, by simpa using hm1, ((Below.refl _ _).alloc (Nat.le_refl _) _).grown hg1 (by simp) (fun k hk => by simp [Value.ownBlock] at hk; omega)⟩

set_option maxHeartbeats 1600000 in
set_option maxRecDepth 20000 in
theorem equal5_calls (A B : Option Addr) (n m c d : Nat) (xs ys : List Int) (w : World) (hr : Rd w .u8 A n xs) (hs : Rd w .u8 B m ys) (hc : n ≤ c) (hd : m ≤ d) (hn : n ≤ 60000) :
    Calls Try.prog 166 #[.slice A n c, .slice B m d] w fun e w' => e = .returned (.bool (sameL xs ys)) ∧ ∃ q, w' = w.drewN q := by
  have HR := Lib.hid hr
  have HS := Lib.hid hs
  have HL := Lib.hid hr.len
  have HM := Lib.hid hs.len
  clear hr hs
  by_cases hnm : n = m
  · subst hnm
    go_enter Try.func166, Try.ntmps166
    go_wp2
    go_loopg [13] n (fun g v w' => ∃ k q : Nat, g + k = n ∧ v = .int .i64 k ∧ (∀ j, j < k → gt xs j = gt ys j) ∧ w' = w.drewN q)
    case atStart => exact ⟨0, 0, rfl, rfl, fun j hj => absurd hj (by omega), rfl⟩
    case round =>
      obtain ⟨k, q, hk, rfl, heq, rfl⟩ := hrel
      have HE := Lib.hid heq
      clear heq
      by_cases hlt : k < n
      · obtain ⟨b, o, rfl, hcell⟩ := HR.out.at_ k hlt
        obtain ⟨b', o', rfl, hcell'⟩ := HS.out.at_ k hlt
        by_cases hx : gt xs k = gt ys k
        · have hx' : (gt xs k != gt ys k) = false := by simp [hx]
          have HX := Lib.hid hx
          clear hx
          have HK := Lib.hid hk
          clear hk
          go_wp2
          go_quiet (fail)
          go_wp2
          obtain ⟨g', rfl⟩ : ∃ g', gk = g' + 1 := ⟨gk - 1, by have := HK.out; omega⟩
          go_roundg g'
          case measure => omega
          case rel => exact ⟨k + 1, _, by have := HK.out; omega, by go_num, fun j hj => by
            rcases Nat.lt_succ_iff_lt_or_eq.1 hj with h | h
            · exact HE.out j h
            · rw [h]; exact HX.out, rfl⟩
        · have hx' : (gt xs k != gt ys k) = true := by simp [hx]
          have HX := Lib.hid hx
          clear hx
          go_wp2
          go_quiet (fail)
          go_wp2
          go_ret
          refine ⟨?_, _, World.drewN_drewN ..⟩
          have : sameL xs ys = false := by
            unfold sameL
            exact decide_eq_false fun e => HX.out (by rw [e])
          rw [this]; rfl
      · have e : k = n := by omega
        subst e
        have hfin : sameL xs ys = true := by
          unfold sameL
          exact decide_eq_true (gt_ne_of (HL.out.trans HM.out.symm) (fun j hj => HE.out j (by have := HL.out; omega)))
        have HF := Lib.hid hfin
        clear hfin
        go_wp2
        go_ret
        exact ⟨by rw [HF.out]; rfl, _, rfl⟩
  · have hx' : ((n : Int) != (m : Int)) = true := by simp; omega
    have hfin : sameL xs ys = false := by
      unfold sameL
      exact decide_eq_false fun e => hnm (by rw [← HL.out, ← HM.out, e])
    have HF := Lib.hid hfin
    clear hfin
    go_enter Try.func166, Try.ntmps166
    go_wp2
    go_ret
    exact ⟨by rw [HF.out]; rfl, 0, rfl⟩

theorem bits_or_u32 (a b : Nat) (ha : a < 16777216) (hb : b < 256) : bits .or .u32 ((a : Int) * 256) (b : Int) = ((a * 256 + b : Nat) : Int) := by
  have h : bits .or .u32 ((a : Int) * 256) (b : Int) = IntKind.u32.wrap ((BitVec.ofInt 32 ((a : Int) * 256) ||| BitVec.ofInt 32 (b : Int)).toNat : Int) := rfl
  have h0 : ∀ c : Nat, BitVec.ofInt 32 (c : Int) = BitVec.ofNat 32 c := fun c => by simp
  have h1 : BitVec.ofInt 32 ((a : Int) * 256) = BitVec.ofNat 32 (a * 256) := by
    rw [show (a : Int) * 256 = ((a * 256 : Nat) : Int) from by omega]; exact h0 _
  have h2 : BitVec.ofInt 32 (b : Int) = BitVec.ofNat 32 b := by simp
  have h3 : a * 256 ||| b = a * 256 + b := by
    have := Nat.shiftLeft_add_eq_or_of_lt (b := b) (i := 8) (by omega) a
    rw [Nat.shiftLeft_eq] at this
    exact this.symm
  rw [h, h1, h2, BitVec.toNat_or, BitVec.toNat_ofNat, BitVec.toNat_ofNat, Nat.mod_eq_of_lt (by omega), Nat.mod_eq_of_lt (by omega), h3, wrap_u32]
  omega
/-- the number of k bytes from 'off' on, the highest first -/
def numAt (l : List Int) (off : Nat) : Nat → Nat
  | 0 => 0
  | k + 1 => numAt l off k * 256 + (gt l (off + k)).toNat
theorem numAt_lt (l : List Int) (off : Nat) (h : bytesOk l) : ∀ k, off + k ≤ l.length → numAt l off k < 256 ^ k := by
  intro k
  induction k with
  | zero => intro _; show 0 < 256 ^ 0; decide
  | succ k ih =>
    intro hk
    have h1 := ih (by omega)
    have h2 := bytesOk_gt h (j := off + k) (by omega)
    show numAt l off k * 256 + _ < _
    rw [Nat.pow_succ]
    have : numAt l off k + 1 ≤ 256 ^ k := h1
    have := Nat.mul_le_mul_right 256 this
    omega
theorem numAt_sub (l : List Int) (off : Nat) : ∀ k, k ≤ 4 → off + 4 ≤ l.length → numAt ((l.drop off).take 4) 0 k = numAt l off k := by
  intro k
  induction k with
  | zero => intro _ _; rfl
  | succ k ih =>
    intro hk hl
    show numAt _ 0 k * 256 + _ = numAt l off k * 256 + _
    rw [ih (by omega) hl]
    congr 2
    unfold gt
    rw [List.getD_eq_getElem?_getD, List.getD_eq_getElem?_getD, List.getElem?_take, if_pos (by omega), List.getElem?_drop, Nat.zero_add]

set_option maxHeartbeats 1600000 in
set_option maxRecDepth 20000 in
theorem number_calls (A : Option Addr) (c : Nat) (l : List Int) (w : World) (hr : Rd w .u8 A 4 l) (hc : 4 ≤ c) (hb : bytesOk l) :
    Calls Try.prog 128 #[.slice A 4 c] w fun e w' => e = .returned (.int .u32 (numAt l 0 4)) ∧ w = w' := by
  have HR := Lib.hid hr
  have HL := Lib.hid hr.len
  have HB := Lib.hid hb
  clear hr hb
  go_enter Try.func128, Try.ntmps128
  go_wp2
  go_loopw [2, 7] (fun lu lv w' => ∃ k x : Nat, k ≤ 4 ∧ lv = .int .i64 k ∧ lu = .int .u32 x ∧ Hid (x = numAt l 0 k) ∧ w = w') (fun _ lv _ => 4 - (intOf lv).toNat)
  case atStart => exact ⟨0, 0, by omega, rfl, rfl, Lib.hid rfl, rfl⟩
  case round =>
    obtain ⟨k, x, hk, rfl, rfl, HX, rfl⟩ := hrel
    by_cases hlt : k < 4
    · obtain ⟨b, o, rfl, hcell⟩ := HR.out.at_ k hlt
      have h255 := bytesOk_gt HB.out (j := k) (by rw [HL.out]; exact hlt)
      obtain ⟨y, hy⟩ : ∃ y : Nat, gt l k = y := ⟨(gt l k).toNat, by omega⟩
      rw [hy] at hcell h255
      have hx24 : x < 16777216 := by
        have h1 := numAt_lt l 0 HB.out k (by rw [HL.out]; omega)
        rw [← HX.out] at h1
        have : (256 : Nat) ^ k ≤ 256 ^ 3 := Nat.pow_le_pow_right (by omega) (by omega)
        omega
      have hor := bits_or_u32 x y hx24 (by omega)
      have HN := Lib.hid (show x * 256 + y = numAt l 0 (k + 1) from by
        show _ = numAt l 0 k * 256 + (gt l (0 + k)).toNat
        rw [HX.out, Nat.zero_add, hy]
        rfl)
      obtain ⟨z, hz⟩ : ∃ z, z = x * 256 + y := ⟨_, rfl⟩
      rw [← hz] at hor
      have hz32 : z < 4294967296 := by omega
      have hy8 : y ≤ 255 := by omega
      have HZ := Lib.hid hz
      have HY := Lib.hid hy
      have hsh : ((x : Int) * 256) % 4294967296 = (x : Int) * 256 := by omega
      clear hz hy h255
      go_wp2
      go_roundw
      case rel => exact ⟨k + 1, z, by omega, by go_num, rfl, Lib.hid (by rw [HZ.out]; exact HN.out), by first | rfl | trivial⟩
      case measure => simp [intOf]; omega
    · have hk4 : k = 4 := by omega
      subst hk4
      go_wp2
      go_ret
      exact ⟨by rw [HX.out]; rfl, rfl⟩
end Go.Proofs.Ytnmhhjgiakijgaa

/- Summed bytes told: contracts. -/
namespace Go.Proofs.Ytnmhhjgiakijgaa
open Go.RowKit
set_option linter.unusedVariables false
set_option linter.unusedSimpArgs false

/-- are fourteen bytes ten with their sum behind them? -/
def chkB (l : List Int) : Bool := sameL (putS (l.take 10)) l
theorem chkB_eq {l : List Int} (h : chkB l = true) : putS (l.take 10) = l := of_decide_eq_true h
theorem bytesOk_take {l : List Int} (h : bytesOk l) (k : Nat) : bytesOk (l.take k) := fun x hx => h x (List.mem_of_mem_take hx)

/-- what 'Check' answers -/
def CheckPost (l : List Int) (w : World) (e : Ending) (w' : World) : Prop :=
  (chkB l = true ∧ ∃ A', e = .returned (.tuple #[.slice A' 10 10, .bool true]) ∧ Mn w' w.heap.size 5 1 (.slice A' 10 10) 10 (nums .u8 (l.take 10)) ∧ Below w.heap.size w w') ∨
  (chkB l = false ∧ e = .returned (.tuple #[.slice none 0 0, .bool false]) ∧ Below w.heap.size w w')

set_option maxHeartbeats 3200000 in
set_option maxRecDepth 20000 in
theorem check_calls (A : Option Addr) (c : Nat) (l : List Int) (w : World) (hr : Rd w .u8 A 14 l) (hc : 14 ≤ c) (hcm : c ≤ maxLen) (hb : bytesOk l) :
    Calls Try.prog 127 #[.slice A 14 c] w (CheckPost l w) := by
  have HR := Lib.hid hr
  have HT := Lib.hid (hr.take 10 (by omega))
  have HL := Lib.hid hr.len
  have HB := Lib.hid (bytesOk_take hb 10)
  have HPL := Lib.hid (show (putS (l.take 10)).length = 14 by rw [putS_length, List.length_take, hr.len]; rfl)
  clear hr hb
  go_enter Try.func127, Try.ntmps127
  go_wp2_with fail
  refine (clone5 _ _ _ (nums .u8 (l.take 10)) _ HT.out (nums_one _ _) (by omega) (by omega)).mono ?_; rintro e w1 ⟨A1, c1, rfl, hc1, hm1, hb1⟩
  go_wp2_with fail
  refine (clip5 _ _ _ _ hc1 hm1.cap_le).mono ?_; rintro e w' ⟨rfl, rfl⟩
  go_wp2_with fail
  have hp := Parts.lit (w := w1) (e := 43) (a := w1.heap.size) rfl [(.slice A1 10 10, l.take 10)] (by
    intro r hr
    rw [List.mem_singleton.1 hr]
    exact ⟨A1, 10, 10, rfl, by omega, by omega, hm1.rd, HB.out⟩)
  refine (sumput_calls _ 1 1 [l.take 10] _ hp (by omega) (by omega) (by simp; omega) (by simpa using HB.out)).mono ?_
  clear hp
  rintro e w2 ⟨A2, m2, rfl, hl2, hm2, hb2⟩
  have hfl : [l.take 10].flatten = l.take 10 := by simp
  rw [hfl, HPL.out] at hl2
  rw [hfl] at hm2
  subst hl2
  have hm1' := Lib.hid (hm1.clip.below (show Below w1.heap.size w1 w2 from (by repeat (first | exact Below.refl _ _ | apply Bw.alloc | apply Bw.drewN | apply Bw.drew | (refine Bw.step ?_ (by assumption))))))
  have hm2' := Lib.hid hm2
  have HBW : Below w.heap.size w w2 := (by repeat (first | exact Below.refl _ _ | apply Bw.alloc | apply Bw.drewN | apply Bw.drew | (refine Bw.step ?_ (by assumption))))
  clear hfl hm1 hm2 hb1 hb2 hc1
  go_wp2_with fail
  refine (equal5_calls _ _ _ _ _ _ (putS (l.take 10)) l _ hm2'.out.rd (HR.out.below HBW) (by omega) hc (by omega)).mono ?_; rintro e w' ⟨rfl, q1, rfl⟩
  rewrite [show sameL (putS (l.take 10)) l = chkB l from rfl]
  cases hck : chkB l with
  | true =>
    go_wp2
    go_ret2
    exact .inl ⟨hck, A1, rfl, hm1'.out, (by repeat (first | exact Below.refl _ _ | apply Bw.alloc | apply Bw.drewN | apply Bw.drew | (refine Bw.step ?_ (by assumption))))⟩
  | false =>
    go_wp2
    go_ret2
    exact .inr ⟨hck, rfl, (by repeat (first | exact Below.refl _ _ | apply Bw.alloc | apply Bw.drewN | apply Bw.drew | (refine Bw.step ?_ (by assumption))))⟩

/-- what 'Check' answers, in the reference -/
def RefCheckPost (l : List Int) (A : Option Addr) (c : Nat) (w : World) (e : Ending) (w' : World) : Prop :=
  (chkB l = true ∧ e = .returned (.tuple #[.slice A 10 c, .bool true]) ∧ Below w.heap.size w w') ∨
  (chkB l = false ∧ e = .returned (.tuple #[.slice none 0 0, .bool false]) ∧ Below w.heap.size w w')

set_option maxHeartbeats 3200000 in
set_option maxRecDepth 20000 in
theorem refcheck_calls (A : Option Addr) (c : Nat) (l : List Int) (w : World) (hr : Rd w .u8 A 14 l) (hc : 14 ≤ c) (hcm : c ≤ maxLen) (hb : bytesOk l) :
    Calls Try.prog 129 #[.slice A 14 c] w (RefCheckPost l A c w) := by
  obtain ⟨b, o, rfl, -⟩ := Rv.at_ hr (by omega)
  have HR := Lib.hid hr
  have HT := Lib.hid (hr.take 10 (by omega))
  have HL := Lib.hid hr.len
  have HB := Lib.hid (bytesOk_take hb 10)
  have HBL := Lib.hid hb
  have HK : Hid (∀ w', Below w.heap.size w w' → (convert 43 9 (.slice (some ⟨b, o, none⟩) 14 c)).run Try.prog w' = .ok (.string (strOfNums l)) w') := fun w' h => conv_rd c (HR.out.below h)
  have hci : (10 : Int) ≤ (c : Int) := by omega
  have hc0 : ¬ (c = 0) := by omega
  have hw1 : IntKind.i64.wrap 10 = 10 := by decide
  unfold maxLen at hcm
  clear hr hb
  cases hck : chkB l with
  | true =>
    have HE := Lib.hid (chkB_eq hck)
    have HCK := Lib.hid hck
    clear hck
    go_enter Try.func129, Try.ntmps129
    go_wp2_with fail
    refine wp_region_noPanic ?_
    refine wp_region_held_drew (S := fun w' => (convert 43 9 (.slice (some ⟨b, o, none⟩) 14 c)).run Try.prog w' = .ok (.string (strOfNums l)) w') (by kernel_rfl) (HK.out _ (by repeat (first | exact Below.refl _ _ | apply Bw.alloc | apply Bw.drewN | apply Bw.drew | (refine Bw.step ?_ (by assumption))))) (fun hHeld => ?_)
    refine wpAnyH_take (i := 0) (v := .slice (some ⟨b, o, none⟩) 14 c) (by simp only [List.getElem?_toArray, List.getElem?_cons_zero, List.getElem?_cons_succ]; rfl) (by kernel_rfl) (by kernel_rfl) (by kernel_rfl) (fun _ _ _ h => h) (Or.inl ⟨by rfl, ?_⟩) (by assumption) ?_
    · intro w hSw
      try dsimp only at hSw
      go_simp
    try simp only [Act.put, List.setIfInBounds_toArray, List.set_cons_zero, List.set_cons_succ]
    refine wpAnyH_take (i := 1) (v := .int .i64 14) (by simp only [List.getElem?_toArray, List.getElem?_cons_zero, List.getElem?_cons_succ]; rfl) (by kernel_rfl) (by kernel_rfl) (by kernel_rfl) (fun _ _ _ h => h) (Or.inl ⟨by rfl, ?_⟩) (by assumption) ?_
    · intro w hSw
      try dsimp only at hSw
      go_simp
    try simp only [Act.put, List.setIfInBounds_toArray, List.set_cons_zero, List.set_cons_succ]
    refine wpAnyH_take (i := 2) (v := .bool false) (by simp only [List.getElem?_toArray, List.getElem?_cons_zero, List.getElem?_cons_succ]; rfl) (by kernel_rfl) (by kernel_rfl) (by kernel_rfl) (fun _ _ _ h => h) (Or.inl ⟨by rfl, ?_⟩) (by assumption) ?_
    · intro w hSw
      try dsimp only at hSw
      go_simp
    try simp only [Act.put, List.setIfInBounds_toArray, List.set_cons_zero, List.set_cons_succ]
    refine wpAnyH_take (i := 3) (v := .bool false) (by simp only [List.getElem?_toArray, List.getElem?_cons_zero, List.getElem?_cons_succ]; rfl) (by kernel_rfl) (by kernel_rfl) (by kernel_rfl) (fun _ _ _ h => h) (Or.inl ⟨by rfl, ?_⟩) (by assumption) ?_
    · intro w hSw
      try dsimp only at hSw
      go_simp
    try simp only [Act.put, List.setIfInBounds_toArray, List.set_cons_zero, List.set_cons_succ]
    refine wpAnyH_take (i := 4) (v := .slice (some ⟨b, o, none⟩) 14 c) (by simp only [List.getElem?_toArray, List.getElem?_cons_zero, List.getElem?_cons_succ]; rfl) (by kernel_rfl) (by kernel_rfl) (by kernel_rfl) (fun _ _ _ h => h) (Or.inl ⟨by rfl, ?_⟩) (by assumption) ?_
    · intro w hSw
      try dsimp only at hSw
      go_simp
    try simp only [Act.put, List.setIfInBounds_toArray, List.set_cons_zero, List.set_cons_succ]
    refine wpAnyH_take (i := 5) (v := .slice (some ⟨b, o, none⟩) 14 c) (by simp only [List.getElem?_toArray, List.getElem?_cons_zero, List.getElem?_cons_succ]; rfl) (by kernel_rfl) (by kernel_rfl) (by kernel_rfl) (fun _ _ _ h => h) (Or.inl ⟨by rfl, ?_⟩) (by assumption) ?_
    · intro w hSw
      try dsimp only at hSw
      go_simp
    try simp only [Act.put, List.setIfInBounds_toArray, List.set_cons_zero, List.set_cons_succ]
    refine wpAnyH_take (i := 6) (v := .int .i64 14) (by simp only [List.getElem?_toArray, List.getElem?_cons_zero, List.getElem?_cons_succ]; rfl) (by kernel_rfl) (by kernel_rfl) (by kernel_rfl) (fun _ _ _ h => h) (Or.inl ⟨by rfl, ?_⟩) (by assumption) ?_
    · intro w hSw
      try dsimp only at hSw
      go_simp
    try simp only [Act.put, List.setIfInBounds_toArray, List.set_cons_zero, List.set_cons_succ]
    refine wpAnyH_take (i := 7) (v := .int .i64 10) (by simp only [List.getElem?_toArray, List.getElem?_cons_zero, List.getElem?_cons_succ]; rfl) (by kernel_rfl) (by kernel_rfl) (by kernel_rfl) (fun _ _ _ h => h) (Or.inl ⟨by rfl, ?_⟩) (by assumption) ?_
    · intro w hSw
      try dsimp only at hSw
      go_simp
    try simp only [Act.put, List.setIfInBounds_toArray, List.set_cons_zero, List.set_cons_succ]
    refine wpAnyH_take (i := 8) (v := .slice (some ⟨b, o, none⟩) 10 c) (by simp only [List.getElem?_toArray, List.getElem?_cons_zero, List.getElem?_cons_succ]; rfl) (by kernel_rfl) (by kernel_rfl) (by kernel_rfl) (fun _ _ _ h => h) (Or.inl ⟨by rfl, ?_⟩) (by assumption) ?_
    · intro w hSw
      try dsimp only at hSw
      go_simp
    try simp only [Act.put, List.setIfInBounds_toArray, List.set_cons_zero, List.set_cons_succ]
    refine wpAnyH_take (i := 11) (v := .slice (some ⟨b, o, none⟩) 14 c) (by simp only [List.getElem?_toArray, List.getElem?_cons_zero, List.getElem?_cons_succ]; rfl) (by kernel_rfl) (by kernel_rfl) (by kernel_rfl) (fun _ _ _ h => h) (Or.inl ⟨by rfl, ?_⟩) (by assumption) ?_
    · intro w hSw
      try dsimp only at hSw
      go_simp
    try simp only [Act.put, List.setIfInBounds_toArray, List.set_cons_zero, List.set_cons_succ]
    refine wpAnyH_take (i := 12) (v := .string (strOfNums l)) (by simp only [List.getElem?_toArray, List.getElem?_cons_zero, List.getElem?_cons_succ]; rfl) (by kernel_rfl) (by kernel_rfl) (by kernel_rfl) (fun _ _ _ h => h) (Or.inl ⟨by rfl, ?_⟩) (by assumption) ?_
    · intro w hSw
      try dsimp only at hSw
      go_simp
    try simp only [Act.put, List.setIfInBounds_toArray, List.set_cons_zero, List.set_cons_succ]
    refine wpAnyH_ready (rs := [9]) (by kernel_rfl) (by simp) ?_
    refine AllReadyH.cons (by simp only [List.getElem?_toArray, List.getElem?_cons_zero, List.getElem?_cons_succ]; rfl) (fun K hK => ?_) AllReadyH.nil
    go_simp
    refine (refput2_calls _ 10 c (l.take 10) _ (HT.out.below (by repeat (first | exact Below.refl _ _ | apply Bw.alloc | apply Bw.drewN | apply Bw.drew | (refine Bw.step ?_ (by assumption))))) (by omega) (by omega) HB.out).mono ?_; rintro e w8 ⟨A8, c8, rfl, hc8, hm8, hb8⟩; have hcv := conv_rd c8 hm8.rd; rw [HE.out] at hcv
    refine hK.out _ _ (HK.out _ (by repeat (first | exact Below.refl _ _ | apply Bw.alloc | apply Bw.drewN | apply Bw.drew | (refine Bw.step ?_ (by assumption))))) (fun hHeld8 => ?_)
    clear hK K
    try simp only [Act.put, List.setIfInBounds_toArray, List.set_cons_zero, List.set_cons_succ]
    refine wpAnyH_ready (rs := [10]) (by kernel_rfl) (by simp) ?_
    refine AllReadyH.cons (by simp only [List.getElem?_toArray, List.getElem?_cons_zero, List.getElem?_cons_succ]; rfl) (fun K hK => ?_) AllReadyH.nil
    go_simp
    refine hK.out _ _ (HK.out _ (by repeat (first | exact Below.refl _ _ | apply Bw.alloc | apply Bw.drewN | apply Bw.drew | (refine Bw.step ?_ (by assumption))))) (fun hHeld9 => ?_)
    clear hK K
    try simp only [Act.put, List.setIfInBounds_toArray, List.set_cons_zero, List.set_cons_succ]
    refine wpAnyH_take (i := 13) (v := .bool false) (by simp only [List.getElem?_toArray, List.getElem?_cons_zero, List.getElem?_cons_succ]; rfl) (by kernel_rfl) (by kernel_rfl) (by kernel_rfl) (fun _ _ _ h => h) (Or.inl ⟨by rfl, ?_⟩) (by assumption) ?_
    · intro w hSw
      try dsimp only at hSw
      go_simp
    try simp only [Act.put, List.setIfInBounds_toArray, List.set_cons_zero, List.set_cons_succ]
    refine wpAnyH_take (i := 14) (v := .bool false) (by simp only [List.getElem?_toArray, List.getElem?_cons_zero, List.getElem?_cons_succ]; rfl) (by kernel_rfl) (by kernel_rfl) (by kernel_rfl) (fun _ _ _ h => h) (Or.inl ⟨by rfl, ?_⟩) (by assumption) ?_
    · intro w hSw
      try dsimp only at hSw
      go_simp
    try simp only [Act.put, List.setIfInBounds_toArray, List.set_cons_zero, List.set_cons_succ]
    refine wpAnyH_done (by kernel_rfl) ?_ _
    refine NoPanic.normal ?_
    all_goals
      go_wp2
      go_ret2
      exact .inl ⟨HCK.out, rfl, (by repeat (first | exact Below.refl _ _ | apply Bw.alloc | apply Bw.drewN | apply Bw.drew | (refine Bw.step ?_ (by assumption))))⟩
  | false =>
    have hne : putS (l.take 10) ≠ l := fun e => by
      have : chkB l = true := sameL_eq e
      rw [hck] at this
      cases this
    have hn2 : ((strOfNums (putS (l.take 10))).toList == (strOfNums l).toList) = false := by
      rw [beq_eq_false_iff_ne]
      exact fun e => hne (strOfNums_inj (putS_ok HB.out) HBL.out (ba_inj e))
    have hn3 : ((strOfNums (putS (l.take 10))).toList != (strOfNums l).toList) = true := by
      rw [bne, hn2]; rfl
    have HCK := Lib.hid hck
    clear hck hne
    go_enter Try.func129, Try.ntmps129
    go_wp2_with fail
    refine wp_region_noPanic ?_
    refine wp_region_held_drew (S := fun w' => (convert 43 9 (.slice (some ⟨b, o, none⟩) 14 c)).run Try.prog w' = .ok (.string (strOfNums l)) w') (by kernel_rfl) (HK.out _ (by repeat (first | exact Below.refl _ _ | apply Bw.alloc | apply Bw.drewN | apply Bw.drew | (refine Bw.step ?_ (by assumption))))) (fun hHeld => ?_)
    refine wpAnyH_take (i := 0) (v := .slice (some ⟨b, o, none⟩) 14 c) (by simp only [List.getElem?_toArray, List.getElem?_cons_zero, List.getElem?_cons_succ]; rfl) (by kernel_rfl) (by kernel_rfl) (by kernel_rfl) (fun _ _ _ h => h) (Or.inl ⟨by rfl, ?_⟩) (by assumption) ?_
    · intro w hSw
      try dsimp only at hSw
      go_simp
    try simp only [Act.put, List.setIfInBounds_toArray, List.set_cons_zero, List.set_cons_succ]
    refine wpAnyH_take (i := 1) (v := .int .i64 14) (by simp only [List.getElem?_toArray, List.getElem?_cons_zero, List.getElem?_cons_succ]; rfl) (by kernel_rfl) (by kernel_rfl) (by kernel_rfl) (fun _ _ _ h => h) (Or.inl ⟨by rfl, ?_⟩) (by assumption) ?_
    · intro w hSw
      try dsimp only at hSw
      go_simp
    try simp only [Act.put, List.setIfInBounds_toArray, List.set_cons_zero, List.set_cons_succ]
    refine wpAnyH_take (i := 2) (v := .bool false) (by simp only [List.getElem?_toArray, List.getElem?_cons_zero, List.getElem?_cons_succ]; rfl) (by kernel_rfl) (by kernel_rfl) (by kernel_rfl) (fun _ _ _ h => h) (Or.inl ⟨by rfl, ?_⟩) (by assumption) ?_
    · intro w hSw
      try dsimp only at hSw
      go_simp
    try simp only [Act.put, List.setIfInBounds_toArray, List.set_cons_zero, List.set_cons_succ]
    refine wpAnyH_take (i := 3) (v := .bool false) (by simp only [List.getElem?_toArray, List.getElem?_cons_zero, List.getElem?_cons_succ]; rfl) (by kernel_rfl) (by kernel_rfl) (by kernel_rfl) (fun _ _ _ h => h) (Or.inl ⟨by rfl, ?_⟩) (by assumption) ?_
    · intro w hSw
      try dsimp only at hSw
      go_simp
    try simp only [Act.put, List.setIfInBounds_toArray, List.set_cons_zero, List.set_cons_succ]
    refine wpAnyH_take (i := 4) (v := .slice (some ⟨b, o, none⟩) 14 c) (by simp only [List.getElem?_toArray, List.getElem?_cons_zero, List.getElem?_cons_succ]; rfl) (by kernel_rfl) (by kernel_rfl) (by kernel_rfl) (fun _ _ _ h => h) (Or.inl ⟨by rfl, ?_⟩) (by assumption) ?_
    · intro w hSw
      try dsimp only at hSw
      go_simp
    try simp only [Act.put, List.setIfInBounds_toArray, List.set_cons_zero, List.set_cons_succ]
    refine wpAnyH_take (i := 5) (v := .slice (some ⟨b, o, none⟩) 14 c) (by simp only [List.getElem?_toArray, List.getElem?_cons_zero, List.getElem?_cons_succ]; rfl) (by kernel_rfl) (by kernel_rfl) (by kernel_rfl) (fun _ _ _ h => h) (Or.inl ⟨by rfl, ?_⟩) (by assumption) ?_
    · intro w hSw
      try dsimp only at hSw
      go_simp
    try simp only [Act.put, List.setIfInBounds_toArray, List.set_cons_zero, List.set_cons_succ]
    refine wpAnyH_take (i := 6) (v := .int .i64 14) (by simp only [List.getElem?_toArray, List.getElem?_cons_zero, List.getElem?_cons_succ]; rfl) (by kernel_rfl) (by kernel_rfl) (by kernel_rfl) (fun _ _ _ h => h) (Or.inl ⟨by rfl, ?_⟩) (by assumption) ?_
    · intro w hSw
      try dsimp only at hSw
      go_simp
    try simp only [Act.put, List.setIfInBounds_toArray, List.set_cons_zero, List.set_cons_succ]
    refine wpAnyH_take (i := 7) (v := .int .i64 10) (by simp only [List.getElem?_toArray, List.getElem?_cons_zero, List.getElem?_cons_succ]; rfl) (by kernel_rfl) (by kernel_rfl) (by kernel_rfl) (fun _ _ _ h => h) (Or.inl ⟨by rfl, ?_⟩) (by assumption) ?_
    · intro w hSw
      try dsimp only at hSw
      go_simp
    try simp only [Act.put, List.setIfInBounds_toArray, List.set_cons_zero, List.set_cons_succ]
    refine wpAnyH_take (i := 8) (v := .slice (some ⟨b, o, none⟩) 10 c) (by simp only [List.getElem?_toArray, List.getElem?_cons_zero, List.getElem?_cons_succ]; rfl) (by kernel_rfl) (by kernel_rfl) (by kernel_rfl) (fun _ _ _ h => h) (Or.inl ⟨by rfl, ?_⟩) (by assumption) ?_
    · intro w hSw
      try dsimp only at hSw
      go_simp
    try simp only [Act.put, List.setIfInBounds_toArray, List.set_cons_zero, List.set_cons_succ]
    refine wpAnyH_take (i := 11) (v := .slice (some ⟨b, o, none⟩) 14 c) (by simp only [List.getElem?_toArray, List.getElem?_cons_zero, List.getElem?_cons_succ]; rfl) (by kernel_rfl) (by kernel_rfl) (by kernel_rfl) (fun _ _ _ h => h) (Or.inl ⟨by rfl, ?_⟩) (by assumption) ?_
    · intro w hSw
      try dsimp only at hSw
      go_simp
    try simp only [Act.put, List.setIfInBounds_toArray, List.set_cons_zero, List.set_cons_succ]
    refine wpAnyH_take (i := 12) (v := .string (strOfNums l)) (by simp only [List.getElem?_toArray, List.getElem?_cons_zero, List.getElem?_cons_succ]; rfl) (by kernel_rfl) (by kernel_rfl) (by kernel_rfl) (fun _ _ _ h => h) (Or.inl ⟨by rfl, ?_⟩) (by assumption) ?_
    · intro w hSw
      try dsimp only at hSw
      go_simp
    try simp only [Act.put, List.setIfInBounds_toArray, List.set_cons_zero, List.set_cons_succ]
    refine wpAnyH_ready (rs := [9]) (by kernel_rfl) (by simp) ?_
    refine AllReadyH.cons (by simp only [List.getElem?_toArray, List.getElem?_cons_zero, List.getElem?_cons_succ]; rfl) (fun K hK => ?_) AllReadyH.nil
    go_simp
    refine (refput2_calls _ 10 c (l.take 10) _ (HT.out.below (by repeat (first | exact Below.refl _ _ | apply Bw.alloc | apply Bw.drewN | apply Bw.drew | (refine Bw.step ?_ (by assumption))))) (by omega) (by omega) HB.out).mono ?_; rintro e w8 ⟨A8, c8, rfl, hc8, hm8, hb8⟩; have hcv := conv_rd c8 hm8.rd
    refine hK.out _ _ (HK.out _ (by repeat (first | exact Below.refl _ _ | apply Bw.alloc | apply Bw.drewN | apply Bw.drew | (refine Bw.step ?_ (by assumption))))) (fun hHeld8 => ?_)
    clear hK K
    try simp only [Act.put, List.setIfInBounds_toArray, List.set_cons_zero, List.set_cons_succ]
    refine wpAnyH_ready (rs := [10]) (by kernel_rfl) (by simp) ?_
    refine AllReadyH.cons (by simp only [List.getElem?_toArray, List.getElem?_cons_zero, List.getElem?_cons_succ]; rfl) (fun K hK => ?_) AllReadyH.nil
    go_simp
    refine hK.out _ _ (HK.out _ (by repeat (first | exact Below.refl _ _ | apply Bw.alloc | apply Bw.drewN | apply Bw.drew | (refine Bw.step ?_ (by assumption))))) (fun hHeld9 => ?_)
    clear hK K
    try simp only [Act.put, List.setIfInBounds_toArray, List.set_cons_zero, List.set_cons_succ]
    refine wpAnyH_take (i := 13) (v := .bool true) (by simp only [List.getElem?_toArray, List.getElem?_cons_zero, List.getElem?_cons_succ]; rfl) (by kernel_rfl) (by kernel_rfl) (by kernel_rfl) (fun _ _ _ h => h) (Or.inl ⟨by rfl, ?_⟩) (by assumption) ?_
    · intro w hSw
      try dsimp only at hSw
      go_simp
    try simp only [Act.put, List.setIfInBounds_toArray, List.set_cons_zero, List.set_cons_succ]
    refine wpAnyH_take (i := 14) (v := .bool true) (by simp only [List.getElem?_toArray, List.getElem?_cons_zero, List.getElem?_cons_succ]; rfl) (by kernel_rfl) (by kernel_rfl) (by kernel_rfl) (fun _ _ _ h => h) (Or.inl ⟨by rfl, ?_⟩) (by assumption) ?_
    · intro w hSw
      try dsimp only at hSw
      go_simp
    try simp only [Act.put, List.setIfInBounds_toArray, List.set_cons_zero, List.set_cons_succ]
    refine wpAnyH_done (by kernel_rfl) ?_ _
    refine NoPanic.normal ?_
    all_goals
      go_wp2
      go_ret2
      exact .inr ⟨HCK.out, rfl, (by repeat (first | exact Below.refl _ _ | apply Bw.alloc | apply Bw.drewN | apply Bw.drew | (refine Bw.step ?_ (by assumption))))⟩
end Go.Proofs.Ytnmhhjgiakijgaa

/- The frame of bytes: its contract. -/
namespace Go.Proofs.Ytnmhhjgiakijgaa
open Go.RowKit
set_option linter.unusedVariables false

def gO (l : List Int) : Nat := (gt l 0).toNat % 16
def gK (l : List Int) : Nat := (gt l 0).toNat / 16
def gS (l : List Int) : Nat := (gt l 1).toNat
/-- are these the bytes of a frame? -/
def okB (l : List Int) : Bool := decide (l.length = 14) && chkB l && mayB (gO l : Int) (gK l)
def fO (l : List Int) : Nat := if okB l = true then gO l else 0
def fK (l : List Int) : Nat := if okB l = true then gK l else 0
def fS (l : List Int) : Nat := if okB l = true then gS l else 0
def fQ (l : List Int) : Nat := if okB l = true then numAt l 2 4 else 0
def fV (l : List Int) : Nat := if okB l = true then numAt l 6 4 else 0
/-- what is wrong first -/
def errG (l : List Int) : Int := if l.length = 14 then (if chkB l = true then (if mayB (gO l : Int) (gK l) = true then 0 else 4) else 5) else 4
/-- what 'Get' answers -/
def GetPost (l : List Int) (w : World) (e : Ending) (w' : World) : Prop :=
  e = .returned (.tuple #[.agg #[.int .i64 (fO l), .int .u8 (fK l), .int .u8 (fS l), .int .u32 (fQ l), .int .u32 (fV l)], .int .i64 (errG l)]) ∧ Below w.heap.size w w'
theorem zeroG {l : List Int} (h : okB l = false) : fO l = 0 ∧ fK l = 0 ∧ fS l = 0 ∧ fQ l = 0 ∧ fV l = 0 := by simp [fO, fK, fS, fQ, fV, h]
theorem fullG {l : List Int} (h : okB l = true) : fO l = gO l ∧ fK l = gK l ∧ fS l = gS l ∧ fQ l = numAt l 2 4 ∧ fV l = numAt l 6 4 := by simp [fO, fK, fS, fQ, fV, h]
theorem numAt_take (l : List Int) (off m : Nat) : ∀ k, off + k ≤ m → numAt (l.take m) off k = numAt l off k := by
  intro k
  induction k with
  | zero => intro _; rfl
  | succ k ih =>
    intro hk
    show numAt _ off k * 256 + _ = numAt l off k * 256 + _
    rw [ih (by omega)]
    congr 2
    unfold gt
    rw [List.getD_eq_getElem?_getD, List.getD_eq_getElem?_getD, List.getElem?_take, if_pos (by omega)]
theorem gt_take (l : List Int) (m j : Nat) (h : j < m) : gt (l.take m) j = gt l j := by
  unfold gt
  rw [List.getD_eq_getElem?_getD, List.getD_eq_getElem?_getD, List.getElem?_take, if_pos h]
/-- a block, whole -/
def Blk (w : World) (g : Nat) (cur : Array Value) (e : TypeId) : Prop := w.heap[g]? = some (.cells cur e (0, 0))
theorem Blk.new {w : World} {cs : Array Value} {e : TypeId} {a : Nat} (ha : a = w.heap.size) : Blk (w.alloc (.cells cs e)) a cs e := by subst ha; exact heap_alloc_new w _
theorem Blk.lt {w : World} {g : Nat} {cur : Array Value} {e : TypeId} (h : Blk w g cur e) : g < w.heap.size := (Array.getElem?_eq_some_iff.1 h).1
theorem Blk.below {w w' : World} {g : Nat} {cur : Array Value} {e : TypeId} (h : Blk w g cur e) (hb : Below w.heap.size w w') : Blk w' g cur e := (hb.block g h.lt).trans h
theorem Blk.cell {w : World} {g : Nat} {cur : Array Value} {e : TypeId} (h : Blk w g cur e) (j : Nat) (v : Value) (hv : cur[j]? = some v) : w.cell? ⟨g, j, none⟩ = some v := (cell_of_row w g j cur e (0, 0) h).trans hv
theorem Blk.frozen {w : World} {g : Nat} {cur : Array Value} {e : TypeId} (h : Blk w g cur e) (j : Nat) : w.frozen? ⟨g, j, none⟩ = false := by simp [World.frozen?, show w.heap[g]? = _ from h]
theorem Blk.set {w : World} {g : Nat} {cur : Array Value} {e : TypeId} (h : Blk w g cur e) (j : Nat) (v : Value) : Blk (w.setCell ⟨g, j, none⟩ v) g (cur.setIfInBounds j v) e := setCell_row w g j v cur e h
theorem Bk.drew {B : Nat} {w W : World} (h : Below B w W) : Below B w W.drew := ⟨h.os, h.tape, h.output, h.size, h.block⟩
theorem Bk.drewN {B : Nat} {w W : World} (h : Below B w W) (n : Nat) : Below B w (W.drewN n) := ⟨h.os, h.tape, h.output, h.size, h.block⟩

set_option maxHeartbeats 3200000 in
set_option maxRecDepth 20000 in
theorem get_calls (A : Option Addr) (n c : Nat) (l : List Int) (w : World) (hr : Rd w .u8 A n l) (hc : n ≤ c) (hcm : c ≤ maxLen) (hb : bytesOk l) :
    Calls Try.prog 67 #[.slice A n c] w (GetPost l w) := by
  have hl := hr.len
  by_cases h14 : n = 14
  · subst h14
    have HR := Lib.hid hr
    have HL := Lib.hid hl
    have HB := Lib.hid hb
    clear hr hl hb
    cases hck : chkB l with
    | false =>
      have hok : okB l = false := by simp [okB, hck]
      have HZ := Lib.hid (zeroG hok)
      have HE := Lib.hid (show errG l = 5 by unfold errG; rw [if_pos HL.out, hck]; rfl)
      have HCK := Lib.hid hck
      clear hck hok
      go_enter Try.func67, Try.ntmps67
      go_wp2_with fail
      refine (check_calls _ _ l _ (HR.out.below (by repeat (first | exact Below.refl _ _ | apply Bw.alloc | apply Bw.drewN | apply Bw.drew | (refine Bw.step ?_ (by assumption))))) hc hcm HB.out).mono ?_
      rintro e w1 (⟨h, -⟩ | ⟨-, rfl, hb1⟩)
      · rw [HCK.out] at h; cases h
      have hB : Blk w1 w.heap.size #[.int .i64 0, .int .u8 0, .int .u8 0, .int .u32 0, .int .u32 0] 89 := (Blk.new (w := w) rfl).below hb1
      have c0 := hB.cell 0 (.int .i64 0) rfl
      have c1 := hB.cell 1 (.int .u8 0) rfl
      have c2 := hB.cell 2 (.int .u8 0) rfl
      have c3 := hB.cell 3 (.int .u32 0) rfl
      have c4 := hB.cell 4 (.int .u32 0) rfl
      have f0 := hB.frozen 0
      have f1 := hB.frozen 1
      have f2 := hB.frozen 2
      have f3 := hB.frozen 3
      have f4 := hB.frozen 4
      go_wp2
      refine bodyPost_ret (v := .tuple #[.agg #[.int .i64 0, .int .u8 0, .int .u8 0, .int .u32 0, .int .u32 0], .int .i64 5]) (by simp [results, Try.results67, go_sem, *]) rfl ?_
      obtain ⟨z1, z2, z3, z4, z5⟩ := HZ.out
      refine ⟨by rw [z1, z2, z3, z4, z5, HE.out]; rfl, ?_⟩
      exact (by repeat (first | exact Below.refl _ _ | apply Bw.alloc | apply Bw.drewN | apply Bw.drew | (refine Below.setCell ?_ (by first | exact Nat.le_refl _ | omega | (simp; omega)) _) | (refine Bw.step ?_ (by assumption))))
    | true =>
      have HCK := Lib.hid hck
      clear hck
      go_enter Try.func67, Try.ntmps67
      go_wp2_with fail
      refine (check_calls _ _ l _ (HR.out.below (by repeat (first | exact Below.refl _ _ | apply Bw.alloc | apply Bw.drewN | apply Bw.drew | (refine Bw.step ?_ (by assumption))))) hc hcm HB.out).mono ?_
      rintro e w1 (⟨-, A1, rfl, hm1, hb1⟩ | ⟨h, -, -⟩)
      rotate_left
      · rw [HCK.out] at h; cases h
      have hB : Blk w1 w.heap.size #[.int .i64 0, .int .u8 0, .int .u8 0, .int .u32 0, .int .u32 0] 89 := (Blk.new (w := w) rfl).below hb1
      have hbw1 : Below w.heap.size w w1 := (by repeat (first | exact Below.refl _ _ | apply Bw.alloc | apply Bw.drewN | apply Bw.drew | (refine Bw.step ?_ (by assumption))))
      obtain ⟨g, rfl⟩ := hm1.ex (by omega)
      have hglt := (hm1.block (g := g) rfl).2
      have hgw : w.heap.size < g := by have := (hm1.block (g := g) rfl).1; simp at this; omega
      obtain ⟨x0, hx0, hx0l⟩ : ∃ x : Nat, gt l 0 = x ∧ x ≤ 255 := by
        have := bytesOk_gt HB.out (j := 0) (by rw [HL.out]; omega)
        exact ⟨(gt l 0).toNat, by omega, by omega⟩
      obtain ⟨x1, hx1, hx1l⟩ : ∃ x : Nat, gt l 1 = x ∧ x ≤ 255 := by
        have := bytesOk_gt HB.out (j := 1) (by rw [HL.out]; omega)
        exact ⟨(gt l 1).toNat, by omega, by omega⟩
      have hc0 : w1.cell? ⟨g, 0, none⟩ = some (.int .u8 x0) := by
        have := (hm1.cellV 0 _ (nums_get .u8 (l.take 10) 0 (by rw [List.length_take, HL.out]; omega))).1
        rwa [gt_take _ _ _ (by omega), hx0] at this
      have hc1 : w1.cell? ⟨g, 1, none⟩ = some (.int .u8 x1) := by
        have := (hm1.cellV 1 _ (nums_get .u8 (l.take 10) 1 (by rw [List.length_take, HL.out]; omega))).1
        rwa [gt_take _ _ _ (by omega), hx1] at this
      obtain ⟨y, hy⟩ : ∃ y, y = gO l := ⟨_, rfl⟩
      obtain ⟨z, hz⟩ : ∃ z, z = gK l := ⟨_, rfl⟩
      have hyx : y = x0 % 16 := by rw [hy, gO, hx0]; rfl
      have hzx : z = x0 / 16 := by rw [hz, gK, hx0]; rfl
      have hm16 : (x0 : Int) % 16 = (y : Int) := by omega
      have hm16' : (x0 : Int).tmod 16 = (y : Int) := by rw [Int.tmod_eq_emod_of_nonneg (by omega)]; exact hm16
      have hd16 : (x0 : Int) / 16 = (z : Int) := by omega
      have hd16' : (x0 : Int).tdiv 16 = (z : Int) := by rw [Int.tdiv_eq_ediv_of_nonneg (by omega)]; exact hd16
      have hyl : y ≤ 15 := by omega
      have hzl : z ≤ 15 := by omega
      have HRD := Lib.hid hm1.rd
      have HX1 := Lib.hid (show gS l = x1 by unfold gS; rw [hx1]; rfl)
      have HY := Lib.hid hy
      have HZ := Lib.hid hz
      have HBK := Lib.hid hB
      clear hx0 hx1 hy hz hyx hzx hm1 hb1 hB
      go_wp2
      obtain ⟨q, hq⟩ : ∃ q, q = numAt l 2 4 := ⟨_, rfl⟩
      obtain ⟨v, hv⟩ : ∃ v, v = numAt l 6 4 := ⟨_, rfl⟩
      have hq1 : numAt (((l.take 10).drop 2).take 4) 0 4 = q := by rw [numAt_sub _ 2 4 (Nat.le_refl _) (by rw [List.length_take, HL.out]; omega), numAt_take _ _ _ _ (by omega), hq]
      have hv1 : numAt (((l.take 10).drop 6).take 4) 0 4 = v := by rw [numAt_sub _ 6 4 (Nat.le_refl _) (by rw [List.length_take, HL.out]; omega), numAt_take _ _ _ _ (by omega), hv]
      have hql : q < 4294967296 := by rw [hq]; exact numAt_lt l 2 HB.out 4 (by rw [HL.out]; omega)
      have hvl : v < 4294967296 := by rw [hv]; exact numAt_lt l 6 HB.out 4 (by rw [HL.out]; omega)
      have HQ := Lib.hid hq
      have HV := Lib.hid hv
      have HN2 : Hid (∀ w', Below w1.heap.size w1 w' → Calls Try.prog 128 #[.slice (some ⟨g, 2, none⟩) 4 8] w' fun e w'' => e = .returned (.int .u32 q) ∧ w' = w'') := fun w' h => by
        rw [← hq1]
        exact number_calls _ 8 _ w' ((by simpa using (Rd.sub HRD.out 2 4 (by omega)) : Rd w1 .u8 (some ⟨g, 2, none⟩) 4 (((l.take 10).drop 2).take 4)).below h) (by omega) (fun x hx => HB.out x (List.mem_of_mem_take (List.mem_of_mem_drop (List.mem_of_mem_take hx))))
      have HN6 : Hid (∀ w', Below w1.heap.size w1 w' → Calls Try.prog 128 #[.slice (some ⟨g, 6, none⟩) 4 4] w' fun e w'' => e = .returned (.int .u32 v) ∧ w' = w'') := fun w' h => by
        rw [← hv1]
        exact number_calls _ 4 _ w' ((by simpa using (Rd.sub HRD.out 6 4 (by omega)) : Rd w1 .u8 (some ⟨g, 6, none⟩) 4 (((l.take 10).drop 6).take 4)).below h) (by omega) (fun x hx => HB.out x (List.mem_of_mem_take (List.mem_of_mem_drop (List.mem_of_mem_take hx))))
      have HK : Hid (∀ w', Below w1.heap.size w1 w' → w'.cell? ⟨g, 0, none⟩ = some (.int .u8 x0) ∧ w'.cell? ⟨g, 1, none⟩ = some (.int .u8 x1)) := fun w' h =>
        ⟨(h.cell (p := ⟨g, 0, none⟩) hglt).trans hc0, (h.cell (p := ⟨g, 1, none⟩) hglt).trans hc1⟩
      have HG := Lib.hid (And.intro hglt hgw)
      have hwz : IntKind.u8.wrap (z : Int) = (z : Int) := by rw [show IntKind.u8.wrap (z : Int) = (z : Int) % 256 from rfl]; omega
      clear hq hv hq1 hv1 hc0 hc1 hglt hgw
      go_region_held3 (fun w' => w'.cell? ⟨g, 0, none⟩ = some (.int .u8 x0) ∧ w'.cell? ⟨g, 1, none⟩ = some (.int .u8 x1)) (first | assumption | exact HK.out _ (by repeat (first | exact Below.refl _ _ | apply Bw.alloc | apply Bw.drewN | apply Bw.drew | (refine Bw.step ?_ (by assumption)))))
        (first
          | (go_at_call 128; (with_reducible refine (HN2.out _ ?hb).mono ?_); (case hb => exact (by repeat (first | exact Below.refl _ _ | apply Bw.alloc | apply Bw.drewN | apply Bw.drew | (refine Bw.step ?_ (by assumption))))); rintro e w' ⟨rfl, rfl⟩)
          | (go_at_call 128; (with_reducible refine (HN6.out _ ?hb).mono ?_); (case hb => exact (by repeat (first | exact Below.refl _ _ | apply Bw.alloc | apply Bw.drewN | apply Bw.drew | (refine Bw.step ?_ (by assumption))))); rintro e w' ⟨rfl, rfl⟩))
      all_goals
        go_wp2_with fail
        refine (may_calls (y : Int) z x1 q v _).mono ?_; rintro e w3 ⟨rfl, hb3⟩
        have hB0 : Blk w3 w.heap.size #[.int .i64 0, .int .u8 0, .int .u8 0, .int .u32 0, .int .u32 0] 89 := HBK.out.below (show Below w1.heap.size w1 w3 from (by repeat (first | exact Below.refl _ _ | apply Bw.alloc | apply Bw.drewN | apply Bw.drew | (refine Bw.step ?_ (by assumption)))))
        have hB1 : Blk w3 w1.heap.size #[.int .i64 y, .int .u8 z, .int .u8 x1, .int .u32 q, .int .u32 v] 89 := (show Blk (w1.alloc (.cells #[.int .i64 y, .int .u8 z, .int .u8 x1, .int .u32 q, .int .u32 v] 89)).drew w1.heap.size #[.int .i64 y, .int .u8 z, .int .u8 x1, .int .u32 q, .int .u32 v] 89 from Blk.new (w := w1) rfl).below hb3
        have hbw3 : Below w.heap.size w w3 := (by repeat (first | exact Below.refl _ _ | apply Bw.alloc | apply Bw.drewN | apply Bw.drew | (refine Bw.step ?_ (by assumption))))
        clear hb3
        have c0 := hB0.cell 0 (.int .i64 0) rfl
        have c1 := hB0.cell 1 (.int .u8 0) rfl
        have c2 := hB0.cell 2 (.int .u8 0) rfl
        have c3 := hB0.cell 3 (.int .u32 0) rfl
        have c4 := hB0.cell 4 (.int .u32 0) rfl
        have f0 := hB0.frozen 0
        have f1 := hB0.frozen 1
        have f2 := hB0.frozen 2
        have f3 := hB0.frozen 3
        have f4 := hB0.frozen 4
        have d0 := hB1.cell 0 (.int .i64 y) rfl
        have d1 := hB1.cell 1 (.int .u8 z) rfl
        have d2 := hB1.cell 2 (.int .u8 x1) rfl
        have d3 := hB1.cell 3 (.int .u32 q) rfl
        have d4 := hB1.cell 4 (.int .u32 v) rfl
        clear hB0 hB1
        cases hmay : mayB (y : Int) z with
        | false =>
          have hmg : mayB (gO l : Int) (gK l) = false := by rw [← HY.out, ← HZ.out]; exact hmay
          have HZZ := Lib.hid (zeroG (show okB l = false by simp [okB, hmg]))
          have HE := Lib.hid (show errG l = 4 by unfold errG; rw [if_pos HL.out, if_pos HCK.out, hmg]; rfl)
          clear hmg hmay
          go_wp2
          refine bodyPost_ret (v := .tuple #[.agg #[.int .i64 0, .int .u8 0, .int .u8 0, .int .u32 0, .int .u32 0], .int .i64 4]) (by simp [results, Try.results67, go_sem, *]) rfl ?_
          obtain ⟨z1, z2, z3, z4, z5⟩ := HZZ.out
          refine ⟨by rw [z1, z2, z3, z4, z5, HE.out]; rfl, ?_⟩
          exact (by repeat (first | exact Below.refl _ _ | apply Bw.alloc | apply Bw.drewN | apply Bw.drew | (refine Below.setCell ?_ (by first | exact Nat.le_refl _ | omega | (simp; omega)) _) | (refine Bw.step ?_ (by assumption))))
        | true =>
          have hmg : mayB (gO l : Int) (gK l) = true := by rw [← HY.out, ← HZ.out]; exact hmay
          have HZZ := Lib.hid (fullG (show okB l = true by simp [okB, hmg, HL.out, HCK.out]))
          have HE := Lib.hid (show errG l = 0 by unfold errG; rw [if_pos HL.out, if_pos HCK.out, if_pos hmg])
          clear hmg hmay
          go_wp2
          refine bodyPost_ret (v := .tuple #[.agg #[.int .i64 y, .int .u8 z, .int .u8 x1, .int .u32 q, .int .u32 v], .int .i64 0]) (by simp [results, Try.results67, go_sem, *]) rfl ?_
          obtain ⟨z1, z2, z3, z4, z5⟩ := HZZ.out
          refine ⟨by rw [z1, z2, z3, z4, z5, HE.out, ← HY.out, ← HZ.out, HX1.out, ← HQ.out, ← HV.out], ?_⟩
          exact (by repeat (first | exact Below.refl _ _ | apply Bw.alloc | apply Bw.drewN | apply Bw.drew | (refine Below.setCell ?_ (by first | exact Nat.le_refl _ | omega | (simp; omega)) _) | (refine Bw.step ?_ (by assumption))))
  · have hok : okB l = false := by simp [okB, hl, h14]
    have HZ := Lib.hid (zeroG hok)
    have HE := Lib.hid (show errG l = 4 by unfold errG; rw [if_neg (by rw [hl]; exact h14)])
    have hne : ((n : Int) != 14) = true := by simp; omega
    clear hok hr hl hb
    go_enter Try.func67, Try.ntmps67
    go_wp2
    refine bodyPost_ret (v := .tuple #[.agg #[.int .i64 0, .int .u8 0, .int .u8 0, .int .u32 0, .int .u32 0], .int .i64 4]) (by simp [results, Try.results67, go_sem]) rfl ?_
    obtain ⟨z1, z2, z3, z4, z5⟩ := HZ.out
    exact ⟨by rw [z1, z2, z3, z4, z5, HE.out]; rfl, (by repeat (first | exact Below.refl _ _ | apply Bw.alloc | apply Bw.drewN | apply Bw.drew | (refine Bw.step ?_ (by assumption))))⟩
end Go.Proofs.Ytnmhhjgiakijgaa

/- Frames put and got, plainly: what is put is got, and what is got is put. -/
namespace Go.Proofs.Ytnmhhjgiakijgaa
set_option linter.unusedVariables false

/-- four bytes, from their number -/
theorem beTo_num (a b c d : Nat) (ha : a ≤ 255) (hb : b ≤ 255) (hc : c ≤ 255) (hd : d ≤ 255) : beTo (((a * 256 + b) * 256 + c) * 256 + d) 0 = [(a : Int), b, c, d] := by
  simp only [beTo, byAt, List.cons.injEq, and_true]
  refine ⟨?_, ?_, ?_, ?_⟩ <;> omega
/-- bytes that are got as a frame are those that are put of it -/
theorem put_got {l : List Int} (hb : bytesOk l) (h : okB l = true) : frP (gO l : Int) (gK l) (gS l) (numAt l 2 4) (numAt l 6 4) = l := by
  simp only [okB, Bool.and_eq_true, decide_eq_true_eq] at h
  obtain ⟨⟨h1, h2⟩, h3⟩ := h
  have e := chkB_eq h2
  have hx : ∀ j, j < 10 → ∃ n : Nat, gt l j = n ∧ n ≤ 255 := fun j hj => by
    have := bytesOk_gt hb (j := j) (by omega)
    exact ⟨(gt l j).toNat, by omega, by omega⟩
  obtain ⟨n0, g0, l0⟩ := hx 0 (by omega)
  obtain ⟨n1, g1, l1⟩ := hx 1 (by omega)
  obtain ⟨n2, g2, l2⟩ := hx 2 (by omega)
  obtain ⟨n3, g3, l3⟩ := hx 3 (by omega)
  obtain ⟨n4, g4, l4⟩ := hx 4 (by omega)
  obtain ⟨n5, g5, l5⟩ := hx 5 (by omega)
  obtain ⟨n6, g6, l6⟩ := hx 6 (by omega)
  obtain ⟨n7, g7, l7⟩ := hx 7 (by omega)
  obtain ⟨n8, g8, l8⟩ := hx 8 (by omega)
  obtain ⟨n9, g9, l9⟩ := hx 9 (by omega)
  unfold frP
  rw [if_pos h3]
  have e0 : gO l = n0 % 16 := by unfold gO; rw [g0]; rfl
  have e1 : gK l = n0 / 16 := by unfold gK; rw [g0]; rfl
  have e2 : gS l = n1 := by unfold gS; rw [g1]; rfl
  have e3 : numAt l 2 4 = ((n2 * 256 + n3) * 256 + n4) * 256 + n5 := by simp [numAt, g2, g3, g4, g5]
  have e4 : numAt l 6 4 = ((n6 * 256 + n7) * 256 + n8) * 256 + n9 := by simp [numAt, g6, g7, g8, g9]
  have hB : frB (gO l : Int) (gK l) (gS l) (numAt l 2 4) (numAt l 6 4) = l.take 10 := by
    rw [e0, e1, e2, e3, e4]
    unfold frB
    rw [beTo_num _ _ _ _ l2 l3 l4 l5, beTo_num _ _ _ _ l6 l7 l8 l9]
    refine gt_ext (by rw [List.length_take, h1]; rfl) fun j hj => ?_
    have hj10 : j < 10 := hj
    rw [gt_take _ _ _ hj10]
    have : j = 0 ∨ j = 1 ∨ j = 2 ∨ j = 3 ∨ j = 4 ∨ j = 5 ∨ j = 6 ∨ j = 7 ∨ j = 8 ∨ j = 9 := by omega
    rcases this with rfl | rfl | rfl | rfl | rfl | rfl | rfl | rfl | rfl | rfl
    · rw [g0]; show 16 * ((n0 / 16 : Nat) : Int) + ((n0 % 16 : Nat) : Int) = _; omega
    · rw [g1]; rfl
    · rw [g2]; rfl
    · rw [g3]; rfl
    · rw [g4]; rfl
    · rw [g5]; rfl
    · rw [g6]; rfl
    · rw [g7]; rfl
    · rw [g8]; rfl
    · rw [g9]; rfl
  rw [hB]
  exact e
theorem numAt_be (l : List Int) (off q : Nat) (hq : q < 4294967296) (h0 : gt l off = byAt q 3) (h1 : gt l (off + 1) = byAt q 2) (h2 : gt l (off + 2) = byAt q 1) (h3 : gt l (off + 3) = byAt q 0) : numAt l off 4 = q := by
  have e : numAt l off 4 = ((((0 * 256 + (gt l (off + 0)).toNat) * 256 + (gt l (off + 1)).toNat) * 256 + (gt l (off + 2)).toNat) * 256 + (gt l (off + 3)).toNat) := rfl
  rw [e, Nat.add_zero, h0, h1, h2, h3]
  simp only [byAt]
  omega
/-- what is put is got -/
theorem got_put (o : Int) (k s q v : Nat) (hm : mayB o k = true) (hs : s ≤ 255) (hq : q < 4294967296) (hv : v < 4294967296) :
    okB (frP o k s q v) = true ∧ (gO (frP o k s q v) : Int) = o ∧ gK (frP o k s q v) = k ∧ gS (frP o k s q v) = s ∧ numAt (frP o k s q v) 2 4 = q ∧ numAt (frP o k s q v) 6 4 = v := by
  obtain ⟨h1, h2, h3⟩ := mayB_true hm
  have hl := frP_length o k s q v hm
  have hP : frP o k s q v = putS (frB o k s q v) := by unfold frP; rw [if_pos hm]
  have hg : ∀ j, j < 10 → gt (frP o k s q v) j = gt (frB o k s q v) j := fun j hj => by
    rw [hP]; exact gt_append_left _ _ _ (by rw [frB_length]; exact hj)
  have g0 : gt (frP o k s q v) 0 = 16 * (k : Int) + o := (hg 0 (by omega)).trans rfl
  have g1 : gt (frP o k s q v) 1 = (s : Int) := (hg 1 (by omega)).trans rfl
  have eO : (gO (frP o k s q v) : Int) = o := by unfold gO; rw [g0]; omega
  have eK : gK (frP o k s q v) = k := by unfold gK; rw [g0]; omega
  have eS : gS (frP o k s q v) = s := by unfold gS; rw [g1]; rfl
  have eQ : numAt (frP o k s q v) 2 4 = q := numAt_be _ 2 q hq ((hg 2 (by omega)).trans rfl) ((hg 3 (by omega)).trans rfl) ((hg 4 (by omega)).trans rfl) ((hg 5 (by omega)).trans rfl)
  have eV : numAt (frP o k s q v) 6 4 = v := numAt_be _ 6 v hv ((hg 6 (by omega)).trans rfl) ((hg 7 (by omega)).trans rfl) ((hg 8 (by omega)).trans rfl) ((hg 9 (by omega)).trans rfl)
  refine ⟨?_, eO, eK, eS, eQ, eV⟩
  have hc : chkB (frP o k s q v) = true := by
    unfold chkB
    refine sameL_eq ?_
    rw [hP]
    congr 1
  simp only [okB, Bool.and_eq_true, decide_eq_true_eq]
  exact ⟨⟨hl, hc⟩, by rw [eO, eK]; exact hm⟩
theorem errG_ok {l : List Int} (h : okB l = true) : errG l = 0 := by
  simp only [okB, Bool.and_eq_true, decide_eq_true_eq] at h
  unfold errG
  rw [if_pos h.1.1, if_pos h.1.2, if_pos h.2]
theorem errG_bad {l : List Int} (h : okB l = false) : errG l = 4 ∨ errG l = 5 ∧ l.length = 14 := by
  unfold errG
  by_cases h1 : l.length = 14
  · rw [if_pos h1]
    by_cases h2 : chkB l = true
    · rw [if_pos h2]
      by_cases h3 : mayB (gO l : Int) (gK l) = true
      · simp [okB, h1, h2, h3] at h
      · rw [if_neg h3]; exact .inl rfl
    · rw [if_neg h2]; exact .inr ⟨rfl, h1⟩
  · rw [if_neg h1]; exact .inl rfl
end Go.Proofs.Ytnmhhjgiakijgaa

/- The reference's frame of bytes: its contract. -/
namespace Go.Proofs.Ytnmhhjgiakijgaa
open Go.RowKit
set_option linter.unusedVariables false

theorem gt_cell {w : World} {b o n : Nat} {l : List Int} (h : Rd w .u8 (some ⟨b, o, none⟩) n l) (j x : Nat) (hj : j < n) (hx : gt l j = x) : w.cell? ⟨b, o + j, none⟩ = some (.int .u8 x) := by
  obtain ⟨b', o', e, hc⟩ := h.at_ j hj
  injection e with e
  injection e with e1 e2
  subst e1
  subst e2
  rw [hc, hx]

set_option maxHeartbeats 3200000 in
set_option maxRecDepth 20000 in
theorem refget_calls (A : Option Addr) (n c : Nat) (l : List Int) (w : World) (hr : Rd w .u8 A n l) (hc : n ≤ c) (hcm : c ≤ maxLen) (hb : bytesOk l) :
    Calls Try.prog 68 #[.slice A n c] w (GetPost l w) := by
  have hl := hr.len
  by_cases h14 : n = 14
  · subst h14
    have HL := Lib.hid hl
    have HB := Lib.hid hb
    obtain ⟨b, o, rfl, hblt, -⟩ := Rv.at_ hr (by omega)
    have HR := Lib.hid hr
    clear hr hl hb
    cases hck : chkB l with
    | false =>
      have hok : okB l = false := by simp [okB, hck]
      have HZ := Lib.hid (zeroG hok)
      have HE := Lib.hid (show errG l = 5 by unfold errG; rw [if_pos HL.out, hck]; rfl)
      have HCK := Lib.hid hck
      clear hck hok
      go_enter Try.func68, Try.ntmps68
      go_wp2_with fail
      refine (refcheck_calls _ _ l _ (HR.out.below (by repeat (first | exact Below.refl _ _ | apply Bw.alloc | apply Bw.drewN | apply Bw.drew | (refine Bw.step ?_ (by assumption))))) hc hcm HB.out).mono ?_
      rintro e w1 (⟨h, -⟩ | ⟨-, rfl, hb1⟩)
      · rw [HCK.out] at h; cases h
      have hB : Blk w1 w.heap.size #[.int .i64 0, .int .u8 0, .int .u8 0, .int .u32 0, .int .u32 0] 85 := (Blk.new (w := w) rfl).below hb1
      have c0 := hB.cell 0 (.int .i64 0) rfl
      have c1 := hB.cell 1 (.int .u8 0) rfl
      have c2 := hB.cell 2 (.int .u8 0) rfl
      have c3 := hB.cell 3 (.int .u32 0) rfl
      have c4 := hB.cell 4 (.int .u32 0) rfl
      have f0 := hB.frozen 0
      have f1 := hB.frozen 1
      have f2 := hB.frozen 2
      have f3 := hB.frozen 3
      have f4 := hB.frozen 4
      go_wp2
      refine bodyPost_ret (v := .tuple #[.agg #[.int .i64 0, .int .u8 0, .int .u8 0, .int .u32 0, .int .u32 0], .int .i64 5]) (by simp [results, Try.results68, go_sem, *]) rfl ?_
      obtain ⟨z1, z2, z3, z4, z5⟩ := HZ.out
      refine ⟨by rw [z1, z2, z3, z4, z5, HE.out]; rfl, ?_⟩
      exact (by repeat (first | exact Below.refl _ _ | apply Bw.alloc | apply Bw.drewN | apply Bw.drew | (refine Below.setCell ?_ (by first | exact Nat.le_refl _ | omega | (simp; omega)) _) | (refine Bw.step ?_ (by assumption))))
    | true =>
      have HCK := Lib.hid hck
      clear hck
      go_enter Try.func68, Try.ntmps68
      go_wp2_with fail
      refine (refcheck_calls _ _ l _ (HR.out.below (by repeat (first | exact Below.refl _ _ | apply Bw.alloc | apply Bw.drewN | apply Bw.drew | (refine Bw.step ?_ (by assumption))))) hc hcm HB.out).mono ?_
      rintro e w1 (⟨-, rfl, hb1⟩ | ⟨h, -, -⟩)
      rotate_left
      · rw [HCK.out] at h; cases h
      have hB : Blk w1 w.heap.size #[.int .i64 0, .int .u8 0, .int .u8 0, .int .u32 0, .int .u32 0] 85 := (Blk.new (w := w) rfl).below hb1
      have hbw1 : Below w.heap.size w w1 := (by repeat (first | exact Below.refl _ _ | apply Bw.alloc | apply Bw.drewN | apply Bw.drew | (refine Bw.step ?_ (by assumption))))
      have hwlt : w.heap.size < w1.heap.size := hB.lt
      have HR1 := Lib.hid (HR.out.below hbw1)
      obtain ⟨x0, hx0, hx0l⟩ : ∃ x : Nat, gt l 0 = x ∧ x ≤ 255 := by
        have := bytesOk_gt HB.out (j := 0) (by rw [HL.out]; omega)
        exact ⟨(gt l 0).toNat, by omega, by omega⟩
      obtain ⟨x1, hx1, hx1l⟩ : ∃ x : Nat, gt l 1 = x ∧ x ≤ 255 := by
        have := bytesOk_gt HB.out (j := 1) (by rw [HL.out]; omega)
        exact ⟨(gt l 1).toNat, by omega, by omega⟩
      have hc0 : w1.cell? ⟨b, o, none⟩ = some (.int .u8 x0) := gt_cell HR1.out 0 x0 (by omega) hx0
      have hc1 : w1.cell? ⟨b, o + 1, none⟩ = some (.int .u8 x1) := gt_cell HR1.out 1 x1 (by omega) hx1
      obtain ⟨y, hy⟩ : ∃ y, y = gO l := ⟨_, rfl⟩
      obtain ⟨z, hz⟩ : ∃ z, z = gK l := ⟨_, rfl⟩
      have hyx : y = x0 % 16 := by rw [hy, gO, hx0]; rfl
      have hzx : z = x0 / 16 := by rw [hz, gK, hx0]; rfl
      have hm16 : (x0 : Int) % 16 = (y : Int) := by omega
      have hm16' : (x0 : Int).tmod 16 = (y : Int) := by rw [Int.tmod_eq_emod_of_nonneg (by omega)]; exact hm16
      have hd16 : (x0 : Int) / 16 = (z : Int) := by omega
      have hd16' : (x0 : Int).tdiv 16 = (z : Int) := by rw [Int.tdiv_eq_ediv_of_nonneg (by omega)]; exact hd16
      have hyl : y ≤ 15 := by omega
      have hzl : z ≤ 15 := by omega
      have hb1lt : b < w1.heap.size := by have := hbw1.size; omega
      have hca0 : ∀ ob, (w1.alloc ob).cell? ⟨b, o, none⟩ = some (.int .u8 x0) := fun ob => ((Bw.alloc (Below.refl _ _) ob).cell (p := ⟨b, o, none⟩) hb1lt).trans hc0
      have hca1 : ∀ ob, (w1.alloc ob).cell? ⟨b, o + 1, none⟩ = some (.int .u8 x1) := fun ob => ((Bw.alloc (Below.refl _ _) ob).cell (p := ⟨b, o + 1, none⟩) hb1lt).trans hc1
      have HX1 := Lib.hid (show gS l = x1 by unfold gS; rw [hx1]; rfl)
      have HY := Lib.hid hy
      have HZ := Lib.hid hz
      have HBK := Lib.hid hB
      have HW := Lib.hid (And.intro hwlt hbw1)
      clear hx0 hx1 hy hz hyx hzx hb1 hB hwlt hbw1
      go_wp2
      clear hm16 hm16' hd16 hd16' hc0 hc1 hca0 hca1
      go_loopw [7] (fun lv w' => ∃ (i q v : Nat), i ≤ 4 ∧ lv = .int .i64 i ∧ Hid (q = numAt l 2 i) ∧ Hid (v = numAt l 6 i) ∧ Hid (Blk w' w1.heap.size #[.int .i64 y, .int .u8 z, .int .u8 x1, .int .u32 q, .int .u32 v] 85) ∧ Below w1.heap.size w1 w') (fun lv _ => 4 - (intOf lv).toNat)
      case atStart => exact ⟨0, 0, 0, Nat.zero_le _, rfl, Lib.hid rfl, Lib.hid rfl, Lib.hid (Blk.new (w := w1) rfl), (by repeat (first | exact Below.refl _ _ | apply Bw.alloc | apply Bw.drewN | apply Bw.drew | (refine Bw.step ?_ (by assumption))))⟩
      case round =>
        obtain ⟨i, q, v, hi, rfl, HQ, HV, HBL, hbl⟩ := hrel
        by_cases hlt : i < 4
        · have hq3 : q < 16777216 := by
            have h1 := numAt_lt l 2 HB.out i (by rw [HL.out]; omega)
            rw [← HQ.out] at h1
            have : (256 : Nat) ^ i ≤ 256 ^ 3 := Nat.pow_le_pow_right (by omega) (by omega)
            omega
          have hv3 : v < 16777216 := by
            have h1 := numAt_lt l 6 HB.out i (by rw [HL.out]; omega)
            rw [← HV.out] at h1
            have : (256 : Nat) ^ i ≤ 256 ^ 3 := Nat.pow_le_pow_right (by omega) (by omega)
            omega
          obtain ⟨x2, hx2, hx2l⟩ : ∃ x : Nat, gt l (2 + i) = x ∧ x ≤ 255 := by
            have := bytesOk_gt HB.out (j := 2 + i) (by rw [HL.out]; omega)
            exact ⟨(gt l (2 + i)).toNat, by omega, by omega⟩
          obtain ⟨x6, hx6, hx6l⟩ : ∃ x : Nat, gt l (6 + i) = x ∧ x ≤ 255 := by
            have := bytesOk_gt HB.out (j := 6 + i) (by rw [HL.out]; omega)
            exact ⟨(gt l (6 + i)).toNat, by omega, by omega⟩
          obtain ⟨p2, hp2⟩ : ∃ p, p = 2 + i := ⟨_, rfl⟩
          obtain ⟨p6, hp6⟩ : ∃ p, p = 6 + i := ⟨_, rfl⟩
          rw [← hp2] at hx2
          rw [← hp6] at hx6
          have cb2 : wr.drew.cell? ⟨b, o + p2, none⟩ = some (.int .u8 x2) := gt_cell (HR1.out.below hbl) p2 x2 (by omega) hx2
          have HC6 := Lib.hid (fun (w' : World) (h : Below w1.heap.size w1 w') => gt_cell (HR1.out.below h) p6 x6 (by omega) hx6)
          obtain ⟨qa, hqa⟩ : ∃ qa, qa = 256 * q := ⟨_, rfl⟩
          obtain ⟨va, hva⟩ : ∃ va, va = 256 * v := ⟨_, rfl⟩
          obtain ⟨q2, hq2⟩ : ∃ q2, q2 = q * 256 + x2 := ⟨_, rfl⟩
          obtain ⟨v2, hv2⟩ : ∃ v2, v2 = v * 256 + x6 := ⟨_, rfl⟩
          have HQ2 := Lib.hid (show q2 = numAt l 2 (i + 1) by show _ = numAt l 2 i * 256 + (gt l (2 + i)).toNat; rw [hq2, HQ.out, ← hp2, hx2]; rfl)
          have HV2 := Lib.hid (show v2 = numAt l 6 (i + 1) by show _ = numAt l 6 i * 256 + (gt l (6 + i)).toNat; rw [hv2, HV.out, ← hp6, hx6]; rfl)
          have e1 : IntKind.u32.wrap (256 * (q : Int)) = (qa : Int) := by rw [wrap_u32]; omega
          have e2 : IntKind.u32.wrap ((qa : Int) + (x2 : Int)) = (q2 : Int) := by rw [wrap_u32]; omega
          have e3 : IntKind.u32.wrap (256 * (v : Int)) = (va : Int) := by rw [wrap_u32]; omega
          have e4 : IntKind.u32.wrap ((va : Int) + (x6 : Int)) = (v2 : Int) := by rw [wrap_u32]; omega
          have e2m : ((qa : Int) + (x2 : Int)) % 4294967296 = (q2 : Int) := by omega
          have e4m : ((va : Int) + (x6 : Int)) % 4294967296 = (v2 : Int) := by omega
          have e5 : IntKind.i64.wrap (2 + (i : Int)) = (p2 : Int) := by rw [IntWalk.i64_in _ (by omega)]; omega
          have e6 : IntKind.i64.wrap (6 + (i : Int)) = (p6 : Int) := by rw [IntWalk.i64_in _ (by omega)]; omega
          have e7 : (p2 : Int) < 10 := by omega
          have e8 : (p6 : Int) < 10 := by omega
          have l2 : p2 < 10 := by omega
          have l6 : p6 < 10 := by omega
          clear hq2 hv2 hx2 hx6 hp2 hp6 hqa hva
          have c3 : wr.drew.cell? ⟨w1.heap.size, 3, none⟩ = some (.int .u32 q) := HBL.out.cell 3 (.int .u32 q) rfl
          have f3 : wr.drew.frozen? ⟨w1.heap.size, 3, none⟩ = false := HBL.out.frozen 3
          have HBL2 := Lib.hid (show Blk wr.drew w1.heap.size #[.int .i64 y, .int .u8 z, .int .u8 x1, .int .u32 q, .int .u32 v] 85 from HBL.out)
          have hbl2 := Bk.drew hbl
          clear HBL
          go_wp2
          go_still_tail 13, (by kernel_rfl)
          change wpList _ _ _ _ _ wr.drew
          clear hbl
          generalize wr.drew = w2 at *
          go_wp2
          rewrite [e2m]
          have hb4 : Blk (w2.setCell ⟨w1.heap.size, 3, none⟩ (.int .u32 q2)) w1.heap.size #[.int .i64 y, .int .u8 z, .int .u8 x1, .int .u32 q2, .int .u32 v] 85 := HBL2.out.set 3 _
          have hbl4 : Below w1.heap.size w1 (w2.setCell ⟨w1.heap.size, 3, none⟩ (.int .u32 q2)) := Below.setCell hbl2 (p := ⟨w1.heap.size, 3, none⟩) (Nat.le_refl _) _
          clear cb2 c3 f3 hbl2 HBL2
          generalize w2.setCell ⟨w1.heap.size, 3, none⟩ (.int .u32 q2) = wq at *
          have cb6 : wq.drew.cell? ⟨b, o + p6, none⟩ = some (.int .u8 x6) := HC6.out _ (Bk.drew hbl4)
          have c4 : wq.drew.cell? ⟨w1.heap.size, 4, none⟩ = some (.int .u32 v) := hb4.cell 4 (.int .u32 v) rfl
          have f4 : wq.drew.frozen? ⟨w1.heap.size, 4, none⟩ = false := hb4.frozen 4
          have hb4 : Blk wq.drew w1.heap.size #[.int .i64 y, .int .u8 z, .int .u8 x1, .int .u32 q2, .int .u32 v] 85 := hb4
          have hbl4 : Below w1.heap.size w1 wq.drew := Bk.drew hbl4
          have HB4 := Lib.hid hb4
          clear hb4
          go_still_tail 13, (by kernel_rfl)
          change wpList _ _ _ _ _ wq.drew
          generalize wq.drew = w4 at *
          have hb5 : Blk (w4.setCell ⟨w1.heap.size, 4, none⟩ (.int .u32 v2)) w1.heap.size #[.int .i64 y, .int .u8 z, .int .u8 x1, .int .u32 q2, .int .u32 v2] 85 := HB4.out.set 4 _
          have hbl5 : Below w1.heap.size w1 (w4.setCell ⟨w1.heap.size, 4, none⟩ (.int .u32 v2)) := Below.setCell hbl4 (p := ⟨w1.heap.size, 4, none⟩) (Nat.le_refl _) _
          have HB5 := Lib.hid hb5
          clear hb5 HB4 hbl4
          go_wp2
          go_roundw
          case rel => exact ⟨i + 1, q2, v2, by omega, by go_num, HQ2, HV2, HB5, hbl5⟩
          case measure => simp [intOf]; omega
        · have hi4 : i = 4 := by omega
          subst hi4
          have k0 := HBL.out.cell 0 (.int .i64 y) rfl
          have k1 := HBL.out.cell 1 (.int .u8 z) rfl
          have k2 := HBL.out.cell 2 (.int .u8 x1) rfl
          have k3 := HBL.out.cell 3 (.int .u32 q) rfl
          have k4 := HBL.out.cell 4 (.int .u32 v) rfl
          go_wp2_with fail
          clear k0 k1 k2 k3 k4
          refine (refmay_calls (y : Int) z x1 q v _).mono ?_; rintro e w3 ⟨rfl, hb3⟩
          have hB0 : Blk w3 w.heap.size #[.int .i64 0, .int .u8 0, .int .u8 0, .int .u32 0, .int .u32 0] 85 := (HBK.out.below hbl).below (show Below wr.heap.size wr w3 from (by repeat (first | exact Below.refl _ _ | apply Bw.alloc | apply Bw.drewN | apply Bw.drew | (refine Bw.step ?_ (by assumption)))))
          have hB1 : Blk w3 w1.heap.size #[.int .i64 y, .int .u8 z, .int .u8 x1, .int .u32 q, .int .u32 v] 85 := HBL.out.below (show Below wr.heap.size wr w3 from (by repeat (first | exact Below.refl _ _ | apply Bw.alloc | apply Bw.drewN | apply Bw.drew | (refine Bw.step ?_ (by assumption)))))
          have hbw3 : Below w.heap.size w w3 := (HW.out.2.trans (hbl.mono HW.out.2.size)).trans (show Below w.heap.size wr w3 from Below.mono (show Below wr.heap.size wr w3 from (by repeat (first | exact Below.refl _ _ | apply Bw.alloc | apply Bw.drewN | apply Bw.drew | (refine Bw.step ?_ (by assumption))))) (Nat.le_trans HW.out.2.size hbl.size))
          clear hb3 hbl HBL
          have c0 := hB0.cell 0 (.int .i64 0) rfl
          have c1 := hB0.cell 1 (.int .u8 0) rfl
          have c2 := hB0.cell 2 (.int .u8 0) rfl
          have c3 := hB0.cell 3 (.int .u32 0) rfl
          have c4 := hB0.cell 4 (.int .u32 0) rfl
          have f0 := hB0.frozen 0
          have f1 := hB0.frozen 1
          have f2 := hB0.frozen 2
          have f3 := hB0.frozen 3
          have f4 := hB0.frozen 4
          have d0 := hB1.cell 0 (.int .i64 y) rfl
          have d1 := hB1.cell 1 (.int .u8 z) rfl
          have d2 := hB1.cell 2 (.int .u8 x1) rfl
          have d3 := hB1.cell 3 (.int .u32 q) rfl
          have d4 := hB1.cell 4 (.int .u32 v) rfl
          clear hB0 hB1
          cases hmay : mayB (y : Int) z with
          | false =>
            have hmg : mayB (gO l : Int) (gK l) = false := by rw [← HY.out, ← HZ.out]; exact hmay
            have HZZ := Lib.hid (zeroG (show okB l = false by simp [okB, hmg]))
            have HE := Lib.hid (show errG l = 4 by unfold errG; rw [if_pos HL.out, if_pos HCK.out, hmg]; rfl)
            clear hmg hmay
            go_wp2
            refine bodyPost_ret (v := .tuple #[.agg #[.int .i64 0, .int .u8 0, .int .u8 0, .int .u32 0, .int .u32 0], .int .i64 4]) (by simp [results, Try.results68, go_sem, *]) rfl ?_
            obtain ⟨z1, z2, z3, z4, z5⟩ := HZZ.out
            refine ⟨by rw [z1, z2, z3, z4, z5, HE.out]; rfl, ?_⟩
            exact (by repeat (first | exact Below.refl _ _ | apply Bw.alloc | apply Bw.drewN | apply Bw.drew | (refine Below.setCell ?_ (by first | exact Nat.le_refl _ | omega | (simp; omega)) _) | (refine Bw.step ?_ (by assumption))))
          | true =>
            have hmg : mayB (gO l : Int) (gK l) = true := by rw [← HY.out, ← HZ.out]; exact hmay
            have HZZ := Lib.hid (fullG (show okB l = true by simp [okB, hmg, HL.out, HCK.out]))
            have HE := Lib.hid (show errG l = 0 by unfold errG; rw [if_pos HL.out, if_pos HCK.out, if_pos hmg])
            clear hmg hmay
            go_wp2
            refine bodyPost_ret (v := .tuple #[.agg #[.int .i64 y, .int .u8 z, .int .u8 x1, .int .u32 q, .int .u32 v], .int .i64 0]) (by simp [results, Try.results68, go_sem, *]) rfl ?_
            obtain ⟨z1, z2, z3, z4, z5⟩ := HZZ.out
            refine ⟨by rw [z1, z2, z3, z4, z5, HE.out, ← HY.out, ← HZ.out, HX1.out, ← HQ.out, ← HV.out], ?_⟩
            exact (by repeat (first | exact Below.refl _ _ | apply Bw.alloc | apply Bw.drewN | apply Bw.drew | (refine Below.setCell ?_ (by first | exact Nat.le_refl _ | omega | (simp; omega)) _) | (refine Bw.step ?_ (by assumption))))
  · have hok : okB l = false := by simp [okB, hl, h14]
    have HZ := Lib.hid (zeroG hok)
    have HE := Lib.hid (show errG l = 4 by unfold errG; rw [if_neg (by rw [hl]; exact h14)])
    have hne : ((n : Int) != 14) = true := by simp; omega
    clear hok hr hl hb
    go_enter Try.func68, Try.ntmps68
    go_wp2
    refine bodyPost_ret (v := .tuple #[.agg #[.int .i64 0, .int .u8 0, .int .u8 0, .int .u32 0, .int .u32 0], .int .i64 4]) (by simp [results, Try.results68, go_sem]) rfl ?_
    obtain ⟨z1, z2, z3, z4, z5⟩ := HZ.out
    exact ⟨by rw [z1, z2, z3, z4, z5, HE.out]; rfl, (by repeat (first | exact Below.refl _ _ | apply Bw.alloc | apply Bw.drewN | apply Bw.drew | (refine Bw.step ?_ (by assumption))))⟩
end Go.Proofs.Ytnmhhjgiakijgaa

/- Sameness of payloads, frames, tails. -/
namespace Go.Proofs.Ytnmhhjgiakijgaa
open Go.RowKit
set_option linter.unusedVariables false
set_option linter.unusedSimpArgs false

set_option maxRecDepth 20000 in
theorem eq82d (n : Nat) (a b c d a' b' c' d' : Int) (w : World) : (Op.equalIn (n + 2) 82 (.agg #[.int .u8 a, .int .u8 b, .int .u32 c, .int .u32 d]) (.agg #[.int .u8 a', .int .u8 b', .int .u32 c', .int .u32 d'])).run Try.prog w = .ok (a == a' && b == b' && c == c' && d == d') w := by
  have u79 := Try.underlying79
  have a79 := Try.isAgg79
  have z79 := Try.sizeOf79
  have u5 := Try.underlying5
  have a5 := Try.isAgg5
  have z5 := Try.sizeOf5
  have u80 := Try.underlying80
  have a80 := Try.isAgg80
  have z80 := Try.sizeOf80
  have hS : Try.prog.underlying 82 = some (.struct (Try.prog.fieldsOf 82)) := by kernel_rfl
  have hp : Try.prog.stoodInHeld 82 = false := by kernel_rfl
  rw [show n + 2 = (n + 1) + 1 from rfl, run_equalIn_agg w (n + 1) 82 _ _ hS hp]
  simp only [Program.fieldsOf, Try.underlying82]
  go_simp
  by_cases h0 : a = a' <;> by_cases h1 : b = b' <;> by_cases h2 : c = c' <;> by_cases h3 : d = d' <;> simp [h0, h1, h2, h3]
@[go_sem] theorem eq82 (a b c d a' b' c' d' : Int) (w : World) : (Op.equalIn 10000 82 (.agg #[.int .u8 a, .int .u8 b, .int .u32 c, .int .u32 d]) (.agg #[.int .u8 a', .int .u8 b', .int .u32 c', .int .u32 d'])).run Try.prog w = .ok (a == a' && b == b' && c == c' && d == d') w := eq82d 9998 ..

set_option maxRecDepth 20000 in
@[go_sem] theorem eq89 (a b c d e a' b' c' d' e' : Int) (w : World) : (Op.equalIn 10000 89 (.agg #[.int .i64 a, .int .u8 b, .int .u8 c, .int .u32 d, .int .u32 e]) (.agg #[.int .i64 a', .int .u8 b', .int .u8 c', .int .u32 d', .int .u32 e'])).run Try.prog w = .ok (a == a' && (b == b' && c == c' && d == d' && e == e')) w := by
  have u3 := Try.underlying3
  have a3 := Try.isAgg3
  have z3 := Try.sizeOf3
  have u82 := Try.underlying82
  have a82 := Try.isAgg82
  have z82 := Try.sizeOf82
  have hS : Try.prog.underlying 89 = some (.struct (Try.prog.fieldsOf 89)) := by kernel_rfl
  have hp : Try.prog.stoodInHeld 89 = false := by kernel_rfl
  have hE := fun w => eq82d 9997 b c d e b' c' d' e' w
  rw [show (10000 : Nat) = 9999 + 1 from rfl, run_equalIn_agg w 9999 89 _ _ hS hp]
  simp only [Program.fieldsOf, Try.underlying89]
  go_simp
  by_cases h0 : a = a' <;> by_cases h1 : b = b' <;> by_cases h2 : c = c' <;> by_cases h3 : d = d' <;> by_cases h4 : e = e' <;> simp [h0, h1, h2, h3, h4]
set_option maxRecDepth 20000 in
@[go_sem] theorem eq93 (a b a' b' : Bool) (w : World) : (Op.equalIn 10000 93 (.agg #[.bool a, .bool b]) (.agg #[.bool a', .bool b'])).run Try.prog w = .ok (a == a' && b == b') w := by
  have u4 := Try.underlying4
  have a4 := Try.isAgg4
  have z4 := Try.sizeOf4
  have hS : Try.prog.underlying 93 = some (.struct (Try.prog.fieldsOf 93)) := by kernel_rfl
  have hp : Try.prog.stoodInHeld 93 = false := by kernel_rfl
  rw [show (10000 : Nat) = 9999 + 1 from rfl, run_equalIn_agg w 9999 93 _ _ hS hp]
  simp only [Program.fieldsOf, Try.underlying93]
  go_simp
  cases a <;> cases b <;> cases a' <;> cases b' <;> simp

set_option maxHeartbeats 800000 in
set_option maxRecDepth 20000 in
theorem same69_calls (o : Int) (k s q v : Nat) (w : World) :
    Calls Try.prog 69 #[.agg #[.int .i64 o, .int .u8 k, .int .u8 s, .int .u32 q, .int .u32 v], .agg #[.int .i64 o, .int .u8 k, .int .u8 s, .int .u32 q, .int .u32 v]] w fun e w' => e = .returned (.bool true) ∧ Below w.heap.size w w' := by
  go_enter Try.func69, Try.ntmps69
  go_wp2
  go_ret
  exact ⟨rfl, (by repeat (first | exact Below.refl _ _ | apply Bw.alloc | apply Bw.drewN | apply Bw.drew | (refine Bw.step ?_ (by assumption))))⟩
end Go.Proofs.Ytnmhhjgiakijgaa

/- The frame of symbols: contracts. -/
namespace Go.Proofs.Ytnmhhjgiakijgaa
open Go.RowKit
set_option linter.unusedVariables false

/-- may these symbols be a frame's? -/
def rdOk (xs : List Int) : Bool := decide (xs.length = 114) && wholeL xs
/-- the bytes of the first 112 -/
def rdB (xs : List Int) : List Int := byV (xs.take 112)
def rO (xs : List Int) : Nat := if rdOk xs = true then fO (rdB xs) else 0
def rK (xs : List Int) : Nat := if rdOk xs = true then fK (rdB xs) else 0
def rS (xs : List Int) : Nat := if rdOk xs = true then fS (rdB xs) else 0
def rQ (xs : List Int) : Nat := if rdOk xs = true then fQ (rdB xs) else 0
def rV (xs : List Int) : Nat := if rdOk xs = true then fV (rdB xs) else 0
def rA (xs : List Int) : Bool := rdOk xs && (gt xs 112 == 2)
def rC (xs : List Int) : Bool := rdOk xs && (gt xs 113 == 2)
def rE (xs : List Int) : Int := if rdOk xs = true then errG (rdB xs) else 4
/-- what 'Read' answers -/
def ReadPost (xs : List Int) (w : World) (e : Ending) (w' : World) : Prop :=
  e = .returned (.tuple #[.agg #[.int .i64 (rO xs), .int .u8 (rK xs), .int .u8 (rS xs), .int .u32 (rQ xs), .int .u32 (rV xs)], .agg #[.bool (rA xs), .bool (rC xs)], .int .i64 (rE xs)]) ∧ Below w.heap.size w w'
theorem zeroR {xs : List Int} (h : rdOk xs = false) : rO xs = 0 ∧ rK xs = 0 ∧ rS xs = 0 ∧ rQ xs = 0 ∧ rV xs = 0 ∧ rA xs = false ∧ rC xs = false ∧ rE xs = 4 := by
  simp [rO, rK, rS, rQ, rV, rA, rC, rE, h]
theorem fullR {xs : List Int} (h : rdOk xs = true) : rO xs = fO (rdB xs) ∧ rK xs = fK (rdB xs) ∧ rS xs = fS (rdB xs) ∧ rQ xs = fQ (rdB xs) ∧ rV xs = fV (rdB xs) ∧ rA xs = (gt xs 112 == 2) ∧ rC xs = (gt xs 113 == 2) ∧ rE xs = errG (rdB xs) := by
  simp [rO, rK, rS, rQ, rV, rA, rC, rE, h]
theorem wholeL_take {xs : List Int} (h : wholeL xs = true) (k : Nat) : wholeL (xs.take k) = true := by
  unfold wholeL at h ⊢
  rw [List.all_eq_true] at h ⊢
  exact fun x hx => h x (List.mem_of_mem_take hx)
theorem rdB_facts {xs : List Int} (h : rdOk xs = true) : byOk (xs.take 112) = true ∧ rdB xs = bytesN (xs.take 112) 14 ∧ (rdB xs).length = 14 ∧ bytesOk (rdB xs) := by
  simp only [rdOk, Bool.and_eq_true, decide_eq_true_eq] at h
  obtain ⟨h1, h2⟩ := byV_true (xs.take 112) 14 (by rw [List.length_take, h.1]; rfl) (wholeL_take h.2 112)
  refine ⟨h1, h2, ?_, byV_bytes _⟩
  show (byV _).length = 14
  rw [h2, bytesN_length]
theorem rd_zero {w : World} {xs : List Int} {w' : World} (h : rdOk xs = false) (hb : Below w.heap.size w w') :
    ReadPost xs w (.returned (.tuple #[.agg #[.int .i64 0, .int .u8 0, .int .u8 0, .int .u32 0, .int .u32 0], .agg #[.bool false, .bool false], .int .i64 4])) w' := by
  obtain ⟨z1, z2, z3, z4, z5, z6, z7, z8⟩ := zeroR h
  refine ⟨?_, hb⟩
  rw [z1, z2, z3, z4, z5, z6, z7, z8]
  rfl
theorem rd_full {w : World} {xs : List Int} {w' : World} (h : rdOk xs = true) {O K S Q V : Nat} {a b : Bool} {E : Int} (hO : fO (rdB xs) = O) (hK : fK (rdB xs) = K) (hS : fS (rdB xs) = S) (hQ : fQ (rdB xs) = Q) (hV : fV (rdB xs) = V) (ha : (gt xs 112 == 2) = a) (hc : (gt xs 113 == 2) = b) (hE : errG (rdB xs) = E) (hb : Below w.heap.size w w') :
    ReadPost xs w (.returned (.tuple #[.agg #[.int .i64 O, .int .u8 K, .int .u8 S, .int .u32 Q, .int .u32 V], .agg #[.bool a, .bool b], .int .i64 E])) w' := by
  obtain ⟨z1, z2, z3, z4, z5, z6, z7, z8⟩ := fullR h
  refine ⟨?_, hb⟩
  rw [z1, z2, z3, z4, z5, z6, z7, z8, hO, hK, hS, hQ, hV, ha, hc, hE]

theorem Blk.c2 {w : World} {g : Nat} {a b : Value} {e : TypeId} (h : Blk w g #[a, b] e) : w.cell? ⟨g, 0, none⟩ = some a ∧ w.cell? ⟨g, 1, none⟩ = some b := ⟨h.cell 0 _ rfl, h.cell 1 _ rfl⟩
theorem Blk.c5 {w : World} {g : Nat} {a b c d f : Value} {e : TypeId} (h : Blk w g #[a, b, c, d, f] e) : w.cell? ⟨g, 0, none⟩ = some a ∧ w.cell? ⟨g, 1, none⟩ = some b ∧ w.cell? ⟨g, 2, none⟩ = some c ∧ w.cell? ⟨g, 3, none⟩ = some d ∧ w.cell? ⟨g, 4, none⟩ = some f := ⟨h.cell 0 _ rfl, h.cell 1 _ rfl, h.cell 2 _ rfl, h.cell 3 _ rfl, h.cell 4 _ rfl⟩
theorem Blk.other {w : World} {g : Nat} {cs : Array Value} {e : TypeId} (h : Blk w g cs e) (k j : Nat) (v : Value) (hne : k ≠ g) : Blk (w.setCell ⟨k, j, none⟩ v) g cs e := (setCell_other w k j g v hne.symm).trans h
theorem Blk.set5 {w : World} {g : Nat} {a0 a1 a2 a3 a4 : Value} {e : TypeId} (h : Blk w g #[a0, a1, a2, a3, a4] e) (v0 v1 v2 v3 v4 : Value) :
    Blk (((((w.setCell ⟨g, 0, none⟩ v0).setCell ⟨g, 1, none⟩ v1).setCell ⟨g, 2, none⟩ v2).setCell ⟨g, 3, none⟩ v3).setCell ⟨g, 4, none⟩ v4) g #[v0, v1, v2, v3, v4] e := ((((h.set 0 v0).set 1 v1).set 2 v2).set 3 v3).set 4 v4
theorem Blk.set2 {w : World} {g : Nat} {a0 a1 : Value} {e : TypeId} (h : Blk w g #[a0, a1] e) (v0 v1 : Value) :
    Blk ((w.setCell ⟨g, 0, none⟩ v0).setCell ⟨g, 1, none⟩ v1) g #[v0, v1] e := (h.set 0 v0).set 1 v1
theorem Blk.other5 {w : World} {g : Nat} {cs : Array Value} {e : TypeId} (h : Blk w g cs e) (k : Nat) (hne : k ≠ g) (v0 v1 v2 v3 v4 : Value) :
    Blk (((((w.setCell ⟨k, 0, none⟩ v0).setCell ⟨k, 1, none⟩ v1).setCell ⟨k, 2, none⟩ v2).setCell ⟨k, 3, none⟩ v3).setCell ⟨k, 4, none⟩ v4) g cs e := ((((h.other k 0 v0 hne).other k 1 v1 hne).other k 2 v2 hne).other k 3 v3 hne).other k 4 v4 hne

theorem Bk.set5 {B : Nat} {a w : World} {g : Nat} (h : Below B a w) (hp : B ≤ g) (v0 v1 v2 v3 v4 : Value) :
    Below B a (((((w.setCell ⟨g, 0, none⟩ v0).setCell ⟨g, 1, none⟩ v1).setCell ⟨g, 2, none⟩ v2).setCell ⟨g, 3, none⟩ v3).setCell ⟨g, 4, none⟩ v4) :=
  ((((h.setCell (p := ⟨g, 0, none⟩) hp v0).setCell (p := ⟨g, 1, none⟩) hp v1).setCell (p := ⟨g, 2, none⟩) hp v2).setCell (p := ⟨g, 3, none⟩) hp v3).setCell (p := ⟨g, 4, none⟩) hp v4
theorem Bk.undrew {B : Nat} {w W : World} (h : Below B w W.drew) : Below B w W := ⟨h.os, h.tape, h.output, h.size, h.block⟩
theorem Blk.undrew {w : World} {g : Nat} {cs : Array Value} {e : TypeId} (h : Blk w.drew g cs e) : Blk w g cs e := h
theorem Blk.drew {w : World} {g : Nat} {cs : Array Value} {e : TypeId} (h : Blk w g cs e) : Blk w.drew g cs e := h
theorem Bk.set2 {B : Nat} {a w : World} {g : Nat} (h : Below B a w) (hp : B ≤ g) (v0 v1 : Value) :
    Below B a ((w.setCell ⟨g, 0, none⟩ v0).setCell ⟨g, 1, none⟩ v1) := (h.setCell (p := ⟨g, 0, none⟩) hp v0).setCell (p := ⟨g, 1, none⟩) hp v1

set_option maxHeartbeats 3200000 in
set_option maxRecDepth 20000 in
theorem read_calls (A : Option Addr) (n c : Nat) (xs : List Int) (w : World) (hr : Rd w .u8 A n xs) (hc : n ≤ c) (hn : n ≤ 60000) (hcm : c ≤ maxLen) (hx : bytesOk xs) :
    Calls Try.prog 72 #[.slice A n c] w (ReadPost xs w) := by
  have HR := Lib.hid hr
  have HL := Lib.hid hr.len
  have HCM := Lib.hid hcm
  have HX := Lib.hid hx
  clear hr hcm hx
  by_cases h114 : n = 114
  · cases hwh : wholeL xs with
    | false =>
      subst h114
      have HOK := Lib.hid (show rdOk xs = false by simp [rdOk, hwh])
      have HW := Lib.hid hwh
      clear hwh
      go_enter Try.func72, Try.ntmps72
      go_wp2_with fail
      refine (wholes_calls _ _ _ xs _ (HR.out.below (by repeat (first | exact Below.refl _ _ | apply Bw.alloc | apply Bw.drewN | apply Bw.drew | (refine Bw.step ?_ (by assumption))))) hc hn).mono ?_; rintro e w' ⟨rfl, rfl⟩; rewrite [HW.out]
      go_wp2
      refine bodyPost_ret (v := .tuple #[.agg #[.int .i64 0, .int .u8 0, .int .u8 0, .int .u32 0, .int .u32 0], .agg #[.bool false, .bool false], .int .i64 4]) (by simp [results, Try.results72, go_sem]) rfl ?_
      exact rd_zero HOK.out (by repeat (first | exact Below.refl _ _ | apply Bw.alloc | apply Bw.drewN | apply Bw.drew | (refine Bw.step ?_ (by assumption))))
    | true =>
      subst h114
      have hok : rdOk xs = true := by simp [rdOk, hwh, HL.out]
      obtain ⟨hby, -, hbl, hbo⟩ := rdB_facts hok
      have HOK := Lib.hid hok
      have HBY := Lib.hid hby
      have HBL := Lib.hid hbl
      have HBO := Lib.hid hbo
      have HW := Lib.hid hwh
      have HT := Lib.hid (HR.out.take 112 (by omega))
      obtain ⟨b, o, rfl, hblt, -⟩ := Rv.at_ HR.out (by omega)
      obtain ⟨s2, hs2, -⟩ : ∃ x : Nat, gt xs 112 = x ∧ x ≤ 255 := by
        have := bytesOk_gt HX.out (j := 112) (by rw [HL.out]; omega)
        exact ⟨(gt xs 112).toNat, by omega, by omega⟩
      obtain ⟨s3, hs3, -⟩ : ∃ x : Nat, gt xs 113 = x ∧ x ≤ 255 := by
        have := bytesOk_gt HX.out (j := 113) (by rw [HL.out]; omega)
        exact ⟨(gt xs 113).toNat, by omega, by omega⟩
      obtain ⟨ba, hba⟩ : ∃ ba, ((s2 : Int) == 2) = ba := ⟨_, rfl⟩
      obtain ⟨bc, hbc⟩ : ∃ bc, ((s3 : Int) == 2) = bc := ⟨_, rfl⟩
      have HA := Lib.hid (show (gt xs 112 == 2) = ba by rw [hs2]; exact hba)
      have HC := Lib.hid (show (gt xs 113 == 2) = bc by rw [hs3]; exact hbc)
      have hk2 := gt_cell HR.out 112 s2 (by omega) hs2
      have hk3 := gt_cell HR.out 113 s3 (by omega) hs3
      clear hok hby hbl hbo hwh hs2 hs3
      go_enter Try.func72, Try.ntmps72
      go_wp2_with fail
      refine (wholes_calls _ _ _ xs _ (HR.out.below (by repeat (first | exact Below.refl _ _ | apply Bw.alloc | apply Bw.drewN | apply Bw.drew | (refine Bw.step ?_ (by assumption))))) hc hn).mono ?_; rintro e w' ⟨rfl, rfl⟩; rewrite [HW.out]
      have hW : Below w.heap.size w ((w.alloc (.cells #[.int .i64 0, .int .u8 0, .int .u8 0, .int .u32 0, .int .u32 0] 89)).alloc (.cells #[.bool false, .bool false] 93)) := (by repeat (first | exact Below.refl _ _ | apply Bw.alloc | apply Bw.drewN | apply Bw.drew | (refine Bw.step ?_ (by assumption))))
      have B1 := Lib.hid (show Blk ((w.alloc (.cells #[.int .i64 0, .int .u8 0, .int .u8 0, .int .u32 0, .int .u32 0] 89)).alloc (.cells #[.bool false, .bool false] 93)) w.heap.size #[.int .i64 0, .int .u8 0, .int .u8 0, .int .u32 0, .int .u32 0] 89 from (Blk.new (w := w) rfl).below (by repeat (first | exact Below.refl _ _ | apply Bw.alloc | apply Bw.drewN | apply Bw.drew | (refine Bw.step ?_ (by assumption)))))
      have B2 := Lib.hid (show Blk ((w.alloc (.cells #[.int .i64 0, .int .u8 0, .int .u8 0, .int .u32 0, .int .u32 0] 89)).alloc (.cells #[.bool false, .bool false] 93)) (w.heap.size + 1) #[.bool false, .bool false] 93 from Blk.new (by simp))
      have HK : Hid (∀ w', Below w.heap.size w w' → w'.cell? ⟨b, o + 112, none⟩ = some (.int .u8 s2) ∧ w'.cell? ⟨b, o + 113, none⟩ = some (.int .u8 s3)) := fun w' h => ⟨(h.cell (p := ⟨b, o + 112, none⟩) hblt).trans hk2, (h.cell (p := ⟨b, o + 113, none⟩) hblt).trans hk3⟩
      go_wp2_with fail
      clear hk2 hk3
      generalize (w.alloc (.cells #[.int .i64 0, .int .u8 0, .int .u8 0, .int .u32 0, .int .u32 0] 89)).alloc (.cells #[.bool false, .bool false] 93) = W at *
      go_region_held3 (fun w' => w'.cell? ⟨b, o + 112, none⟩ = some (.int .u8 s2) ∧ w'.cell? ⟨b, o + 113, none⟩ = some (.int .u8 s3)) (first | assumption | exact HK.out _ (by repeat (first | exact Below.refl _ _ | apply Bw.alloc | apply Bw.drewN | apply Bw.drew | (refine Bw.step ?_ (by assumption))))) (fail)
      clear HK hba hbc
      go_wp2_with fail
      refine (bytes_calls _ _ _ (xs.take 112) _ (HT.out.below (by repeat (first | exact Below.refl _ _ | apply Bw.alloc | apply Bw.drewN | apply Bw.drew | (refine Bw.step ?_ (by assumption))))) (by omega) HCM.out (by omega)).mono ?_
      rintro e w4 ⟨A4, m4, rfl, hl4, hm4, hb4⟩
      rewrite [HBY.out]
      rw [show byV (xs.take 112) = rdB xs from rfl] at hl4 hm4
      rw [HBL.out] at hl4
      subst hl4
      have HBW4 := Lib.hid (show Below W.heap.size W w4 from (by repeat (first | exact Below.refl _ _ | apply Bw.alloc | apply Bw.drewN | apply Bw.drew | (refine Bw.step ?_ (by assumption)))))
      have B3 := Lib.hid ((show Blk (W.alloc (.cells #[.bool ba, .bool bc] 93)).drew W.heap.size #[.bool ba, .bool bc] 93 from Blk.new (w := W) rfl).below hb4)
      have HM4 := Lib.hid hm4
      clear hb4 hm4
      obtain ⟨O, hO⟩ : ∃ O, fO (rdB xs) = O := ⟨_, rfl⟩
      obtain ⟨K, hK⟩ : ∃ K, fK (rdB xs) = K := ⟨_, rfl⟩
      obtain ⟨S, hS⟩ : ∃ S, fS (rdB xs) = S := ⟨_, rfl⟩
      obtain ⟨Q, hQ⟩ : ∃ Q, fQ (rdB xs) = Q := ⟨_, rfl⟩
      obtain ⟨V, hV⟩ : ∃ V, fV (rdB xs) = V := ⟨_, rfl⟩
      obtain ⟨E, hE⟩ : ∃ E, errG (rdB xs) = E := ⟨_, rfl⟩
      have HG : Hid (∀ (w : World), Rd w .u8 A4 14 (rdB xs) → Calls Try.prog 67 #[.slice A4 14 14] w fun e w' => e = .returned (.tuple #[.agg #[.int .i64 O, .int .u8 K, .int .u8 S, .int .u32 Q, .int .u32 V], .int .i64 E]) ∧ Below w.heap.size w w') := fun w h1 => by
        have h := get_calls A4 14 14 (rdB xs) w h1 (Nat.le_refl _) (by simp only [maxLen]; omega) HBO.out
        unfold GetPost at h
        rw [hO, hK, hS, hQ, hV, hE] at h
        exact h
      have HFIN := Lib.hid (fun (w' : World) (hb : Below w.heap.size w w') => rd_full (w := w) (w' := w') HOK.out hO hK hS hQ hV HA.out HC.out hE hb)
      clear hO hK hS hQ hV hE
      go_wp2_with fail
      refine (HG.out _ HM4.out.rd).mono ?_; rintro e w6 ⟨rfl, hb6⟩
      have HBX := Lib.hid (show Below W.heap.size W (w6.alloc (.cells #[.int .i64 O, .int .u8 K, .int .u8 S, .int .u32 Q, .int .u32 V] 89)) from Bw.alloc (Bw.step HBW4.out hb6) _)
      have D1 : Blk (w6.alloc (.cells #[.int .i64 O, .int .u8 K, .int .u8 S, .int .u32 Q, .int .u32 V] 89)) w.heap.size #[.int .i64 0, .int .u8 0, .int .u8 0, .int .u32 0, .int .u32 0] 89 := B1.out.below HBX.out
      have D2 : Blk (w6.alloc (.cells #[.int .i64 O, .int .u8 K, .int .u8 S, .int .u32 Q, .int .u32 V] 89)) (w.heap.size + 1) #[.bool false, .bool false] 93 := B2.out.below HBX.out
      have D3 : Blk (w6.alloc (.cells #[.int .i64 O, .int .u8 K, .int .u8 S, .int .u32 Q, .int .u32 V] 89)) W.heap.size #[.bool ba, .bool bc] 93 := B3.out.below (show Below w4.heap.size w4 (w6.alloc (.cells #[.int .i64 O, .int .u8 K, .int .u8 S, .int .u32 Q, .int .u32 V] 89)) from Bw.alloc hb6 _)
      have D4 : Blk (w6.alloc (.cells #[.int .i64 O, .int .u8 K, .int .u8 S, .int .u32 Q, .int .u32 V] 89)) w6.heap.size #[.int .i64 O, .int .u8 K, .int .u8 S, .int .u32 Q, .int .u32 V] 89 := Blk.new (w := w6) rfl
      have hbw6 : Below w.heap.size w (w6.alloc (.cells #[.int .i64 O, .int .u8 K, .int .u8 S, .int .u32 Q, .int .u32 V] 89)) := Bw.step hW HBX.out
      have hne1 : w6.heap.size ≠ w.heap.size := by have h1 := hW.size; have h2 := D1.lt; have h3 := (Bw.step HBW4.out hb6).size; have h4 := B1.out.lt; omega
      have hne2 : w6.heap.size ≠ w.heap.size + 1 := by have h3 := (Bw.step HBW4.out hb6).size; have h4 := B2.out.lt; omega
      have hne3 : W.heap.size ≠ w.heap.size := by have h4 := B1.out.lt; omega
      have hne4 : W.heap.size ≠ w.heap.size + 1 := by have h4 := B2.out.lt; omega
      have a0 := D1.cell 0 (.int .i64 0) rfl
      have a1 := D1.cell 1 (.int .u8 0) rfl
      have a2 := D1.cell 2 (.int .u8 0) rfl
      have a3 := D1.cell 3 (.int .u32 0) rfl
      have a4 := D1.cell 4 (.int .u32 0) rfl
      have af0 := D1.frozen 0
      have af1 := D1.frozen 1
      have af2 := D1.frozen 2
      have af3 := D1.frozen 3
      have af4 := D1.frozen 4
      have e0 := D2.cell 0 (.bool false) rfl
      have e1 := D2.cell 1 (.bool false) rfl
      have ef0 := D2.frozen 0
      have ef1 := D2.frozen 1
      have i0 := D3.cell 0 (.bool ba) rfl
      have i1 := D3.cell 1 (.bool bc) rfl
      have u0 := D4.cell 0 (.int .i64 O) rfl
      have u1 := D4.cell 1 (.int .u8 K) rfl
      have u2 := D4.cell 2 (.int .u8 S) rfl
      have u3 := D4.cell 3 (.int .u32 Q) rfl
      have u4 := D4.cell 4 (.int .u32 V) rfl
      have DD1 := Lib.hid D1
      have DD2 := Lib.hid D2
      have DD3 := Lib.hid D3
      have DD4 := Lib.hid D4
      clear D1 D2 D3 D4
      go_wp2_with fail
      clear hb6
      generalize w6.alloc (.cells #[.int .i64 O, .int .u8 K, .int .u8 S, .int .u32 Q, .int .u32 V] 89) = X at *
      have HS0 := Lib.hid (show X.drew.cell? ⟨w6.heap.size, 0, none⟩ = some (.int .i64 O) ∧ X.drew.cell? ⟨w6.heap.size, 1, none⟩ = some (.int .u8 K) ∧ X.drew.cell? ⟨w6.heap.size, 2, none⟩ = some (.int .u8 S) ∧ X.drew.cell? ⟨w6.heap.size, 3, none⟩ = some (.int .u32 Q) ∧ X.drew.cell? ⟨w6.heap.size, 4, none⟩ = some (.int .u32 V) ∧ X.drew.cell? ⟨W.heap.size, 0, none⟩ = some (.bool ba) ∧ X.drew.cell? ⟨W.heap.size, 1, none⟩ = some (.bool bc) from ⟨u0, u1, u2, u3, u4, i0, i1⟩)
      have hx3 : Blk (((((X.setCell ⟨w.heap.size, 0, none⟩ (.int .i64 O)).setCell ⟨w.heap.size, 1, none⟩ (.int .u8 K)).setCell ⟨w.heap.size, 2, none⟩ (.int .u8 S)).setCell ⟨w.heap.size, 3, none⟩ (.int .u32 Q)).setCell ⟨w.heap.size, 4, none⟩ (.int .u32 V)).drew W.heap.size #[.bool ba, .bool bc] 93 := Blk.drew (DD3.out.other5 w.heap.size (Ne.symm hne3) (.int .i64 O) (.int .u8 K) (.int .u8 S) (.int .u32 Q) (.int .u32 V))
      have hx4 : Blk (((((X.setCell ⟨w.heap.size, 0, none⟩ (.int .i64 O)).setCell ⟨w.heap.size, 1, none⟩ (.int .u8 K)).setCell ⟨w.heap.size, 2, none⟩ (.int .u8 S)).setCell ⟨w.heap.size, 3, none⟩ (.int .u32 Q)).setCell ⟨w.heap.size, 4, none⟩ (.int .u32 V)).drew w6.heap.size #[.int .i64 O, .int .u8 K, .int .u8 S, .int .u32 Q, .int .u32 V] 89 := Blk.drew (DD4.out.other5 w.heap.size (Ne.symm hne1) (.int .i64 O) (.int .u8 K) (.int .u8 S) (.int .u32 Q) (.int .u32 V))
      have HS1 := Lib.hid (show (((((X.setCell ⟨w.heap.size, 0, none⟩ (.int .i64 O)).setCell ⟨w.heap.size, 1, none⟩ (.int .u8 K)).setCell ⟨w.heap.size, 2, none⟩ (.int .u8 S)).setCell ⟨w.heap.size, 3, none⟩ (.int .u32 Q)).setCell ⟨w.heap.size, 4, none⟩ (.int .u32 V)).drew.cell? ⟨w6.heap.size, 0, none⟩ = some (.int .i64 O) ∧ (((((X.setCell ⟨w.heap.size, 0, none⟩ (.int .i64 O)).setCell ⟨w.heap.size, 1, none⟩ (.int .u8 K)).setCell ⟨w.heap.size, 2, none⟩ (.int .u8 S)).setCell ⟨w.heap.size, 3, none⟩ (.int .u32 Q)).setCell ⟨w.heap.size, 4, none⟩ (.int .u32 V)).drew.cell? ⟨w6.heap.size, 1, none⟩ = some (.int .u8 K) ∧ (((((X.setCell ⟨w.heap.size, 0, none⟩ (.int .i64 O)).setCell ⟨w.heap.size, 1, none⟩ (.int .u8 K)).setCell ⟨w.heap.size, 2, none⟩ (.int .u8 S)).setCell ⟨w.heap.size, 3, none⟩ (.int .u32 Q)).setCell ⟨w.heap.size, 4, none⟩ (.int .u32 V)).drew.cell? ⟨w6.heap.size, 2, none⟩ = some (.int .u8 S) ∧ (((((X.setCell ⟨w.heap.size, 0, none⟩ (.int .i64 O)).setCell ⟨w.heap.size, 1, none⟩ (.int .u8 K)).setCell ⟨w.heap.size, 2, none⟩ (.int .u8 S)).setCell ⟨w.heap.size, 3, none⟩ (.int .u32 Q)).setCell ⟨w.heap.size, 4, none⟩ (.int .u32 V)).drew.cell? ⟨w6.heap.size, 3, none⟩ = some (.int .u32 Q) ∧ (((((X.setCell ⟨w.heap.size, 0, none⟩ (.int .i64 O)).setCell ⟨w.heap.size, 1, none⟩ (.int .u8 K)).setCell ⟨w.heap.size, 2, none⟩ (.int .u8 S)).setCell ⟨w.heap.size, 3, none⟩ (.int .u32 Q)).setCell ⟨w.heap.size, 4, none⟩ (.int .u32 V)).drew.cell? ⟨w6.heap.size, 4, none⟩ = some (.int .u32 V) ∧ (((((X.setCell ⟨w.heap.size, 0, none⟩ (.int .i64 O)).setCell ⟨w.heap.size, 1, none⟩ (.int .u8 K)).setCell ⟨w.heap.size, 2, none⟩ (.int .u8 S)).setCell ⟨w.heap.size, 3, none⟩ (.int .u32 Q)).setCell ⟨w.heap.size, 4, none⟩ (.int .u32 V)).drew.cell? ⟨W.heap.size, 0, none⟩ = some (.bool ba) ∧ (((((X.setCell ⟨w.heap.size, 0, none⟩ (.int .i64 O)).setCell ⟨w.heap.size, 1, none⟩ (.int .u8 K)).setCell ⟨w.heap.size, 2, none⟩ (.int .u8 S)).setCell ⟨w.heap.size, 3, none⟩ (.int .u32 Q)).setCell ⟨w.heap.size, 4, none⟩ (.int .u32 V)).drew.cell? ⟨W.heap.size, 1, none⟩ = some (.bool bc) from ⟨hx4.c5.1, hx4.c5.2.1, hx4.c5.2.2.1, hx4.c5.2.2.2.1, hx4.c5.2.2.2.2, hx3.c2.1, hx3.c2.2⟩)
      have hy3 : Blk (((((((X.setCell ⟨w.heap.size, 0, none⟩ (.int .i64 O)).setCell ⟨w.heap.size, 1, none⟩ (.int .u8 K)).setCell ⟨w.heap.size, 2, none⟩ (.int .u8 S)).setCell ⟨w.heap.size, 3, none⟩ (.int .u32 Q)).setCell ⟨w.heap.size, 4, none⟩ (.int .u32 V)).setCell ⟨w.heap.size + 1, 0, none⟩ (.bool ba)).setCell ⟨w.heap.size + 1, 1, none⟩ (.bool bc)).drew W.heap.size #[.bool ba, .bool bc] 93 := Blk.drew ((hx3.undrew.other (w.heap.size + 1) 0 (.bool ba) (Ne.symm hne4)).other (w.heap.size + 1) 1 (.bool bc) (Ne.symm hne4))
      have hy4 : Blk (((((((X.setCell ⟨w.heap.size, 0, none⟩ (.int .i64 O)).setCell ⟨w.heap.size, 1, none⟩ (.int .u8 K)).setCell ⟨w.heap.size, 2, none⟩ (.int .u8 S)).setCell ⟨w.heap.size, 3, none⟩ (.int .u32 Q)).setCell ⟨w.heap.size, 4, none⟩ (.int .u32 V)).setCell ⟨w.heap.size + 1, 0, none⟩ (.bool ba)).setCell ⟨w.heap.size + 1, 1, none⟩ (.bool bc)).drew w6.heap.size #[.int .i64 O, .int .u8 K, .int .u8 S, .int .u32 Q, .int .u32 V] 89 := Blk.drew ((hx4.undrew.other (w.heap.size + 1) 0 (.bool ba) (Ne.symm hne2)).other (w.heap.size + 1) 1 (.bool bc) (Ne.symm hne2))
      have HS2 := Lib.hid (show (((((((X.setCell ⟨w.heap.size, 0, none⟩ (.int .i64 O)).setCell ⟨w.heap.size, 1, none⟩ (.int .u8 K)).setCell ⟨w.heap.size, 2, none⟩ (.int .u8 S)).setCell ⟨w.heap.size, 3, none⟩ (.int .u32 Q)).setCell ⟨w.heap.size, 4, none⟩ (.int .u32 V)).setCell ⟨w.heap.size + 1, 0, none⟩ (.bool ba)).setCell ⟨w.heap.size + 1, 1, none⟩ (.bool bc)).drew.cell? ⟨w6.heap.size, 0, none⟩ = some (.int .i64 O) ∧ (((((((X.setCell ⟨w.heap.size, 0, none⟩ (.int .i64 O)).setCell ⟨w.heap.size, 1, none⟩ (.int .u8 K)).setCell ⟨w.heap.size, 2, none⟩ (.int .u8 S)).setCell ⟨w.heap.size, 3, none⟩ (.int .u32 Q)).setCell ⟨w.heap.size, 4, none⟩ (.int .u32 V)).setCell ⟨w.heap.size + 1, 0, none⟩ (.bool ba)).setCell ⟨w.heap.size + 1, 1, none⟩ (.bool bc)).drew.cell? ⟨w6.heap.size, 1, none⟩ = some (.int .u8 K) ∧ (((((((X.setCell ⟨w.heap.size, 0, none⟩ (.int .i64 O)).setCell ⟨w.heap.size, 1, none⟩ (.int .u8 K)).setCell ⟨w.heap.size, 2, none⟩ (.int .u8 S)).setCell ⟨w.heap.size, 3, none⟩ (.int .u32 Q)).setCell ⟨w.heap.size, 4, none⟩ (.int .u32 V)).setCell ⟨w.heap.size + 1, 0, none⟩ (.bool ba)).setCell ⟨w.heap.size + 1, 1, none⟩ (.bool bc)).drew.cell? ⟨w6.heap.size, 2, none⟩ = some (.int .u8 S) ∧ (((((((X.setCell ⟨w.heap.size, 0, none⟩ (.int .i64 O)).setCell ⟨w.heap.size, 1, none⟩ (.int .u8 K)).setCell ⟨w.heap.size, 2, none⟩ (.int .u8 S)).setCell ⟨w.heap.size, 3, none⟩ (.int .u32 Q)).setCell ⟨w.heap.size, 4, none⟩ (.int .u32 V)).setCell ⟨w.heap.size + 1, 0, none⟩ (.bool ba)).setCell ⟨w.heap.size + 1, 1, none⟩ (.bool bc)).drew.cell? ⟨w6.heap.size, 3, none⟩ = some (.int .u32 Q) ∧ (((((((X.setCell ⟨w.heap.size, 0, none⟩ (.int .i64 O)).setCell ⟨w.heap.size, 1, none⟩ (.int .u8 K)).setCell ⟨w.heap.size, 2, none⟩ (.int .u8 S)).setCell ⟨w.heap.size, 3, none⟩ (.int .u32 Q)).setCell ⟨w.heap.size, 4, none⟩ (.int .u32 V)).setCell ⟨w.heap.size + 1, 0, none⟩ (.bool ba)).setCell ⟨w.heap.size + 1, 1, none⟩ (.bool bc)).drew.cell? ⟨w6.heap.size, 4, none⟩ = some (.int .u32 V) ∧ (((((((X.setCell ⟨w.heap.size, 0, none⟩ (.int .i64 O)).setCell ⟨w.heap.size, 1, none⟩ (.int .u8 K)).setCell ⟨w.heap.size, 2, none⟩ (.int .u8 S)).setCell ⟨w.heap.size, 3, none⟩ (.int .u32 Q)).setCell ⟨w.heap.size, 4, none⟩ (.int .u32 V)).setCell ⟨w.heap.size + 1, 0, none⟩ (.bool ba)).setCell ⟨w.heap.size + 1, 1, none⟩ (.bool bc)).drew.cell? ⟨W.heap.size, 0, none⟩ = some (.bool ba) ∧ (((((((X.setCell ⟨w.heap.size, 0, none⟩ (.int .i64 O)).setCell ⟨w.heap.size, 1, none⟩ (.int .u8 K)).setCell ⟨w.heap.size, 2, none⟩ (.int .u8 S)).setCell ⟨w.heap.size, 3, none⟩ (.int .u32 Q)).setCell ⟨w.heap.size, 4, none⟩ (.int .u32 V)).setCell ⟨w.heap.size + 1, 0, none⟩ (.bool ba)).setCell ⟨w.heap.size + 1, 1, none⟩ (.bool bc)).drew.cell? ⟨W.heap.size, 1, none⟩ = some (.bool bc) from ⟨hy4.c5.1, hy4.c5.2.1, hy4.c5.2.2.1, hy4.c5.2.2.2.1, hy4.c5.2.2.2.2, hy3.c2.1, hy3.c2.2⟩)
      clear hx3 hx4 hy3 hy4
      go_region_held3 (fun w' => w'.cell? ⟨w6.heap.size, 0, none⟩ = some (.int .i64 O) ∧ w'.cell? ⟨w6.heap.size, 1, none⟩ = some (.int .u8 K) ∧ w'.cell? ⟨w6.heap.size, 2, none⟩ = some (.int .u8 S) ∧ w'.cell? ⟨w6.heap.size, 3, none⟩ = some (.int .u32 Q) ∧ w'.cell? ⟨w6.heap.size, 4, none⟩ = some (.int .u32 V) ∧ w'.cell? ⟨W.heap.size, 0, none⟩ = some (.bool ba) ∧ w'.cell? ⟨W.heap.size, 1, none⟩ = some (.bool bc)) (first | (with_reducible exact HS0.out) | (with_reducible exact HS1.out) | (with_reducible exact HS2.out)) (fail)
      go_wp2
      have hfin : Below w.heap.size w (((((((X.setCell ⟨w.heap.size, 0, none⟩ (.int .i64 O)).setCell ⟨w.heap.size, 1, none⟩ (.int .u8 K)).setCell ⟨w.heap.size, 2, none⟩ (.int .u8 S)).setCell ⟨w.heap.size, 3, none⟩ (.int .u32 Q)).setCell ⟨w.heap.size, 4, none⟩ (.int .u32 V)).setCell ⟨w.heap.size + 1, 0, none⟩ (.bool ba)).setCell ⟨w.heap.size + 1, 1, none⟩ (.bool bc)).drew := Bk.drew (Bk.set2 (Bk.set5 hbw6 (Nat.le_refl _) (.int .i64 O) (.int .u8 K) (.int .u8 S) (.int .u32 Q) (.int .u32 V)) (Nat.le_succ _) (.bool ba) (.bool bc))
      have G1 : Blk (((((((X.setCell ⟨w.heap.size, 0, none⟩ (.int .i64 O)).setCell ⟨w.heap.size, 1, none⟩ (.int .u8 K)).setCell ⟨w.heap.size, 2, none⟩ (.int .u8 S)).setCell ⟨w.heap.size, 3, none⟩ (.int .u32 Q)).setCell ⟨w.heap.size, 4, none⟩ (.int .u32 V)).setCell ⟨w.heap.size + 1, 0, none⟩ (.bool ba)).setCell ⟨w.heap.size + 1, 1, none⟩ (.bool bc)).drew w.heap.size #[.int .i64 O, .int .u8 K, .int .u8 S, .int .u32 Q, .int .u32 V] 89 := Blk.drew (((DD1.out.set5 (.int .i64 O) (.int .u8 K) (.int .u8 S) (.int .u32 Q) (.int .u32 V)).other _ 0 (.bool ba) (by omega)).other _ 1 (.bool bc) (by omega))
      have G2 : Blk (((((((X.setCell ⟨w.heap.size, 0, none⟩ (.int .i64 O)).setCell ⟨w.heap.size, 1, none⟩ (.int .u8 K)).setCell ⟨w.heap.size, 2, none⟩ (.int .u8 S)).setCell ⟨w.heap.size, 3, none⟩ (.int .u32 Q)).setCell ⟨w.heap.size, 4, none⟩ (.int .u32 V)).setCell ⟨w.heap.size + 1, 0, none⟩ (.bool ba)).setCell ⟨w.heap.size + 1, 1, none⟩ (.bool bc)).drew (w.heap.size + 1) #[.bool ba, .bool bc] 93 := Blk.drew ((DD2.out.other5 w.heap.size (by omega) (.int .i64 O) (.int .u8 K) (.int .u8 S) (.int .u32 Q) (.int .u32 V)).set2 (.bool ba) (.bool bc))
      generalize (((((((X.setCell ⟨w.heap.size, 0, none⟩ (.int .i64 O)).setCell ⟨w.heap.size, 1, none⟩ (.int .u8 K)).setCell ⟨w.heap.size, 2, none⟩ (.int .u8 S)).setCell ⟨w.heap.size, 3, none⟩ (.int .u32 Q)).setCell ⟨w.heap.size, 4, none⟩ (.int .u32 V)).setCell ⟨w.heap.size + 1, 0, none⟩ (.bool ba)).setCell ⟨w.heap.size + 1, 1, none⟩ (.bool bc)).drew = Z at *
      have z0 := G1.cell 0 (.int .i64 O) rfl
      have z1 := G1.cell 1 (.int .u8 K) rfl
      have z2 := G1.cell 2 (.int .u8 S) rfl
      have z3 := G1.cell 3 (.int .u32 Q) rfl
      have z4 := G1.cell 4 (.int .u32 V) rfl
      have z5 := G2.cell 0 (.bool ba) rfl
      have z6 := G2.cell 1 (.bool bc) rfl
      refine bodyPost_ret (v := .tuple #[.agg #[.int .i64 O, .int .u8 K, .int .u8 S, .int .u32 Q, .int .u32 V], .agg #[.bool ba, .bool bc], .int .i64 E]) (by simp [results, Try.results72, go_sem, z0, z1, z2, z3, z4, z5, z6]) rfl ?_
      exact HFIN.out _ hfin
  · have HOK := Lib.hid (show rdOk xs = false by simp [rdOk, HL.out, h114])
    have hne : ((n : Int) != 114) = true := by simp; omega
    go_enter Try.func72, Try.ntmps72
    go_wp2
    refine bodyPost_ret (v := .tuple #[.agg #[.int .i64 0, .int .u8 0, .int .u8 0, .int .u32 0, .int .u32 0], .agg #[.bool false, .bool false], .int .i64 4]) (by simp [results, Try.results72, go_sem]) rfl ?_
    exact rd_zero HOK.out (by repeat (first | exact Below.refl _ _ | apply Bw.alloc | apply Bw.drewN | apply Bw.drew | (refine Bw.step ?_ (by assumption))))
set_option maxHeartbeats 3200000 in
set_option maxRecDepth 20000 in
theorem refread_calls (A : Option Addr) (n c : Nat) (xs : List Int) (w : World) (hr : Rd w .u8 A n xs) (hc : n ≤ c) (hn : n ≤ 60000) (hcm : c ≤ maxLen) (hx : bytesOk xs) :
    Calls Try.prog 73 #[.slice A n c] w (ReadPost xs w) := by
  have HR := Lib.hid hr
  have HL := Lib.hid hr.len
  have HCM := Lib.hid hcm
  have HX := Lib.hid hx
  clear hr hcm hx
  by_cases h114 : n = 114
  · cases hwh : wholeL xs with
    | false =>
      subst h114
      have HOK := Lib.hid (show rdOk xs = false by simp [rdOk, hwh])
      have HW := Lib.hid hwh
      clear hwh
      go_enter Try.func73, Try.ntmps73
      go_wp2_with fail
      refine (refwhole_calls _ _ _ xs _ (HR.out.below (by repeat (first | exact Below.refl _ _ | apply Bw.alloc | apply Bw.drewN | apply Bw.drew | (refine Bw.step ?_ (by assumption))))) hc hn).mono ?_; rintro e w' ⟨rfl, rfl⟩; rewrite [HW.out]
      go_wp2
      refine bodyPost_ret (v := .tuple #[.agg #[.int .i64 0, .int .u8 0, .int .u8 0, .int .u32 0, .int .u32 0], .agg #[.bool false, .bool false], .int .i64 4]) (by simp [results, Try.results73, go_sem]) rfl ?_
      exact rd_zero HOK.out (by repeat (first | exact Below.refl _ _ | apply Bw.alloc | apply Bw.drewN | apply Bw.drew | (refine Bw.step ?_ (by assumption))))
    | true =>
      subst h114
      have hok : rdOk xs = true := by simp [rdOk, hwh, HL.out]
      obtain ⟨hby, -, hbl, hbo⟩ := rdB_facts hok
      have HOK := Lib.hid hok
      have HBY := Lib.hid hby
      have HBL := Lib.hid hbl
      have HBO := Lib.hid hbo
      have HW := Lib.hid hwh
      have HT := Lib.hid (HR.out.take 112 (by omega))
      obtain ⟨b, o, rfl, hblt, -⟩ := Rv.at_ HR.out (by omega)
      obtain ⟨s2, hs2, -⟩ : ∃ x : Nat, gt xs 112 = x ∧ x ≤ 255 := by
        have := bytesOk_gt HX.out (j := 112) (by rw [HL.out]; omega)
        exact ⟨(gt xs 112).toNat, by omega, by omega⟩
      obtain ⟨s3, hs3, -⟩ : ∃ x : Nat, gt xs 113 = x ∧ x ≤ 255 := by
        have := bytesOk_gt HX.out (j := 113) (by rw [HL.out]; omega)
        exact ⟨(gt xs 113).toNat, by omega, by omega⟩
      obtain ⟨ba, hba⟩ : ∃ ba, ((s2 : Int) == 2) = ba := ⟨_, rfl⟩
      obtain ⟨bc, hbc⟩ : ∃ bc, ((s3 : Int) == 2) = bc := ⟨_, rfl⟩
      have HA := Lib.hid (show (gt xs 112 == 2) = ba by rw [hs2]; exact hba)
      have HC := Lib.hid (show (gt xs 113 == 2) = bc by rw [hs3]; exact hbc)
      have hk2 := gt_cell HR.out 112 s2 (by omega) hs2
      have hk3 := gt_cell HR.out 113 s3 (by omega) hs3
      clear hok hby hbl hbo hwh hs2 hs3
      go_enter Try.func73, Try.ntmps73
      go_wp2_with fail
      refine (refwhole_calls _ _ _ xs _ (HR.out.below (by repeat (first | exact Below.refl _ _ | apply Bw.alloc | apply Bw.drewN | apply Bw.drew | (refine Bw.step ?_ (by assumption))))) hc hn).mono ?_; rintro e w' ⟨rfl, rfl⟩; rewrite [HW.out]
      have hW : Below w.heap.size w ((w.alloc (.cells #[.int .i64 0, .int .u8 0, .int .u8 0, .int .u32 0, .int .u32 0] 85)).alloc (.cells #[.bool false, .bool false] 94)) := (by repeat (first | exact Below.refl _ _ | apply Bw.alloc | apply Bw.drewN | apply Bw.drew | (refine Bw.step ?_ (by assumption))))
      have B1 := Lib.hid (show Blk ((w.alloc (.cells #[.int .i64 0, .int .u8 0, .int .u8 0, .int .u32 0, .int .u32 0] 85)).alloc (.cells #[.bool false, .bool false] 94)) w.heap.size #[.int .i64 0, .int .u8 0, .int .u8 0, .int .u32 0, .int .u32 0] 85 from (Blk.new (w := w) rfl).below (by repeat (first | exact Below.refl _ _ | apply Bw.alloc | apply Bw.drewN | apply Bw.drew | (refine Bw.step ?_ (by assumption)))))
      have B2 := Lib.hid (show Blk ((w.alloc (.cells #[.int .i64 0, .int .u8 0, .int .u8 0, .int .u32 0, .int .u32 0] 85)).alloc (.cells #[.bool false, .bool false] 94)) (w.heap.size + 1) #[.bool false, .bool false] 94 from Blk.new (by simp))
      have HK : Hid (∀ w', Below w.heap.size w w' → w'.cell? ⟨b, o + 112, none⟩ = some (.int .u8 s2) ∧ w'.cell? ⟨b, o + 113, none⟩ = some (.int .u8 s3)) := fun w' h => ⟨(h.cell (p := ⟨b, o + 112, none⟩) hblt).trans hk2, (h.cell (p := ⟨b, o + 113, none⟩) hblt).trans hk3⟩
      clear hk2 hk3
      go_wp2_with fail
      generalize (w.alloc (.cells #[.int .i64 0, .int .u8 0, .int .u8 0, .int .u32 0, .int .u32 0] 85)).alloc (.cells #[.bool false, .bool false] 94) = W at *
      refine (refbytes_calls _ _ _ (xs.take 112) _ (HT.out.below (by repeat (first | exact Below.refl _ _ | apply Bw.alloc | apply Bw.drewN | apply Bw.drew | (refine Bw.step ?_ (by assumption))))) (by omega) (by omega)).mono ?_
      rintro e w4 ⟨A4, m4, c4, rfl, hl4, hc4, hm4, hb4⟩
      rewrite [HBY.out]
      rw [show byV (xs.take 112) = rdB xs from rfl] at hl4 hm4
      rw [HBL.out] at hl4
      subst hl4
      have HBW4 := Lib.hid (show Below W.heap.size W w4 from (by repeat (first | exact Below.refl _ _ | apply Bw.alloc | apply Bw.drewN | apply Bw.drew | (refine Bw.step ?_ (by assumption)))))
      have HC4 := Lib.hid (And.intro hc4 hm4.cap_le)
      have HM4 := Lib.hid hm4
      clear hb4 hm4
      obtain ⟨O, hO⟩ : ∃ O, fO (rdB xs) = O := ⟨_, rfl⟩
      obtain ⟨K, hK⟩ : ∃ K, fK (rdB xs) = K := ⟨_, rfl⟩
      obtain ⟨S, hS⟩ : ∃ S, fS (rdB xs) = S := ⟨_, rfl⟩
      obtain ⟨Q, hQ⟩ : ∃ Q, fQ (rdB xs) = Q := ⟨_, rfl⟩
      obtain ⟨V, hV⟩ : ∃ V, fV (rdB xs) = V := ⟨_, rfl⟩
      obtain ⟨E, hE⟩ : ∃ E, errG (rdB xs) = E := ⟨_, rfl⟩
      have HG : Hid (∀ (w : World), Rd w .u8 A4 14 (rdB xs) → Calls Try.prog 68 #[.slice A4 14 c4] w fun e w' => e = .returned (.tuple #[.agg #[.int .i64 O, .int .u8 K, .int .u8 S, .int .u32 Q, .int .u32 V], .int .i64 E]) ∧ Below w.heap.size w w') := fun w h1 => by
        have h := refget_calls A4 14 c4 (rdB xs) w h1 HC4.out.1 HC4.out.2 HBO.out
        unfold GetPost at h
        rw [hO, hK, hS, hQ, hV, hE] at h
        exact h
      have HFIN := Lib.hid (fun (w' : World) (hb : Below w.heap.size w w') => rd_full (w := w) (w' := w') HOK.out hO hK hS hQ hV HA.out HC.out hE hb)
      clear hO hK hS hQ hV hE
      go_wp2_with fail
      refine (HG.out _ HM4.out.rd).mono ?_; rintro e w6 ⟨rfl, hb6⟩
      have HBX := Lib.hid (show Below W.heap.size W (w6.alloc (.cells #[.int .i64 O, .int .u8 K, .int .u8 S, .int .u32 Q, .int .u32 V] 85)) from Bw.alloc (Bw.step HBW4.out hb6) _)
      have D1 : Blk (w6.alloc (.cells #[.int .i64 O, .int .u8 K, .int .u8 S, .int .u32 Q, .int .u32 V] 85)) w.heap.size #[.int .i64 0, .int .u8 0, .int .u8 0, .int .u32 0, .int .u32 0] 85 := B1.out.below HBX.out
      have D2 : Blk (w6.alloc (.cells #[.int .i64 O, .int .u8 K, .int .u8 S, .int .u32 Q, .int .u32 V] 85)) (w.heap.size + 1) #[.bool false, .bool false] 94 := B2.out.below HBX.out
      have D4 : Blk (w6.alloc (.cells #[.int .i64 O, .int .u8 K, .int .u8 S, .int .u32 Q, .int .u32 V] 85)) w6.heap.size #[.int .i64 O, .int .u8 K, .int .u8 S, .int .u32 Q, .int .u32 V] 85 := Blk.new (w := w6) rfl
      have hbw6 : Below w.heap.size w (w6.alloc (.cells #[.int .i64 O, .int .u8 K, .int .u8 S, .int .u32 Q, .int .u32 V] 85)) := Bw.step hW HBX.out
      have hne1 : w6.heap.size ≠ w.heap.size := by have h1 := hW.size; have h2 := D1.lt; have h3 := (Bw.step HBW4.out hb6).size; have h4 := B1.out.lt; omega
      have hne2 : w6.heap.size ≠ w.heap.size + 1 := by have h3 := (Bw.step HBW4.out hb6).size; have h4 := B2.out.lt; omega
      have a0 := D1.cell 0 (.int .i64 0) rfl
      have a1 := D1.cell 1 (.int .u8 0) rfl
      have a2 := D1.cell 2 (.int .u8 0) rfl
      have a3 := D1.cell 3 (.int .u32 0) rfl
      have a4 := D1.cell 4 (.int .u32 0) rfl
      have af0 := D1.frozen 0
      have af1 := D1.frozen 1
      have af2 := D1.frozen 2
      have af3 := D1.frozen 3
      have af4 := D1.frozen 4
      have e0 := D2.cell 0 (.bool false) rfl
      have e1 := D2.cell 1 (.bool false) rfl
      have ef0 := D2.frozen 0
      have ef1 := D2.frozen 1
      have u0 := D4.cell 0 (.int .i64 O) rfl
      have u1 := D4.cell 1 (.int .u8 K) rfl
      have u2 := D4.cell 2 (.int .u8 S) rfl
      have u3 := D4.cell 3 (.int .u32 Q) rfl
      have u4 := D4.cell 4 (.int .u32 V) rfl
      have DD1 := Lib.hid D1
      have DD2 := Lib.hid D2
      have DD4 := Lib.hid D4
      obtain ⟨i0, i1⟩ := HK.out _ hbw6
      clear D1 D2 D4
      go_wp2_with fail
      clear hb6
      generalize w6.alloc (.cells #[.int .i64 O, .int .u8 K, .int .u8 S, .int .u32 Q, .int .u32 V] 85) = X at *
      have HS0 := Lib.hid (show X.drew.cell? ⟨w6.heap.size, 0, none⟩ = some (.int .i64 O) ∧ X.drew.cell? ⟨w6.heap.size, 1, none⟩ = some (.int .u8 K) ∧ X.drew.cell? ⟨w6.heap.size, 2, none⟩ = some (.int .u8 S) ∧ X.drew.cell? ⟨w6.heap.size, 3, none⟩ = some (.int .u32 Q) ∧ X.drew.cell? ⟨w6.heap.size, 4, none⟩ = some (.int .u32 V) ∧ X.drew.cell? ⟨b, o + 112, none⟩ = some (.int .u8 s2) ∧ X.drew.cell? ⟨b, o + 113, none⟩ = some (.int .u8 s3) from ⟨u0, u1, u2, u3, u4, i0, i1⟩)
      have hb1' : Below w.heap.size w (((((X.setCell ⟨w.heap.size, 0, none⟩ (.int .i64 O)).setCell ⟨w.heap.size, 1, none⟩ (.int .u8 K)).setCell ⟨w.heap.size, 2, none⟩ (.int .u8 S)).setCell ⟨w.heap.size, 3, none⟩ (.int .u32 Q)).setCell ⟨w.heap.size, 4, none⟩ (.int .u32 V)) := Bk.set5 hbw6 (Nat.le_refl _) (.int .i64 O) (.int .u8 K) (.int .u8 S) (.int .u32 Q) (.int .u32 V)
      have hx4 : Blk (((((X.setCell ⟨w.heap.size, 0, none⟩ (.int .i64 O)).setCell ⟨w.heap.size, 1, none⟩ (.int .u8 K)).setCell ⟨w.heap.size, 2, none⟩ (.int .u8 S)).setCell ⟨w.heap.size, 3, none⟩ (.int .u32 Q)).setCell ⟨w.heap.size, 4, none⟩ (.int .u32 V)) w6.heap.size #[.int .i64 O, .int .u8 K, .int .u8 S, .int .u32 Q, .int .u32 V] 85 := DD4.out.other5 w.heap.size (Ne.symm hne1) (.int .i64 O) (.int .u8 K) (.int .u8 S) (.int .u32 Q) (.int .u32 V)
      have HS1 := Lib.hid (show (((((X.setCell ⟨w.heap.size, 0, none⟩ (.int .i64 O)).setCell ⟨w.heap.size, 1, none⟩ (.int .u8 K)).setCell ⟨w.heap.size, 2, none⟩ (.int .u8 S)).setCell ⟨w.heap.size, 3, none⟩ (.int .u32 Q)).setCell ⟨w.heap.size, 4, none⟩ (.int .u32 V)).drew.cell? ⟨w6.heap.size, 0, none⟩ = some (.int .i64 O) ∧ (((((X.setCell ⟨w.heap.size, 0, none⟩ (.int .i64 O)).setCell ⟨w.heap.size, 1, none⟩ (.int .u8 K)).setCell ⟨w.heap.size, 2, none⟩ (.int .u8 S)).setCell ⟨w.heap.size, 3, none⟩ (.int .u32 Q)).setCell ⟨w.heap.size, 4, none⟩ (.int .u32 V)).drew.cell? ⟨w6.heap.size, 1, none⟩ = some (.int .u8 K) ∧ (((((X.setCell ⟨w.heap.size, 0, none⟩ (.int .i64 O)).setCell ⟨w.heap.size, 1, none⟩ (.int .u8 K)).setCell ⟨w.heap.size, 2, none⟩ (.int .u8 S)).setCell ⟨w.heap.size, 3, none⟩ (.int .u32 Q)).setCell ⟨w.heap.size, 4, none⟩ (.int .u32 V)).drew.cell? ⟨w6.heap.size, 2, none⟩ = some (.int .u8 S) ∧ (((((X.setCell ⟨w.heap.size, 0, none⟩ (.int .i64 O)).setCell ⟨w.heap.size, 1, none⟩ (.int .u8 K)).setCell ⟨w.heap.size, 2, none⟩ (.int .u8 S)).setCell ⟨w.heap.size, 3, none⟩ (.int .u32 Q)).setCell ⟨w.heap.size, 4, none⟩ (.int .u32 V)).drew.cell? ⟨w6.heap.size, 3, none⟩ = some (.int .u32 Q) ∧ (((((X.setCell ⟨w.heap.size, 0, none⟩ (.int .i64 O)).setCell ⟨w.heap.size, 1, none⟩ (.int .u8 K)).setCell ⟨w.heap.size, 2, none⟩ (.int .u8 S)).setCell ⟨w.heap.size, 3, none⟩ (.int .u32 Q)).setCell ⟨w.heap.size, 4, none⟩ (.int .u32 V)).drew.cell? ⟨w6.heap.size, 4, none⟩ = some (.int .u32 V) ∧ (((((X.setCell ⟨w.heap.size, 0, none⟩ (.int .i64 O)).setCell ⟨w.heap.size, 1, none⟩ (.int .u8 K)).setCell ⟨w.heap.size, 2, none⟩ (.int .u8 S)).setCell ⟨w.heap.size, 3, none⟩ (.int .u32 Q)).setCell ⟨w.heap.size, 4, none⟩ (.int .u32 V)).drew.cell? ⟨b, o + 112, none⟩ = some (.int .u8 s2) ∧ (((((X.setCell ⟨w.heap.size, 0, none⟩ (.int .i64 O)).setCell ⟨w.heap.size, 1, none⟩ (.int .u8 K)).setCell ⟨w.heap.size, 2, none⟩ (.int .u8 S)).setCell ⟨w.heap.size, 3, none⟩ (.int .u32 Q)).setCell ⟨w.heap.size, 4, none⟩ (.int .u32 V)).drew.cell? ⟨b, o + 113, none⟩ = some (.int .u8 s3) from ⟨hx4.drew.c5.1, hx4.drew.c5.2.1, hx4.drew.c5.2.2.1, hx4.drew.c5.2.2.2.1, hx4.drew.c5.2.2.2.2, (HK.out _ (Bk.drew hb1')).1, (HK.out _ (Bk.drew hb1')).2⟩)
      have hb2' : Below w.heap.size w (((((((X.setCell ⟨w.heap.size, 0, none⟩ (.int .i64 O)).setCell ⟨w.heap.size, 1, none⟩ (.int .u8 K)).setCell ⟨w.heap.size, 2, none⟩ (.int .u8 S)).setCell ⟨w.heap.size, 3, none⟩ (.int .u32 Q)).setCell ⟨w.heap.size, 4, none⟩ (.int .u32 V)).setCell ⟨w.heap.size + 1, 0, none⟩ (.bool ba)).setCell ⟨w.heap.size + 1, 1, none⟩ (.bool bc)) := Bk.set2 hb1' (Nat.le_succ _) (.bool ba) (.bool bc)
      have hy4 : Blk (((((((X.setCell ⟨w.heap.size, 0, none⟩ (.int .i64 O)).setCell ⟨w.heap.size, 1, none⟩ (.int .u8 K)).setCell ⟨w.heap.size, 2, none⟩ (.int .u8 S)).setCell ⟨w.heap.size, 3, none⟩ (.int .u32 Q)).setCell ⟨w.heap.size, 4, none⟩ (.int .u32 V)).setCell ⟨w.heap.size + 1, 0, none⟩ (.bool ba)).setCell ⟨w.heap.size + 1, 1, none⟩ (.bool bc)) w6.heap.size #[.int .i64 O, .int .u8 K, .int .u8 S, .int .u32 Q, .int .u32 V] 85 := (hx4.other (w.heap.size + 1) 0 (.bool ba) (Ne.symm hne2)).other (w.heap.size + 1) 1 (.bool bc) (Ne.symm hne2)
      have HS2 := Lib.hid (show (((((((X.setCell ⟨w.heap.size, 0, none⟩ (.int .i64 O)).setCell ⟨w.heap.size, 1, none⟩ (.int .u8 K)).setCell ⟨w.heap.size, 2, none⟩ (.int .u8 S)).setCell ⟨w.heap.size, 3, none⟩ (.int .u32 Q)).setCell ⟨w.heap.size, 4, none⟩ (.int .u32 V)).setCell ⟨w.heap.size + 1, 0, none⟩ (.bool ba)).setCell ⟨w.heap.size + 1, 1, none⟩ (.bool bc)).drew.cell? ⟨w6.heap.size, 0, none⟩ = some (.int .i64 O) ∧ (((((((X.setCell ⟨w.heap.size, 0, none⟩ (.int .i64 O)).setCell ⟨w.heap.size, 1, none⟩ (.int .u8 K)).setCell ⟨w.heap.size, 2, none⟩ (.int .u8 S)).setCell ⟨w.heap.size, 3, none⟩ (.int .u32 Q)).setCell ⟨w.heap.size, 4, none⟩ (.int .u32 V)).setCell ⟨w.heap.size + 1, 0, none⟩ (.bool ba)).setCell ⟨w.heap.size + 1, 1, none⟩ (.bool bc)).drew.cell? ⟨w6.heap.size, 1, none⟩ = some (.int .u8 K) ∧ (((((((X.setCell ⟨w.heap.size, 0, none⟩ (.int .i64 O)).setCell ⟨w.heap.size, 1, none⟩ (.int .u8 K)).setCell ⟨w.heap.size, 2, none⟩ (.int .u8 S)).setCell ⟨w.heap.size, 3, none⟩ (.int .u32 Q)).setCell ⟨w.heap.size, 4, none⟩ (.int .u32 V)).setCell ⟨w.heap.size + 1, 0, none⟩ (.bool ba)).setCell ⟨w.heap.size + 1, 1, none⟩ (.bool bc)).drew.cell? ⟨w6.heap.size, 2, none⟩ = some (.int .u8 S) ∧ (((((((X.setCell ⟨w.heap.size, 0, none⟩ (.int .i64 O)).setCell ⟨w.heap.size, 1, none⟩ (.int .u8 K)).setCell ⟨w.heap.size, 2, none⟩ (.int .u8 S)).setCell ⟨w.heap.size, 3, none⟩ (.int .u32 Q)).setCell ⟨w.heap.size, 4, none⟩ (.int .u32 V)).setCell ⟨w.heap.size + 1, 0, none⟩ (.bool ba)).setCell ⟨w.heap.size + 1, 1, none⟩ (.bool bc)).drew.cell? ⟨w6.heap.size, 3, none⟩ = some (.int .u32 Q) ∧ (((((((X.setCell ⟨w.heap.size, 0, none⟩ (.int .i64 O)).setCell ⟨w.heap.size, 1, none⟩ (.int .u8 K)).setCell ⟨w.heap.size, 2, none⟩ (.int .u8 S)).setCell ⟨w.heap.size, 3, none⟩ (.int .u32 Q)).setCell ⟨w.heap.size, 4, none⟩ (.int .u32 V)).setCell ⟨w.heap.size + 1, 0, none⟩ (.bool ba)).setCell ⟨w.heap.size + 1, 1, none⟩ (.bool bc)).drew.cell? ⟨w6.heap.size, 4, none⟩ = some (.int .u32 V) ∧ (((((((X.setCell ⟨w.heap.size, 0, none⟩ (.int .i64 O)).setCell ⟨w.heap.size, 1, none⟩ (.int .u8 K)).setCell ⟨w.heap.size, 2, none⟩ (.int .u8 S)).setCell ⟨w.heap.size, 3, none⟩ (.int .u32 Q)).setCell ⟨w.heap.size, 4, none⟩ (.int .u32 V)).setCell ⟨w.heap.size + 1, 0, none⟩ (.bool ba)).setCell ⟨w.heap.size + 1, 1, none⟩ (.bool bc)).drew.cell? ⟨b, o + 112, none⟩ = some (.int .u8 s2) ∧ (((((((X.setCell ⟨w.heap.size, 0, none⟩ (.int .i64 O)).setCell ⟨w.heap.size, 1, none⟩ (.int .u8 K)).setCell ⟨w.heap.size, 2, none⟩ (.int .u8 S)).setCell ⟨w.heap.size, 3, none⟩ (.int .u32 Q)).setCell ⟨w.heap.size, 4, none⟩ (.int .u32 V)).setCell ⟨w.heap.size + 1, 0, none⟩ (.bool ba)).setCell ⟨w.heap.size + 1, 1, none⟩ (.bool bc)).drew.cell? ⟨b, o + 113, none⟩ = some (.int .u8 s3) from ⟨hy4.drew.c5.1, hy4.drew.c5.2.1, hy4.drew.c5.2.2.1, hy4.drew.c5.2.2.2.1, hy4.drew.c5.2.2.2.2, (HK.out _ (Bk.drew hb2')).1, (HK.out _ (Bk.drew hb2')).2⟩)
      clear hx4 hy4 hb1' hb2'
      go_region_held3 (fun w' => w'.cell? ⟨w6.heap.size, 0, none⟩ = some (.int .i64 O) ∧ w'.cell? ⟨w6.heap.size, 1, none⟩ = some (.int .u8 K) ∧ w'.cell? ⟨w6.heap.size, 2, none⟩ = some (.int .u8 S) ∧ w'.cell? ⟨w6.heap.size, 3, none⟩ = some (.int .u32 Q) ∧ w'.cell? ⟨w6.heap.size, 4, none⟩ = some (.int .u32 V) ∧ w'.cell? ⟨b, o + 112, none⟩ = some (.int .u8 s2) ∧ w'.cell? ⟨b, o + 113, none⟩ = some (.int .u8 s3)) (first | (with_reducible exact HS0.out) | (with_reducible exact HS1.out) | (with_reducible exact HS2.out)) (fail)
      go_wp2
      have hfin : Below w.heap.size w (((((((X.setCell ⟨w.heap.size, 0, none⟩ (.int .i64 O)).setCell ⟨w.heap.size, 1, none⟩ (.int .u8 K)).setCell ⟨w.heap.size, 2, none⟩ (.int .u8 S)).setCell ⟨w.heap.size, 3, none⟩ (.int .u32 Q)).setCell ⟨w.heap.size, 4, none⟩ (.int .u32 V)).setCell ⟨w.heap.size + 1, 0, none⟩ (.bool ba)).setCell ⟨w.heap.size + 1, 1, none⟩ (.bool bc)).drew := Bk.drew (Bk.set2 (Bk.set5 hbw6 (Nat.le_refl _) (.int .i64 O) (.int .u8 K) (.int .u8 S) (.int .u32 Q) (.int .u32 V)) (Nat.le_succ _) (.bool ba) (.bool bc))
      have G1 : Blk (((((((X.setCell ⟨w.heap.size, 0, none⟩ (.int .i64 O)).setCell ⟨w.heap.size, 1, none⟩ (.int .u8 K)).setCell ⟨w.heap.size, 2, none⟩ (.int .u8 S)).setCell ⟨w.heap.size, 3, none⟩ (.int .u32 Q)).setCell ⟨w.heap.size, 4, none⟩ (.int .u32 V)).setCell ⟨w.heap.size + 1, 0, none⟩ (.bool ba)).setCell ⟨w.heap.size + 1, 1, none⟩ (.bool bc)).drew w.heap.size #[.int .i64 O, .int .u8 K, .int .u8 S, .int .u32 Q, .int .u32 V] 85 := Blk.drew (((DD1.out.set5 (.int .i64 O) (.int .u8 K) (.int .u8 S) (.int .u32 Q) (.int .u32 V)).other _ 0 (.bool ba) (by omega)).other _ 1 (.bool bc) (by omega))
      have G2 : Blk (((((((X.setCell ⟨w.heap.size, 0, none⟩ (.int .i64 O)).setCell ⟨w.heap.size, 1, none⟩ (.int .u8 K)).setCell ⟨w.heap.size, 2, none⟩ (.int .u8 S)).setCell ⟨w.heap.size, 3, none⟩ (.int .u32 Q)).setCell ⟨w.heap.size, 4, none⟩ (.int .u32 V)).setCell ⟨w.heap.size + 1, 0, none⟩ (.bool ba)).setCell ⟨w.heap.size + 1, 1, none⟩ (.bool bc)).drew (w.heap.size + 1) #[.bool ba, .bool bc] 94 := Blk.drew ((DD2.out.other5 w.heap.size (by omega) (.int .i64 O) (.int .u8 K) (.int .u8 S) (.int .u32 Q) (.int .u32 V)).set2 (.bool ba) (.bool bc))
      generalize (((((((X.setCell ⟨w.heap.size, 0, none⟩ (.int .i64 O)).setCell ⟨w.heap.size, 1, none⟩ (.int .u8 K)).setCell ⟨w.heap.size, 2, none⟩ (.int .u8 S)).setCell ⟨w.heap.size, 3, none⟩ (.int .u32 Q)).setCell ⟨w.heap.size, 4, none⟩ (.int .u32 V)).setCell ⟨w.heap.size + 1, 0, none⟩ (.bool ba)).setCell ⟨w.heap.size + 1, 1, none⟩ (.bool bc)).drew = Z at *
      have z0 := G1.cell 0 (.int .i64 O) rfl
      have z1 := G1.cell 1 (.int .u8 K) rfl
      have z2 := G1.cell 2 (.int .u8 S) rfl
      have z3 := G1.cell 3 (.int .u32 Q) rfl
      have z4 := G1.cell 4 (.int .u32 V) rfl
      have z5 := G2.cell 0 (.bool ba) rfl
      have z6 := G2.cell 1 (.bool bc) rfl
      refine bodyPost_ret (v := .tuple #[.agg #[.int .i64 O, .int .u8 K, .int .u8 S, .int .u32 Q, .int .u32 V], .agg #[.bool ba, .bool bc], .int .i64 E]) (by simp [results, Try.results73, go_sem, z0, z1, z2, z3, z4, z5, z6]) rfl ?_
      exact HFIN.out _ hfin
  · have HOK := Lib.hid (show rdOk xs = false by simp [rdOk, HL.out, h114])
    have hne : ((n : Int) != 114) = true := by simp; omega
    go_enter Try.func73, Try.ntmps73
    go_wp2
    refine bodyPost_ret (v := .tuple #[.agg #[.int .i64 0, .int .u8 0, .int .u8 0, .int .u32 0, .int .u32 0], .agg #[.bool false, .bool false], .int .i64 4]) (by simp [results, Try.results73, go_sem]) rfl ?_
    exact rd_zero HOK.out (by repeat (first | exact Below.refl _ _ | apply Bw.alloc | apply Bw.drewN | apply Bw.drew | (refine Bw.step ?_ (by assumption))))
end Go.Proofs.Ytnmhhjgiakijgaa

/- Symbols of a frame read back, and turned within 32 places, plainly. -/
namespace Go.Proofs.Ytnmhhjgiakijgaa
set_option linter.unusedVariables false

theorem wholeL_append {xs ys : List Int} (h1 : wholeL xs = true) (h2 : wholeL ys = true) : wholeL (xs ++ ys) = true := by
  unfold wholeL at *
  rw [List.all_append, h1, h2]
  rfl
theorem wholeL_tail (a b : Bool) : wholeL (tailL a b) = true := by cases a <;> cases b <;> decide
theorem syP_eq {o : Int} {k s q v : Nat} {a b : Bool} (h : mayB o k = true) : syP o k s q v a b = ofL (frP o k s q v) ++ tailL a b := by unfold syP; rw [if_pos h]
theorem rdOk_sy {o : Int} {k s q v : Nat} {a b : Bool} (h : mayB o k = true) : rdOk (syP o k s q v a b) = true := by
  simp only [rdOk, Bool.and_eq_true, decide_eq_true_eq]
  refine ⟨syP_length _ _ _ _ _ _ _ h, ?_⟩
  rw [syP_eq h]
  exact wholeL_append (wholeL_of _) (wholeL_tail _ _)
theorem sy_take {o : Int} {k s q v : Nat} {a b : Bool} (h : mayB o k = true) : (syP o k s q v a b).take 112 = ofL (frP o k s q v) := by
  rw [syP_eq h, List.take_append_of_le_length (by rw [ofL_length, frP_length _ _ _ _ _ h]; exact Nat.le_refl _), List.take_of_length_le (by rw [ofL_length, frP_length _ _ _ _ _ h]; exact Nat.le_refl _)]
theorem rdB_sy {o : Int} {k s q v : Nat} {a b : Bool} (h : mayB o k = true) (hs : s ≤ 255) : rdB (syP o k s q v a b) = frP o k s q v := by
  unfold rdB
  rw [sy_take h]
  exact (byV_of _ (frP_ok o k s q v hs)).2
theorem sy_112 {o : Int} {k s q v : Nat} {a b : Bool} (h : mayB o k = true) : gt (syP o k s q v a b) 112 = sy a ∧ gt (syP o k s q v a b) 113 = sy b := by
  have hl : (ofL (frP o k s q v)).length = 112 := by rw [ofL_length, frP_length _ _ _ _ _ h]
  rw [syP_eq h]
  constructor
  · rw [gt_append_right _ _ _ (by omega), hl]; rfl
  · rw [gt_append_right _ _ _ (by omega), hl]; rfl
/-- what is put as symbols is read -/
theorem read_sy {o : Int} {k s q v : Nat} {a b : Bool} (h : mayB o k = true) (hs : s ≤ 255) (hq : q < 4294967296) (hv : v < 4294967296) :
    (rO (syP o k s q v a b) : Int) = o ∧ rK (syP o k s q v a b) = k ∧ rS (syP o k s q v a b) = s ∧ rQ (syP o k s q v a b) = q ∧ rV (syP o k s q v a b) = v ∧ rA (syP o k s q v a b) = a ∧ rC (syP o k s q v a b) = b ∧ rE (syP o k s q v a b) = 0 := by
  obtain ⟨z1, z2, z3, z4, z5, z6, z7, z8⟩ := fullR (rdOk_sy (a := a) (b := b) (s := s) (q := q) (v := v) h)
  obtain ⟨g0, g1, g2, g3, g4, g5⟩ := got_put o k s q v h hs hq hv
  obtain ⟨y1, y2, y3, y4, y5⟩ := fullG g0
  obtain ⟨t1, t2⟩ := sy_112 (a := a) (b := b) (s := s) (q := q) (v := v) h
  rw [rdB_sy h hs] at z1 z2 z3 z4 z5 z8
  refine ⟨by rw [z1, y1, g1], by rw [z2, y2, g2], by rw [z3, y3, g3], by rw [z4, y4, g4], by rw [z5, y5, g5], ?_, ?_, by rw [z8]; exact errG_ok g0⟩
  · rw [z6, t1]; cases a <;> rfl
  · rw [z7, t2]; cases b <;> rfl
/-- frames have the same bytes just if they are the same -/
theorem frP_inj {o o' : Int} {k s q v k' s' q' v' : Nat} (h : mayB o k = true) (h' : mayB o' k' = true) (hs : s ≤ 255) (hq : q < 4294967296) (hv : v < 4294967296) (hs' : s' ≤ 255) (hq' : q' < 4294967296) (hv' : v' < 4294967296)
    (e : frP o k s q v = frP o' k' s' q' v') : o = o' ∧ k = k' ∧ s = s' ∧ q = q' ∧ v = v' := by
  obtain ⟨-, g1, g2, g3, g4, g5⟩ := got_put o k s q v h hs hq hv
  obtain ⟨-, y1, y2, y3, y4, y5⟩ := got_put o' k' s' q' v' h' hs' hq' hv'
  rw [e] at g1 g2 g3 g4 g5
  exact ⟨g1.symm.trans y1, g2.symm.trans y2, g3.symm.trans y3, g4.symm.trans y4, g5.symm.trans y5⟩

/-- the places a + i, i a bit of z -/
def atL (a z : Nat) : Nat → List Int
  | 0 => []
  | i + 1 => atL a z i ++ (if z.testBit i = true then [((a + i : Nat) : Int)] else [])
theorem times_atL (a z : Nat) : ∀ n j, times (atL a z n) j = if a ≤ j ∧ j < a + n ∧ z.testBit (j - a) = true then 1 else 0 := by
  intro n
  induction n with
  | zero => intro j; rw [if_neg (by omega)]; rfl
  | succ n ih =>
    intro j
    show times (atL a z n ++ (if z.testBit n = true then [((a + n : Nat) : Int)] else [])) j = _
    by_cases hb : z.testBit n = true
    · rw [if_pos hb, times_snoc, ih]
      by_cases hj : j = a + n
      · subst hj
        rw [if_neg (by omega), if_pos rfl, if_pos ⟨by omega, by omega, by rw [show a + n - a = n from by omega]; exact hb⟩]
      · rw [if_neg (show ¬ (((a + n : Nat) : Int) = (j : Int)) by omega), Nat.add_zero]
        by_cases hc : a ≤ j ∧ j < a + n ∧ z.testBit (j - a) = true
        · rw [if_pos hc, if_pos ⟨hc.1, by omega, hc.2.2⟩]
        · rw [if_neg hc, if_neg (fun h => hc ⟨h.1, by omega, h.2.2⟩)]
    · rw [if_neg hb, List.append_nil, ih]
      by_cases hc : a ≤ j ∧ j < a + n ∧ z.testBit (j - a) = true
      · rw [if_pos hc, if_pos ⟨hc.1, by omega, hc.2.2⟩]
      · rw [if_neg hc, if_neg (fun h => hc ⟨h.1, by
          have : j ≠ a + n := fun e => hb (by rw [← h.2.2, e, show a + n - a = n from by omega])
          omega, h.2.2⟩)]
theorem atL_length (a z : Nat) : ∀ n, (atL a z n).length ≤ n := by
  intro n
  induction n with
  | zero => exact Nat.le_refl _
  | succ n ih =>
    show (atL a z n ++ (if z.testBit n = true then [((a + n : Nat) : Int)] else [])).length ≤ _
    rw [List.length_append]
    split <;> simp <;> omega
theorem atL_some (a z : Nat) : ∀ n, 0 < (atL a z n).length → ∃ i, i < n ∧ z.testBit i = true := by
  intro n
  induction n with
  | zero => intro h; exact absurd h (Nat.lt_irrefl 0)
  | succ n ih =>
    intro h
    by_cases hb : z.testBit n = true
    · exact ⟨n, by omega, hb⟩
    · have h' : 0 < (atL a z n ++ (if z.testBit n = true then [((a + n : Nat) : Int)] else [])).length := h
      rw [if_neg hb, List.append_nil] at h'
      obtain ⟨i, h1, h2⟩ := ih h'
      exact ⟨i, by omega, h2⟩
theorem wholeB_oddly (t : Nat) (x : Int) : wholeB (oddly t x) = wholeB x := by
  unfold oddly
  split
  · exact wholeB_flip x
  · rfl
theorem wholeL_turnL {xs at_ : List Int} (h : wholeL xs = true) : wholeL (turnL xs at_) = true := by
  rw [wholeL_iff] at h ⊢
  intro j hj
  rw [turnL_length] at hj
  rw [turnL_gt' xs at_ j hj, wholeB_oddly]
  exact h j hj

/-- a frame's symbols turned within 32 places of its body -/
theorem turned {o : Int} {k s q v : Nat} {a b : Bool} (h : mayB o k = true) (hs : s ≤ 255) (p z : Nat) (hp : p ≤ 80) :
    rdOk (turnL (syP o k s q v a b) (atL p z 32)) = true ∧ rA (turnL (syP o k s q v a b) (atL p z 32)) = a ∧ rC (turnL (syP o k s q v a b) (atL p z 32)) = b ∧
      (0 < (atL p z 32).length → okB (rdB (turnL (syP o k s q v a b) (atL p z 32))) = false ∧ rE (turnL (syP o k s q v a b) (atL p z 32)) = 5) := by
  obtain ⟨S, hS⟩ : ∃ S, S = syP o k s q v a b := ⟨_, rfl⟩
  obtain ⟨X, hX⟩ : ∃ X, X = turnL S (atL p z 32) := ⟨_, rfl⟩
  rw [← hS, ← hX]
  have hSl : S.length = 114 := by rw [hS]; exact syP_length _ _ _ _ _ _ _ h
  have hXl : X.length = 114 := by rw [hX, turnL_length, hSl]
  have hSok := rdOk_sy (s := s) (q := q) (v := v) (a := a) (b := b) h
  rw [← hS] at hSok
  have hSw : wholeL S = true := by simp only [rdOk, Bool.and_eq_true] at hSok; exact hSok.2
  have hXw : wholeL X = true := by rw [hX]; exact wholeL_turnL hSw
  have hXok : rdOk X = true := by simp only [rdOk, Bool.and_eq_true, decide_eq_true_eq]; exact ⟨hXl, hXw⟩
  have hg : ∀ j, j < 114 → gt X j = oddly (if p ≤ j ∧ j < p + 32 ∧ z.testBit (j - p) = true then 1 else 0) (gt S j) := fun j hj => by
    rw [hX, turnL_gt' S _ j (by omega), times_atL]
  obtain ⟨t1, t2⟩ := sy_112 (s := s) (q := q) (v := v) (a := a) (b := b) h
  rw [← hS] at t1 t2
  obtain ⟨z1, z2, z3, z4, z5, z6, z7, z8⟩ := fullR hXok
  refine ⟨hXok, ?_, ?_, fun hat => ?_⟩
  · rw [z6, hg 112 (by omega), if_neg (by omega), t1]; cases a <;> rfl
  · rw [z7, hg 113 (by omega), if_neg (by omega), t2]; cases b <;> rfl
  · obtain ⟨i, hi, hbit⟩ := atL_some p z 32 hat
    obtain ⟨-, hb1, hb2, hb3⟩ := rdB_facts hXok
    have hPok := frP_ok o k s q v hs
    have hPl := frP_length o k s q v h
    have hP : frP o k s q v = putS (frB o k s q v) := by unfold frP; rw [if_pos h]
    -- the bits
    have hX2 : ∀ j, j < 112 → gt X j = if rawBit (rdB X) j = true then 2 else 1 := fun j hj => by
      rw [← of_bit (rdB X) j (by rw [hb2]; omega), hb1, ofL_bytesN _ (wholeL_take hXw 112) 14 (by rw [List.length_take, hXl]; decide), gt_take _ _ _ (by omega), gt_take _ _ _ (by omega)]
    have hS2 : ∀ j, j < 112 → gt S j = if rawBit (frP o k s q v) j = true then 2 else 1 := fun j hj => by
      rw [← of_bit _ j (by rw [hPl]; omega), ← sy_take (a := a) (b := b) h, ← hS, gt_take _ _ _ (by omega)]
    have hchk : chkB (rdB X) = false := by
      cases hc : chkB (rdB X) with
      | false => rfl
      | true =>
        have e1 := chkB_eq hc
        have hl10 : ((rdB X).take 10).length = 10 := by rw [List.length_take, hb2]; rfl
        have e2 := sums_apart (frB o k s q v) ((rdB X).take 10) (frB_ok o k s q v h hs) (bytesOk_take hb3 10) (by rw [hl10, frB_length]) p (by rw [frB_length]; omega) (fun j hj hout => by
          rw [frB_length] at hj
          rw [← hP, e1]
          have h1 := hX2 j (by omega)
          have h2 := hS2 j (by omega)
          rw [hg j (by omega), if_neg (by omega)] at h1
          have h3 : oddly 0 (gt S j) = gt S j := rfl
          rw [h3, h2] at h1
          revert h1
          cases rawBit (frP o k s q v) j <;> cases rawBit (rdB X) j <;> simp)
        rw [← hP, e1] at e2
        have h1 := hX2 (p + i) (by omega)
        have h2 := hS2 (p + i) (by omega)
        rw [hg (p + i) (by omega), if_pos ⟨by omega, by omega, by rw [show p + i - p = i from by omega]; exact hbit⟩, ← e2, h2] at h1
        exfalso
        revert h1
        cases rawBit (frP o k s q v) (p + i) <;> decide
    refine ⟨by simp [okB, hchk], ?_⟩
    rw [z8]
    unfold errG
    rw [if_pos hb2, hchk]
    rfl
end Go.Proofs.Ytnmhhjgiakijgaa
