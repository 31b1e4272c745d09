/- BitsJoin: what the call returns. -/
import Derived.Test.YtnmhhjgiakijgaaB0
import Derived.Test.YtnmhhjgiakijgaaM3
import Derived.Deep.RegionHeld3
namespace Go.Proofs.Ytnmhhjgiakijgaa
open Go.RowKit
set_option linter.unusedVariables false

theorem Rd.part {w : World} {k : IntKind} {b o n : Nat} {xs : List Int} (h : Rd w k (some ⟨b, o, none⟩) n xs) (i m : Nat) (hi : i + m ≤ n) : Rd w k (some ⟨b, o + i, none⟩) m ((xs.drop i).take m) := by
  have hl := h.len
  refine ⟨by rw [nums_length, List.length_take, List.length_drop]; omega, fun hp => ⟨b, o + i, rfl, fun j u hu => ?_⟩⟩
  obtain ⟨b', o', e, hc⟩ := h.2 (by omega)
  injection e with e
  injection e with e1 e2
  subst e1
  subst e2
  rw [Nat.add_assoc]
  refine hc (i + j) u ?_
  simp only [nums, List.getElem?_map, List.getElem?_take, List.getElem?_drop] at hu ⊢
  split at hu
  · exact hu
  · simp at hu

theorem put2_calls (A : Option Addr) (n c : Nat) (xs : List Int) (N : Nat) (b : Int) (w : World) (hr : Rd w .u8 A n xs) (hc : n ≤ c) (hn : n ≤ 60000) (hN : N < 18446744073709551616) :
    Calls Try.prog 31 #[.slice A n c, .int .u64 N, .int .i64 b] w fun e w' => ∃ A', e = .returned (.slice A' (n + many b) (n + many b)) ∧ Mn w' w.heap.size 50 1 (.slice A' (n + many b) (n + many b)) (n + many b) (nums .u8 (putA xs N b)) ∧ Below w.heap.size w w' :=
  (put_calls A n c xs N b w hr hc hn hN).mono fun e w' ⟨A', m, he, hm, h1, h2⟩ => by subst hm; exact ⟨A', he, h1, h2⟩

set_option maxHeartbeats 3200000 in
set_option maxRecDepth 20000 in
theorem join_walk (A : Option Addr) (n c : Nat) (xs : List Int) (D : Option Addr) (m d : Nat) (ys : List Int) (p q : Nat) (w : World) (hr : Rd w .u8 A n xs) (hc : n ≤ c) (hx : bytesOk xs) (hs : Rd w .u8 D m ys) (hd : m ≤ d) (hy : bytesOk ys)
    (hp : p < 18446744073709551616) (hq : q < 18446744073709551616) :
    Calls Try.prog 5 #[.slice A n c, .slice D m d, .agg #[.int .u64 p, .int .u64 q]] w fun e w' => e = .returned (.bool true) ∧ Below w.heap.size w w' := by
  have HR := Lib.hid hr
  have HL := Lib.hid hr.len
  have HS := Lib.hid hs
  have HM := Lib.hid hs.len
  have HX := Lib.hid hx
  have HY := Lib.hid hy
  have HP := Lib.hid hp
  have HQ := Lib.hid hq
  clear hr hs hx hy hp hq
  by_cases h0 : 200 < n ∨ 200 < m
  · rcases h0 with h0 | h0
    · go_enter Try.func5, Try.ntmps5
      go_wp2_with (go_at_call 27; refine (lives01 _).mono ?_; rintro e w1 ⟨rfl, hb1⟩)
      go_ret
      exact ⟨rfl, (by repeat (first | exact Below.refl _ _ | apply Bw.alloc | apply Bw.drewN | apply Bw.drew | (refine Bw.step ?_ (by assumption))))⟩
    · by_cases h00 : 200 < n
      · go_enter Try.func5, Try.ntmps5
        go_wp2_with (go_at_call 27; refine (lives01 _).mono ?_; rintro e w1 ⟨rfl, hb1⟩)
        go_ret
        exact ⟨rfl, (by repeat (first | exact Below.refl _ _ | apply Bw.alloc | apply Bw.drewN | apply Bw.drew | (refine Bw.step ?_ (by assumption))))⟩
      · go_enter Try.func5, Try.ntmps5
        go_wp2_with (go_at_call 27; refine (lives01 _).mono ?_; rintro e w1 ⟨rfl, hb1⟩)
        go_ret
        exact ⟨rfl, (by repeat (first | exact Below.refl _ _ | apply Bw.alloc | apply Bw.drewN | apply Bw.drew | (refine Bw.step ?_ (by assumption))))⟩
  · have h1 : n ≤ 200 := by omega
    have h2 : m ≤ 200 := by omega
    clear h0
    have HXY : Hid (bytesOk (xs ++ ys)) := fun z hz => by
      rcases List.mem_append.1 hz with h | h
      · exact HX.out z h
      · exact HY.out z h
    have S1 := Lib.hid (same_of xs ys)
    go_enter Try.func5, Try.ntmps5
    go_wp2_with (first
      | (at_builtin
         refine wpList_append_mn _ rfl _ _ _ rfl (w.heap.size + 1) 5 _ 1 1 Try.underlying43 info5 rfl (by omega) (.slice none 0 0) 0 [] rfl (Mn.nil _ _ _ _) A n c (nums .u8 xs) rfl (by rw [Nat.mul_one]; exact (HR.out.below (by repeat (first | exact Below.refl _ _ | apply Bw.alloc | apply Bw.drewN | apply Bw.drew | (refine Bw.step ?_ (by assumption)))))) (nums_one _ _) (by omega) (by omega) (by simp) ?_
         intro A1 c1 w1 hc1 hm1 hg1 hat1
         rewrite [Nat.zero_add] at hm1
         rewrite [Nat.zero_add] at hc1
         have hb1 := below_grown hg1 (fun k hk => by simp [Value.ownBlock] at hk)
         clear hg1 hat1)
      | (at_builtin
         refine wpList_append_mn _ rfl _ _ _ rfl (w.heap.size + 1) 5 _ 1 1 Try.underlying43 info5 rfl (by omega) (.slice A1 n c1) n ([] ++ nums .u8 xs) rfl hm1 D m d (nums .u8 ys) rfl (by rw [Nat.mul_one]; exact (HS.out.below (by repeat (first | exact Below.refl _ _ | apply Bw.alloc | apply Bw.drewN | apply Bw.drew | (refine Bw.step ?_ (by assumption)))))) (nums_one _ _) (by omega) (by omega) (by have := hb1.size; simp at this; omega) ?_
         intro A2 c2 w2 hc2 hm2 hg2 hat2
         have hb2 := Below.grown hb1 hg2 hb1.size (fun k hk => by have := (hm1.block hk).1; simpa using this)
         have hm3 : Mn w2 (w.heap.size + 1) 5 1 (.slice A2 (n + m) c2) (n + m) (nums .u8 (xs ++ ys)) := by rw [nums_append]; simpa using hm2
         clear hg2 hat2 hm2 hm1 hb1)
      | fail)
    refine (of_calls _ _ _ (xs ++ ys) _ hm3.rd hc2 (by omega) HXY.out).mono ?_; rintro e w3 ⟨A3, m3, rfl, hl3, hm4, hb3⟩; have HL3 := Lib.hid hl3; clear hl3
    go_wp2_with fail
    refine (of_calls _ _ _ xs _ (HR.out.below (by repeat (first | exact Below.refl _ _ | apply Bw.alloc | apply Bw.drewN | apply Bw.drew | (refine Bw.step ?_ (by assumption))))) hc (by omega) HX.out).mono ?_; rintro e w4 ⟨A4, m4, rfl, hl4, hm5, hb4⟩; have HL4 := Lib.hid hl4; clear hl4
    go_wp2_with fail
    refine (of_calls _ _ _ ys _ (HS.out.below (by repeat (first | exact Below.refl _ _ | apply Bw.alloc | apply Bw.drewN | apply Bw.drew | (refine Bw.step ?_ (by assumption))))) hd (by omega) HY.out).mono ?_; rintro e w5 ⟨A5, m5, rfl, hl5, hm6, hb5⟩; have HL5 := Lib.hid hl5; clear hl5
    go_wp2_with (at_builtin; refine wpList_append_mn _ rfl _ _ _ rfl w3.heap.size 50 _ 1 1 Try.underlying22 info50 rfl (by omega) (.slice A4 m4 m4) m4 (nums .u8 (ofL xs)) rfl (hm5.below hb5) A5 m5 m5 (nums .u8 (ofL ys)) rfl (by rw [Nat.mul_one]; exact hm6.rd) (nums_one _ _) (by have := HL4.out; have := HL5.out; omega) (by have := HL4.out; have := HL5.out; omega) (by have := hb4.size; have := hb5.size; omega) ?_; intro A6 c6 w6 hc6 hm7 hg6 hat6)
    rewrite [← nums_append] at hm7
    have hb6 : Below w3.heap.size w3 w6 := (hb4.trans (hb5.mono hb4.size)).grown hg6 (by have := hb4.size; have := hb5.size; omega) (fun k hk => (hm5.block hk).1)
    clear hg6 hat6 hm6 hm5
    refine (samesyms_calls _ _ _ _ _ _ (ofL (xs ++ ys)) (ofL xs ++ ofL ys) _ (hm4.rd.below hb6) hm7.rd (Nat.le_refl _) hc6 (by have := HL3.out; omega)).mono ?_; rintro e w' ⟨rfl, q1, rfl⟩; rewrite [S1.out]
    clear hm7 hb4 hb5
    go_wp2_with fail
    refine (of_calls _ _ _ (xs ++ ys) _ (hm3.rd.below (by repeat (first | exact Below.refl _ _ | apply Bw.alloc | apply Bw.drewN | apply Bw.drew | (refine Bw.step ?_ (by assumption))))) hc2 (by omega) HXY.out).mono ?_; rintro e w7 ⟨A7, m7, rfl, hl7, hm8, hb7⟩; subst hl7
    go_wp2_with fail
    have hx7 : Rd w7 .u8 A2 (n + m) (xs ++ ys) := hm3.rd.below (by repeat (first | exact Below.refl _ _ | apply Bw.alloc | apply Bw.drewN | apply Bw.drew | (refine Bw.step ?_ (by assumption))))
    have hbox : w7.cell? ⟨w.heap.size, 0, none⟩ = some (.int .u64 p) := by
      have hbw : Below (w.heap.size + 1) (w.alloc (.cells #[.int .u64 p, .int .u64 q] 44)) w7 := by
        have := (show Below (w.alloc (.cells #[.int .u64 p, .int .u64 q] 44)).heap.size (w.alloc (.cells #[.int .u64 p, .int .u64 q] 44)) w7 from (by repeat (first | exact Below.refl _ _ | apply Bw.alloc | apply Bw.drewN | apply Bw.drew | (refine Bw.step ?_ (by assumption)))))
        simpa using this
      rw [hbw.cell (p := ⟨w.heap.size, 0, none⟩) (by simp), World.cell?_alloc_at _ _ _ _ rfl]
      rfl
    have hbox1 : w7.cell? ⟨w.heap.size, 1, none⟩ = some (.int .u64 q) := by
      have hbw : Below (w.heap.size + 1) (w.alloc (.cells #[.int .u64 p, .int .u64 q] 44)) w7 := by
        have := (show Below (w.alloc (.cells #[.int .u64 p, .int .u64 q] 44)).heap.size (w.alloc (.cells #[.int .u64 p, .int .u64 q] 44)) w7 from (by repeat (first | exact Below.refl _ _ | apply Bw.alloc | apply Bw.drewN | apply Bw.drew | (refine Bw.step ?_ (by assumption)))))
        simpa using this
      rw [hbw.cell (p := ⟨w.heap.size, 1, none⟩) (by simp), World.cell?_alloc_at _ _ _ _ rfl]
      rfl
    have hbw7 : Below w.heap.size w w7 := (by repeat (first | exact Below.refl _ _ | apply Bw.alloc | apply Bw.drewN | apply Bw.drew | (refine Bw.step ?_ (by assumption))))
    have hlt7 : w.heap.size < w7.heap.size := World.block_lt_of_cell? w7 ⟨w.heap.size, 0, none⟩ hbox
    have HM8 := Lib.hid hm8.rd
    clear hm8 hm3 hm4 hb2 hb3 hb6 hb7
    go_loop [9] (fun v => ∃ i : Nat, i ≤ n + m ∧ v = .int .i64 i) (fun v => n + m - (intOf v).toNat)
    case atStart => exact ⟨0, Nat.zero_le _, rfl⟩
    case round =>
      obtain ⟨i, hi, rfl⟩ := hrel
      by_cases hlt : i < n + m
      · obtain ⟨g, o, rfl, hcell⟩ := HM8.out.at_ 0 (by omega)
        obtain ⟨b1, o1, rfl, hcell2⟩ := hx7.at_ i hlt
        have hpart := HM8.out.part (8 * i) 8 (by omega)
        rw [ofL_part _ i (by rw [List.length_append, HL.out, HM.out]; exact hlt)] at hpart
        have h255 := bytesOk_gt HXY.out (j := i) (by rw [List.length_append, HL.out, HM.out]; exact hlt)
        obtain ⟨x, hxx⟩ : ∃ x : Nat, gt (xs ++ ys) i = x := ⟨(gt (xs ++ ys) i).toNat, by omega⟩
        rw [hxx] at hcell2 hpart h255
        rw [Int.toNat_natCast] at hpart
        have HPT := Lib.hid hpart
        have hv : numV (putL x 8) = x := by rw [numV_putL _ _ (by omega)]; exact Nat.mod_eq_of_lt (by omega)
        have HV := Lib.hid hv
        have HO := Lib.hid (numOk_putL x 8 (by omega))
        clear hpart hv hcell hxx
        go_wp2_with (go_at_call 29; refine (num_calls _ _ _ (putL x 8) _ HPT.out (by omega) (by omega)).mono ?_; rintro e w' ⟨rfl, rfl⟩; rewrite [HV.out, HO.out])
        go_round
        case rel => exact ⟨i + 1, by omega, by go_num⟩
        case measure => simp [intOf]; omega
      · clear hx7
        obtain ⟨l, hl⟩ : ∃ l : Nat, q % 64 = l := ⟨_, rfl⟩
        have hl1 : (q : Int) % 64 = (l : Int) := by omega
        have hl2 : (q : Int).tmod 64 = (l : Int) := by rw [Int.tmod_eq_emod_of_nonneg (by omega)]; exact hl1
        have hl64 : l < 64 := by omega
        clear hl
        have hsh : (p : Int) / 2 ^ l = ((shr p l : Nat) : Int) := ediv_shr p l
        have S2 := Lib.hid (same_put p l hl64)
        go_wp2_with fail
        clear hl1 hl2
        have hs0 := Nat.lt_of_le_of_lt (shr_le p l) HP.out
        have HS0 := Lib.hid hs0
        clear hs0
        have hw64 : IntKind.i64.wrap (64 - (l : Int)) = 64 - (l : Int) := IntWalk.i64_in _ (by omega)
        have hk1 : many (64 - (l : Int)) ≤ 60000 := by have := many_le (64 - (l : Int)); omega
        have h00 : (0 : Nat) ≤ 60000 := by omega
        have hkeep : ∀ w8, Below w7.heap.size w7 w8 → w8.cell? ⟨w.heap.size, 0, none⟩ = some (.int .u64 p) := fun w8 h => (h.cell (p := ⟨w.heap.size, 0, none⟩) hlt7).trans hbox
        have HKP := Lib.hid hkeep
        clear hkeep
        go_region_held3 (fun w' => w'.cell? ⟨w.heap.size, 0, none⟩ = some (.int .u64 p)) (first | assumption | exact HKP.out _ (by repeat (first | exact Below.refl _ _ | apply Bw.alloc | apply Bw.drewN | apply Bw.drew | (refine Bw.step ?_ (by assumption)))))
          (first
            | (go_at_call 31; (with_reducible refine (put2_calls none 0 0 [] (shr p l) (64 - (l : Int)) _ Rd.nil (Nat.le_refl _) h00 HS0.out).mono ?_); rintro e w8 ⟨A8, rfl, hm8, hb8⟩; have hr8 : Rd w8 .u8 A8 (many (64 - (l : Int))) (putA [] (shr p l) (64 - (l : Int))) := (by have := hm8.rd; rwa [Nat.zero_add] at this))
            | (go_at_call 31; (with_reducible refine (put2_calls A8 _ _ (putA [] (shr p l) (64 - (l : Int))) p (l : Int) _ hr8 (Nat.le_refl _) hk1 HP.out).mono ?_); rintro e w9 ⟨A9, rfl, hm9, hb9⟩))
        have hbox9 : w9.cell? ⟨w.heap.size, 0, none⟩ = some (.int .u64 p) := HKP.out _ (by repeat (first | exact Below.refl _ _ | apply Bw.alloc | apply Bw.drewN | apply Bw.drew | (refine Bw.step ?_ (by assumption))))
        go_wp2_with fail
        refine (put2_calls none 0 0 [] p 64 _ Rd.nil (Nat.le_refl _) h00 HP.out).mono ?_; rintro e w10 ⟨A10, rfl, hm10, hb10⟩
        go_wp2_with fail
        refine (samesyms_calls _ _ _ _ _ _ (putA (putA [] (shr p l) (64 - (l : Int))) p (l : Int)) (putA [] p 64) _ (hm9.rd.below (by repeat (first | exact Below.refl _ _ | apply Bw.alloc | apply Bw.drewN | apply Bw.drew | (refine Bw.step ?_ (by assumption))))) hm10.rd (Nat.le_refl _) (Nat.le_refl _) (by have := many_le (64 - (l : Int)); have := many_le (l : Int); omega)).mono ?_; rintro e w' ⟨rfl, q2, rfl⟩; rewrite [S2.out]
        go_wp2_with fail
        refine (lives01 _).mono ?_; rintro e w11 ⟨rfl, hb11⟩
        go_wp2
        go_ret
        exact ⟨rfl, (by repeat (first | exact Below.refl _ _ | apply Bw.alloc | apply Bw.drewN | apply Bw.drew | (refine Bw.step ?_ (by assumption))))⟩
end Go.Proofs.Ytnmhhjgiakijgaa
