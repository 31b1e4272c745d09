/- The reference's sum: its contract. -/
import Derived.Test.YtnmhhjgiakijgaaA21
namespace Go.Proofs.Ytnmhhjgiakijgaa
open Go.RowKit
set_option linter.unusedVariables false

theorem info4 : (Try.prog.info? 4).map (fun i => (i.zero, i.size, i.bytes)) = some (some (.bool false), 1, 1) := by kernel_rfl

theorem divAt_skip (bs : List Int) (i j : Nat) (h : divAt bs i i = false) : divAt bs (i + 1) j = divAt bs i j := by
  show (if divAt bs i i = true then _ else divAt bs i j) = _
  rw [h, if_neg (by decide)]
theorem one_bool (v : Bool) : ∀ u ∈ [Value.bool v], u.oneCell' = true := by
  intro u hu
  rw [List.mem_singleton.1 hu]
  rfl
theorem bits_and1_u8 (M : Nat) (hM : M < 256) : bits .and .u8 (M : Int) 1 = ((M % 2 : Nat) : Int) := by
  have h : ∀ m : Fin 256, bits .and .u8 ((m : Nat) : Int) 1 = (((m : Nat) % 2 : Nat) : Int) := by decide +kernel
  exact h ⟨M, hM⟩
theorem bit_u8 (x k : Nat) (hx : x ≤ 255) : (bits .and .u8 ((x : Int) / 2 ^ k) 1 == 1) = x.testBit k := by
  rw [ediv_shr, bits_and1_u8 _ (Nat.lt_of_le_of_lt (shr_le _ _) (by omega)), Nat.testBit_eq_decide_div_mod_eq]
  unfold shr
  by_cases h : x / 2 ^ k % 2 = 1
  · rw [h, decide_eq_true rfl]; rfl
  · rw [show x / 2 ^ k % 2 = 0 from by omega]; rfl

set_option maxHeartbeats 6400000 in
set_option maxRecDepth 20000 in
theorem refsum_calls (A : Option Addr) (n c : Nat) (bs : List Int) (w : World) (hr : Rd w .u8 A n bs) (hc : n ≤ c) (hn : n ≤ 5000) (hb : bytesOk bs) :
    Calls Try.prog 163 #[.slice A n c] w fun e w' => e = .returned (.int .u32 (sumL bs)) ∧ Below w.heap.size w w' := by
  have HR := Lib.hid hr
  have HL := Lib.hid hr.len
  have HB := Lib.hid hb
  clear hr hb
  go_enter Try.func163, Try.ntmps163
  go_wp2
  have hT : Rd (w.alloc (.cells (nums .i64 taps).toArray 267)) .i64 (some ⟨w.heap.size, 0, none⟩) 14 taps := rd_cells rfl taps
  have hW : Below w.heap.size w (w.alloc (.cells (nums .i64 taps).toArray 267)) := (by repeat (first | exact Below.refl _ _ | apply Bw.alloc | apply Bw.drewN | apply Bw.drew | (refine Bw.step ?_ (by assumption))))
  have hlt : w.heap.size < (w.alloc (.cells (nums .i64 taps).toArray 267)).heap.size := by simp
  simp only [nums, taps, List.map_cons, List.map_nil] at hT hW hlt
  generalize hWe : (w.alloc (.cells #[Value.int IntKind.i64 26, Value.int IntKind.i64 23, Value.int IntKind.i64 22, Value.int IntKind.i64 16, Value.int IntKind.i64 12, Value.int IntKind.i64 11, Value.int IntKind.i64 10, Value.int IntKind.i64 8, Value.int IntKind.i64 7, Value.int IntKind.i64 5, Value.int IntKind.i64 4, Value.int IntKind.i64 2, Value.int IntKind.i64 1, Value.int IntKind.i64 0] 267)) = W at *
  clear hWe
  obtain ⟨g0, hg0⟩ : ∃ g0, g0 = w.heap.size := ⟨_, rfl⟩
  rewrite [← hg0]
  rw [← hg0] at hT hlt
  have HTP : Hid (∀ w', Below W.heap.size W w' → ∀ k t : Nat, k < 14 → gt taps k = t → w'.cell? ⟨g0, k, none⟩ = some (.int .i64 t)) := fun w' hb k t hk ht => by
    obtain ⟨b, o, e1, hc⟩ := hT.at_ k hk
    injection e1 with e1
    injection e1 with e1 e2
    subst e1
    subst e2
    rw [Nat.zero_add] at hc
    rw [hb.cell (p := ⟨g0, k, none⟩) hlt, hc]
    show some (Value.int .i64 (gt taps k)) = _
    rw [ht]
  have HRW := Lib.hid (HR.out.below hW)
  have HW := Lib.hid hW
  clear hT hlt hW hg0
  go_loopw [4, 5] (fun u v w' => ∃ (i l : Nat) (A' : Option Addr) (c' : Nat), i ≤ n ∧ v = .int .i64 i ∧ u = .slice A' l c' ∧ l ≤ c' ∧ l ≤ 40000 ∧ Hid (l = 8 * i) ∧ Mn w' W.heap.size 4 1 (.slice A' l c') l (FB (rawBit bs) l) ∧ Below W.heap.size W w') (fun _ v _ => n - (intOf v).toNat)
  case atStart => exact ⟨0, 0, none, 0, Nat.zero_le _, rfl, rfl, Nat.le_refl _, Nat.zero_le _, Lib.hid rfl, Mn.nil _ _ _ _, Below.refl _ _⟩
  case round =>
    obtain ⟨i, l, A1, c1, hi, rfl, rfl, hlc, hl4, HI, hm1, hb1⟩ := hrel
    by_cases hlt : i < n
    · have hbb := bytesOk_gt HB.out (j := i) (by rw [HL.out]; exact hlt)
      obtain ⟨x, hx⟩ : ∃ x : Nat, gt bs i = x := ⟨(gt bs i).toNat, by omega⟩
      have hx255 : x ≤ 255 := by omega
      have HX := Lib.hid hx
      clear hx hbb
      go_wp2
      go_loopw [4, 6] (fun u v w' => ∃ (j l : Nat) (A' : Option Addr) (c' : Nat), j ≤ 8 ∧ v = .int .i64 ((j : Int) - 1) ∧ u = .slice A' l c' ∧ l ≤ c' ∧ l ≤ 40000 ∧ Hid (l + j = 8 * i + 8) ∧ Mn w' W.heap.size 4 1 (.slice A' l c') l (FB (rawBit bs) l) ∧ Below W.heap.size W w') (fun _ v _ => (intOf v + 1).toNat)
      case atStart => exact ⟨8, l, A1, c1, Nat.le_refl _, rfl, rfl, hlc, hl4, Lib.hid (by have := HI.out; omega), hm1, hb1⟩
      case round =>
        clear hm1 hb1 HI hl4 hlc
        obtain ⟨j, l, A2, c2, hj, rfl, rfl, hlc, hl4, HI, hm2, hb2⟩ := hrel
        by_cases hj0 : j = 0
        · subst hj0
          go_wp2
          go_roundw
          case rel => exact ⟨i + 1, l, A2, c2, by omega, by go_num, rfl, hlc, hl4, Lib.hid (by have := HI.out; omega), hm2, hb2⟩
          case measure => simp [intOf]; omega
        · obtain ⟨k, rfl⟩ : ∃ k, j = k + 1 := ⟨j - 1, by omega⟩
          have eL : (((k + 1 : Nat) : Int) - 1) = (k : Int) := by omega
          rw [eL]
          clear eL hj0
          obtain ⟨b2, o2, rfl, hcell⟩ := (HRW.out.below hb2).at_ i hlt
          rw [HX.out] at hcell
          have hl1 : l + 1 ≤ 40000 := by have := HI.out; omega
          have hraw : rawBit bs l = x.testBit k := by
            have := HI.out
            unfold rawBit byteBits
            rw [if_pos (by rw [HL.out]; omega), show l / 8 = i from by omega, HX.out, show 7 - l % 8 = k from by omega]
            rfl
          have hbit : (bits .and .u8 ((x : Int) / 2 ^ k) 1 == 1) = x.testBit k := bit_u8 x k hx255
          have HRAW := Lib.hid hraw
          generalize x.testBit k = v at *
          clear hraw
          go_wp2_with (at_builtin; refine wpList_append_mn _ rfl _ _ _ rfl W.heap.size 4 _ 1 1 Try.underlying268 info4 rfl (by omega) (.slice A2 l c2) l (FB (rawBit bs) l) rfl (hm2.alloc _) _ 1 1 [.bool v] rfl (rv_row rfl) (one_bool v) (by omega) (by omega) (by simp; have := hb2.size; omega) ?_; intro A3 c3 w3 hc3 hm3 hg3 hat3; have hb3 : Below W.heap.size W w3 := (hb2.alloc hb2.size _).grown hg3 (by simp; have := hb2.size; omega) (fun q hq => (hm2.block hq).1); clear hg3 hat3 hm2 hb2)
          go_roundw
          case rel => exact ⟨k, l + 1, A3, c3, by omega, by first | rfl | (congr 1; omega), rfl, hc3, hl1, Lib.hid (by have := HI.out; omega), by rw [← FB_snoc, HRAW.out]; exact hm3, hb3⟩
          case measure => simp [intOf]; try omega
    · have hin : n = i := by omega
      subst hin
      have hl8 : l = 8 * n := HI.out
      subst hl8
      clear HI hlt hl4
      go_wp2
      -- 32 bits of nothing behind
      go_loopw [4, 7] (fun u v w' => ∃ (i l : Nat) (A' : Option Addr) (c' : Nat), i ≤ 32 ∧ v = .int .i64 i ∧ u = .slice A' l c' ∧ l ≤ c' ∧ l ≤ 41000 ∧ Hid (l = 8 * n + i) ∧ Mn w' W.heap.size 4 1 (.slice A' l c') l (FB (rawBit bs) l) ∧ Below W.heap.size W w') (fun _ v _ => 32 - (intOf v).toNat)
      case atStart => exact ⟨0, 8 * n, A1, c1, Nat.zero_le _, rfl, rfl, hlc, by omega, Lib.hid rfl, hm1, hb1⟩
      case round =>
        clear hm1 hb1 hlc hi
        obtain ⟨i, l, A2, c2, hi, rfl, rfl, hlc, hl4, HL8, hm2, hb2⟩ := hrel
        by_cases hlt : i < 32
        · have hl1 : l + 1 ≤ 60000 := by omega
          have HRAW := Lib.hid (show rawBit bs l = false from if_neg (by rw [HL.out]; have := HL8.out; omega))
          go_wp2_with (at_builtin; refine wpList_append_mn _ rfl _ _ _ rfl W.heap.size 4 _ 1 1 Try.underlying268 info4 rfl (by omega) (.slice A2 l c2) l (FB (rawBit bs) l) rfl (hm2.alloc _) _ 1 1 [.bool false] rfl (rv_row rfl) (one_bool false) (by omega) (by omega) (by simp; have := hb2.size; omega) ?_; intro A3 c3 w3 hc3 hm3 hg3 hat3; have hb3 : Below W.heap.size W w3 := (hb2.alloc hb2.size _).grown hg3 (by simp; have := hb2.size; omega) (fun q hq => (hm2.block hq).1); clear hg3 hat3 hm2 hb2)
          go_roundw
          case rel => exact ⟨i + 1, l + 1, A3, c3, by omega, by go_num, rfl, hc3, by have := HL8.out; omega, Lib.hid (by have := HL8.out; omega), by rw [← FB_snoc, HRAW.out]; exact hm3, hb3⟩
          case measure => simp [intOf]; omega
        · have hi32 : i = 32 := by omega
          subst hi32
          obtain ⟨g, rfl⟩ := hm2.ex (by have := HL8.out; omega)
          have hgW := (hm2.block (g := g) rfl).1
          have HG := Lib.hid hgW
          clear hgW hlt hi
          go_wp2
          -- the first 32 turned
          go_loopw [8] (fun v w' => ∃ i : Nat, i ≤ 32 ∧ v = .int .i64 i ∧ Mn w' W.heap.size 4 1 (.slice (some ⟨g, 0, none⟩) l c2) l (FB (fun j => rawBit bs j ^^ decide (j < i)) l) ∧ Below W.heap.size W w') (fun v _ => 32 - (intOf v).toNat)
          case atStart => exact ⟨0, Nat.zero_le _, rfl, by rw [FB_congr (g := rawBit bs) (fun j _ => by simp)]; exact hm2, hb2⟩
          case round =>
            clear hm2 hb2
            obtain ⟨i, hi, rfl, hm3, hb3⟩ := hrel
            by_cases hlt : i < 32
            · have hil : i < l := by have := HL8.out; omega
              obtain ⟨hc, hf⟩ := hm3.cellV i _ (FB_get _ l i hil)
              have HM := Lib.hid (hm3.setV i (.bool (!(rawBit bs i ^^ decide (i < i)))) (FB_set _ (fun j => rawBit bs j ^^ decide (j < i + 1)) l i _ hil (fun q hq => by
                by_cases e : q = i
                · subst e
                  rw [if_pos rfl, decide_eq_true (show q < q + 1 by omega), decide_eq_false (show ¬ q < q by omega)]
                  simp
                · rw [if_neg e]
                  congr 1
                  exact decide_eq_decide.2 (by omega))))
              have HB3 := Lib.hid (hb3.setCell (p := ⟨g, i, none⟩) HG.out (.bool (!(rawBit bs i ^^ decide (i < i)))))
              generalize (rawBit bs i ^^ decide (i < i)) = b at *
              clear hm3 hb3
              go_wp2
              go_roundw
              case rel => exact ⟨i + 1, by omega, by go_num, HM.out, HB3.out⟩
              case measure => simp [intOf]; omega
            · have hi32 : i = 32 := by omega
              subst hi32
              have hm3' : Mn _ W.heap.size 4 1 (.slice (some ⟨g, 0, none⟩) l c2) l (FB (divAt bs 0) l) := hm3
              clear hm3 hlt hi
              go_wp2
              -- the division
              go_loopw [9] (fun v w' => ∃ i : Nat, i + 32 ≤ l ∧ v = .int .i64 i ∧ Mn w' W.heap.size 4 1 (.slice (some ⟨g, 0, none⟩) l c2) l (FB (divAt bs i) l) ∧ Below W.heap.size W w') (fun v _ => l - (intOf v).toNat)
              case atStart => exact ⟨0, by have := HL8.out; omega, rfl, hm3', hb3⟩
              case round =>
                clear hm3' hb3
                obtain ⟨i, hi, rfl, hm3, hb3⟩ := hrel
                by_cases hlt : i + 32 < l
                · have hil : i < l := by omega
                  obtain ⟨hc, hf⟩ := hm3.cellV i _ (FB_get _ l i hil)
                  cases hd : divAt bs i i with
                  | false =>
                    rw [hd] at hc
                    have HM := Lib.hid hm3
                    have HB3 := Lib.hid hb3
                    have HD := Lib.hid hd
                    clear hm3 hb3 hd
                    go_wp2
                    go_roundw
                    case rel => exact ⟨i + 1, by omega, by go_num, by rw [FB_congr (g := divAt bs i) (fun j _ => divAt_skip bs i j HD.out)]; exact HM.out, HB3.out⟩
                    case measure => simp [intOf]; omega
                  | true =>
                    rw [hd] at hc
                    have HD := Lib.hid hd
                    have HM := Lib.hid (hm3.setV i (.bool false) (FB_set _ (tapAt bs i 0) l i _ hil (fun q hq => by
                      unfold tapAt
                      simp)))
                    have HB3 := Lib.hid (hb3.setCell (p := ⟨g, i, none⟩) HG.out (.bool false))
                    clear hm3 hb3 hd
                    go_wp2
                    go_loopw [10] (fun v w' => ∃ k : Nat, k ≤ 14 ∧ v = .int .i64 k ∧ Mn w' W.heap.size 4 1 (.slice (some ⟨g, 0, none⟩) l c2) l (FB (tapAt bs i k) l) ∧ Below W.heap.size W w') (fun v _ => 14 - (intOf v).toNat)
                    case atStart => exact ⟨0, Nat.zero_le _, rfl, HM.out, HB3.out⟩
                    case round =>
                      clear HM HB3 hc hf
                      obtain ⟨k, hk, rfl, hm4, hb4⟩ := hrel
                      by_cases hk14 : k < 14
                      · obtain ⟨t, ht26, htg, htk, htn⟩ := taps_at k hk14
                        obtain ⟨p, hp⟩ : ∃ p : Nat, p = i + 32 - t := ⟨_, rfl⟩
                        have hpi : (i : Int) + 32 - (t : Int) = (p : Int) := by omega
                        have hpl : p < l := by omega
                        have hct := HTP.out _ hb4 k t hk14 htg
                        obtain ⟨hc, hf⟩ := hm4.cellV p _ (FB_get _ l p hpl)
                        have HM := Lib.hid (hm4.setV p (.bool (!(tapAt bs i k p))) (FB_set _ (tapAt bs i (k + 1)) l p _ hpl (fun q hq => by
                          rw [tapAt_step bs i k t ht26 htk htn q, hp])))
                        have HB4 := Lib.hid (hb4.setCell (p := ⟨g, p, none⟩) HG.out (.bool (!(tapAt bs i k p))))
                        generalize tapAt bs i k p = b at *
                        clear hm4 hb4 hp htg htk htn
                        go_wp2
                        go_roundw
                        case rel => exact ⟨k + 1, by omega, by go_num, HM.out, HB4.out⟩
                        case measure => simp [intOf]; omega
                      · have hk14' : k = 14 := by omega
                        subst hk14'
                        have HM4 := Lib.hid (show Mn _ W.heap.size 4 1 (.slice (some ⟨g, 0, none⟩) l c2) l (FB (divAt bs (i + 1)) l) from by rw [← FB_congr (f := tapAt bs i 14) (fun j _ => tapAt_done bs i j HD.out)]; exact hm4)
                        have HB4 := Lib.hid hb4
                        clear hm4 hb4
                        go_wp2
                        go_roundw
                        case rel => exact ⟨i + 1, by omega, by go_num, HM4.out, HB4.out⟩
                        case measure => simp [intOf]; omega
                · have hi8 : i = 8 * n := by have := HL8.out; omega
                  obtain ⟨q, hq⟩ : ∃ q, q = 8 * n := ⟨_, rfl⟩
                  have hlq : (l : Int) - 32 = (q : Int) := by have := HL8.out; omega
                  have hq8 : q + 32 = l := by have := HL8.out; omega
                  rw [hi8] at hm3
                  have HQ := Lib.hid hq
                  have HQ8 := Lib.hid hq8
                  have hS := sumL_lt bs HB.out
                  obtain ⟨S, hSS⟩ : ∃ S, S = sumL bs := ⟨_, rfl⟩
                  rw [← hSS] at hS
                  have HSS := Lib.hid hSS
                  have HM3 := Lib.hid hm3
                  have HB3 := Lib.hid hb3
                  have HS := Lib.hid hS
                  clear hq hq8 hS hSS hm3 hb3 hi8
                  go_wp2
                  -- the number of the last 32
                  go_loopw [12, 13] (fun u v w' => ∃ (p j x : Nat), p ≤ 32 ∧ v = .int .i64 j ∧ u = .int .u32 x ∧ x < 4294967296 ∧ j ≤ 41000 ∧ Hid (j = q + p) ∧ Hid (x = S / 2 ^ (32 - p)) ∧ Mn w' W.heap.size 4 1 (.slice (some ⟨g, 0, none⟩) l c2) l (FB (divAt bs (8 * n)) l) ∧ Below W.heap.size W w') (fun _ v _ => l - (intOf v).toNat)
                  case atStart => exact ⟨0, q, 0, Nat.zero_le _, rfl, rfl, by decide, by have := HQ8.out; omega, Lib.hid rfl, Lib.hid (by have := HS.out; rw [Nat.sub_zero, Nat.div_eq_of_lt (by simpa using this)]), HM3.out, HB3.out⟩
                  case round =>
                    clear HM3 HB3 hlt hlq
                    obtain ⟨p, j, x, hp, rfl, rfl, hx32, hj4, HJ, HX, hm5, hb5⟩ := hrel
                    by_cases hp32 : p < 32
                    · have hjl : j < l := by have := HJ.out; have := HQ8.out; omega
                      obtain ⟨hc, hf⟩ := hm5.cellV j _ (FB_get _ l j hjl)
                      have hds := divAt_sum bs HB.out p hp32
                      rw [HL.out, ← HQ.out, ← HSS.out] at hds
                      rw [← HQ.out, HJ.out] at hc
                      rw [← HJ.out] at hc
                      have hts := top_step S p hp32
                      rw [← HX.out] at hts
                      have hxs : x < 2147483648 := by
                        have h1 : S / 2 ^ (31 - p) < 4294967296 := Nat.lt_of_le_of_lt (Nat.div_le_self _ _) HS.out
                        omega
                      rw [← HJ.out] at hds
                      obtain ⟨y, hy⟩ : ∃ y, y = 2 * x := ⟨_, rfl⟩
                      have hy1 : (2 * (x : Int)) % 4294967296 = (y : Int) := by omega
                      have hy2 : ((x : Int) * 2) % 4294967296 = (y : Int) := by omega
                      have hz1 : ((y : Int) + 1) % 4294967296 = ((y + 1 : Nat) : Int) := by omega
                      have hy32 : y + 1 < 4294967296 := by omega
                      have HY := Lib.hid hy
                      have HDS := Lib.hid hds
                      have HTS := Lib.hid hts
                      have HM := Lib.hid hm5
                      have HB5 := Lib.hid hb5
                      clear hy hds hts hm5 hb5 hxs
                      cases hd : divAt bs q j with
                      | false =>
                        rw [hd] at hc
                        have hx' := Lib.hid (show y + 1 = S / 2 ^ (31 - p) by
                          have h1 := HTS.out
                          have h2 := HDS.out
                          rw [hd] at h2
                          rw [← h2] at h1
                          rw [h1, HY.out]
                          rfl)
                        clear hd
                        go_wp2
                        go_roundw
                        case rel => exact ⟨p + 1, j + 1, y + 1, by omega, by go_num, by first | rfl | go_num, hy32, by omega, Lib.hid (by have := HJ.out; omega), Lib.hid (by rw [show 32 - (p + 1) = 31 - p from by omega]; exact hx'.out), HM.out, HB5.out⟩
                        case measure => simp [intOf]; omega
                      | true =>
                        rw [hd] at hc
                        have hx' := Lib.hid (show y = S / 2 ^ (31 - p) by
                          have h1 := HTS.out
                          have h2 := HDS.out
                          rw [hd] at h2
                          rw [← h2] at h1
                          rw [h1, HY.out]
                          rfl)
                        clear hd
                        go_wp2
                        go_roundw
                        case rel => exact ⟨p + 1, j + 1, y, by omega, by go_num, by first | rfl | go_num, by omega, by omega, Lib.hid (by have := HJ.out; omega), Lib.hid (by rw [show 32 - (p + 1) = 31 - p from by omega]; exact hx'.out), HM.out, HB5.out⟩
                        case measure => simp [intOf]; omega
                    · have hp32' : p = 32 := by omega
                      subst hp32'
                      have hjl : ¬ (j < l) := by have := HJ.out; have := HQ8.out; omega
                      have hxS : x = sumL bs := by rw [HX.out, ← HSS.out]; simp
                      have HXS := Lib.hid hxS
                      have HBW := Lib.hid (HW.out.trans (hb5.mono HW.out.size))
                      clear hxS hm5 hb5 hp32 hp
                      go_wp2
                      go_ret
                      exact ⟨by rw [HXS.out]; rfl, HBW.out⟩
end Go.Proofs.Ytnmhhjgiakijgaa
