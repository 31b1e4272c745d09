/- Catches: the law's run of a catch. -/
import Derived.Test.YtnmhhjgiakijgaaD8
import Derived.Test.YtnmhhjgiakijgaaM13
namespace Go.Proofs.Ytnmhhjgiakijgaa
open Go.RowKit
set_option linter.unusedVariables false
set_option linter.unusedSimpArgs false

theorem f5_nil : f5 [] = #[.int .i64 0, .int .u8 0, .int .u8 0, .int .u32 0, .int .u32 0] := rfl
theorem run_max {P : Program} (t : TypeId) (w : World) (ats : Array TypeId) (n m : Nat) : (Builtin.max_ ats t #[.int .i64 n, .int .i64 m]).run P w = .ok (.int .i64 ((max n m : Nat) : Int)) w := by
  have h : (Builtin.max_ ats t #[.int .i64 n, .int .i64 m]).run P w = .ok (.int .i64 (if (n : Int) < (m : Int) then (m : Int) else (n : Int))) w := rfl
  rw [h]
  congr 2
  split <;> omega
/-- a catch's answer to High, in any state that says the truth -/
theorem hi_calls (B g : Nat) (r : Option Nat) (s : Ct) (w : World) (h : CS w B g r s) (hlen : s.bd.length ≤ 112) (ht : s.hi = true → isF s = true) :
    Calls Try.prog 83 #[.pointer (some ⟨g, 0, none⟩)] w fun e w' => e = .returned (.tuple #[.agg (f5 (if s.hi = true then byV s.bd else [])), .bool s.hi]) ∧ Below w.heap.size w w' := by
  cases hh : s.hi with
  | true =>
    have h1 := high_calls B g r s w h (by omega) hh
    rw [ht hh] at h1
    rw [if_pos rfl]
    exact h1
  | false =>
    have h1 := high_not B g r s w h hh
    rw [if_neg (by simp)]
    exact h1
theorem Inv.isF {o : Int} {x y : Nat → Nat} {n : Nat} {s : Ct} (h : Inv o x y n s) (hh : s.hi = true) : isF s = true := by
  cases hc : cuF x y n with
  | true => rw [h.dead hc] at hh; cases hh
  | false =>
    rw [h.hi hc, Bool.and_eq_true, decide_eq_true_eq] at hh
    have h1 := (hiF_true hh.2).2.1
    have hb := h.bd hc
    rw [show min n 112 = 112 by omega] at hb
    unfold Go.Proofs.Ytnmhhjgiakijgaa.isF
    rw [hb, h.ow]
    exact h1
theorem hiN_calls (o : Int) (X Y : Nat → Nat) (n B g : Nat) (r : Option Nat) (w : World) (h : CS w B g r (stN o X Y n)) :
    Calls Try.prog 83 #[.pointer (some ⟨g, 0, none⟩)] w fun e w' => e = .returned (.tuple #[.agg (f5 (if (stN o X Y n).hi = true then byV (stN o X Y n).bd else [])), .bool (stN o X Y n).hi]) ∧ Below w.heap.size w w' :=
  hi_calls B g r _ w h (stN_inv o X Y n).len (stN_inv o X Y n).isF
theorem stepN_calls (o : Int) (X Y : Nat → Nat) (n B g : Nat) (r : Option Nat) (w : World) (h : CS w B g r (stN o X Y n)) :
    Calls Try.prog 80 #[.pointer (some ⟨g, 0, none⟩), .int .u8 (X n), .int .u8 (Y n)] w fun e w' => e = .returned (.int .u8 (outF o (fun i => knw (X i)) (fun i => knw (Y i)) n)) ∧ ∃ r', CS w' B g r' (stN o X Y (n + 1)) ∧ Keep w w' g r r' ∧ Below B w w' := by
  have h1 := step_calls B g r (stN o X Y n) (X n) (Y n) w h (stN_gd o X Y n)
  unfold StepPost at h1
  rw [stN_out] at h1
  exact h1
theorem atS_nat {xs : List Int} (hb : bytesOk xs) (i : Nat) : atS xs i = (atN xs i : Int) := by
  unfold atN
  have : 0 ≤ atS xs i := by
    unfold atS
    split
    · rename_i h; exact (bytesOk_gt hb h).1
    · exact Int.le_refl 0
  omega
theorem atN_calls (A : Option Addr) (n c : Nat) (xs : List Int) (i : Nat) (w : World) (hr : Rd w .u8 A n xs) (hc : n ≤ c) (hn : n ≤ 60000) (hi : i ≤ 60000) (hb : bytesOk xs) :
    Calls Try.prog 79 #[.slice A n c, .int .i64 i] w fun e w' => e = .returned (.int .u8 (atN xs i)) ∧ w = w' := by
  have h := at79_calls A n c xs i w hr hc hn hi
  rw [atS_nat hb] at h
  exact h
/-- the bytes of the frame of which a run is high -/
def hB (o : Int) (xs ys : List Int) : List Int := if hiL o xs ys = true then byV (bdRun o xs ys) else []
theorem outsL_take (o : Int) (xs ys : List Int) (k : Nat) (h : k < max xs.length ys.length) : (outsL o xs ys).take (k + 1) = (outsL o xs ys).take k ++ [outF o (fun i => knw (atN xs i)) (fun i => knw (atN ys i)) k] := by
  rw [take_snoc _ _ (by rw [outsL_length]; exact h), outsL_gt _ _ _ _ h]
  rfl
theorem outF_le (o : Int) (x y : Nat → Nat) (n : Nat) : 0 ≤ outF o x y n := by
  unfold outF
  have hs : ∀ b : Bool, 0 ≤ sy b := fun b => by cases b <;> decide
  split
  · omega
  · split
    · omega
    · split
      · exact hs _
      · split
        · exact hs _
        · omega

set_option maxHeartbeats 6400000 in
set_option maxRecDepth 20000 in
theorem run75_calls (o : Int) (A D : Option Addr) (n c m d : Nat) (xs ys : List Int) (w : World) (h0 : 0 ≤ o) (h8 : o < 8) (hr : Rd w .u8 A n xs) (hc : n ≤ c) (hn : n ≤ 300) (bx : bytesOk xs)
    (hs : Rd w .u8 D m ys) (hd : m ≤ d) (hm : m ≤ 300) (hby : bytesOk ys) :
    Calls Try.prog 75 #[.int .i64 o, .slice A n c, .slice D m d] w fun e w' => ∃ A' c', e = .returned (.tuple #[.slice A' (max n m) c', .agg (f5 (hB o xs ys)), .bool (hiL o xs ys)]) ∧ max n m ≤ c' ∧
      Mn w' w.heap.size 50 1 (.slice A' (max n m) c') (max n m) (nums .u8 (outsL o xs ys)) ∧ Below w.heap.size w w' := by
  obtain ⟨N, hN⟩ : ∃ N, max n m = N := ⟨_, rfl⟩
  have hmax := fun ats ty wx => run_max (P := Try.prog) ty wx ats n m
  rw [hN] at hmax ⊢
  have hxl := hr.len
  have hyl := hs.len
  have hNl : max xs.length ys.length = N := by rw [hxl, hyl]; exact hN
  have hN3 : N ≤ 300 := by omega
  have HAX : Hid (∀ (i : Nat) (w' : World), i ≤ 60000 → Below w.heap.size w w' → Calls Try.prog 79 #[.slice A n c, .int .i64 i] w' fun e w'' => e = .returned (.int .u8 (atN xs i)) ∧ w' = w'') := fun i w' hi hb => atN_calls A n c xs i w' (hr.below hb) hc (by omega) hi bx
  have HAY : Hid (∀ (i : Nat) (w' : World), i ≤ 60000 → Below w.heap.size w w' → Calls Try.prog 79 #[.slice D m d, .int .i64 i] w' fun e w'' => e = .returned (.int .u8 (atN ys i)) ∧ w' = w'') := fun i w' hi hb => atN_calls D m d ys i w' (hs.below hb) hd (by omega) hi hby
  have HOT := Lib.hid (fun (k : Nat) (hk : k < N) => outsL_take o xs ys k (by rw [hNl]; exact hk))
  have HOL := Lib.hid (show (outsL o xs ys).length = N by rw [outsL_length, hNl])
  have HNL := Lib.hid hNl
  obtain ⟨L, hL⟩ : ∃ L, hB o xs ys = L := ⟨_, rfl⟩
  obtain ⟨hi, hhi⟩ : ∃ hi, hiL o xs ys = hi := ⟨_, rfl⟩
  have HHI : Hid (∀ (B g : Nat) (r : Option Nat) (w : World), CS w B g r (stN o (atN xs) (atN ys) N) → Calls Try.prog 83 #[.pointer (some ⟨g, 0, none⟩)] w fun e w' => e = .returned (.tuple #[.agg (f5 L), .bool hi]) ∧ Below w.heap.size w w') := fun B g r w h => by
    have h1 := hiN_calls o (atN xs) (atN ys) N B g r w h
    have e1 : hB o xs ys = (if (stN o (atN xs) (atN ys) N).hi = true then byV (stN o (atN xs) (atN ys) N).bd else []) := by unfold hB hiL bdRun; rw [hNl]
    have e2 : hiL o xs ys = (stN o (atN xs) (atN ys) N).hi := by unfold hiL; rw [hNl]
    rw [← e1, hL, ← e2, hhi] at h1
    exact h1
  rw [hL, hhi]
  obtain ⟨O, hO⟩ : ∃ O, fO L = O := ⟨_, rfl⟩
  obtain ⟨K, hK⟩ : ∃ K, fK L = K := ⟨_, rfl⟩
  obtain ⟨S, hS⟩ : ∃ S, fS L = S := ⟨_, rfl⟩
  obtain ⟨Q, hQ⟩ : ∃ Q, fQ L = Q := ⟨_, rfl⟩
  obtain ⟨Z, hZ⟩ : ∃ Z, fV L = Z := ⟨_, rfl⟩
  have hf5 : f5 L = #[.int .i64 O, .int .u8 K, .int .u8 S, .int .u32 Q, .int .u32 Z] := by unfold f5; rw [hO, hK, hS, hQ, hZ]
  rw [hf5]
  rw [hf5] at HHI
  clear hr hs hN hxl hyl hNl hL hhi hO hK hS hQ hZ hf5
  go_enter Try.func75, Try.ntmps75
  go_wp2_with fail
  refine (new77_calls o _ h0 h8).mono ?_; rintro e w1 ⟨rfl, hcs1, hb1⟩
  have HV : Below w.heap.size w (w.alloc (.cells #[.int .i64 0, .int .u8 0, .int .u8 0, .int .u32 0, .int .u32 0] 89)) := (by repeat (first | exact Below.refl _ _ | apply Bw.alloc | apply Bw.drewN | apply Bw.drew | (refine Bw.step ?_ (by assumption))))
  have HB1 := Lib.hid (show Blk (w.alloc (.cells #[.int .i64 0, .int .u8 0, .int .u8 0, .int .u32 0, .int .u32 0] 89)) w.heap.size #[.int .i64 0, .int .u8 0, .int .u8 0, .int .u32 0, .int .u32 0] 89 from Blk.new rfl)
  have hsz : (w.alloc (.cells #[.int .i64 0, .int .u8 0, .int .u8 0, .int .u32 0, .int .u32 0] 89)).heap.size = w.heap.size + 1 := by simp
  rw [hsz] at hcs1
  have HV := Lib.hid HV
  go_wp2_with fail
  generalize (w.alloc (.cells #[.int .i64 0, .int .u8 0, .int .u8 0, .int .u32 0, .int .u32 0] 89)) = V at *
  have HSZ := Lib.hid hsz
  have HCS1 := Lib.hid hcs1
  have HB0 := Lib.hid hb1
  clear hcs1 hb1 hsz
  go_loopw [11, 12] (fun v i wr => ∃ (k c' : Nat) (A' : Option Addr) (r : Option Nat), k ≤ N ∧ i = .int .i64 k ∧ v = .slice A' k c' ∧ k ≤ c' ∧ Hid (Mn wr (w.heap.size + 1) 50 1 (.slice A' k c') k (nums .u8 ((outsL o xs ys).take k))) ∧ Hid (CS wr (w.heap.size + 1) (w.heap.size + 1) r (stN o (atN xs) (atN ys) k)) ∧
      Hid ((Value.slice A' k c').ownBlock ≠ some (w.heap.size + 1) ∧ ∀ q, (Value.slice A' k c').ownBlock = some q → r ≠ some q) ∧ Hid (Below (w.heap.size + 1) V wr))
    (fun _ i _ => N - (intOf i).toNat)
  case atStart => exact ⟨0, 0, none, none, Nat.zero_le _, rfl, rfl, Nat.le_refl _, Mn.nil _ _ _ _, HCS1.out, ⟨by simp [Value.ownBlock], by simp [Value.ownBlock]⟩, by rw [← HSZ.out]; exact HB0.out⟩
  case round =>
    obtain ⟨k, c', A', r, hk, rfl, rfl, hkc, HM1, HCS, HAP, HB⟩ := hrel
    by_cases hlt : k < N
    · have HX := Lib.hid (HAX.out k _ (by omega) (Bw.step HV.out (HB.out.mono (by rw [HSZ.out]; exact Nat.le_refl _))))
      have HY := Lib.hid (HAY.out k _ (by omega) (Bw.step HV.out (HB.out.mono (by rw [HSZ.out]; exact Nat.le_refl _))))
      have HST := Lib.hid (stepN_calls o (atN xs) (atN ys) k _ _ _ _ HCS.out)
      have HT := Lib.hid (HOT.out k hlt)
      go_wp2_with fail
      refine HX.out.mono ?_; rintro e w' ⟨rfl, rfl⟩
      go_wp2_with fail
      refine HY.out.mono ?_; rintro e w' ⟨rfl, rfl⟩
      go_wp2_with fail
      refine HST.out.mono ?_; rintro e w2 ⟨rfl, r2, hcs2, hkp, hb2⟩
      have HM2 := Lib.hid (HM1.out.keep hkp HAP.out.1 HAP.out.2)
      have HAP2 := Lib.hid (show ∀ q, (Value.slice A' k c').ownBlock = some q → r2 ≠ some q from fun q hq => hkp.apart (HM1.out.block hq).2 (HAP.out.2 q hq))
      have HCS2 := Lib.hid hcs2
      have HB2 := Lib.hid (show Below (w.heap.size + 1) V w2 from HB.out.trans hb2)
      clear hcs2 hkp hb2
      go_wp2_with (at_builtin; refine wpList_append_mn _ rfl _ _ _ rfl (w.heap.size + 1) 50 _ 1 1 Try.underlying22 info50 rfl (by omega) (.slice A' k c') k (nums .u8 ((outsL o xs ys).take k)) rfl (HM2.out.alloc _) _ 1 1 (nums .u8 [outF o (fun i => knw (atN xs i)) (fun i => knw (atN ys i)) k]) rfl rv_one (nums_one _ _) (by omega) (by omega) (by have := HCS2.out.lt; simp; omega) ?_; intro A3 c3 w3 hc3 hm3 hg3 hat3)
      go_roundw
      case rel =>
        have h4 := HCS2.out.append (row' := (Value.slice A3 (k + 1) c3).ownBlock) hg3 HAP.out.1 HAP2.out (by rw [show (Value.slice A3 (k + 1) c3).ownBlock = A3.map (·.block) by cases A3 <;> rfl]; exact hat3)
        exact ⟨k + 1, c3, A3, r2, by omega, by go_num, rfl, hc3, by rw [HT.out, nums_append]; exact hm3, h4.1, h4.2, (HB2.out.alloc (by have := HCS2.out.lt; omega) _).grown hg3 (by have := HCS2.out.lt; simp; omega) (fun q hq => (HM2.out.block hq).1)⟩
      case measure => simp [intOf]; omega
    · have e : k = N := by omega
      subst e
      have HTK := Lib.hid (List.take_of_length_le (l := outsL o xs ys) (i := k) (by rw [HOL.out]; exact Nat.le_refl _))
      have HMO := HM1.out
      rw [HTK.out] at HMO
      have HMO := Lib.hid HMO
      have HCL := Lib.hid (HHI.out _ _ _ _ HCS.out)
      go_wp2_with fail
      refine HCL.out.mono ?_; rintro e w4 ⟨rfl, hb4⟩
      have HBW := Lib.hid (show Below V.heap.size V (w4.alloc (.cells #[.int .i64 O, .int .u8 K, .int .u8 S, .int .u32 Q, .int .u32 Z] 89)) from by rw [HSZ.out]; exact HB.out.trans ((Bw.alloc hb4 _).mono (by have := HCS.out.lt; omega)))
      have HMX := Lib.hid (HMO.out.below (Bw.alloc hb4 (.cells #[.int .i64 O, .int .u8 K, .int .u8 S, .int .u32 Q, .int .u32 Z] 89)))
      have D1 : Blk (w4.alloc (.cells #[.int .i64 O, .int .u8 K, .int .u8 S, .int .u32 Q, .int .u32 Z] 89)) w.heap.size #[.int .i64 0, .int .u8 0, .int .u8 0, .int .u32 0, .int .u32 0] 89 := HB1.out.below HBW.out
      have D4 : Blk (w4.alloc (.cells #[.int .i64 O, .int .u8 K, .int .u8 S, .int .u32 Q, .int .u32 Z] 89)) w4.heap.size #[.int .i64 O, .int .u8 K, .int .u8 S, .int .u32 Q, .int .u32 Z] 89 := Blk.new (w := w4) rfl
      have hne1 : w4.heap.size ≠ w.heap.size := by have h1 := hb4.size; have h2 := HCS.out.lt; omega
      have a0 := D1.cell 0 (.int .i64 0) rfl
      have a1 := D1.cell 1 (.int .u8 0) rfl
      have a2 := D1.cell 2 (.int .u8 0) rfl
      have a3 := D1.cell 3 (.int .u32 0) rfl
      have a4 := D1.cell 4 (.int .u32 0) rfl
      have af0 := D1.frozen 0
      have af1 := D1.frozen 1
      have af2 := D1.frozen 2
      have af3 := D1.frozen 3
      have af4 := D1.frozen 4
      have u0 := D4.cell 0 (.int .i64 O) rfl
      have u1 := D4.cell 1 (.int .u8 K) rfl
      have u2 := D4.cell 2 (.int .u8 S) rfl
      have u3 := D4.cell 3 (.int .u32 Q) rfl
      have u4 := D4.cell 4 (.int .u32 Z) rfl
      have DD1 := Lib.hid D1
      have DD4 := Lib.hid D4
      clear D1 D4 hb4
      go_wp2_with fail
      generalize w4.alloc (.cells #[.int .i64 O, .int .u8 K, .int .u8 S, .int .u32 Q, .int .u32 Z] 89) = X at *
      have HS0 := Lib.hid (show X.drew.cell? ⟨w4.heap.size, 0, none⟩ = some (.int .i64 O) ∧ X.drew.cell? ⟨w4.heap.size, 1, none⟩ = some (.int .u8 K) ∧ X.drew.cell? ⟨w4.heap.size, 2, none⟩ = some (.int .u8 S) ∧ X.drew.cell? ⟨w4.heap.size, 3, none⟩ = some (.int .u32 Q) ∧ X.drew.cell? ⟨w4.heap.size, 4, none⟩ = some (.int .u32 Z) from ⟨u0, u1, u2, u3, u4⟩)
      have hx4 : Blk (((((X.setCell ⟨w.heap.size, 0, none⟩ (.int .i64 O)).setCell ⟨w.heap.size, 1, none⟩ (.int .u8 K)).setCell ⟨w.heap.size, 2, none⟩ (.int .u8 S)).setCell ⟨w.heap.size, 3, none⟩ (.int .u32 Q)).setCell ⟨w.heap.size, 4, none⟩ (.int .u32 Z)).drew w4.heap.size #[.int .i64 O, .int .u8 K, .int .u8 S, .int .u32 Q, .int .u32 Z] 89 := Blk.drew (DD4.out.other5 w.heap.size (Ne.symm hne1) (.int .i64 O) (.int .u8 K) (.int .u8 S) (.int .u32 Q) (.int .u32 Z))
      have HS1 := Lib.hid (show (((((X.setCell ⟨w.heap.size, 0, none⟩ (.int .i64 O)).setCell ⟨w.heap.size, 1, none⟩ (.int .u8 K)).setCell ⟨w.heap.size, 2, none⟩ (.int .u8 S)).setCell ⟨w.heap.size, 3, none⟩ (.int .u32 Q)).setCell ⟨w.heap.size, 4, none⟩ (.int .u32 Z)).drew.cell? ⟨w4.heap.size, 0, none⟩ = some (.int .i64 O) ∧ (((((X.setCell ⟨w.heap.size, 0, none⟩ (.int .i64 O)).setCell ⟨w.heap.size, 1, none⟩ (.int .u8 K)).setCell ⟨w.heap.size, 2, none⟩ (.int .u8 S)).setCell ⟨w.heap.size, 3, none⟩ (.int .u32 Q)).setCell ⟨w.heap.size, 4, none⟩ (.int .u32 Z)).drew.cell? ⟨w4.heap.size, 1, none⟩ = some (.int .u8 K) ∧ (((((X.setCell ⟨w.heap.size, 0, none⟩ (.int .i64 O)).setCell ⟨w.heap.size, 1, none⟩ (.int .u8 K)).setCell ⟨w.heap.size, 2, none⟩ (.int .u8 S)).setCell ⟨w.heap.size, 3, none⟩ (.int .u32 Q)).setCell ⟨w.heap.size, 4, none⟩ (.int .u32 Z)).drew.cell? ⟨w4.heap.size, 2, none⟩ = some (.int .u8 S) ∧ (((((X.setCell ⟨w.heap.size, 0, none⟩ (.int .i64 O)).setCell ⟨w.heap.size, 1, none⟩ (.int .u8 K)).setCell ⟨w.heap.size, 2, none⟩ (.int .u8 S)).setCell ⟨w.heap.size, 3, none⟩ (.int .u32 Q)).setCell ⟨w.heap.size, 4, none⟩ (.int .u32 Z)).drew.cell? ⟨w4.heap.size, 3, none⟩ = some (.int .u32 Q) ∧ (((((X.setCell ⟨w.heap.size, 0, none⟩ (.int .i64 O)).setCell ⟨w.heap.size, 1, none⟩ (.int .u8 K)).setCell ⟨w.heap.size, 2, none⟩ (.int .u8 S)).setCell ⟨w.heap.size, 3, none⟩ (.int .u32 Q)).setCell ⟨w.heap.size, 4, none⟩ (.int .u32 Z)).drew.cell? ⟨w4.heap.size, 4, none⟩ = some (.int .u32 Z) from ⟨hx4.cell 0 _ rfl, hx4.cell 1 _ rfl, hx4.cell 2 _ rfl, hx4.cell 3 _ rfl, hx4.cell 4 _ rfl⟩)
      clear hx4
      go_region_held3 (fun w' => w'.cell? ⟨w4.heap.size, 0, none⟩ = some (.int .i64 O) ∧ w'.cell? ⟨w4.heap.size, 1, none⟩ = some (.int .u8 K) ∧ w'.cell? ⟨w4.heap.size, 2, none⟩ = some (.int .u8 S) ∧ w'.cell? ⟨w4.heap.size, 3, none⟩ = some (.int .u32 Q) ∧ w'.cell? ⟨w4.heap.size, 4, none⟩ = some (.int .u32 Z)) (first | (with_reducible exact HS0.out) | (with_reducible exact HS1.out)) (fail)
      go_wp2
      have hfin : Below w.heap.size w (((((X.setCell ⟨w.heap.size, 0, none⟩ (.int .i64 O)).setCell ⟨w.heap.size, 1, none⟩ (.int .u8 K)).setCell ⟨w.heap.size, 2, none⟩ (.int .u8 S)).setCell ⟨w.heap.size, 3, none⟩ (.int .u32 Q)).setCell ⟨w.heap.size, 4, none⟩ (.int .u32 Z)).drew := Bk.drew (Bk.set5 (Bw.step HV.out HBW.out) (Nat.le_refl _) (.int .i64 O) (.int .u8 K) (.int .u8 S) (.int .u32 Q) (.int .u32 Z))
      have G1 : Blk (((((X.setCell ⟨w.heap.size, 0, none⟩ (.int .i64 O)).setCell ⟨w.heap.size, 1, none⟩ (.int .u8 K)).setCell ⟨w.heap.size, 2, none⟩ (.int .u8 S)).setCell ⟨w.heap.size, 3, none⟩ (.int .u32 Q)).setCell ⟨w.heap.size, 4, none⟩ (.int .u32 Z)).drew w.heap.size #[.int .i64 O, .int .u8 K, .int .u8 S, .int .u32 Q, .int .u32 Z] 89 := Blk.drew (DD1.out.set5 (.int .i64 O) (.int .u8 K) (.int .u8 S) (.int .u32 Q) (.int .u32 Z))
      have GM : Mn (((((X.setCell ⟨w.heap.size, 0, none⟩ (.int .i64 O)).setCell ⟨w.heap.size, 1, none⟩ (.int .u8 K)).setCell ⟨w.heap.size, 2, none⟩ (.int .u8 S)).setCell ⟨w.heap.size, 3, none⟩ (.int .u32 Q)).setCell ⟨w.heap.size, 4, none⟩ (.int .u32 Z)).drew w.heap.size 50 1 (.slice A' k c') k (nums .u8 (outsL o xs ys)) := (HMX.out.same fun q hq _ => by
        have := (HMX.out.block hq).1
        show (((((X.setCell ⟨w.heap.size, 0, none⟩ (.int .i64 O)).setCell ⟨w.heap.size, 1, none⟩ (.int .u8 K)).setCell ⟨w.heap.size, 2, none⟩ (.int .u8 S)).setCell ⟨w.heap.size, 3, none⟩ (.int .u32 Q)).setCell ⟨w.heap.size, 4, none⟩ (.int .u32 Z)).heap[q]? = X.heap[q]?
        rw [setCell_other _ _ _ _ _ (by omega), setCell_other _ _ _ _ _ (by omega), setCell_other _ _ _ _ _ (by omega), setCell_other _ _ _ _ _ (by omega), setCell_other _ _ _ _ _ (by omega)]).mono (Nat.le_succ _)
      generalize (((((X.setCell ⟨w.heap.size, 0, none⟩ (.int .i64 O)).setCell ⟨w.heap.size, 1, none⟩ (.int .u8 K)).setCell ⟨w.heap.size, 2, none⟩ (.int .u8 S)).setCell ⟨w.heap.size, 3, none⟩ (.int .u32 Q)).setCell ⟨w.heap.size, 4, none⟩ (.int .u32 Z)).drew = Z2 at *
      have z0 := G1.cell 0 (.int .i64 O) rfl
      have z1 := G1.cell 1 (.int .u8 K) rfl
      have z2 := G1.cell 2 (.int .u8 S) rfl
      have z3 := G1.cell 3 (.int .u32 Q) rfl
      have z4 := G1.cell 4 (.int .u32 Z) rfl
      refine bodyPost_ret (v := .tuple #[.slice A' k c', .agg #[.int .i64 O, .int .u8 K, .int .u8 S, .int .u32 Q, .int .u32 Z], .bool hi]) (by simp [results, Try.results75, go_sem, z0, z1, z2, z3, z4]) rfl ?_
      exact ⟨A', c', rfl, hkc, GM, hfin⟩
end Go.Proofs.Ytnmhhjgiakijgaa
