/- Sameness of bytes; twins, and whether they were left alone: contracts. -/
import Derived.Test.YtnmhhjgiakijgaaA6
import Derived.WideShapes
namespace Go.Proofs.Ytnmhhjgiakijgaa
open Go.RowKit
set_option linter.unusedVariables false

theorem conv_rd {w : World} {A : Option Addr} {n : Nat} {bs : List Int} (c : Nat) (h : Rd w .u8 A n bs) :
    (convert 43 9 (.slice A n c)).run Try.prog w = .ok (.string (strOfNums bs)) w := by
  have hl := h.len
  rcases Nat.eq_zero_or_pos n with h0 | hp
  · subst h0
    have hb : bs = [] := List.eq_nil_of_length_eq_zero hl
    subst hb
    cases A with
    | none => exact run_convert_bytes_nil w 43 5 Try.underlying43 Try.underlying5 0 c 9 Try.underlying9
    | some a =>
      rw [run_convert_bytes_string w 43 9 5 _ 0 c Try.underlying43 Try.underlying5 Try.underlying9]
      simp [Conv.bytesToString, loadCells, loadCellsFrom]
      rfl
  · obtain ⟨b, o, rfl, hlt, hc⟩ := Rv.at_ h hp
    refine run_convert_bytes_arg w 43 5 Try.underlying43 Try.underlying5 b o n c bs hl (fun i hi => ?_) 9 Try.underlying9
    exact hc i _ (nums_get .u8 bs i (by omega))

theorem ba_inj {a b : ByteArray} (h : a.toList = b.toList) : a = b := by
  rw [ByteArray.toList_eq, ByteArray.toList_eq] at h
  exact Go.WideShapes.bytes_inj h
theorem strOfNums_inj {xs ys : List Int} (hx : bytesOk xs) (hy : bytesOk ys) (h : strOfNums xs = strOfNums ys) : xs = ys := by
  have h1 : xs.map (fun n => UInt8.ofNat n.toNat) = ys.map (fun n => UInt8.ofNat n.toNat) := by
    rw [← strOfNums_data, ← strOfNums_data, h]
  have hl : xs.length = ys.length := by simpa using congrArg List.length h1
  refine gt_ne_of hl (fun j hj => ?_)
  have h2 : (xs.map (fun n => UInt8.ofNat n.toNat))[j]? = (ys.map (fun n => UInt8.ofNat n.toNat))[j]? := by rw [h1]
  rw [List.getElem?_map, List.getElem?_map, List.getElem?_eq_getElem hj, List.getElem?_eq_getElem (by omega : j < ys.length)] at h2
  simp only [Option.map_some, Option.some.injEq] at h2
  have hxj := bytesOk_gt hx hj
  have hyj := bytesOk_gt hy (j := j) (by omega)
  have e1 : gt xs j = xs[j] := by simp [gt, List.getD_eq_getElem?_getD, List.getElem?_eq_getElem hj]
  have e2 : gt ys j = ys[j]'(by omega) := by simp [gt, List.getD_eq_getElem?_getD, List.getElem?_eq_getElem (by omega : j < ys.length)]
  have h3 := congrArg UInt8.toNat h2
  simp only [UInt8.toNat_ofNat'] at h3
  omega

set_option maxRecDepth 20000 in
theorem samebytes_calls (A B : Option Addr) (n m c d : Nat) (xs ys : List Int) (w : World) (hr : Rd w .u8 A n xs) (hs : Rd w .u8 B m ys) (hx : bytesOk xs) (hy : bytesOk ys) :
    Calls Try.prog 47 #[.slice A n c, .slice B m d] w fun e w' => e = .returned (.bool (sameL xs ys)) ∧ w = w' := by
  have h1 := conv_rd c hr
  have h2 := conv_rd d hs
  by_cases h : xs = ys
  · have hf : sameL xs ys = true := decide_eq_true h
    have HF := Lib.hid hf
    clear hf hx hy hr hs
    rw [← h] at h2
    clear h
    go_enter Try.func47, Try.ntmps47
    go_wp2
    go_ret
    exact ⟨by rw [HF.out]; simp, rfl⟩
  · have hf : sameL xs ys = false := decide_eq_false h
    have hne : strOfNums xs ≠ strOfNums ys := fun e => h (strOfNums_inj hx hy e)
    have HF := Lib.hid hf
    have HN := Lib.hid hne
    clear hf hx hy hr hs h hne
    go_enter Try.func47, Try.ntmps47
    go_wp2
    go_ret
    refine ⟨?_, rfl⟩
    rw [HF.out]
    simp
    exact fun e => HN.out (ba_inj e)

set_option maxHeartbeats 1600000 in
set_option maxRecDepth 20000 in
theorem twinsyms_calls (A : Option Addr) (n c : Nat) (xs : List Int) (w : World) (hr : Rd w .u8 A n xs) (hc : n ≤ c) (hn : n ≤ 60000) :
    Calls Try.prog 28 #[.slice A n c] w fun e w' => ∃ g c', e = .returned (.slice (some ⟨g, 0, none⟩) n c') ∧ n + 2 ≤ c' ∧ Mn w' w.heap.size 50 1 (.slice (some ⟨g, 0, none⟩) (n + 2) c') (n + 2) (nums .u8 (xs ++ [77, 77])) ∧ Below w.heap.size w w' := by
  have HR := Lib.hid hr
  have HL := Lib.hid hr.len
  clear hr
  go_enter Try.func28, Try.ntmps28
  go_wp2_with (first
    | (at_builtin
       refine wpList_append_mn _ rfl _ _ _ rfl w.heap.size 50 _ 1 1 Try.underlying22 info50 rfl (by omega) (.slice none 0 0) 0 [] rfl (Mn.nil _ _ _ _) A n c (nums .u8 xs) rfl (by rw [Nat.mul_one]; exact HR.out) (nums_one _ _) (by omega) (by omega) (Nat.le_refl _) ?_
       intro A1 c1 w1 hc1 hm1 hg1 hat1
       have hb1 : Below w.heap.size w w1 := (Below.refl _ _).grown hg1 (Nat.le_refl _) (fun k hk => by simp [Value.ownBlock] at hk))
    | (at_builtin
       refine wpList_append_mn _ rfl _ _ _ rfl w.heap.size 50 _ 1 1 Try.underlying22 info50 rfl (by omega) (.slice A1 n c1) n (nums .u8 xs) rfl (by simpa using hm1.alloc _) _ 2 2 (nums .u8 [77, 77]) rfl rv_two (nums_one _ _) (by omega) (by omega) (by simp; have := hb1.size; omega) ?_
       intro A2 c2 w2 hc2 hm2 hg2 hat2
       obtain ⟨g2, e2⟩ := hm2.ex (by omega)
       subst e2))
  go_ret
  refine ⟨g2, c2, rfl, hc2, by rw [nums_append]; exact hm2, (hb1.alloc hb1.size _).grown hg2 (by simp; have := hb1.size; omega) (fun k hk => (hm1.block (by simpa using hk)).1)⟩

theorem info3 : (Try.prog.info? 3).map (fun i => (i.zero, i.size, i.bytes)) = some (some (.int .i64 0), 1, 8) := by kernel_rfl
theorem info5 : (Try.prog.info? 5).map (fun i => (i.zero, i.size, i.bytes)) = some (some (.int .u8 0), 1, 1) := by kernel_rfl

set_option maxHeartbeats 1600000 in
set_option maxRecDepth 20000 in
theorem twinnums_calls (A : Option Addr) (n c : Nat) (xs : List Int) (w : World) (hr : Rd w .i64 A n xs) (hc : n ≤ c) (hn : n ≤ 60000) :
    Calls Try.prog 37 #[.slice A n c] w fun e w' => ∃ g c', e = .returned (.slice (some ⟨g, 0, none⟩) n c') ∧ n + 2 ≤ c' ∧ Mn w' w.heap.size 3 1 (.slice (some ⟨g, 0, none⟩) (n + 2) c') (n + 2) (nums .i64 (xs ++ [77, 77])) ∧ Below w.heap.size w w' := by
  have HR := Lib.hid hr
  have HL := Lib.hid hr.len
  clear hr
  go_enter Try.func37, Try.ntmps37
  go_wp2_with (first
    | (at_builtin
       refine wpList_append_mn _ rfl _ _ _ rfl w.heap.size 3 _ 1 8 Try.underlying37 info3 rfl (by omega) (.slice none 0 0) 0 [] rfl (Mn.nil _ _ _ _) A n c (nums .i64 xs) rfl (by rw [Nat.mul_one]; exact HR.out) (nums_one _ _) (by omega) (by omega) (Nat.le_refl _) ?_
       intro A1 c1 w1 hc1 hm1 hg1 hat1
       have hb1 : Below w.heap.size w w1 := (Below.refl _ _).grown hg1 (Nat.le_refl _) (fun k hk => by simp [Value.ownBlock] at hk))
    | (at_builtin
       refine wpList_append_mn _ rfl _ _ _ rfl w.heap.size 3 _ 1 8 Try.underlying37 info3 rfl (by omega) (.slice A1 n c1) n (nums .i64 xs) rfl (by simpa using hm1.alloc _) _ 2 2 (nums .i64 [77, 77]) rfl rv_two (nums_one _ _) (by omega) (by omega) (by simp; have := hb1.size; omega) ?_
       intro A2 c2 w2 hc2 hm2 hg2 hat2
       obtain ⟨g2, e2⟩ := hm2.ex (by omega)
       subst e2))
  go_ret
  refine ⟨g2, c2, rfl, hc2, by rw [nums_append]; exact hm2, (hb1.alloc hb1.size _).grown hg2 (by simp; have := hb1.size; omega) (fun k hk => (hm1.block (by simpa using hk)).1)⟩
set_option maxHeartbeats 1600000 in
set_option maxRecDepth 20000 in
theorem twinbytes_calls (A : Option Addr) (n c : Nat) (xs : List Int) (w : World) (hr : Rd w .u8 A n xs) (hc : n ≤ c) (hn : n ≤ 60000) :
    Calls Try.prog 43 #[.slice A n c] w fun e w' => ∃ g c', e = .returned (.slice (some ⟨g, 0, none⟩) n c') ∧ n + 2 ≤ c' ∧ Mn w' w.heap.size 5 1 (.slice (some ⟨g, 0, none⟩) (n + 2) c') (n + 2) (nums .u8 (xs ++ [77, 77])) ∧ Below w.heap.size w w' := by
  have HR := Lib.hid hr
  have HL := Lib.hid hr.len
  clear hr
  go_enter Try.func43, Try.ntmps43
  go_wp2_with (first
    | (at_builtin
       refine wpList_append_mn _ rfl _ _ _ rfl w.heap.size 5 _ 1 1 Try.underlying43 info5 rfl (by omega) (.slice none 0 0) 0 [] rfl (Mn.nil _ _ _ _) A n c (nums .u8 xs) rfl (by rw [Nat.mul_one]; exact HR.out) (nums_one _ _) (by omega) (by omega) (Nat.le_refl _) ?_
       intro A1 c1 w1 hc1 hm1 hg1 hat1
       have hb1 : Below w.heap.size w w1 := (Below.refl _ _).grown hg1 (Nat.le_refl _) (fun k hk => by simp [Value.ownBlock] at hk))
    | (at_builtin
       refine wpList_append_mn _ rfl _ _ _ rfl w.heap.size 5 _ 1 1 Try.underlying43 info5 rfl (by omega) (.slice A1 n c1) n (nums .u8 xs) rfl (by simpa using hm1.alloc _) _ 2 2 (nums .u8 [77, 77]) rfl rv_two (nums_one _ _) (by omega) (by omega) (by simp; have := hb1.size; omega) ?_
       intro A2 c2 w2 hc2 hm2 hg2 hat2
       obtain ⟨g2, e2⟩ := hm2.ex (by omega)
       subst e2))
  go_ret
  refine ⟨g2, c2, rfl, hc2, by rw [nums_append]; exact hm2, (hb1.alloc hb1.size _).grown hg2 (by simp; have := hb1.size; omega) (fun k hk => (hm1.block (by simpa using hk)).1)⟩

set_option maxHeartbeats 1600000 in
set_option maxRecDepth 20000 in
theorem leftsyms_calls (g : Nat) (A : Option Addr) (n c d : Nat) (xs : List Int) (w : World) (ht : Rd w .u8 (some ⟨g, 0, none⟩) (n + 2) (xs ++ [77, 77])) (hl : Rd w .u8 A n xs) (hc : n + 2 ≤ c) (hm : c ≤ maxLen) (hd : n ≤ d) (hn : n ≤ 60000) :
    Calls Try.prog 34 #[.slice (some ⟨g, 0, none⟩) n c, .slice A n d] w fun e w' => e = .returned (.bool true) ∧ ∃ q, w' = w.drewN q := by
  have hlen := hl.len
  obtain ⟨b1, o1, e1, h1⟩ := ht.at_ n (by omega)
  injection e1 with e1
  injection e1 with e1 e2
  subst e1
  subst e2
  obtain ⟨b2, o2, e1, h2⟩ := ht.at_ (n + 1) (by omega)
  injection e1 with e1
  injection e1 with e1 e2
  subst e1
  subst e2
  have g1 : gt (xs ++ [77, 77]) n = 77 := by unfold gt; rw [← hlen]; simp
  have g2 : gt (xs ++ [77, 77]) (n + 1) = 77 := by unfold gt; rw [← hlen]; simp
  rw [g1, Nat.zero_add] at h1
  rw [g2, Nat.zero_add] at h2
  have hs : sameL xs xs = true := decide_eq_true rfl
  have htk : (xs ++ [77, 77]).take n = xs := by rw [← hlen]; simp
  have HT0 := ht.take n (by omega)
  rw [htk] at HT0
  have HT := Lib.hid HT0
  have HL := Lib.hid hl
  have HS := Lib.hid hs
  have ec : decide ((c : Int) < (n : Int) + 2) = false := by simp; omega
  unfold maxLen at hm
  clear hl ht hs hlen g1 g2 htk HT0
  go_enter Try.func34, Try.ntmps34
  go_wp2_with (go_at_call 32; refine (samesyms_calls _ _ _ _ _ _ xs xs _ HT.out HL.out (by omega) hd hn).mono ?_; rintro e w' ⟨rfl, q, rfl⟩; rw [HS.out])
  go_ret
  exact ⟨rfl, _, rfl⟩
set_option maxHeartbeats 1600000 in
set_option maxRecDepth 20000 in
theorem leftnums_calls (g : Nat) (A : Option Addr) (n c d : Nat) (xs : List Int) (w : World) (ht : Rd w .i64 (some ⟨g, 0, none⟩) (n + 2) (xs ++ [77, 77])) (hl : Rd w .i64 A n xs) (hc : n + 2 ≤ c) (hm : c ≤ maxLen) (hd : n ≤ d) (hn : n ≤ 60000) :
    Calls Try.prog 40 #[.slice (some ⟨g, 0, none⟩) n c, .slice A n d] w fun e w' => e = .returned (.bool true) ∧ ∃ q, w' = w.drewN q := by
  have hlen := hl.len
  obtain ⟨b1, o1, e1, h1⟩ := ht.at_ n (by omega)
  injection e1 with e1
  injection e1 with e1 e2
  subst e1
  subst e2
  obtain ⟨b2, o2, e1, h2⟩ := ht.at_ (n + 1) (by omega)
  injection e1 with e1
  injection e1 with e1 e2
  subst e1
  subst e2
  have g1 : gt (xs ++ [77, 77]) n = 77 := by unfold gt; rw [← hlen]; simp
  have g2 : gt (xs ++ [77, 77]) (n + 1) = 77 := by unfold gt; rw [← hlen]; simp
  rw [g1, Nat.zero_add] at h1
  rw [g2, Nat.zero_add] at h2
  have hs : sameL xs xs = true := decide_eq_true rfl
  have htk : (xs ++ [77, 77]).take n = xs := by rw [← hlen]; simp
  have HT0 := ht.take n (by omega)
  rw [htk] at HT0
  have HT := Lib.hid HT0
  have HL := Lib.hid hl
  have HS := Lib.hid hs
  have ec : decide ((c : Int) < (n : Int) + 2) = false := by simp; omega
  unfold maxLen at hm
  clear hl ht hs hlen g1 g2 htk HT0
  go_enter Try.func40, Try.ntmps40
  go_wp2_with (go_at_call 106; refine (samenums_calls _ _ _ _ _ _ xs xs _ HT.out HL.out (by omega) hd hn).mono ?_; rintro e w' ⟨rfl, q, rfl⟩; rw [HS.out])
  go_ret
  exact ⟨rfl, _, rfl⟩

set_option maxHeartbeats 1600000 in
set_option maxRecDepth 20000 in
theorem leftbytes_calls (g : Nat) (A : Option Addr) (n c d : Nat) (xs : List Int) (w : World) (ht : Rd w .u8 (some ⟨g, 0, none⟩) (n + 2) (xs ++ [77, 77])) (hl : Rd w .u8 A n xs) (hc : n + 2 ≤ c) (hm : c ≤ maxLen) (hd : n ≤ d) (hx : bytesOk xs) :
    Calls Try.prog 48 #[.slice (some ⟨g, 0, none⟩) n c, .slice A n d] w fun e w' => e = .returned (.bool true) ∧ w = w' := by
  have hlen := hl.len
  obtain ⟨b1, o1, e1, h1⟩ := ht.at_ n (by omega)
  injection e1 with e1
  injection e1 with e1 e2
  subst e1
  subst e2
  obtain ⟨b2, o2, e1, h2⟩ := ht.at_ (n + 1) (by omega)
  injection e1 with e1
  injection e1 with e1 e2
  subst e1
  subst e2
  have g1 : gt (xs ++ [77, 77]) n = 77 := by unfold gt; rw [← hlen]; simp
  have g2 : gt (xs ++ [77, 77]) (n + 1) = 77 := by unfold gt; rw [← hlen]; simp
  rw [g1, Nat.zero_add] at h1
  rw [g2, Nat.zero_add] at h2
  have hs : sameL xs xs = true := decide_eq_true rfl
  have htk : (xs ++ [77, 77]).take n = xs := by rw [← hlen]; simp
  have HT0 := ht.take n (by omega)
  rw [htk] at HT0
  have HT := Lib.hid HT0
  have HL := Lib.hid hl
  have HS := Lib.hid hs
  have ec : decide ((c : Int) < (n : Int) + 2) = false := by simp; omega
  unfold maxLen at hm
  clear hl ht hs hlen g1 g2 htk HT0
  go_enter Try.func48, Try.ntmps48
  go_wp2_with (go_at_call 47; refine (samebytes_calls _ _ _ _ _ _ xs xs _ HT.out HL.out hx hx).mono ?_; rintro e w' ⟨rfl, rfl⟩; rw [HS.out])
  go_ret
  exact ⟨rfl, rfl⟩
end Go.Proofs.Ytnmhhjgiakijgaa
