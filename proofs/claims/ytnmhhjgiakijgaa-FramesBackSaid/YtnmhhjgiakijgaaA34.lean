/- The frame of symbols: contracts. -/
import Derived.Test.YtnmhhjgiakijgaaA32
import Derived.Test.YtnmhhjgiakijgaaA16
import Derived.StillTailTactics
namespace Go.Proofs.Ytnmhhjgiakijgaa
open Go.RowKit
set_option linter.unusedVariables false

/-- may these symbols be a frame's? -/
def rdOk (xs : List Int) : Bool := decide (xs.length = 114) && wholeL xs
/-- the bytes of the first 112 -/
def rdB (xs : List Int) : List Int := byV (xs.take 112)
def rO (xs : List Int) : Nat := if rdOk xs = true then fO (rdB xs) else 0
def rK (xs : List Int) : Nat := if rdOk xs = true then fK (rdB xs) else 0
def rS (xs : List Int) : Nat := if rdOk xs = true then fS (rdB xs) else 0
def rQ (xs : List Int) : Nat := if rdOk xs = true then fQ (rdB xs) else 0
def rV (xs : List Int) : Nat := if rdOk xs = true then fV (rdB xs) else 0
def rA (xs : List Int) : Bool := rdOk xs && (gt xs 112 == 2)
def rC (xs : List Int) : Bool := rdOk xs && (gt xs 113 == 2)
def rE (xs : List Int) : Int := if rdOk xs = true then errG (rdB xs) else 4
/-- what 'Read' answers -/
def ReadPost (xs : List Int) (w : World) (e : Ending) (w' : World) : Prop :=
  e = .returned (.tuple #[.agg #[.int .i64 (rO xs), .int .u8 (rK xs), .int .u8 (rS xs), .int .u32 (rQ xs), .int .u32 (rV xs)], .agg #[.bool (rA xs), .bool (rC xs)], .int .i64 (rE xs)]) ∧ Below w.heap.size w w'
theorem zeroR {xs : List Int} (h : rdOk xs = false) : rO xs = 0 ∧ rK xs = 0 ∧ rS xs = 0 ∧ rQ xs = 0 ∧ rV xs = 0 ∧ rA xs = false ∧ rC xs = false ∧ rE xs = 4 := by
  simp [rO, rK, rS, rQ, rV, rA, rC, rE, h]
theorem fullR {xs : List Int} (h : rdOk xs = true) : rO xs = fO (rdB xs) ∧ rK xs = fK (rdB xs) ∧ rS xs = fS (rdB xs) ∧ rQ xs = fQ (rdB xs) ∧ rV xs = fV (rdB xs) ∧ rA xs = (gt xs 112 == 2) ∧ rC xs = (gt xs 113 == 2) ∧ rE xs = errG (rdB xs) := by
  simp [rO, rK, rS, rQ, rV, rA, rC, rE, h]
theorem wholeL_take {xs : List Int} (h : wholeL xs = true) (k : Nat) : wholeL (xs.take k) = true := by
  unfold wholeL at h ⊢
  rw [List.all_eq_true] at h ⊢
  exact fun x hx => h x (List.mem_of_mem_take hx)
theorem rdB_facts {xs : List Int} (h : rdOk xs = true) : byOk (xs.take 112) = true ∧ rdB xs = bytesN (xs.take 112) 14 ∧ (rdB xs).length = 14 ∧ bytesOk (rdB xs) := by
  simp only [rdOk, Bool.and_eq_true, decide_eq_true_eq] at h
  obtain ⟨h1, h2⟩ := byV_true (xs.take 112) 14 (by rw [List.length_take, h.1]; rfl) (wholeL_take h.2 112)
  refine ⟨h1, h2, ?_, byV_bytes _⟩
  show (byV _).length = 14
  rw [h2, bytesN_length]
theorem rd_zero {w : World} {xs : List Int} {w' : World} (h : rdOk xs = false) (hb : Below w.heap.size w w') :
    ReadPost xs w (.returned (.tuple #[.agg #[.int .i64 0, .int .u8 0, .int .u8 0, .int .u32 0, .int .u32 0], .agg #[.bool false, .bool false], .int .i64 4])) w' := by
  obtain ⟨z1, z2, z3, z4, z5, z6, z7, z8⟩ := zeroR h
  refine ⟨?_, hb⟩
  rw [z1, z2, z3, z4, z5, z6, z7, z8]
  rfl
theorem rd_full {w : World} {xs : List Int} {w' : World} (h : rdOk xs = true) {O K S Q V : Nat} {a b : Bool} {E : Int} (hO : fO (rdB xs) = O) (hK : fK (rdB xs) = K) (hS : fS (rdB xs) = S) (hQ : fQ (rdB xs) = Q) (hV : fV (rdB xs) = V) (ha : (gt xs 112 == 2) = a) (hc : (gt xs 113 == 2) = b) (hE : errG (rdB xs) = E) (hb : Below w.heap.size w w') :
    ReadPost xs w (.returned (.tuple #[.agg #[.int .i64 O, .int .u8 K, .int .u8 S, .int .u32 Q, .int .u32 V], .agg #[.bool a, .bool b], .int .i64 E])) w' := by
  obtain ⟨z1, z2, z3, z4, z5, z6, z7, z8⟩ := fullR h
  refine ⟨?_, hb⟩
  rw [z1, z2, z3, z4, z5, z6, z7, z8, hO, hK, hS, hQ, hV, ha, hc, hE]

theorem Blk.c2 {w : World} {g : Nat} {a b : Value} {e : TypeId} (h : Blk w g #[a, b] e) : w.cell? ⟨g, 0, none⟩ = some a ∧ w.cell? ⟨g, 1, none⟩ = some b := ⟨h.cell 0 _ rfl, h.cell 1 _ rfl⟩
theorem Blk.c5 {w : World} {g : Nat} {a b c d f : Value} {e : TypeId} (h : Blk w g #[a, b, c, d, f] e) : w.cell? ⟨g, 0, none⟩ = some a ∧ w.cell? ⟨g, 1, none⟩ = some b ∧ w.cell? ⟨g, 2, none⟩ = some c ∧ w.cell? ⟨g, 3, none⟩ = some d ∧ w.cell? ⟨g, 4, none⟩ = some f := ⟨h.cell 0 _ rfl, h.cell 1 _ rfl, h.cell 2 _ rfl, h.cell 3 _ rfl, h.cell 4 _ rfl⟩
theorem Blk.other {w : World} {g : Nat} {cs : Array Value} {e : TypeId} (h : Blk w g cs e) (k j : Nat) (v : Value) (hne : k ≠ g) : Blk (w.setCell ⟨k, j, none⟩ v) g cs e := (setCell_other w k j g v hne.symm).trans h
theorem Blk.set5 {w : World} {g : Nat} {a0 a1 a2 a3 a4 : Value} {e : TypeId} (h : Blk w g #[a0, a1, a2, a3, a4] e) (v0 v1 v2 v3 v4 : Value) :
    Blk (((((w.setCell ⟨g, 0, none⟩ v0).setCell ⟨g, 1, none⟩ v1).setCell ⟨g, 2, none⟩ v2).setCell ⟨g, 3, none⟩ v3).setCell ⟨g, 4, none⟩ v4) g #[v0, v1, v2, v3, v4] e := ((((h.set 0 v0).set 1 v1).set 2 v2).set 3 v3).set 4 v4
theorem Blk.set2 {w : World} {g : Nat} {a0 a1 : Value} {e : TypeId} (h : Blk w g #[a0, a1] e) (v0 v1 : Value) :
    Blk ((w.setCell ⟨g, 0, none⟩ v0).setCell ⟨g, 1, none⟩ v1) g #[v0, v1] e := (h.set 0 v0).set 1 v1
theorem Blk.other5 {w : World} {g : Nat} {cs : Array Value} {e : TypeId} (h : Blk w g cs e) (k : Nat) (hne : k ≠ g) (v0 v1 v2 v3 v4 : Value) :
    Blk (((((w.setCell ⟨k, 0, none⟩ v0).setCell ⟨k, 1, none⟩ v1).setCell ⟨k, 2, none⟩ v2).setCell ⟨k, 3, none⟩ v3).setCell ⟨k, 4, none⟩ v4) g cs e := ((((h.other k 0 v0 hne).other k 1 v1 hne).other k 2 v2 hne).other k 3 v3 hne).other k 4 v4 hne

theorem Bk.set5 {B : Nat} {a w : World} {g : Nat} (h : Below B a w) (hp : B ≤ g) (v0 v1 v2 v3 v4 : Value) :
    Below B a (((((w.setCell ⟨g, 0, none⟩ v0).setCell ⟨g, 1, none⟩ v1).setCell ⟨g, 2, none⟩ v2).setCell ⟨g, 3, none⟩ v3).setCell ⟨g, 4, none⟩ v4) :=
  ((((h.setCell (p := ⟨g, 0, none⟩) hp v0).setCell (p := ⟨g, 1, none⟩) hp v1).setCell (p := ⟨g, 2, none⟩) hp v2).setCell (p := ⟨g, 3, none⟩) hp v3).setCell (p := ⟨g, 4, none⟩) hp v4
theorem Bk.undrew {B : Nat} {w W : World} (h : Below B w W.drew) : Below B w W := ⟨h.os, h.tape, h.output, h.size, h.block⟩
theorem Blk.undrew {w : World} {g : Nat} {cs : Array Value} {e : TypeId} (h : Blk w.drew g cs e) : Blk w g cs e := h
theorem Blk.drew {w : World} {g : Nat} {cs : Array Value} {e : TypeId} (h : Blk w g cs e) : Blk w.drew g cs e := h
theorem Bk.set2 {B : Nat} {a w : World} {g : Nat} (h : Below B a w) (hp : B ≤ g) (v0 v1 : Value) :
    Below B a ((w.setCell ⟨g, 0, none⟩ v0).setCell ⟨g, 1, none⟩ v1) := (h.setCell (p := ⟨g, 0, none⟩) hp v0).setCell (p := ⟨g, 1, none⟩) hp v1

set_option maxHeartbeats 3200000 in
set_option maxRecDepth 20000 in
theorem read_calls (A : Option Addr) (n c : Nat) (xs : List Int) (w : World) (hr : Rd w .u8 A n xs) (hc : n ≤ c) (hn : n ≤ 60000) (hcm : c ≤ maxLen) (hx : bytesOk xs) :
    Calls Try.prog 72 #[.slice A n c] w (ReadPost xs w) := by
  have HR := Lib.hid hr
  have HL := Lib.hid hr.len
  have HCM := Lib.hid hcm
  have HX := Lib.hid hx
  clear hr hcm hx
  by_cases h114 : n = 114
  · cases hwh : wholeL xs with
    | false =>
      subst h114
      have HOK := Lib.hid (show rdOk xs = false by simp [rdOk, hwh])
      have HW := Lib.hid hwh
      clear hwh
      go_enter Try.func72, Try.ntmps72
      go_wp2_with fail
      refine (wholes_calls _ _ _ xs _ (HR.out.below (by repeat (first | exact Below.refl _ _ | apply Bw.alloc | apply Bw.drewN | apply Bw.drew | (refine Bw.step ?_ (by assumption))))) hc hn).mono ?_; rintro e w' ⟨rfl, rfl⟩; rewrite [HW.out]
      go_wp2
      refine bodyPost_ret (v := .tuple #[.agg #[.int .i64 0, .int .u8 0, .int .u8 0, .int .u32 0, .int .u32 0], .agg #[.bool false, .bool false], .int .i64 4]) (by simp [results, Try.results72, go_sem]) rfl ?_
      exact rd_zero HOK.out (by repeat (first | exact Below.refl _ _ | apply Bw.alloc | apply Bw.drewN | apply Bw.drew | (refine Bw.step ?_ (by assumption))))
    | true =>
      subst h114
      have hok : rdOk xs = true := by simp [rdOk, hwh, HL.out]
      obtain ⟨hby, -, hbl, hbo⟩ := rdB_facts hok
      have HOK := Lib.hid hok
      have HBY := Lib.hid hby
      have HBL := Lib.hid hbl
      have HBO := Lib.hid hbo
      have HW := Lib.hid hwh
      have HT := Lib.hid (HR.out.take 112 (by omega))
      obtain ⟨b, o, rfl, hblt, -⟩ := Rv.at_ HR.out (by omega)
      obtain ⟨s2, hs2, -⟩ : ∃ x : Nat, gt xs 112 = x ∧ x ≤ 255 := by
        have := bytesOk_gt HX.out (j := 112) (by rw [HL.out]; omega)
        exact ⟨(gt xs 112).toNat, by omega, by omega⟩
      obtain ⟨s3, hs3, -⟩ : ∃ x : Nat, gt xs 113 = x ∧ x ≤ 255 := by
        have := bytesOk_gt HX.out (j := 113) (by rw [HL.out]; omega)
        exact ⟨(gt xs 113).toNat, by omega, by omega⟩
      obtain ⟨ba, hba⟩ : ∃ ba, ((s2 : Int) == 2) = ba := ⟨_, rfl⟩
      obtain ⟨bc, hbc⟩ : ∃ bc, ((s3 : Int) == 2) = bc := ⟨_, rfl⟩
      have HA := Lib.hid (show (gt xs 112 == 2) = ba by rw [hs2]; exact hba)
      have HC := Lib.hid (show (gt xs 113 == 2) = bc by rw [hs3]; exact hbc)
      have hk2 := gt_cell HR.out 112 s2 (by omega) hs2
      have hk3 := gt_cell HR.out 113 s3 (by omega) hs3
      clear hok hby hbl hbo hwh hs2 hs3
      go_enter Try.func72, Try.ntmps72
      go_wp2_with fail
      refine (wholes_calls _ _ _ xs _ (HR.out.below (by repeat (first | exact Below.refl _ _ | apply Bw.alloc | apply Bw.drewN | apply Bw.drew | (refine Bw.step ?_ (by assumption))))) hc hn).mono ?_; rintro e w' ⟨rfl, rfl⟩; rewrite [HW.out]
      have hW : Below w.heap.size w ((w.alloc (.cells #[.int .i64 0, .int .u8 0, .int .u8 0, .int .u32 0, .int .u32 0] 89)).alloc (.cells #[.bool false, .bool false] 93)) := (by repeat (first | exact Below.refl _ _ | apply Bw.alloc | apply Bw.drewN | apply Bw.drew | (refine Bw.step ?_ (by assumption))))
      have B1 := Lib.hid (show Blk ((w.alloc (.cells #[.int .i64 0, .int .u8 0, .int .u8 0, .int .u32 0, .int .u32 0] 89)).alloc (.cells #[.bool false, .bool false] 93)) w.heap.size #[.int .i64 0, .int .u8 0, .int .u8 0, .int .u32 0, .int .u32 0] 89 from (Blk.new (w := w) rfl).below (by repeat (first | exact Below.refl _ _ | apply Bw.alloc | apply Bw.drewN | apply Bw.drew | (refine Bw.step ?_ (by assumption)))))
      have B2 := Lib.hid (show Blk ((w.alloc (.cells #[.int .i64 0, .int .u8 0, .int .u8 0, .int .u32 0, .int .u32 0] 89)).alloc (.cells #[.bool false, .bool false] 93)) (w.heap.size + 1) #[.bool false, .bool false] 93 from Blk.new (by simp))
      have HK : Hid (∀ w', Below w.heap.size w w' → w'.cell? ⟨b, o + 112, none⟩ = some (.int .u8 s2) ∧ w'.cell? ⟨b, o + 113, none⟩ = some (.int .u8 s3)) := fun w' h => ⟨(h.cell (p := ⟨b, o + 112, none⟩) hblt).trans hk2, (h.cell (p := ⟨b, o + 113, none⟩) hblt).trans hk3⟩
      go_wp2_with fail
      clear hk2 hk3
      generalize (w.alloc (.cells #[.int .i64 0, .int .u8 0, .int .u8 0, .int .u32 0, .int .u32 0] 89)).alloc (.cells #[.bool false, .bool false] 93) = W at *
      go_region_held3 (fun w' => w'.cell? ⟨b, o + 112, none⟩ = some (.int .u8 s2) ∧ w'.cell? ⟨b, o + 113, none⟩ = some (.int .u8 s3)) (first | assumption | exact HK.out _ (by repeat (first | exact Below.refl _ _ | apply Bw.alloc | apply Bw.drewN | apply Bw.drew | (refine Bw.step ?_ (by assumption))))) (fail)
      clear HK hba hbc
      go_wp2_with fail
      refine (bytes_calls _ _ _ (xs.take 112) _ (HT.out.below (by repeat (first | exact Below.refl _ _ | apply Bw.alloc | apply Bw.drewN | apply Bw.drew | (refine Bw.step ?_ (by assumption))))) (by omega) HCM.out (by omega)).mono ?_
      rintro e w4 ⟨A4, m4, rfl, hl4, hm4, hb4⟩
      rewrite [HBY.out]
      rw [show byV (xs.take 112) = rdB xs from rfl] at hl4 hm4
      rw [HBL.out] at hl4
      subst hl4
      have HBW4 := Lib.hid (show Below W.heap.size W w4 from (by repeat (first | exact Below.refl _ _ | apply Bw.alloc | apply Bw.drewN | apply Bw.drew | (refine Bw.step ?_ (by assumption)))))
      have B3 := Lib.hid ((show Blk (W.alloc (.cells #[.bool ba, .bool bc] 93)).drew W.heap.size #[.bool ba, .bool bc] 93 from Blk.new (w := W) rfl).below hb4)
      have HM4 := Lib.hid hm4
      clear hb4 hm4
      obtain ⟨O, hO⟩ : ∃ O, fO (rdB xs) = O := ⟨_, rfl⟩
      obtain ⟨K, hK⟩ : ∃ K, fK (rdB xs) = K := ⟨_, rfl⟩
      obtain ⟨S, hS⟩ : ∃ S, fS (rdB xs) = S := ⟨_, rfl⟩
      obtain ⟨Q, hQ⟩ : ∃ Q, fQ (rdB xs) = Q := ⟨_, rfl⟩
      obtain ⟨V, hV⟩ : ∃ V, fV (rdB xs) = V := ⟨_, rfl⟩
      obtain ⟨E, hE⟩ : ∃ E, errG (rdB xs) = E := ⟨_, rfl⟩
      have HG : Hid (∀ (w : World), Rd w .u8 A4 14 (rdB xs) → Calls Try.prog 67 #[.slice A4 14 14] w fun e w' => e = .returned (.tuple #[.agg #[.int .i64 O, .int .u8 K, .int .u8 S, .int .u32 Q, .int .u32 V], .int .i64 E]) ∧ Below w.heap.size w w') := fun w h1 => by
        have h := get_calls A4 14 14 (rdB xs) w h1 (Nat.le_refl _) (by simp only [maxLen]; omega) HBO.out
        unfold GetPost at h
        rw [hO, hK, hS, hQ, hV, hE] at h
        exact h
      have HFIN := Lib.hid (fun (w' : World) (hb : Below w.heap.size w w') => rd_full (w := w) (w' := w') HOK.out hO hK hS hQ hV HA.out HC.out hE hb)
      clear hO hK hS hQ hV hE
      go_wp2_with fail
      refine (HG.out _ HM4.out.rd).mono ?_; rintro e w6 ⟨rfl, hb6⟩
      have HBX := Lib.hid (show Below W.heap.size W (w6.alloc (.cells #[.int .i64 O, .int .u8 K, .int .u8 S, .int .u32 Q, .int .u32 V] 89)) from Bw.alloc (Bw.step HBW4.out hb6) _)
      have D1 : Blk (w6.alloc (.cells #[.int .i64 O, .int .u8 K, .int .u8 S, .int .u32 Q, .int .u32 V] 89)) w.heap.size #[.int .i64 0, .int .u8 0, .int .u8 0, .int .u32 0, .int .u32 0] 89 := B1.out.below HBX.out
      have D2 : Blk (w6.alloc (.cells #[.int .i64 O, .int .u8 K, .int .u8 S, .int .u32 Q, .int .u32 V] 89)) (w.heap.size + 1) #[.bool false, .bool false] 93 := B2.out.below HBX.out
      have D3 : Blk (w6.alloc (.cells #[.int .i64 O, .int .u8 K, .int .u8 S, .int .u32 Q, .int .u32 V] 89)) W.heap.size #[.bool ba, .bool bc] 93 := B3.out.below (show Below w4.heap.size w4 (w6.alloc (.cells #[.int .i64 O, .int .u8 K, .int .u8 S, .int .u32 Q, .int .u32 V] 89)) from Bw.alloc hb6 _)
      have D4 : Blk (w6.alloc (.cells #[.int .i64 O, .int .u8 K, .int .u8 S, .int .u32 Q, .int .u32 V] 89)) w6.heap.size #[.int .i64 O, .int .u8 K, .int .u8 S, .int .u32 Q, .int .u32 V] 89 := Blk.new (w := w6) rfl
      have hbw6 : Below w.heap.size w (w6.alloc (.cells #[.int .i64 O, .int .u8 K, .int .u8 S, .int .u32 Q, .int .u32 V] 89)) := Bw.step hW HBX.out
      have hne1 : w6.heap.size ≠ w.heap.size := by have h1 := hW.size; have h2 := D1.lt; have h3 := (Bw.step HBW4.out hb6).size; have h4 := B1.out.lt; omega
      have hne2 : w6.heap.size ≠ w.heap.size + 1 := by have h3 := (Bw.step HBW4.out hb6).size; have h4 := B2.out.lt; omega
      have hne3 : W.heap.size ≠ w.heap.size := by have h4 := B1.out.lt; omega
      have hne4 : W.heap.size ≠ w.heap.size + 1 := by have h4 := B2.out.lt; omega
      have a0 := D1.cell 0 (.int .i64 0) rfl
      have a1 := D1.cell 1 (.int .u8 0) rfl
      have a2 := D1.cell 2 (.int .u8 0) rfl
      have a3 := D1.cell 3 (.int .u32 0) rfl
      have a4 := D1.cell 4 (.int .u32 0) rfl
      have af0 := D1.frozen 0
      have af1 := D1.frozen 1
      have af2 := D1.frozen 2
      have af3 := D1.frozen 3
      have af4 := D1.frozen 4
      have e0 := D2.cell 0 (.bool false) rfl
      have e1 := D2.cell 1 (.bool false) rfl
      have ef0 := D2.frozen 0
      have ef1 := D2.frozen 1
      have i0 := D3.cell 0 (.bool ba) rfl
      have i1 := D3.cell 1 (.bool bc) rfl
      have u0 := D4.cell 0 (.int .i64 O) rfl
      have u1 := D4.cell 1 (.int .u8 K) rfl
      have u2 := D4.cell 2 (.int .u8 S) rfl
      have u3 := D4.cell 3 (.int .u32 Q) rfl
      have u4 := D4.cell 4 (.int .u32 V) rfl
      have DD1 := Lib.hid D1
      have DD2 := Lib.hid D2
      have DD3 := Lib.hid D3
      have DD4 := Lib.hid D4
      clear D1 D2 D3 D4
      go_wp2_with fail
      clear hb6
      generalize w6.alloc (.cells #[.int .i64 O, .int .u8 K, .int .u8 S, .int .u32 Q, .int .u32 V] 89) = X at *
      have HS0 := Lib.hid (show X.drew.cell? ⟨w6.heap.size, 0, none⟩ = some (.int .i64 O) ∧ X.drew.cell? ⟨w6.heap.size, 1, none⟩ = some (.int .u8 K) ∧ X.drew.cell? ⟨w6.heap.size, 2, none⟩ = some (.int .u8 S) ∧ X.drew.cell? ⟨w6.heap.size, 3, none⟩ = some (.int .u32 Q) ∧ X.drew.cell? ⟨w6.heap.size, 4, none⟩ = some (.int .u32 V) ∧ X.drew.cell? ⟨W.heap.size, 0, none⟩ = some (.bool ba) ∧ X.drew.cell? ⟨W.heap.size, 1, none⟩ = some (.bool bc) from ⟨u0, u1, u2, u3, u4, i0, i1⟩)
      have hx3 : Blk (((((X.setCell ⟨w.heap.size, 0, none⟩ (.int .i64 O)).setCell ⟨w.heap.size, 1, none⟩ (.int .u8 K)).setCell ⟨w.heap.size, 2, none⟩ (.int .u8 S)).setCell ⟨w.heap.size, 3, none⟩ (.int .u32 Q)).setCell ⟨w.heap.size, 4, none⟩ (.int .u32 V)).drew W.heap.size #[.bool ba, .bool bc] 93 := Blk.drew (DD3.out.other5 w.heap.size (Ne.symm hne3) (.int .i64 O) (.int .u8 K) (.int .u8 S) (.int .u32 Q) (.int .u32 V))
      have hx4 : Blk (((((X.setCell ⟨w.heap.size, 0, none⟩ (.int .i64 O)).setCell ⟨w.heap.size, 1, none⟩ (.int .u8 K)).setCell ⟨w.heap.size, 2, none⟩ (.int .u8 S)).setCell ⟨w.heap.size, 3, none⟩ (.int .u32 Q)).setCell ⟨w.heap.size, 4, none⟩ (.int .u32 V)).drew w6.heap.size #[.int .i64 O, .int .u8 K, .int .u8 S, .int .u32 Q, .int .u32 V] 89 := Blk.drew (DD4.out.other5 w.heap.size (Ne.symm hne1) (.int .i64 O) (.int .u8 K) (.int .u8 S) (.int .u32 Q) (.int .u32 V))
      have HS1 := Lib.hid (show (((((X.setCell ⟨w.heap.size, 0, none⟩ (.int .i64 O)).setCell ⟨w.heap.size, 1, none⟩ (.int .u8 K)).setCell ⟨w.heap.size, 2, none⟩ (.int .u8 S)).setCell ⟨w.heap.size, 3, none⟩ (.int .u32 Q)).setCell ⟨w.heap.size, 4, none⟩ (.int .u32 V)).drew.cell? ⟨w6.heap.size, 0, none⟩ = some (.int .i64 O) ∧ (((((X.setCell ⟨w.heap.size, 0, none⟩ (.int .i64 O)).setCell ⟨w.heap.size, 1, none⟩ (.int .u8 K)).setCell ⟨w.heap.size, 2, none⟩ (.int .u8 S)).setCell ⟨w.heap.size, 3, none⟩ (.int .u32 Q)).setCell ⟨w.heap.size, 4, none⟩ (.int .u32 V)).drew.cell? ⟨w6.heap.size, 1, none⟩ = some (.int .u8 K) ∧ (((((X.setCell ⟨w.heap.size, 0, none⟩ (.int .i64 O)).setCell ⟨w.heap.size, 1, none⟩ (.int .u8 K)).setCell ⟨w.heap.size, 2, none⟩ (.int .u8 S)).setCell ⟨w.heap.size, 3, none⟩ (.int .u32 Q)).setCell ⟨w.heap.size, 4, none⟩ (.int .u32 V)).drew.cell? ⟨w6.heap.size, 2, none⟩ = some (.int .u8 S) ∧ (((((X.setCell ⟨w.heap.size, 0, none⟩ (.int .i64 O)).setCell ⟨w.heap.size, 1, none⟩ (.int .u8 K)).setCell ⟨w.heap.size, 2, none⟩ (.int .u8 S)).setCell ⟨w.heap.size, 3, none⟩ (.int .u32 Q)).setCell ⟨w.heap.size, 4, none⟩ (.int .u32 V)).drew.cell? ⟨w6.heap.size, 3, none⟩ = some (.int .u32 Q) ∧ (((((X.setCell ⟨w.heap.size, 0, none⟩ (.int .i64 O)).setCell ⟨w.heap.size, 1, none⟩ (.int .u8 K)).setCell ⟨w.heap.size, 2, none⟩ (.int .u8 S)).setCell ⟨w.heap.size, 3, none⟩ (.int .u32 Q)).setCell ⟨w.heap.size, 4, none⟩ (.int .u32 V)).drew.cell? ⟨w6.heap.size, 4, none⟩ = some (.int .u32 V) ∧ (((((X.setCell ⟨w.heap.size, 0, none⟩ (.int .i64 O)).setCell ⟨w.heap.size, 1, none⟩ (.int .u8 K)).setCell ⟨w.heap.size, 2, none⟩ (.int .u8 S)).setCell ⟨w.heap.size, 3, none⟩ (.int .u32 Q)).setCell ⟨w.heap.size, 4, none⟩ (.int .u32 V)).drew.cell? ⟨W.heap.size, 0, none⟩ = some (.bool ba) ∧ (((((X.setCell ⟨w.heap.size, 0, none⟩ (.int .i64 O)).setCell ⟨w.heap.size, 1, none⟩ (.int .u8 K)).setCell ⟨w.heap.size, 2, none⟩ (.int .u8 S)).setCell ⟨w.heap.size, 3, none⟩ (.int .u32 Q)).setCell ⟨w.heap.size, 4, none⟩ (.int .u32 V)).drew.cell? ⟨W.heap.size, 1, none⟩ = some (.bool bc) from ⟨hx4.c5.1, hx4.c5.2.1, hx4.c5.2.2.1, hx4.c5.2.2.2.1, hx4.c5.2.2.2.2, hx3.c2.1, hx3.c2.2⟩)
      have hy3 : Blk (((((((X.setCell ⟨w.heap.size, 0, none⟩ (.int .i64 O)).setCell ⟨w.heap.size, 1, none⟩ (.int .u8 K)).setCell ⟨w.heap.size, 2, none⟩ (.int .u8 S)).setCell ⟨w.heap.size, 3, none⟩ (.int .u32 Q)).setCell ⟨w.heap.size, 4, none⟩ (.int .u32 V)).setCell ⟨w.heap.size + 1, 0, none⟩ (.bool ba)).setCell ⟨w.heap.size + 1, 1, none⟩ (.bool bc)).drew W.heap.size #[.bool ba, .bool bc] 93 := Blk.drew ((hx3.undrew.other (w.heap.size + 1) 0 (.bool ba) (Ne.symm hne4)).other (w.heap.size + 1) 1 (.bool bc) (Ne.symm hne4))
      have hy4 : Blk (((((((X.setCell ⟨w.heap.size, 0, none⟩ (.int .i64 O)).setCell ⟨w.heap.size, 1, none⟩ (.int .u8 K)).setCell ⟨w.heap.size, 2, none⟩ (.int .u8 S)).setCell ⟨w.heap.size, 3, none⟩ (.int .u32 Q)).setCell ⟨w.heap.size, 4, none⟩ (.int .u32 V)).setCell ⟨w.heap.size + 1, 0, none⟩ (.bool ba)).setCell ⟨w.heap.size + 1, 1, none⟩ (.bool bc)).drew w6.heap.size #[.int .i64 O, .int .u8 K, .int .u8 S, .int .u32 Q, .int .u32 V] 89 := Blk.drew ((hx4.undrew.other (w.heap.size + 1) 0 (.bool ba) (Ne.symm hne2)).other (w.heap.size + 1) 1 (.bool bc) (Ne.symm hne2))
      have HS2 := Lib.hid (show (((((((X.setCell ⟨w.heap.size, 0, none⟩ (.int .i64 O)).setCell ⟨w.heap.size, 1, none⟩ (.int .u8 K)).setCell ⟨w.heap.size, 2, none⟩ (.int .u8 S)).setCell ⟨w.heap.size, 3, none⟩ (.int .u32 Q)).setCell ⟨w.heap.size, 4, none⟩ (.int .u32 V)).setCell ⟨w.heap.size + 1, 0, none⟩ (.bool ba)).setCell ⟨w.heap.size + 1, 1, none⟩ (.bool bc)).drew.cell? ⟨w6.heap.size, 0, none⟩ = some (.int .i64 O) ∧ (((((((X.setCell ⟨w.heap.size, 0, none⟩ (.int .i64 O)).setCell ⟨w.heap.size, 1, none⟩ (.int .u8 K)).setCell ⟨w.heap.size, 2, none⟩ (.int .u8 S)).setCell ⟨w.heap.size, 3, none⟩ (.int .u32 Q)).setCell ⟨w.heap.size, 4, none⟩ (.int .u32 V)).setCell ⟨w.heap.size + 1, 0, none⟩ (.bool ba)).setCell ⟨w.heap.size + 1, 1, none⟩ (.bool bc)).drew.cell? ⟨w6.heap.size, 1, none⟩ = some (.int .u8 K) ∧ (((((((X.setCell ⟨w.heap.size, 0, none⟩ (.int .i64 O)).setCell ⟨w.heap.size, 1, none⟩ (.int .u8 K)).setCell ⟨w.heap.size, 2, none⟩ (.int .u8 S)).setCell ⟨w.heap.size, 3, none⟩ (.int .u32 Q)).setCell ⟨w.heap.size, 4, none⟩ (.int .u32 V)).setCell ⟨w.heap.size + 1, 0, none⟩ (.bool ba)).setCell ⟨w.heap.size + 1, 1, none⟩ (.bool bc)).drew.cell? ⟨w6.heap.size, 2, none⟩ = some (.int .u8 S) ∧ (((((((X.setCell ⟨w.heap.size, 0, none⟩ (.int .i64 O)).setCell ⟨w.heap.size, 1, none⟩ (.int .u8 K)).setCell ⟨w.heap.size, 2, none⟩ (.int .u8 S)).setCell ⟨w.heap.size, 3, none⟩ (.int .u32 Q)).setCell ⟨w.heap.size, 4, none⟩ (.int .u32 V)).setCell ⟨w.heap.size + 1, 0, none⟩ (.bool ba)).setCell ⟨w.heap.size + 1, 1, none⟩ (.bool bc)).drew.cell? ⟨w6.heap.size, 3, none⟩ = some (.int .u32 Q) ∧ (((((((X.setCell ⟨w.heap.size, 0, none⟩ (.int .i64 O)).setCell ⟨w.heap.size, 1, none⟩ (.int .u8 K)).setCell ⟨w.heap.size, 2, none⟩ (.int .u8 S)).setCell ⟨w.heap.size, 3, none⟩ (.int .u32 Q)).setCell ⟨w.heap.size, 4, none⟩ (.int .u32 V)).setCell ⟨w.heap.size + 1, 0, none⟩ (.bool ba)).setCell ⟨w.heap.size + 1, 1, none⟩ (.bool bc)).drew.cell? ⟨w6.heap.size, 4, none⟩ = some (.int .u32 V) ∧ (((((((X.setCell ⟨w.heap.size, 0, none⟩ (.int .i64 O)).setCell ⟨w.heap.size, 1, none⟩ (.int .u8 K)).setCell ⟨w.heap.size, 2, none⟩ (.int .u8 S)).setCell ⟨w.heap.size, 3, none⟩ (.int .u32 Q)).setCell ⟨w.heap.size, 4, none⟩ (.int .u32 V)).setCell ⟨w.heap.size + 1, 0, none⟩ (.bool ba)).setCell ⟨w.heap.size + 1, 1, none⟩ (.bool bc)).drew.cell? ⟨W.heap.size, 0, none⟩ = some (.bool ba) ∧ (((((((X.setCell ⟨w.heap.size, 0, none⟩ (.int .i64 O)).setCell ⟨w.heap.size, 1, none⟩ (.int .u8 K)).setCell ⟨w.heap.size, 2, none⟩ (.int .u8 S)).setCell ⟨w.heap.size, 3, none⟩ (.int .u32 Q)).setCell ⟨w.heap.size, 4, none⟩ (.int .u32 V)).setCell ⟨w.heap.size + 1, 0, none⟩ (.bool ba)).setCell ⟨w.heap.size + 1, 1, none⟩ (.bool bc)).drew.cell? ⟨W.heap.size, 1, none⟩ = some (.bool bc) from ⟨hy4.c5.1, hy4.c5.2.1, hy4.c5.2.2.1, hy4.c5.2.2.2.1, hy4.c5.2.2.2.2, hy3.c2.1, hy3.c2.2⟩)
      clear hx3 hx4 hy3 hy4
      go_region_held3 (fun w' => w'.cell? ⟨w6.heap.size, 0, none⟩ = some (.int .i64 O) ∧ w'.cell? ⟨w6.heap.size, 1, none⟩ = some (.int .u8 K) ∧ w'.cell? ⟨w6.heap.size, 2, none⟩ = some (.int .u8 S) ∧ w'.cell? ⟨w6.heap.size, 3, none⟩ = some (.int .u32 Q) ∧ w'.cell? ⟨w6.heap.size, 4, none⟩ = some (.int .u32 V) ∧ w'.cell? ⟨W.heap.size, 0, none⟩ = some (.bool ba) ∧ w'.cell? ⟨W.heap.size, 1, none⟩ = some (.bool bc)) (first | (with_reducible exact HS0.out) | (with_reducible exact HS1.out) | (with_reducible exact HS2.out)) (fail)
      go_wp2
      have hfin : Below w.heap.size w (((((((X.setCell ⟨w.heap.size, 0, none⟩ (.int .i64 O)).setCell ⟨w.heap.size, 1, none⟩ (.int .u8 K)).setCell ⟨w.heap.size, 2, none⟩ (.int .u8 S)).setCell ⟨w.heap.size, 3, none⟩ (.int .u32 Q)).setCell ⟨w.heap.size, 4, none⟩ (.int .u32 V)).setCell ⟨w.heap.size + 1, 0, none⟩ (.bool ba)).setCell ⟨w.heap.size + 1, 1, none⟩ (.bool bc)).drew := Bk.drew (Bk.set2 (Bk.set5 hbw6 (Nat.le_refl _) (.int .i64 O) (.int .u8 K) (.int .u8 S) (.int .u32 Q) (.int .u32 V)) (Nat.le_succ _) (.bool ba) (.bool bc))
      have G1 : Blk (((((((X.setCell ⟨w.heap.size, 0, none⟩ (.int .i64 O)).setCell ⟨w.heap.size, 1, none⟩ (.int .u8 K)).setCell ⟨w.heap.size, 2, none⟩ (.int .u8 S)).setCell ⟨w.heap.size, 3, none⟩ (.int .u32 Q)).setCell ⟨w.heap.size, 4, none⟩ (.int .u32 V)).setCell ⟨w.heap.size + 1, 0, none⟩ (.bool ba)).setCell ⟨w.heap.size + 1, 1, none⟩ (.bool bc)).drew w.heap.size #[.int .i64 O, .int .u8 K, .int .u8 S, .int .u32 Q, .int .u32 V] 89 := Blk.drew (((DD1.out.set5 (.int .i64 O) (.int .u8 K) (.int .u8 S) (.int .u32 Q) (.int .u32 V)).other _ 0 (.bool ba) (by omega)).other _ 1 (.bool bc) (by omega))
      have G2 : Blk (((((((X.setCell ⟨w.heap.size, 0, none⟩ (.int .i64 O)).setCell ⟨w.heap.size, 1, none⟩ (.int .u8 K)).setCell ⟨w.heap.size, 2, none⟩ (.int .u8 S)).setCell ⟨w.heap.size, 3, none⟩ (.int .u32 Q)).setCell ⟨w.heap.size, 4, none⟩ (.int .u32 V)).setCell ⟨w.heap.size + 1, 0, none⟩ (.bool ba)).setCell ⟨w.heap.size + 1, 1, none⟩ (.bool bc)).drew (w.heap.size + 1) #[.bool ba, .bool bc] 93 := Blk.drew ((DD2.out.other5 w.heap.size (by omega) (.int .i64 O) (.int .u8 K) (.int .u8 S) (.int .u32 Q) (.int .u32 V)).set2 (.bool ba) (.bool bc))
      generalize (((((((X.setCell ⟨w.heap.size, 0, none⟩ (.int .i64 O)).setCell ⟨w.heap.size, 1, none⟩ (.int .u8 K)).setCell ⟨w.heap.size, 2, none⟩ (.int .u8 S)).setCell ⟨w.heap.size, 3, none⟩ (.int .u32 Q)).setCell ⟨w.heap.size, 4, none⟩ (.int .u32 V)).setCell ⟨w.heap.size + 1, 0, none⟩ (.bool ba)).setCell ⟨w.heap.size + 1, 1, none⟩ (.bool bc)).drew = Z at *
      have z0 := G1.cell 0 (.int .i64 O) rfl
      have z1 := G1.cell 1 (.int .u8 K) rfl
      have z2 := G1.cell 2 (.int .u8 S) rfl
      have z3 := G1.cell 3 (.int .u32 Q) rfl
      have z4 := G1.cell 4 (.int .u32 V) rfl
      have z5 := G2.cell 0 (.bool ba) rfl
      have z6 := G2.cell 1 (.bool bc) rfl
      refine bodyPost_ret (v := .tuple #[.agg #[.int .i64 O, .int .u8 K, .int .u8 S, .int .u32 Q, .int .u32 V], .agg #[.bool ba, .bool bc], .int .i64 E]) (by simp [results, Try.results72, go_sem, z0, z1, z2, z3, z4, z5, z6]) rfl ?_
      exact HFIN.out _ hfin
  · have HOK := Lib.hid (show rdOk xs = false by simp [rdOk, HL.out, h114])
    have hne : ((n : Int) != 114) = true := by simp; omega
    go_enter Try.func72, Try.ntmps72
    go_wp2
    refine bodyPost_ret (v := .tuple #[.agg #[.int .i64 0, .int .u8 0, .int .u8 0, .int .u32 0, .int .u32 0], .agg #[.bool false, .bool false], .int .i64 4]) (by simp [results, Try.results72, go_sem]) rfl ?_
    exact rd_zero HOK.out (by repeat (first | exact Below.refl _ _ | apply Bw.alloc | apply Bw.drewN | apply Bw.drew | (refine Bw.step ?_ (by assumption))))
set_option maxHeartbeats 3200000 in
set_option maxRecDepth 20000 in
theorem refread_calls (A : Option Addr) (n c : Nat) (xs : List Int) (w : World) (hr : Rd w .u8 A n xs) (hc : n ≤ c) (hn : n ≤ 60000) (hcm : c ≤ maxLen) (hx : bytesOk xs) :
    Calls Try.prog 73 #[.slice A n c] w (ReadPost xs w) := by
  have HR := Lib.hid hr
  have HL := Lib.hid hr.len
  have HCM := Lib.hid hcm
  have HX := Lib.hid hx
  clear hr hcm hx
  by_cases h114 : n = 114
  · cases hwh : wholeL xs with
    | false =>
      subst h114
      have HOK := Lib.hid (show rdOk xs = false by simp [rdOk, hwh])
      have HW := Lib.hid hwh
      clear hwh
      go_enter Try.func73, Try.ntmps73
      go_wp2_with fail
      refine (refwhole_calls _ _ _ xs _ (HR.out.below (by repeat (first | exact Below.refl _ _ | apply Bw.alloc | apply Bw.drewN | apply Bw.drew | (refine Bw.step ?_ (by assumption))))) hc hn).mono ?_; rintro e w' ⟨rfl, rfl⟩; rewrite [HW.out]
      go_wp2
      refine bodyPost_ret (v := .tuple #[.agg #[.int .i64 0, .int .u8 0, .int .u8 0, .int .u32 0, .int .u32 0], .agg #[.bool false, .bool false], .int .i64 4]) (by simp [results, Try.results73, go_sem]) rfl ?_
      exact rd_zero HOK.out (by repeat (first | exact Below.refl _ _ | apply Bw.alloc | apply Bw.drewN | apply Bw.drew | (refine Bw.step ?_ (by assumption))))
    | true =>
      subst h114
      have hok : rdOk xs = true := by simp [rdOk, hwh, HL.out]
      obtain ⟨hby, -, hbl, hbo⟩ := rdB_facts hok
      have HOK := Lib.hid hok
      have HBY := Lib.hid hby
      have HBL := Lib.hid hbl
      have HBO := Lib.hid hbo
      have HW := Lib.hid hwh
      have HT := Lib.hid (HR.out.take 112 (by omega))
      obtain ⟨b, o, rfl, hblt, -⟩ := Rv.at_ HR.out (by omega)
      obtain ⟨s2, hs2, -⟩ : ∃ x : Nat, gt xs 112 = x ∧ x ≤ 255 := by
        have := bytesOk_gt HX.out (j := 112) (by rw [HL.out]; omega)
        exact ⟨(gt xs 112).toNat, by omega, by omega⟩
      obtain ⟨s3, hs3, -⟩ : ∃ x : Nat, gt xs 113 = x ∧ x ≤ 255 := by
        have := bytesOk_gt HX.out (j := 113) (by rw [HL.out]; omega)
        exact ⟨(gt xs 113).toNat, by omega, by omega⟩
      obtain ⟨ba, hba⟩ : ∃ ba, ((s2 : Int) == 2) = ba := ⟨_, rfl⟩
      obtain ⟨bc, hbc⟩ : ∃ bc, ((s3 : Int) == 2) = bc := ⟨_, rfl⟩
      have HA := Lib.hid (show (gt xs 112 == 2) = ba by rw [hs2]; exact hba)
      have HC := Lib.hid (show (gt xs 113 == 2) = bc by rw [hs3]; exact hbc)
      have hk2 := gt_cell HR.out 112 s2 (by omega) hs2
      have hk3 := gt_cell HR.out 113 s3 (by omega) hs3
      clear hok hby hbl hbo hwh hs2 hs3
      go_enter Try.func73, Try.ntmps73
      go_wp2_with fail
      refine (refwhole_calls _ _ _ xs _ (HR.out.below (by repeat (first | exact Below.refl _ _ | apply Bw.alloc | apply Bw.drewN | apply Bw.drew | (refine Bw.step ?_ (by assumption))))) hc hn).mono ?_; rintro e w' ⟨rfl, rfl⟩; rewrite [HW.out]
      have hW : Below w.heap.size w ((w.alloc (.cells #[.int .i64 0, .int .u8 0, .int .u8 0, .int .u32 0, .int .u32 0] 85)).alloc (.cells #[.bool false, .bool false] 94)) := (by repeat (first | exact Below.refl _ _ | apply Bw.alloc | apply Bw.drewN | apply Bw.drew | (refine Bw.step ?_ (by assumption))))
      have B1 := Lib.hid (show Blk ((w.alloc (.cells #[.int .i64 0, .int .u8 0, .int .u8 0, .int .u32 0, .int .u32 0] 85)).alloc (.cells #[.bool false, .bool false] 94)) w.heap.size #[.int .i64 0, .int .u8 0, .int .u8 0, .int .u32 0, .int .u32 0] 85 from (Blk.new (w := w) rfl).below (by repeat (first | exact Below.refl _ _ | apply Bw.alloc | apply Bw.drewN | apply Bw.drew | (refine Bw.step ?_ (by assumption)))))
      have B2 := Lib.hid (show Blk ((w.alloc (.cells #[.int .i64 0, .int .u8 0, .int .u8 0, .int .u32 0, .int .u32 0] 85)).alloc (.cells #[.bool false, .bool false] 94)) (w.heap.size + 1) #[.bool false, .bool false] 94 from Blk.new (by simp))
      have HK : Hid (∀ w', Below w.heap.size w w' → w'.cell? ⟨b, o + 112, none⟩ = some (.int .u8 s2) ∧ w'.cell? ⟨b, o + 113, none⟩ = some (.int .u8 s3)) := fun w' h => ⟨(h.cell (p := ⟨b, o + 112, none⟩) hblt).trans hk2, (h.cell (p := ⟨b, o + 113, none⟩) hblt).trans hk3⟩
      clear hk2 hk3
      go_wp2_with fail
      generalize (w.alloc (.cells #[.int .i64 0, .int .u8 0, .int .u8 0, .int .u32 0, .int .u32 0] 85)).alloc (.cells #[.bool false, .bool false] 94) = W at *
      refine (refbytes_calls _ _ _ (xs.take 112) _ (HT.out.below (by repeat (first | exact Below.refl _ _ | apply Bw.alloc | apply Bw.drewN | apply Bw.drew | (refine Bw.step ?_ (by assumption))))) (by omega) (by omega)).mono ?_
      rintro e w4 ⟨A4, m4, c4, rfl, hl4, hc4, hm4, hb4⟩
      rewrite [HBY.out]
      rw [show byV (xs.take 112) = rdB xs from rfl] at hl4 hm4
      rw [HBL.out] at hl4
      subst hl4
      have HBW4 := Lib.hid (show Below W.heap.size W w4 from (by repeat (first | exact Below.refl _ _ | apply Bw.alloc | apply Bw.drewN | apply Bw.drew | (refine Bw.step ?_ (by assumption)))))
      have HC4 := Lib.hid (And.intro hc4 hm4.cap_le)
      have HM4 := Lib.hid hm4
      clear hb4 hm4
      obtain ⟨O, hO⟩ : ∃ O, fO (rdB xs) = O := ⟨_, rfl⟩
      obtain ⟨K, hK⟩ : ∃ K, fK (rdB xs) = K := ⟨_, rfl⟩
      obtain ⟨S, hS⟩ : ∃ S, fS (rdB xs) = S := ⟨_, rfl⟩
      obtain ⟨Q, hQ⟩ : ∃ Q, fQ (rdB xs) = Q := ⟨_, rfl⟩
      obtain ⟨V, hV⟩ : ∃ V, fV (rdB xs) = V := ⟨_, rfl⟩
      obtain ⟨E, hE⟩ : ∃ E, errG (rdB xs) = E := ⟨_, rfl⟩
      have HG : Hid (∀ (w : World), Rd w .u8 A4 14 (rdB xs) → Calls Try.prog 68 #[.slice A4 14 c4] w fun e w' => e = .returned (.tuple #[.agg #[.int .i64 O, .int .u8 K, .int .u8 S, .int .u32 Q, .int .u32 V], .int .i64 E]) ∧ Below w.heap.size w w') := fun w h1 => by
        have h := refget_calls A4 14 c4 (rdB xs) w h1 HC4.out.1 HC4.out.2 HBO.out
        unfold GetPost at h
        rw [hO, hK, hS, hQ, hV, hE] at h
        exact h
      have HFIN := Lib.hid (fun (w' : World) (hb : Below w.heap.size w w') => rd_full (w := w) (w' := w') HOK.out hO hK hS hQ hV HA.out HC.out hE hb)
      clear hO hK hS hQ hV hE
      go_wp2_with fail
      refine (HG.out _ HM4.out.rd).mono ?_; rintro e w6 ⟨rfl, hb6⟩
      have HBX := Lib.hid (show Below W.heap.size W (w6.alloc (.cells #[.int .i64 O, .int .u8 K, .int .u8 S, .int .u32 Q, .int .u32 V] 85)) from Bw.alloc (Bw.step HBW4.out hb6) _)
      have D1 : Blk (w6.alloc (.cells #[.int .i64 O, .int .u8 K, .int .u8 S, .int .u32 Q, .int .u32 V] 85)) w.heap.size #[.int .i64 0, .int .u8 0, .int .u8 0, .int .u32 0, .int .u32 0] 85 := B1.out.below HBX.out
      have D2 : Blk (w6.alloc (.cells #[.int .i64 O, .int .u8 K, .int .u8 S, .int .u32 Q, .int .u32 V] 85)) (w.heap.size + 1) #[.bool false, .bool false] 94 := B2.out.below HBX.out
      have D4 : Blk (w6.alloc (.cells #[.int .i64 O, .int .u8 K, .int .u8 S, .int .u32 Q, .int .u32 V] 85)) w6.heap.size #[.int .i64 O, .int .u8 K, .int .u8 S, .int .u32 Q, .int .u32 V] 85 := Blk.new (w := w6) rfl
      have hbw6 : Below w.heap.size w (w6.alloc (.cells #[.int .i64 O, .int .u8 K, .int .u8 S, .int .u32 Q, .int .u32 V] 85)) := Bw.step hW HBX.out
      have hne1 : w6.heap.size ≠ w.heap.size := by have h1 := hW.size; have h2 := D1.lt; have h3 := (Bw.step HBW4.out hb6).size; have h4 := B1.out.lt; omega
      have hne2 : w6.heap.size ≠ w.heap.size + 1 := by have h3 := (Bw.step HBW4.out hb6).size; have h4 := B2.out.lt; omega
      have a0 := D1.cell 0 (.int .i64 0) rfl
      have a1 := D1.cell 1 (.int .u8 0) rfl
      have a2 := D1.cell 2 (.int .u8 0) rfl
      have a3 := D1.cell 3 (.int .u32 0) rfl
      have a4 := D1.cell 4 (.int .u32 0) rfl
      have af0 := D1.frozen 0
      have af1 := D1.frozen 1
      have af2 := D1.frozen 2
      have af3 := D1.frozen 3
      have af4 := D1.frozen 4
      have e0 := D2.cell 0 (.bool false) rfl
      have e1 := D2.cell 1 (.bool false) rfl
      have ef0 := D2.frozen 0
      have ef1 := D2.frozen 1
      have u0 := D4.cell 0 (.int .i64 O) rfl
      have u1 := D4.cell 1 (.int .u8 K) rfl
      have u2 := D4.cell 2 (.int .u8 S) rfl
      have u3 := D4.cell 3 (.int .u32 Q) rfl
      have u4 := D4.cell 4 (.int .u32 V) rfl
      have DD1 := Lib.hid D1
      have DD2 := Lib.hid D2
      have DD4 := Lib.hid D4
      obtain ⟨i0, i1⟩ := HK.out _ hbw6
      clear D1 D2 D4
      go_wp2_with fail
      clear hb6
      generalize w6.alloc (.cells #[.int .i64 O, .int .u8 K, .int .u8 S, .int .u32 Q, .int .u32 V] 85) = X at *
      have HS0 := Lib.hid (show X.drew.cell? ⟨w6.heap.size, 0, none⟩ = some (.int .i64 O) ∧ X.drew.cell? ⟨w6.heap.size, 1, none⟩ = some (.int .u8 K) ∧ X.drew.cell? ⟨w6.heap.size, 2, none⟩ = some (.int .u8 S) ∧ X.drew.cell? ⟨w6.heap.size, 3, none⟩ = some (.int .u32 Q) ∧ X.drew.cell? ⟨w6.heap.size, 4, none⟩ = some (.int .u32 V) ∧ X.drew.cell? ⟨b, o + 112, none⟩ = some (.int .u8 s2) ∧ X.drew.cell? ⟨b, o + 113, none⟩ = some (.int .u8 s3) from ⟨u0, u1, u2, u3, u4, i0, i1⟩)
      have hb1' : Below w.heap.size w (((((X.setCell ⟨w.heap.size, 0, none⟩ (.int .i64 O)).setCell ⟨w.heap.size, 1, none⟩ (.int .u8 K)).setCell ⟨w.heap.size, 2, none⟩ (.int .u8 S)).setCell ⟨w.heap.size, 3, none⟩ (.int .u32 Q)).setCell ⟨w.heap.size, 4, none⟩ (.int .u32 V)) := Bk.set5 hbw6 (Nat.le_refl _) (.int .i64 O) (.int .u8 K) (.int .u8 S) (.int .u32 Q) (.int .u32 V)
      have hx4 : Blk (((((X.setCell ⟨w.heap.size, 0, none⟩ (.int .i64 O)).setCell ⟨w.heap.size, 1, none⟩ (.int .u8 K)).setCell ⟨w.heap.size, 2, none⟩ (.int .u8 S)).setCell ⟨w.heap.size, 3, none⟩ (.int .u32 Q)).setCell ⟨w.heap.size, 4, none⟩ (.int .u32 V)) w6.heap.size #[.int .i64 O, .int .u8 K, .int .u8 S, .int .u32 Q, .int .u32 V] 85 := DD4.out.other5 w.heap.size (Ne.symm hne1) (.int .i64 O) (.int .u8 K) (.int .u8 S) (.int .u32 Q) (.int .u32 V)
      have HS1 := Lib.hid (show (((((X.setCell ⟨w.heap.size, 0, none⟩ (.int .i64 O)).setCell ⟨w.heap.size, 1, none⟩ (.int .u8 K)).setCell ⟨w.heap.size, 2, none⟩ (.int .u8 S)).setCell ⟨w.heap.size, 3, none⟩ (.int .u32 Q)).setCell ⟨w.heap.size, 4, none⟩ (.int .u32 V)).drew.cell? ⟨w6.heap.size, 0, none⟩ = some (.int .i64 O) ∧ (((((X.setCell ⟨w.heap.size, 0, none⟩ (.int .i64 O)).setCell ⟨w.heap.size, 1, none⟩ (.int .u8 K)).setCell ⟨w.heap.size, 2, none⟩ (.int .u8 S)).setCell ⟨w.heap.size, 3, none⟩ (.int .u32 Q)).setCell ⟨w.heap.size, 4, none⟩ (.int .u32 V)).drew.cell? ⟨w6.heap.size, 1, none⟩ = some (.int .u8 K) ∧ (((((X.setCell ⟨w.heap.size, 0, none⟩ (.int .i64 O)).setCell ⟨w.heap.size, 1, none⟩ (.int .u8 K)).setCell ⟨w.heap.size, 2, none⟩ (.int .u8 S)).setCell ⟨w.heap.size, 3, none⟩ (.int .u32 Q)).setCell ⟨w.heap.size, 4, none⟩ (.int .u32 V)).drew.cell? ⟨w6.heap.size, 2, none⟩ = some (.int .u8 S) ∧ (((((X.setCell ⟨w.heap.size, 0, none⟩ (.int .i64 O)).setCell ⟨w.heap.size, 1, none⟩ (.int .u8 K)).setCell ⟨w.heap.size, 2, none⟩ (.int .u8 S)).setCell ⟨w.heap.size, 3, none⟩ (.int .u32 Q)).setCell ⟨w.heap.size, 4, none⟩ (.int .u32 V)).drew.cell? ⟨w6.heap.size, 3, none⟩ = some (.int .u32 Q) ∧ (((((X.setCell ⟨w.heap.size, 0, none⟩ (.int .i64 O)).setCell ⟨w.heap.size, 1, none⟩ (.int .u8 K)).setCell ⟨w.heap.size, 2, none⟩ (.int .u8 S)).setCell ⟨w.heap.size, 3, none⟩ (.int .u32 Q)).setCell ⟨w.heap.size, 4, none⟩ (.int .u32 V)).drew.cell? ⟨w6.heap.size, 4, none⟩ = some (.int .u32 V) ∧ (((((X.setCell ⟨w.heap.size, 0, none⟩ (.int .i64 O)).setCell ⟨w.heap.size, 1, none⟩ (.int .u8 K)).setCell ⟨w.heap.size, 2, none⟩ (.int .u8 S)).setCell ⟨w.heap.size, 3, none⟩ (.int .u32 Q)).setCell ⟨w.heap.size, 4, none⟩ (.int .u32 V)).drew.cell? ⟨b, o + 112, none⟩ = some (.int .u8 s2) ∧ (((((X.setCell ⟨w.heap.size, 0, none⟩ (.int .i64 O)).setCell ⟨w.heap.size, 1, none⟩ (.int .u8 K)).setCell ⟨w.heap.size, 2, none⟩ (.int .u8 S)).setCell ⟨w.heap.size, 3, none⟩ (.int .u32 Q)).setCell ⟨w.heap.size, 4, none⟩ (.int .u32 V)).drew.cell? ⟨b, o + 113, none⟩ = some (.int .u8 s3) from ⟨hx4.drew.c5.1, hx4.drew.c5.2.1, hx4.drew.c5.2.2.1, hx4.drew.c5.2.2.2.1, hx4.drew.c5.2.2.2.2, (HK.out _ (Bk.drew hb1')).1, (HK.out _ (Bk.drew hb1')).2⟩)
      have hb2' : Below w.heap.size w (((((((X.setCell ⟨w.heap.size, 0, none⟩ (.int .i64 O)).setCell ⟨w.heap.size, 1, none⟩ (.int .u8 K)).setCell ⟨w.heap.size, 2, none⟩ (.int .u8 S)).setCell ⟨w.heap.size, 3, none⟩ (.int .u32 Q)).setCell ⟨w.heap.size, 4, none⟩ (.int .u32 V)).setCell ⟨w.heap.size + 1, 0, none⟩ (.bool ba)).setCell ⟨w.heap.size + 1, 1, none⟩ (.bool bc)) := Bk.set2 hb1' (Nat.le_succ _) (.bool ba) (.bool bc)
      have hy4 : Blk (((((((X.setCell ⟨w.heap.size, 0, none⟩ (.int .i64 O)).setCell ⟨w.heap.size, 1, none⟩ (.int .u8 K)).setCell ⟨w.heap.size, 2, none⟩ (.int .u8 S)).setCell ⟨w.heap.size, 3, none⟩ (.int .u32 Q)).setCell ⟨w.heap.size, 4, none⟩ (.int .u32 V)).setCell ⟨w.heap.size + 1, 0, none⟩ (.bool ba)).setCell ⟨w.heap.size + 1, 1, none⟩ (.bool bc)) w6.heap.size #[.int .i64 O, .int .u8 K, .int .u8 S, .int .u32 Q, .int .u32 V] 85 := (hx4.other (w.heap.size + 1) 0 (.bool ba) (Ne.symm hne2)).other (w.heap.size + 1) 1 (.bool bc) (Ne.symm hne2)
      have HS2 := Lib.hid (show (((((((X.setCell ⟨w.heap.size, 0, none⟩ (.int .i64 O)).setCell ⟨w.heap.size, 1, none⟩ (.int .u8 K)).setCell ⟨w.heap.size, 2, none⟩ (.int .u8 S)).setCell ⟨w.heap.size, 3, none⟩ (.int .u32 Q)).setCell ⟨w.heap.size, 4, none⟩ (.int .u32 V)).setCell ⟨w.heap.size + 1, 0, none⟩ (.bool ba)).setCell ⟨w.heap.size + 1, 1, none⟩ (.bool bc)).drew.cell? ⟨w6.heap.size, 0, none⟩ = some (.int .i64 O) ∧ (((((((X.setCell ⟨w.heap.size, 0, none⟩ (.int .i64 O)).setCell ⟨w.heap.size, 1, none⟩ (.int .u8 K)).setCell ⟨w.heap.size, 2, none⟩ (.int .u8 S)).setCell ⟨w.heap.size, 3, none⟩ (.int .u32 Q)).setCell ⟨w.heap.size, 4, none⟩ (.int .u32 V)).setCell ⟨w.heap.size + 1, 0, none⟩ (.bool ba)).setCell ⟨w.heap.size + 1, 1, none⟩ (.bool bc)).drew.cell? ⟨w6.heap.size, 1, none⟩ = some (.int .u8 K) ∧ (((((((X.setCell ⟨w.heap.size, 0, none⟩ (.int .i64 O)).setCell ⟨w.heap.size, 1, none⟩ (.int .u8 K)).setCell ⟨w.heap.size, 2, none⟩ (.int .u8 S)).setCell ⟨w.heap.size, 3, none⟩ (.int .u32 Q)).setCell ⟨w.heap.size, 4, none⟩ (.int .u32 V)).setCell ⟨w.heap.size + 1, 0, none⟩ (.bool ba)).setCell ⟨w.heap.size + 1, 1, none⟩ (.bool bc)).drew.cell? ⟨w6.heap.size, 2, none⟩ = some (.int .u8 S) ∧ (((((((X.setCell ⟨w.heap.size, 0, none⟩ (.int .i64 O)).setCell ⟨w.heap.size, 1, none⟩ (.int .u8 K)).setCell ⟨w.heap.size, 2, none⟩ (.int .u8 S)).setCell ⟨w.heap.size, 3, none⟩ (.int .u32 Q)).setCell ⟨w.heap.size, 4, none⟩ (.int .u32 V)).setCell ⟨w.heap.size + 1, 0, none⟩ (.bool ba)).setCell ⟨w.heap.size + 1, 1, none⟩ (.bool bc)).drew.cell? ⟨w6.heap.size, 3, none⟩ = some (.int .u32 Q) ∧ (((((((X.setCell ⟨w.heap.size, 0, none⟩ (.int .i64 O)).setCell ⟨w.heap.size, 1, none⟩ (.int .u8 K)).setCell ⟨w.heap.size, 2, none⟩ (.int .u8 S)).setCell ⟨w.heap.size, 3, none⟩ (.int .u32 Q)).setCell ⟨w.heap.size, 4, none⟩ (.int .u32 V)).setCell ⟨w.heap.size + 1, 0, none⟩ (.bool ba)).setCell ⟨w.heap.size + 1, 1, none⟩ (.bool bc)).drew.cell? ⟨w6.heap.size, 4, none⟩ = some (.int .u32 V) ∧ (((((((X.setCell ⟨w.heap.size, 0, none⟩ (.int .i64 O)).setCell ⟨w.heap.size, 1, none⟩ (.int .u8 K)).setCell ⟨w.heap.size, 2, none⟩ (.int .u8 S)).setCell ⟨w.heap.size, 3, none⟩ (.int .u32 Q)).setCell ⟨w.heap.size, 4, none⟩ (.int .u32 V)).setCell ⟨w.heap.size + 1, 0, none⟩ (.bool ba)).setCell ⟨w.heap.size + 1, 1, none⟩ (.bool bc)).drew.cell? ⟨b, o + 112, none⟩ = some (.int .u8 s2) ∧ (((((((X.setCell ⟨w.heap.size, 0, none⟩ (.int .i64 O)).setCell ⟨w.heap.size, 1, none⟩ (.int .u8 K)).setCell ⟨w.heap.size, 2, none⟩ (.int .u8 S)).setCell ⟨w.heap.size, 3, none⟩ (.int .u32 Q)).setCell ⟨w.heap.size, 4, none⟩ (.int .u32 V)).setCell ⟨w.heap.size + 1, 0, none⟩ (.bool ba)).setCell ⟨w.heap.size + 1, 1, none⟩ (.bool bc)).drew.cell? ⟨b, o + 113, none⟩ = some (.int .u8 s3) from ⟨hy4.drew.c5.1, hy4.drew.c5.2.1, hy4.drew.c5.2.2.1, hy4.drew.c5.2.2.2.1, hy4.drew.c5.2.2.2.2, (HK.out _ (Bk.drew hb2')).1, (HK.out _ (Bk.drew hb2')).2⟩)
      clear hx4 hy4 hb1' hb2'
      go_region_held3 (fun w' => w'.cell? ⟨w6.heap.size, 0, none⟩ = some (.int .i64 O) ∧ w'.cell? ⟨w6.heap.size, 1, none⟩ = some (.int .u8 K) ∧ w'.cell? ⟨w6.heap.size, 2, none⟩ = some (.int .u8 S) ∧ w'.cell? ⟨w6.heap.size, 3, none⟩ = some (.int .u32 Q) ∧ w'.cell? ⟨w6.heap.size, 4, none⟩ = some (.int .u32 V) ∧ w'.cell? ⟨b, o + 112, none⟩ = some (.int .u8 s2) ∧ w'.cell? ⟨b, o + 113, none⟩ = some (.int .u8 s3)) (first | (with_reducible exact HS0.out) | (with_reducible exact HS1.out) | (with_reducible exact HS2.out)) (fail)
      go_wp2
      have hfin : Below w.heap.size w (((((((X.setCell ⟨w.heap.size, 0, none⟩ (.int .i64 O)).setCell ⟨w.heap.size, 1, none⟩ (.int .u8 K)).setCell ⟨w.heap.size, 2, none⟩ (.int .u8 S)).setCell ⟨w.heap.size, 3, none⟩ (.int .u32 Q)).setCell ⟨w.heap.size, 4, none⟩ (.int .u32 V)).setCell ⟨w.heap.size + 1, 0, none⟩ (.bool ba)).setCell ⟨w.heap.size + 1, 1, none⟩ (.bool bc)).drew := Bk.drew (Bk.set2 (Bk.set5 hbw6 (Nat.le_refl _) (.int .i64 O) (.int .u8 K) (.int .u8 S) (.int .u32 Q) (.int .u32 V)) (Nat.le_succ _) (.bool ba) (.bool bc))
      have G1 : Blk (((((((X.setCell ⟨w.heap.size, 0, none⟩ (.int .i64 O)).setCell ⟨w.heap.size, 1, none⟩ (.int .u8 K)).setCell ⟨w.heap.size, 2, none⟩ (.int .u8 S)).setCell ⟨w.heap.size, 3, none⟩ (.int .u32 Q)).setCell ⟨w.heap.size, 4, none⟩ (.int .u32 V)).setCell ⟨w.heap.size + 1, 0, none⟩ (.bool ba)).setCell ⟨w.heap.size + 1, 1, none⟩ (.bool bc)).drew w.heap.size #[.int .i64 O, .int .u8 K, .int .u8 S, .int .u32 Q, .int .u32 V] 85 := Blk.drew (((DD1.out.set5 (.int .i64 O) (.int .u8 K) (.int .u8 S) (.int .u32 Q) (.int .u32 V)).other _ 0 (.bool ba) (by omega)).other _ 1 (.bool bc) (by omega))
      have G2 : Blk (((((((X.setCell ⟨w.heap.size, 0, none⟩ (.int .i64 O)).setCell ⟨w.heap.size, 1, none⟩ (.int .u8 K)).setCell ⟨w.heap.size, 2, none⟩ (.int .u8 S)).setCell ⟨w.heap.size, 3, none⟩ (.int .u32 Q)).setCell ⟨w.heap.size, 4, none⟩ (.int .u32 V)).setCell ⟨w.heap.size + 1, 0, none⟩ (.bool ba)).setCell ⟨w.heap.size + 1, 1, none⟩ (.bool bc)).drew (w.heap.size + 1) #[.bool ba, .bool bc] 94 := Blk.drew ((DD2.out.other5 w.heap.size (by omega) (.int .i64 O) (.int .u8 K) (.int .u8 S) (.int .u32 Q) (.int .u32 V)).set2 (.bool ba) (.bool bc))
      generalize (((((((X.setCell ⟨w.heap.size, 0, none⟩ (.int .i64 O)).setCell ⟨w.heap.size, 1, none⟩ (.int .u8 K)).setCell ⟨w.heap.size, 2, none⟩ (.int .u8 S)).setCell ⟨w.heap.size, 3, none⟩ (.int .u32 Q)).setCell ⟨w.heap.size, 4, none⟩ (.int .u32 V)).setCell ⟨w.heap.size + 1, 0, none⟩ (.bool ba)).setCell ⟨w.heap.size + 1, 1, none⟩ (.bool bc)).drew = Z at *
      have z0 := G1.cell 0 (.int .i64 O) rfl
      have z1 := G1.cell 1 (.int .u8 K) rfl
      have z2 := G1.cell 2 (.int .u8 S) rfl
      have z3 := G1.cell 3 (.int .u32 Q) rfl
      have z4 := G1.cell 4 (.int .u32 V) rfl
      have z5 := G2.cell 0 (.bool ba) rfl
      have z6 := G2.cell 1 (.bool bc) rfl
      refine bodyPost_ret (v := .tuple #[.agg #[.int .i64 O, .int .u8 K, .int .u8 S, .int .u32 Q, .int .u32 V], .agg #[.bool ba, .bool bc], .int .i64 E]) (by simp [results, Try.results73, go_sem, z0, z1, z2, z3, z4, z5, z6]) rfl ?_
      exact HFIN.out _ hfin
  · have HOK := Lib.hid (show rdOk xs = false by simp [rdOk, HL.out, h114])
    have hne : ((n : Int) != 114) = true := by simp; omega
    go_enter Try.func73, Try.ntmps73
    go_wp2
    refine bodyPost_ret (v := .tuple #[.agg #[.int .i64 0, .int .u8 0, .int .u8 0, .int .u32 0, .int .u32 0], .agg #[.bool false, .bool false], .int .i64 4]) (by simp [results, Try.results73, go_sem]) rfl ?_
    exact rd_zero HOK.out (by repeat (first | exact Below.refl _ _ | apply Bw.alloc | apply Bw.drewN | apply Bw.drew | (refine Bw.step ?_ (by assumption))))
end Go.Proofs.Ytnmhhjgiakijgaa
