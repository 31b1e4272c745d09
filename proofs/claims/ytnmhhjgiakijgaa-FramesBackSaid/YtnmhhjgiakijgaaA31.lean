/- The frame of bytes: its contract. -/
import Derived.Test.YtnmhhjgiakijgaaA30
namespace Go.Proofs.Ytnmhhjgiakijgaa
open Go.RowKit
set_option linter.unusedVariables false

def gO (l : List Int) : Nat := (gt l 0).toNat % 16
def gK (l : List Int) : Nat := (gt l 0).toNat / 16
def gS (l : List Int) : Nat := (gt l 1).toNat
/-- are these the bytes of a frame? -/
def okB (l : List Int) : Bool := decide (l.length = 14) && chkB l && mayB (gO l : Int) (gK l)
def fO (l : List Int) : Nat := if okB l = true then gO l else 0
def fK (l : List Int) : Nat := if okB l = true then gK l else 0
def fS (l : List Int) : Nat := if okB l = true then gS l else 0
def fQ (l : List Int) : Nat := if okB l = true then numAt l 2 4 else 0
def fV (l : List Int) : Nat := if okB l = true then numAt l 6 4 else 0
/-- what is wrong first -/
def errG (l : List Int) : Int := if l.length = 14 then (if chkB l = true then (if mayB (gO l : Int) (gK l) = true then 0 else 4) else 5) else 4
/-- what 'Get' answers -/
def GetPost (l : List Int) (w : World) (e : Ending) (w' : World) : Prop :=
  e = .returned (.tuple #[.agg #[.int .i64 (fO l), .int .u8 (fK l), .int .u8 (fS l), .int .u32 (fQ l), .int .u32 (fV l)], .int .i64 (errG l)]) ∧ Below w.heap.size w w'
theorem zeroG {l : List Int} (h : okB l = false) : fO l = 0 ∧ fK l = 0 ∧ fS l = 0 ∧ fQ l = 0 ∧ fV l = 0 := by simp [fO, fK, fS, fQ, fV, h]
theorem fullG {l : List Int} (h : okB l = true) : fO l = gO l ∧ fK l = gK l ∧ fS l = gS l ∧ fQ l = numAt l 2 4 ∧ fV l = numAt l 6 4 := by simp [fO, fK, fS, fQ, fV, h]
theorem numAt_take (l : List Int) (off m : Nat) : ∀ k, off + k ≤ m → numAt (l.take m) off k = numAt l off k := by
  intro k
  induction k with
  | zero => intro _; rfl
  | succ k ih =>
    intro hk
    show numAt _ off k * 256 + _ = numAt l off k * 256 + _
    rw [ih (by omega)]
    congr 2
    unfold gt
    rw [List.getD_eq_getElem?_getD, List.getD_eq_getElem?_getD, List.getElem?_take, if_pos (by omega)]
theorem gt_take (l : List Int) (m j : Nat) (h : j < m) : gt (l.take m) j = gt l j := by
  unfold gt
  rw [List.getD_eq_getElem?_getD, List.getD_eq_getElem?_getD, List.getElem?_take, if_pos h]
/-- a block, whole -/
def Blk (w : World) (g : Nat) (cur : Array Value) (e : TypeId) : Prop := w.heap[g]? = some (.cells cur e (0, 0))
theorem Blk.new {w : World} {cs : Array Value} {e : TypeId} {a : Nat} (ha : a = w.heap.size) : Blk (w.alloc (.cells cs e)) a cs e := by subst ha; exact heap_alloc_new w _
theorem Blk.lt {w : World} {g : Nat} {cur : Array Value} {e : TypeId} (h : Blk w g cur e) : g < w.heap.size := (Array.getElem?_eq_some_iff.1 h).1
theorem Blk.below {w w' : World} {g : Nat} {cur : Array Value} {e : TypeId} (h : Blk w g cur e) (hb : Below w.heap.size w w') : Blk w' g cur e := (hb.block g h.lt).trans h
theorem Blk.cell {w : World} {g : Nat} {cur : Array Value} {e : TypeId} (h : Blk w g cur e) (j : Nat) (v : Value) (hv : cur[j]? = some v) : w.cell? ⟨g, j, none⟩ = some v := (cell_of_row w g j cur e (0, 0) h).trans hv
theorem Blk.frozen {w : World} {g : Nat} {cur : Array Value} {e : TypeId} (h : Blk w g cur e) (j : Nat) : w.frozen? ⟨g, j, none⟩ = false := by simp [World.frozen?, show w.heap[g]? = _ from h]
theorem Blk.set {w : World} {g : Nat} {cur : Array Value} {e : TypeId} (h : Blk w g cur e) (j : Nat) (v : Value) : Blk (w.setCell ⟨g, j, none⟩ v) g (cur.setIfInBounds j v) e := setCell_row w g j v cur e h
theorem Bk.drew {B : Nat} {w W : World} (h : Below B w W) : Below B w W.drew := ⟨h.os, h.tape, h.output, h.size, h.block⟩
theorem Bk.drewN {B : Nat} {w W : World} (h : Below B w W) (n : Nat) : Below B w (W.drewN n) := ⟨h.os, h.tape, h.output, h.size, h.block⟩

set_option maxHeartbeats 3200000 in
set_option maxRecDepth 20000 in
theorem get_calls (A : Option Addr) (n c : Nat) (l : List Int) (w : World) (hr : Rd w .u8 A n l) (hc : n ≤ c) (hcm : c ≤ maxLen) (hb : bytesOk l) :
    Calls Try.prog 67 #[.slice A n c] w (GetPost l w) := by
  have hl := hr.len
  by_cases h14 : n = 14
  · subst h14
    have HR := Lib.hid hr
    have HL := Lib.hid hl
    have HB := Lib.hid hb
    clear hr hl hb
    cases hck : chkB l with
    | false =>
      have hok : okB l = false := by simp [okB, hck]
      have HZ := Lib.hid (zeroG hok)
      have HE := Lib.hid (show errG l = 5 by unfold errG; rw [if_pos HL.out, hck]; rfl)
      have HCK := Lib.hid hck
      clear hck hok
      go_enter Try.func67, Try.ntmps67
      go_wp2_with fail
      refine (check_calls _ _ l _ (HR.out.below (by repeat (first | exact Below.refl _ _ | apply Bw.alloc | apply Bw.drewN | apply Bw.drew | (refine Bw.step ?_ (by assumption))))) hc hcm HB.out).mono ?_
      rintro e w1 (⟨h, -⟩ | ⟨-, rfl, hb1⟩)
      · rw [HCK.out] at h; cases h
      have hB : Blk w1 w.heap.size #[.int .i64 0, .int .u8 0, .int .u8 0, .int .u32 0, .int .u32 0] 89 := (Blk.new (w := w) rfl).below hb1
      have c0 := hB.cell 0 (.int .i64 0) rfl
      have c1 := hB.cell 1 (.int .u8 0) rfl
      have c2 := hB.cell 2 (.int .u8 0) rfl
      have c3 := hB.cell 3 (.int .u32 0) rfl
      have c4 := hB.cell 4 (.int .u32 0) rfl
      have f0 := hB.frozen 0
      have f1 := hB.frozen 1
      have f2 := hB.frozen 2
      have f3 := hB.frozen 3
      have f4 := hB.frozen 4
      go_wp2
      refine bodyPost_ret (v := .tuple #[.agg #[.int .i64 0, .int .u8 0, .int .u8 0, .int .u32 0, .int .u32 0], .int .i64 5]) (by simp [results, Try.results67, go_sem, *]) rfl ?_
      obtain ⟨z1, z2, z3, z4, z5⟩ := HZ.out
      refine ⟨by rw [z1, z2, z3, z4, z5, HE.out]; rfl, ?_⟩
      exact (by repeat (first | exact Below.refl _ _ | apply Bw.alloc | apply Bw.drewN | apply Bw.drew | (refine Below.setCell ?_ (by first | exact Nat.le_refl _ | omega | (simp; omega)) _) | (refine Bw.step ?_ (by assumption))))
    | true =>
      have HCK := Lib.hid hck
      clear hck
      go_enter Try.func67, Try.ntmps67
      go_wp2_with fail
      refine (check_calls _ _ l _ (HR.out.below (by repeat (first | exact Below.refl _ _ | apply Bw.alloc | apply Bw.drewN | apply Bw.drew | (refine Bw.step ?_ (by assumption))))) hc hcm HB.out).mono ?_
      rintro e w1 (⟨-, A1, rfl, hm1, hb1⟩ | ⟨h, -, -⟩)
      rotate_left
      · rw [HCK.out] at h; cases h
      have hB : Blk w1 w.heap.size #[.int .i64 0, .int .u8 0, .int .u8 0, .int .u32 0, .int .u32 0] 89 := (Blk.new (w := w) rfl).below hb1
      have hbw1 : Below w.heap.size w w1 := (by repeat (first | exact Below.refl _ _ | apply Bw.alloc | apply Bw.drewN | apply Bw.drew | (refine Bw.step ?_ (by assumption))))
      obtain ⟨g, rfl⟩ := hm1.ex (by omega)
      have hglt := (hm1.block (g := g) rfl).2
      have hgw : w.heap.size < g := by have := (hm1.block (g := g) rfl).1; simp at this; omega
      obtain ⟨x0, hx0, hx0l⟩ : ∃ x : Nat, gt l 0 = x ∧ x ≤ 255 := by
        have := bytesOk_gt HB.out (j := 0) (by rw [HL.out]; omega)
        exact ⟨(gt l 0).toNat, by omega, by omega⟩
      obtain ⟨x1, hx1, hx1l⟩ : ∃ x : Nat, gt l 1 = x ∧ x ≤ 255 := by
        have := bytesOk_gt HB.out (j := 1) (by rw [HL.out]; omega)
        exact ⟨(gt l 1).toNat, by omega, by omega⟩
      have hc0 : w1.cell? ⟨g, 0, none⟩ = some (.int .u8 x0) := by
        have := (hm1.cellV 0 _ (nums_get .u8 (l.take 10) 0 (by rw [List.length_take, HL.out]; omega))).1
        rwa [gt_take _ _ _ (by omega), hx0] at this
      have hc1 : w1.cell? ⟨g, 1, none⟩ = some (.int .u8 x1) := by
        have := (hm1.cellV 1 _ (nums_get .u8 (l.take 10) 1 (by rw [List.length_take, HL.out]; omega))).1
        rwa [gt_take _ _ _ (by omega), hx1] at this
      obtain ⟨y, hy⟩ : ∃ y, y = gO l := ⟨_, rfl⟩
      obtain ⟨z, hz⟩ : ∃ z, z = gK l := ⟨_, rfl⟩
      have hyx : y = x0 % 16 := by rw [hy, gO, hx0]; rfl
      have hzx : z = x0 / 16 := by rw [hz, gK, hx0]; rfl
      have hm16 : (x0 : Int) % 16 = (y : Int) := by omega
      have hm16' : (x0 : Int).tmod 16 = (y : Int) := by rw [Int.tmod_eq_emod_of_nonneg (by omega)]; exact hm16
      have hd16 : (x0 : Int) / 16 = (z : Int) := by omega
      have hd16' : (x0 : Int).tdiv 16 = (z : Int) := by rw [Int.tdiv_eq_ediv_of_nonneg (by omega)]; exact hd16
      have hyl : y ≤ 15 := by omega
      have hzl : z ≤ 15 := by omega
      have HRD := Lib.hid hm1.rd
      have HX1 := Lib.hid (show gS l = x1 by unfold gS; rw [hx1]; rfl)
      have HY := Lib.hid hy
      have HZ := Lib.hid hz
      have HBK := Lib.hid hB
      clear hx0 hx1 hy hz hyx hzx hm1 hb1 hB
      go_wp2
      obtain ⟨q, hq⟩ : ∃ q, q = numAt l 2 4 := ⟨_, rfl⟩
      obtain ⟨v, hv⟩ : ∃ v, v = numAt l 6 4 := ⟨_, rfl⟩
      have hq1 : numAt (((l.take 10).drop 2).take 4) 0 4 = q := by rw [numAt_sub _ 2 4 (Nat.le_refl _) (by rw [List.length_take, HL.out]; omega), numAt_take _ _ _ _ (by omega), hq]
      have hv1 : numAt (((l.take 10).drop 6).take 4) 0 4 = v := by rw [numAt_sub _ 6 4 (Nat.le_refl _) (by rw [List.length_take, HL.out]; omega), numAt_take _ _ _ _ (by omega), hv]
      have hql : q < 4294967296 := by rw [hq]; exact numAt_lt l 2 HB.out 4 (by rw [HL.out]; omega)
      have hvl : v < 4294967296 := by rw [hv]; exact numAt_lt l 6 HB.out 4 (by rw [HL.out]; omega)
      have HQ := Lib.hid hq
      have HV := Lib.hid hv
      have HN2 : Hid (∀ w', Below w1.heap.size w1 w' → Calls Try.prog 128 #[.slice (some ⟨g, 2, none⟩) 4 8] w' fun e w'' => e = .returned (.int .u32 q) ∧ w' = w'') := fun w' h => by
        rw [← hq1]
        exact number_calls _ 8 _ w' ((by simpa using (Rd.sub HRD.out 2 4 (by omega)) : Rd w1 .u8 (some ⟨g, 2, none⟩) 4 (((l.take 10).drop 2).take 4)).below h) (by omega) (fun x hx => HB.out x (List.mem_of_mem_take (List.mem_of_mem_drop (List.mem_of_mem_take hx))))
      have HN6 : Hid (∀ w', Below w1.heap.size w1 w' → Calls Try.prog 128 #[.slice (some ⟨g, 6, none⟩) 4 4] w' fun e w'' => e = .returned (.int .u32 v) ∧ w' = w'') := fun w' h => by
        rw [← hv1]
        exact number_calls _ 4 _ w' ((by simpa using (Rd.sub HRD.out 6 4 (by omega)) : Rd w1 .u8 (some ⟨g, 6, none⟩) 4 (((l.take 10).drop 6).take 4)).below h) (by omega) (fun x hx => HB.out x (List.mem_of_mem_take (List.mem_of_mem_drop (List.mem_of_mem_take hx))))
      have HK : Hid (∀ w', Below w1.heap.size w1 w' → w'.cell? ⟨g, 0, none⟩ = some (.int .u8 x0) ∧ w'.cell? ⟨g, 1, none⟩ = some (.int .u8 x1)) := fun w' h =>
        ⟨(h.cell (p := ⟨g, 0, none⟩) hglt).trans hc0, (h.cell (p := ⟨g, 1, none⟩) hglt).trans hc1⟩
      have HG := Lib.hid (And.intro hglt hgw)
      have hwz : IntKind.u8.wrap (z : Int) = (z : Int) := by rw [show IntKind.u8.wrap (z : Int) = (z : Int) % 256 from rfl]; omega
      clear hq hv hq1 hv1 hc0 hc1 hglt hgw
      go_region_held3 (fun w' => w'.cell? ⟨g, 0, none⟩ = some (.int .u8 x0) ∧ w'.cell? ⟨g, 1, none⟩ = some (.int .u8 x1)) (first | assumption | exact HK.out _ (by repeat (first | exact Below.refl _ _ | apply Bw.alloc | apply Bw.drewN | apply Bw.drew | (refine Bw.step ?_ (by assumption)))))
        (first
          | (go_at_call 128; (with_reducible refine (HN2.out _ ?hb).mono ?_); (case hb => exact (by repeat (first | exact Below.refl _ _ | apply Bw.alloc | apply Bw.drewN | apply Bw.drew | (refine Bw.step ?_ (by assumption))))); rintro e w' ⟨rfl, rfl⟩)
          | (go_at_call 128; (with_reducible refine (HN6.out _ ?hb).mono ?_); (case hb => exact (by repeat (first | exact Below.refl _ _ | apply Bw.alloc | apply Bw.drewN | apply Bw.drew | (refine Bw.step ?_ (by assumption))))); rintro e w' ⟨rfl, rfl⟩))
      all_goals
        go_wp2_with fail
        refine (may_calls (y : Int) z x1 q v _).mono ?_; rintro e w3 ⟨rfl, hb3⟩
        have hB0 : Blk w3 w.heap.size #[.int .i64 0, .int .u8 0, .int .u8 0, .int .u32 0, .int .u32 0] 89 := HBK.out.below (show Below w1.heap.size w1 w3 from (by repeat (first | exact Below.refl _ _ | apply Bw.alloc | apply Bw.drewN | apply Bw.drew | (refine Bw.step ?_ (by assumption)))))
        have hB1 : Blk w3 w1.heap.size #[.int .i64 y, .int .u8 z, .int .u8 x1, .int .u32 q, .int .u32 v] 89 := (show Blk (w1.alloc (.cells #[.int .i64 y, .int .u8 z, .int .u8 x1, .int .u32 q, .int .u32 v] 89)).drew w1.heap.size #[.int .i64 y, .int .u8 z, .int .u8 x1, .int .u32 q, .int .u32 v] 89 from Blk.new (w := w1) rfl).below hb3
        have hbw3 : Below w.heap.size w w3 := (by repeat (first | exact Below.refl _ _ | apply Bw.alloc | apply Bw.drewN | apply Bw.drew | (refine Bw.step ?_ (by assumption))))
        clear hb3
        have c0 := hB0.cell 0 (.int .i64 0) rfl
        have c1 := hB0.cell 1 (.int .u8 0) rfl
        have c2 := hB0.cell 2 (.int .u8 0) rfl
        have c3 := hB0.cell 3 (.int .u32 0) rfl
        have c4 := hB0.cell 4 (.int .u32 0) rfl
        have f0 := hB0.frozen 0
        have f1 := hB0.frozen 1
        have f2 := hB0.frozen 2
        have f3 := hB0.frozen 3
        have f4 := hB0.frozen 4
        have d0 := hB1.cell 0 (.int .i64 y) rfl
        have d1 := hB1.cell 1 (.int .u8 z) rfl
        have d2 := hB1.cell 2 (.int .u8 x1) rfl
        have d3 := hB1.cell 3 (.int .u32 q) rfl
        have d4 := hB1.cell 4 (.int .u32 v) rfl
        clear hB0 hB1
        cases hmay : mayB (y : Int) z with
        | false =>
          have hmg : mayB (gO l : Int) (gK l) = false := by rw [← HY.out, ← HZ.out]; exact hmay
          have HZZ := Lib.hid (zeroG (show okB l = false by simp [okB, hmg]))
          have HE := Lib.hid (show errG l = 4 by unfold errG; rw [if_pos HL.out, if_pos HCK.out, hmg]; rfl)
          clear hmg hmay
          go_wp2
          refine bodyPost_ret (v := .tuple #[.agg #[.int .i64 0, .int .u8 0, .int .u8 0, .int .u32 0, .int .u32 0], .int .i64 4]) (by simp [results, Try.results67, go_sem, *]) rfl ?_
          obtain ⟨z1, z2, z3, z4, z5⟩ := HZZ.out
          refine ⟨by rw [z1, z2, z3, z4, z5, HE.out]; rfl, ?_⟩
          exact (by repeat (first | exact Below.refl _ _ | apply Bw.alloc | apply Bw.drewN | apply Bw.drew | (refine Below.setCell ?_ (by first | exact Nat.le_refl _ | omega | (simp; omega)) _) | (refine Bw.step ?_ (by assumption))))
        | true =>
          have hmg : mayB (gO l : Int) (gK l) = true := by rw [← HY.out, ← HZ.out]; exact hmay
          have HZZ := Lib.hid (fullG (show okB l = true by simp [okB, hmg, HL.out, HCK.out]))
          have HE := Lib.hid (show errG l = 0 by unfold errG; rw [if_pos HL.out, if_pos HCK.out, if_pos hmg])
          clear hmg hmay
          go_wp2
          refine bodyPost_ret (v := .tuple #[.agg #[.int .i64 y, .int .u8 z, .int .u8 x1, .int .u32 q, .int .u32 v], .int .i64 0]) (by simp [results, Try.results67, go_sem, *]) rfl ?_
          obtain ⟨z1, z2, z3, z4, z5⟩ := HZZ.out
          refine ⟨by rw [z1, z2, z3, z4, z5, HE.out, ← HY.out, ← HZ.out, HX1.out, ← HQ.out, ← HV.out], ?_⟩
          exact (by repeat (first | exact Below.refl _ _ | apply Bw.alloc | apply Bw.drewN | apply Bw.drew | (refine Below.setCell ?_ (by first | exact Nat.le_refl _ | omega | (simp; omega)) _) | (refine Bw.step ?_ (by assumption))))
  · have hok : okB l = false := by simp [okB, hl, h14]
    have HZ := Lib.hid (zeroG hok)
    have HE := Lib.hid (show errG l = 4 by unfold errG; rw [if_neg (by rw [hl]; exact h14)])
    have hne : ((n : Int) != 14) = true := by simp; omega
    clear hok hr hl hb
    go_enter Try.func67, Try.ntmps67
    go_wp2
    refine bodyPost_ret (v := .tuple #[.agg #[.int .i64 0, .int .u8 0, .int .u8 0, .int .u32 0, .int .u32 0], .int .i64 4]) (by simp [results, Try.results67, go_sem]) rfl ?_
    obtain ⟨z1, z2, z3, z4, z5⟩ := HZ.out
    exact ⟨by rw [z1, z2, z3, z4, z5, HE.out]; rfl, (by repeat (first | exact Below.refl _ _ | apply Bw.alloc | apply Bw.drewN | apply Bw.drew | (refine Bw.step ?_ (by assumption))))⟩
end Go.Proofs.Ytnmhhjgiakijgaa
