/- The bytes of a frame: their contract. -/
import Derived.Test.YtnmhhjgiakijgaaA25
namespace Go.Proofs.Ytnmhhjgiakijgaa
open Go.RowKit
set_option linter.unusedVariables false

/-- what 'Put' answers -/
def PutPost (o : Int) (k s q v : Nat) (w : World) (e : Ending) (w' : World) : Prop :=
  ∃ A, e = .returned (.tuple #[.slice A (frP o k s q v).length (frP o k s q v).length, .int .i64 (errP o k)]) ∧ Mn w' w.heap.size 5 1 (.slice A (frP o k s q v).length (frP o k s q v).length) (frP o k s q v).length (nums .u8 (frP o k s q v)) ∧ Below w.heap.size w w'

theorem be4_beTo (s : Nat) : be4 s = beTo s 0 := be4_at s
theorem frB_flat (o : Int) (k s q v : Nat) : [frH o k s, be4 q, be4 v].flatten = frB o k s q v := by
  simp [frB, be4_beTo]

set_option maxHeartbeats 6400000 in
set_option maxRecDepth 20000 in
theorem put5_calls (o : Int) (k s q v : Nat) (w : World) (hs : s ≤ 255) (hq : q < 4294967296) (hv : v < 4294967296) :
    Calls Try.prog 57 #[.agg #[.int .i64 o, .int .u8 k, .int .u8 s, .int .u32 q, .int .u32 v]] w (PutPost o k s q v w) := by
  cases hm : mayB o k with
  | false =>
    have HM := Lib.hid hm
    have HE := Lib.hid (show frP o k s q v = [] ∧ errP o k = 1 by simp [frP, errP, hm])
    clear hm
    go_enter Try.func57, Try.ntmps57
    go_wp2_with fail
    refine (may_calls o k s q v _).mono ?_; rintro e w1 ⟨rfl, hb1⟩
    rewrite [HM.out]
    go_wp2
    go_ret2
    refine ⟨none, ?_, ?_, (by repeat (first | exact Below.refl _ _ | apply Bw.alloc | apply Bw.drewN | apply Bw.drew | (refine Bw.step ?_ (by assumption))))⟩ <;> rw [HE.out.1] <;> first | exact Mn.nil _ _ _ _ | (rw [HE.out.2]; rfl)
  | true =>
    have HM := Lib.hid hm
    have HE := Lib.hid (show frP o k s q v = putS (frB o k s q v) ∧ errP o k = 0 by simp [frP, errP, hm])
    have HOK := Lib.hid (frB_ok o k s q v hm hs)
    have HFL := Lib.hid (frB_flat o k s q v)
    obtain ⟨h1, h2, h3⟩ := mayB_true hm
    have hk2 : k ≤ 2 := by omega
    have HH := Lib.hid (show bytesOk (frH o k s) from by
      intro x hx
      simp only [frH, List.mem_cons, List.not_mem_nil, or_false] at hx
      rcases hx with rfl | rfl <;> omega)
    clear hm h3
    go_enter Try.func57, Try.ntmps57
    go_wp2_with fail
    refine (may_calls o k s q v _).mono ?_; rintro e W ⟨rfl, hbW⟩
    rewrite [HM.out]
    have hKq : W.cell? ⟨w.heap.size, 3, none⟩ = some (.int .u32 q) := by rw [hbW.cell (p := ⟨w.heap.size, 3, none⟩) (by simp)]; simp [go_sem]
    have hKv : W.cell? ⟨w.heap.size, 4, none⟩ = some (.int .u32 v) := by rw [hbW.cell (p := ⟨w.heap.size, 4, none⟩) (by simp)]; simp [go_sem]
    have hKk : W.cell? ⟨w.heap.size, 1, none⟩ = some (.int .u8 k) := by rw [hbW.cell (p := ⟨w.heap.size, 1, none⟩) (by simp)]; simp [go_sem]
    have hKo : W.cell? ⟨w.heap.size, 0, none⟩ = some (.int .i64 o) := by rw [hbW.cell (p := ⟨w.heap.size, 0, none⟩) (by simp)]; simp [go_sem]
    have hKs : W.cell? ⟨w.heap.size, 2, none⟩ = some (.int .u8 s) := by rw [hbW.cell (p := ⟨w.heap.size, 2, none⟩) (by simp)]; simp [go_sem]
    have hlt : w.heap.size < W.heap.size := by have := hbW.size; simp at this; omega
    have HK : Hid (∀ w', Below W.heap.size W w' → w'.cell? ⟨w.heap.size, 0, none⟩ = some (.int .i64 o) ∧ w'.cell? ⟨w.heap.size, 1, none⟩ = some (.int .u8 k) ∧ w'.cell? ⟨w.heap.size, 2, none⟩ = some (.int .u8 s) ∧ w'.cell? ⟨w.heap.size, 3, none⟩ = some (.int .u32 q) ∧ w'.cell? ⟨w.heap.size, 4, none⟩ = some (.int .u32 v)) := fun w' h =>
      ⟨(h.cell (p := ⟨w.heap.size, 0, none⟩) hlt).trans hKo, (h.cell (p := ⟨w.heap.size, 1, none⟩) hlt).trans hKk, (h.cell (p := ⟨w.heap.size, 2, none⟩) hlt).trans hKs, (h.cell (p := ⟨w.heap.size, 3, none⟩) hlt).trans hKq, (h.cell (p := ⟨w.heap.size, 4, none⟩) hlt).trans hKv⟩
    have HBW : Below w.heap.size w W := (by repeat (first | exact Below.refl _ _ | apply Bw.alloc | apply Bw.drewN | apply Bw.drew | (refine Bw.step ?_ (by assumption))))
    have HFQ := Lib.hid (fun w => four_calls q w hq)
    have HFV := Lib.hid (fun w => four_calls v w hv)
    clear hKq hKv hKk hKo hKs hbW hlt
    have hw1 : IntKind.i64.wrap (k : Int) = k := IntWalk.i64_in _ (by omega)
    have hw2 : IntKind.i64.wrap (16 * (k : Int)) = 16 * (k : Int) := IntWalk.i64_in _ (by omega)
    have hw3 : IntKind.i64.wrap (16 * (k : Int) + o) = 16 * (k : Int) + o := IntWalk.i64_in _ (by omega)
    have hw4 : IntKind.u8.wrap (16 * (k : Int) + o) = 16 * (k : Int) + o := by rw [show IntKind.u8.wrap (16 * (k : Int) + o) = (16 * (k : Int) + o) % 256 from rfl]; omega
    go_wp2_with fail
    go_region_held3 (fun w' => w'.cell? ⟨w.heap.size, 0, none⟩ = some (.int .i64 o) ∧ w'.cell? ⟨w.heap.size, 1, none⟩ = some (.int .u8 k) ∧ w'.cell? ⟨w.heap.size, 2, none⟩ = some (.int .u8 s) ∧ w'.cell? ⟨w.heap.size, 3, none⟩ = some (.int .u32 q) ∧ w'.cell? ⟨w.heap.size, 4, none⟩ = some (.int .u32 v)) (first | assumption | exact HK.out _ (by repeat (first | exact Below.refl _ _ | apply Bw.alloc | apply Bw.drewN | apply Bw.drew | (refine Bw.step ?_ (by assumption)))))
      (first
        | (go_at_call 120; (with_reducible refine (HFQ.out _).mono ?_); rintro e w8 ⟨A8, rfl, hm8, hb8⟩)
        | (go_at_call 120; (with_reducible refine (HFV.out _).mono ?_); rintro e w9 ⟨A9, rfl, hm9, hb9⟩)
        | (go_at_call 119
           refine (sumput_calls _ 3 3 [frH o k s, be4 q, be4 v] _ (Parts.lit (by simp) [(_, frH o k s), (_, be4 q), (_, be4 v)] (by
             intro r hr
             rcases List.mem_cons.1 hr with rfl | hr
             · exact ⟨_, 2, 2, rfl, by omega, by omega, (by first | exact rd_cells rfl (frH o k s) | exact (rd_cells (w := W) rfl (frH o k s)).below (by repeat (first | exact Below.refl _ _ | apply Bw.alloc | apply Bw.drewN | apply Bw.drew | (refine Bw.step ?_ (by assumption)))) | exact (rd_cells (w := w8) rfl (frH o k s)).below (by repeat (first | exact Below.refl _ _ | apply Bw.alloc | apply Bw.drewN | apply Bw.drew | (refine Bw.step ?_ (by assumption))))), HH.out⟩
             rcases List.mem_cons.1 hr with rfl | hr
             · exact ⟨_, 4, 4, rfl, by omega, by omega, hm8.rd.below (by repeat (first | exact Below.refl _ _ | apply Bw.alloc | apply Bw.drewN | apply Bw.drew | (refine Bw.step ?_ (by assumption)))), be4_ok q⟩
             rcases List.mem_cons.1 hr with rfl | hr
             · exact ⟨_, 4, 4, rfl, by omega, by omega, hm9.rd.below (by repeat (first | exact Below.refl _ _ | apply Bw.alloc | apply Bw.drewN | apply Bw.drew | (refine Bw.step ?_ (by assumption)))), be4_ok v⟩
             cases hr)) (by omega) (by omega) (by rw [HFL.out, frB_length]; omega) (by rw [HFL.out]; exact HOK.out)).mono ?_
           rintro e w10 ⟨A10, m10, rfl, hl10, hm10, hb10⟩
           rw [HFL.out, ← HE.out.1] at hl10 hm10
           subst hl10
           have hm11 := hm10.mono (Below.size (show Below w.heap.size w _ from (by repeat (first | exact Below.refl _ _ | apply Bw.alloc | apply Bw.drewN | apply Bw.drew | (refine Bw.step ?_ (by assumption))))))
           clear hm10))
    all_goals
      go_wp2
      go_ret2
      exact ⟨A10, by rw [HE.out.2]; rfl, hm11, (by repeat (first | exact Below.refl _ _ | apply Bw.alloc | apply Bw.drewN | apply Bw.drew | (refine Bw.step ?_ (by assumption))))⟩
end Go.Proofs.Ytnmhhjgiakijgaa
