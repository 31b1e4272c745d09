/- sums.Put: the parts one behind the other, and their sum behind them. -/
import Derived.Test.YtnmhhjgiakijgaaA19
import Derived.Test.YtnmhhjgiakijgaaA11
import Derived.Test.YtnmhhjgiakijgaaM9
namespace Go.Proofs.Ytnmhhjgiakijgaa
open Go.RowKit
set_option linter.unusedVariables false

theorem Parts.lit {w : World} {a : Nat} {e : TypeId} (ha : a = w.heap.size) (rows : List (Value × List Int))
    (h : ∀ r ∈ rows, ∃ D m d, r.1 = .slice D m d ∧ m ≤ d ∧ m ≤ 60000 ∧ Rd w .u8 D m r.2 ∧ bytesOk r.2) :
    Parts (w.alloc (.cells (rows.map (·.1)).toArray e)) (some ⟨a, 0, none⟩) rows.length (rows.map (·.2)) := by
  subst ha
  refine ⟨by simp, fun i hi => ?_⟩
  obtain ⟨D, m, d, h1, h2, h3, h4, h5⟩ := h (rows[i]) (List.getElem_mem hi)
  have hg : (rows.map (·.2)).getD i [] = (rows[i]).2 := by simp [List.getD_eq_getElem?_getD, List.getElem?_eq_getElem hi]
  refine ⟨w.heap.size, 0, D, m, d, rfl, by simp, ?_, h2, h3, ?_, ?_⟩
  · rw [Nat.zero_add, cell_of_row _ w.heap.size i _ e (0, 0) (heap_alloc_new w _)]
    simp [List.getElem?_eq_getElem hi, h1]
  · rw [hg]; exact Rv.alloc h4 _
  · rw [hg]; exact h5

theorem rd_four {w : World} {e : TypeId} {a : Nat} (ha : a = w.heap.size) (p q r s : Int) : Rv (w.alloc (.cells #[.int .u8 p, .int .u8 q, .int .u8 r, .int .u8 s] e)) (some ⟨a, 0, none⟩) (4 * 1) (nums .u8 [p, q, r, s]) := rd_cells ha [p, q, r, s]

set_option maxHeartbeats 1600000 in
set_option maxRecDepth 20000 in
theorem sumput_calls (A : Option Addr) (n c : Nat) (ps : List (List Int)) (w : World) (h : Parts w A n ps) (hn : n ≤ 100) (hc : n ≤ c) (hs : ps.flatten.length ≤ 50000) (hok : bytesOk ps.flatten) :
    Calls Try.prog 119 #[.slice A n c] w fun e w' => ∃ A' m, e = .returned (.slice A' m m) ∧ m = (putS ps.flatten).length ∧ Mn w' w.heap.size 5 1 (.slice A' m m) m (nums .u8 (putS ps.flatten)) ∧ Below w.heap.size w w' := by
  have H := Lib.hid h
  have HS := Lib.hid hs
  have HO := Lib.hid hok
  have HLT := Lib.hid (sumL_lt ps.flatten hok)
  have HPS := Lib.hid (putS_length ps.flatten)
  clear h hs hok
  go_enter Try.func119, Try.ntmps119
  go_wp2_with fail
  refine (concat161_calls _ _ _ ps _ H.out hn hc (by have := HS.out; omega)).mono ?_; rintro e w1 ⟨A1, m1, c1, rfl, hl1, hc1, hm1, hb1⟩
  have HL1 := Lib.hid hl1
  clear hl1
  have h60 : m1 ≤ 50000 := by rw [HL1.out]; exact HS.out
  go_wp2_with fail
  have hp := Parts.lit (w := w1) (e := 43) rfl [(.slice A1 m1 c1, ps.flatten)] (by
    intro r hr
    rw [List.mem_singleton.1 hr]
    exact ⟨A1, m1, c1, rfl, hc1, by omega, hm1.rd, HO.out⟩)
  refine (sumof_calls _ 1 1 [ps.flatten] _ hp (by omega) (by omega)).mono ?_
  clear hp
  rintro e w2 ⟨rfl, hb2⟩
  have hfl : sumL [ps.flatten].flatten = sumL ps.flatten := by simp
  rewrite [hfl]
  clear hfl
  obtain ⟨s, hs⟩ : ∃ s, sumL ps.flatten = s := ⟨_, rfl⟩
  rewrite [hs]
  have hsl : s < 4294967296 := by rw [← hs]; exact HLT.out
  have HSS := Lib.hid (show putS ps.flatten = ps.flatten ++ be4 s by unfold putS; rw [hs])
  clear hs
  have hm2 := hm1.below (show Below w1.heap.size w1 w2 from (by repeat (first | exact Below.refl _ _ | apply Bw.alloc | apply Bw.drewN | apply Bw.drew | (refine Bw.step ?_ (by assumption)))))
  have hbw : Below w.heap.size w w2 := (by repeat (first | exact Below.refl _ _ | apply Bw.alloc | apply Bw.drewN | apply Bw.drew | (refine Bw.step ?_ (by assumption))))
  have HM := Lib.hid hm2
  have HBW := Lib.hid hbw
  clear hm1 hb1 hb2 hm2 hbw
  go_wp2_with (first
    | (at_builtin
       refine wpList_append_mn _ rfl _ _ _ rfl w.heap.size 5 _ 1 1 Try.underlying43 info5 rfl (by omega) (.slice A1 m1 c1) m1 (nums .u8 ps.flatten) rfl (HM.out.alloc _) _ 4 4 (nums .u8 [(s : Int) / 16777216, (s : Int) / 65536 % 256, (s : Int) / 256 % 256, (s : Int) % 256]) rfl (rd_four rfl _ _ _ _) (nums_one _ _) (by omega) (by omega) (by have := HBW.out.size; simp; omega) ?_
       intro A3 c3 w3 hc3 hm3 hg3 hat3
       have hb3 : Below w.heap.size w w3 := Below.grown (HBW.out.alloc HBW.out.size _) hg3 (by have := HBW.out.size; simp; omega) (fun q hq => (HM.out.block hq).1)
       rewrite [← nums_append, ← be4_lt s hsl, ← HSS.out] at hm3
       clear hg3 hat3 HM HBW)
    | (go_at_call 110; refine (clip5 _ _ _ _ hc3 (Mn.cap_le hm3)).mono ?_; rintro e w4 ⟨rfl, rfl⟩))
  go_ret
  exact ⟨A3, m1 + 4, rfl, by rw [HPS.out, HL1.out], hm3.clip, hb3⟩
end Go.Proofs.Ytnmhhjgiakijgaa
