/- slices.Chunk at symbols, eight at a time: what its range hands over. -/
import Derived.Test.YtnmhhjgiakijgaaB0
import Derived.Test.YtnmhhjgiakijgaaM3
import Derived.RangeFuncNested
import Derived.RangeFuncBound
import Derived.RangeFuncCalls
import Derived.RangeFuncLeaves
import Derived.Shelf.Abstract
import Derived.Shelf.RegionOpen
import Derived.OwnWalkIn
import Derived.TacticsInMore
import Derived.LoopNIn
import Derived.LoopIn
import Derived.Sort.QuietIn
namespace Go.Proofs.Ytnmhhjgiakijgaa
open Go.RowKit Go.Shelf
attribute [local go_sem] Oper.semAt_some
set_option linter.unusedVariables false

theorem Rd.sub {w : World} {k : IntKind} {b o n : Nat} {xs : List Int} (h : Rd w k (some ⟨b, o, none⟩) n xs) (i m : Nat) (hi : i + m ≤ n) : Rd w k (some ⟨b, o + i, none⟩) m ((xs.drop i).take m) := by
  have hl := h.len
  refine ⟨by rw [nums_length, List.length_take, List.length_drop]; omega, fun hp => ⟨b, o + i, rfl, fun j u hu => ?_⟩⟩
  obtain ⟨b', o', e, hc⟩ := h.2 (by omega)
  injection e with e
  injection e with e1 e2
  subst e1
  subst e2
  rw [Nat.add_assoc]
  refine hc (i + j) u ?_
  simp only [nums, List.getElem?_map, List.getElem?_take, List.getElem?_drop] at hu ⊢
  split at hu
  · exact hu
  · simp at hu

set_option maxRecDepth 20000 in
theorem chunk_calls (A : Option Addr) (n c : Nat) (w : World) :
    Calls Try.prog 109 #[.slice A n c, .int .i64 8] w fun e w' => e = .returned (.func (.func 148) #[] #[.pointer (some ⟨w.heap.size, 0, none⟩), .pointer (some ⟨w.heap.size + 1, 0, none⟩)]) ∧
      w' = (w.alloc (.cells #[.slice A n c] 22)).alloc (.cells #[.int .i64 8] 3) := by
  go_enter Try.func109, Try.ntmps109
  go_wp2
  go_ret
  exact ⟨rfl, rfl⟩

theorem run_min8 {P : Program} (t : TypeId) (w : World) (ats : Array TypeId) (x : Int) (hx : 8 ≤ x) : (Builtin.min_ ats t #[.int .i64 8, .int .i64 x]).run P w = .ok (.int .i64 8) w := by
  have h : (Builtin.min_ ats t #[.int .i64 8, .int .i64 x]).run P w = .ok (.int .i64 (if x < 8 then x else 8)) w := rfl
  rw [h, if_neg (by omega)]

/-- what a round keeps: the two boxes of the closure -/
def KpC (Bs Bn : Nat) (W W' : World) : Prop := W'.cell? ⟨Bs, 0, none⟩ = W.cell? ⟨Bs, 0, none⟩ ∧ W'.cell? ⟨Bn, 0, none⟩ = W.cell? ⟨Bn, 0, none⟩

set_option maxRecDepth 100000 in
set_option maxHeartbeats 4000000 in
/-- the closure of Chunk: for every loop body that keeps what lay below n₀ -/
theorem chunk1_in (n : Nat) (hn : 1 ≤ n) (l Bs Bn b o m c : Nat) (hm : m ≤ 7000) (hc : 8 * m ≤ c) (hcm : c ≤ maxLen) (A : Option Addr) (hA : 0 < m → A = some ⟨b, o, none⟩) (J Jx : List (Fin m) → World → Prop)
    (hY : ∀ pre (x : Fin m) W, J pre W → pre.length < m → YieldAt Fence.wide (n - 1) Try.prog l #[.slice (some ⟨b, o + 8 * x.1, none⟩) 8 8] W fun e W' =>
      (e = .returned (.bool true) ∧ J (pre ++ [x]) W' ∧ KpC Bs Bn W W') ∨ (e = .returned (.bool false) ∧ Jx (pre ++ [x]) W'))
    (W : World) (hBs : W.cell? ⟨Bs, 0, none⟩ = some (.slice A (8 * m) c)) (hBn : W.cell? ⟨Bn, 0, none⟩ = some (.int .i64 8)) (h0 : J [] W)
    (hdr : ∀ pre W q, J pre W → J pre (W.drewN q)) :
    CallsIn Fence.wide n Try.prog 148 #[.func (.yield l) #[] #[], .pointer (some ⟨Bs, 0, none⟩), .pointer (some ⟨Bn, 0, none⟩)] W fun e W' => (∃ v, e = .returned v) ∧
      ((∃ ys : List (Fin m), ys.map (·.1) = List.range m ∧ J ys W') ∨ (∃ pre, Jx pre W')) := by
  have hro : Fence.wide.round = none := rfl
  refine callsIn_of_wp Try.func148 rfl trivial ?_ hro
  simp only [Try.ntmps148, List.size_toArray, List.length_cons, List.length_nil, Nat.reduceAdd, Nat.reduceSub, Array.replicate_succ, Array.replicate_zero, List.push_toArray, List.append_toArray, List.nil_append, List.cons_append]
  gi_wp2
  gi_loopw [4] (fun i wr => ∃ (k : Nat) (ys : List (Fin m)), k ≤ m ∧ i = .int .i64 ((8 * k : Nat) : Int) ∧ ys.map (·.1) = List.range k ∧ J ys wr ∧ KpC Bs Bn W wr)
    (fun i _ => 8 * m - (intOf i).toNat)
  case atStart => exact ⟨0, [], Nat.zero_le _, rfl, rfl, h0, ⟨rfl, rfl⟩⟩
  case round =>
    obtain ⟨k, ys, hk, rfl, hys, hJs, hnx⟩ := hrel
    have hs := hnx.1.trans hBs
    have hnn := hnx.2.trans hBn
    have HYS := Lib.hid hys
    clear hys
    by_cases hlt : k < m
    · have hA1 := hA (by omega)
      subst hA1
      have hk8 : ((8 * k : Nat) : Int) < 8 * (m : Int) := by omega
      have hmin := fun ats ty wx => run_min8 (P := Try.prog) ty wx ats (8 * (m : Int) - 8 * (k : Int)) (by omega)
      unfold maxLen at hcm
      gi_wp2
      gi_quiet (fail)
      obtain ⟨fn, tmps, assign, body, hy, hR⟩ := hY ys ⟨k, hlt⟩ (wr.drewN nq) (hdr _ _ _ hJs) (by have := congrArg List.length HYS.out; simp at this; omega)
      dsimp only at hy
      gi_wp2
      refine hR.mono ?_
      rintro e W3 (⟨rfl, hJ3, hk3⟩ | ⟨rfl, hJx3⟩)
      · have hnn3 : W3.cell? ⟨Bn, 0, none⟩ = some (.int .i64 8) := hk3.2.trans hnn
        have hnx3 : KpC Bs Bn W W3 := ⟨hk3.1.trans hnx.1, hk3.2.trans hnx.2⟩
        have HN3 := Lib.hid hnx3
        clear hnx3
        clear hs hnn hnx hmin hk3
        gi_wp2
        go_roundw
        case rel => exact ⟨k + 1, ys ++ [⟨k, hlt⟩], by omega, by first | rfl | (congr 1; omega), by rw [List.map_append, HYS.out, List.range_succ]; rfl, hJ3, HN3.out⟩
        case measure => simp [intOf]; omega
      · gi_wp2
        refine bodyPost_ret (results_none rfl _ _ _) rfl ?_
        exact ⟨⟨_, rfl⟩, .inr ⟨_, hJx3⟩⟩
    · obtain rfl : k = m := by omega
      gi_wp2
      go_end0
      exact ⟨⟨_, rfl⟩, .inl ⟨_, HYS.out, hJs⟩⟩

/-- what 'range slices.Chunk(s, 8)' hands over -/
theorem chunk_stops (n : Nat) (hn : 1 ≤ n) (b o m c : Nat) (hm : m ≤ 7000) (hc : 8 * m ≤ c) (hcm : c ≤ maxLen) (A : Option Addr) (hA : 0 < m → A = some ⟨b, o, none⟩) (w : World) (Bs Bn : Nat) (hBs0 : Bs < w.heap.size) (hBn0 : Bn < w.heap.size)
    (hBs : w.cell? ⟨Bs, 0, none⟩ = some (.slice A (8 * m) c)) (hBn : w.cell? ⟨Bn, 0, none⟩ = some (.int .i64 8)) :
    SeqStopsK Fence.wide n Try.prog 148 #[.pointer (some ⟨Bs, 0, none⟩), .pointer (some ⟨Bn, 0, none⟩)] (fun x : Fin m => #[.slice (some ⟨b, o + 8 * x.1, none⟩) 8 8]) (KpC Bs Bn)
      (fun ys => ys.map (·.1) = List.range m) (fun _ => True) m w := fun l J Jx W hW hJ hJx hY h0 =>
  (chunk1_in n hn l Bs Bn b o m c hm hc hcm A hA J Jx hY W ((hW.cell (p := ⟨Bs, 0, none⟩) hBs0).trans hBs) ((hW.cell (p := ⟨Bn, 0, none⟩) hBn0).trans hBn) h0
    (fun pre W2 q hj => hJ pre W2 _ none hj ⟨rfl, rfl, rfl, Nat.le_refl _, fun _ _ _ => rfl⟩ (fun r e => by cases e))).mono fun e W' ⟨he, h⟩ => ⟨he, by
      rcases h with ⟨ys, h1, h2⟩ | ⟨pre, h⟩
      · exact .inl ⟨ys, h1, h2⟩
      · exact .inr ⟨pre, trivial, h⟩⟩
end Go.Proofs.Ytnmhhjgiakijgaa
