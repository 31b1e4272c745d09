/- Catches: the small functions; what a catch is in memory. -/
import Derived.Test.YtnmhhjgiakijgaaK3
import Derived.Laws.EntriesVeiled
namespace Go.Proofs.Ytnmhhjgiakijgaa
open Go.RowKit
set_option linter.unusedVariables false

/-- a known symbol; none: it is none -/
def knw (x : Nat) : Nat := if x = 1 ∨ x = 2 then x else 0
theorem knw_le (x : Nat) : knw x ≤ 2 := by unfold knw; split <;> omega

set_option maxHeartbeats 800000 in
set_option maxRecDepth 20000 in
theorem known_calls (x : Nat) (w : World) : Calls Try.prog 133 #[.int .u8 x] w fun e w' => e = .returned (.int .u8 (knw x)) ∧ Below w.heap.size w w' := by
  by_cases h : x = 1 ∨ x = 2
  · have HK := Lib.hid (show knw x = x by unfold knw; rw [if_pos h])
    have HW := Lib.hid (show wholeL [(x : Int)] = true by rcases h with rfl | rfl <;> decide)
    clear h
    go_enter Try.func133, Try.ntmps133
    go_wp2_with fail
    refine (wholes_calls _ 1 1 [(x : Int)] _ (rd_cells (by simp) [(x : Int)]) (by omega) (by omega)).mono ?_; rintro e w' ⟨rfl, rfl⟩; rewrite [HW.out]
    go_wp2
    go_ret
    exact ⟨by rw [HK.out]; rfl, (by repeat (first | exact Below.refl _ _ | apply Bw.alloc | apply Bw.drewN | apply Bw.drew | (refine Bw.step ?_ (by assumption))))⟩
  · have HK := Lib.hid (show knw x = 0 by unfold knw; rw [if_neg h])
    have HW := Lib.hid (show wholeL [(x : Int)] = false by
      have : wholeB (x : Int) = false := by simp [wholeB]; omega
      simp [wholeL, this])
    clear h
    go_enter Try.func133, Try.ntmps133
    go_wp2_with fail
    refine (wholes_calls _ 1 1 [(x : Int)] _ (rd_cells (by simp) [(x : Int)]) (by omega) (by omega)).mono ?_; rintro e w' ⟨rfl, rfl⟩; rewrite [HW.out]
    go_wp2
    go_ret
    exact ⟨by rw [HK.out]; rfl, (by repeat (first | exact Below.refl _ _ | apply Bw.alloc | apply Bw.drewN | apply Bw.drew | (refine Bw.step ?_ (by assumption))))⟩

set_option maxHeartbeats 800000 in
set_option maxRecDepth 20000 in
theorem of180_calls (b : Bool) (w : World) : Calls Try.prog 180 #[.bool b] w fun e w' => e = .returned (.int .u8 (sy b)) ∧ w = w' := by
  cases b
  all_goals
    go_enter Try.func180, Try.ntmps180
    go_wp2
    go_ret
    exact ⟨rfl, rfl⟩

/-- symbol i of a list; behind it none -/
def atS (xs : List Int) (i : Nat) : Int := if i < xs.length then gt xs i else 0
set_option maxHeartbeats 800000 in
set_option maxRecDepth 20000 in
theorem at79_calls (A : Option Addr) (n c : Nat) (xs : List Int) (i : Nat) (w : World) (hr : Rd w .u8 A n xs) (hc : n ≤ c) (hn : n ≤ 60000) (hi : i ≤ 60000) :
    Calls Try.prog 79 #[.slice A n c, .int .i64 i] w fun e w' => e = .returned (.int .u8 (atS xs i)) ∧ w = w' := by
  by_cases h : i < n
  · have HA := Lib.hid (show atS xs i = gt xs i by unfold atS; rw [if_pos (by rw [hr.len]; exact h)])
    obtain ⟨b, o, rfl, hcell⟩ := hr.at_ i h
    clear hr
    go_enter Try.func79, Try.ntmps79
    go_wp2
    go_ret
    exact ⟨by rw [HA.out]; rfl, rfl⟩
  · have HA := Lib.hid (show atS xs i = 0 by unfold atS; rw [if_neg (by rw [hr.len]; exact h)])
    clear hr
    go_enter Try.func79, Try.ntmps79
    go_wp2
    go_ret
    exact ⟨by rw [HA.out]; rfl, rfl⟩

/-- what takes the next pair: the first symbols, the tail's two, nothing -/
def nxV (g : Nat) : Nat → Value
  | 0 => .func (Fn.func 132) #[.pointer (some ⟨g, 0, none⟩)] #[]
  | 1 => .func (Fn.func 167) #[.pointer (some ⟨g, 0, none⟩)] #[]
  | 2 => .func (Fn.func 179) #[.pointer (some ⟨g, 0, none⟩)] #[]
  | _ => .nilFunc
/-- a catch: owner, what is next, body, how many it had, what was unlike first, cut, whole, high -/
structure Ct where
  o : Int
  nx : Nat
  bd : List Int
  had : Nat
  un : Int
  cu : Bool
  wh : Bool
  hi : Bool
/-- a catch's block, its body's slice -/
def ctV (g : Nat) (s : Ct) (v : Value) : Array Value := #[.int .i64 s.o, nxV g s.nx, v, .int .i64 s.had, .int .i64 s.un, .bool s.cu, .bool s.wh, .bool s.hi]
/-- a catch in memory; all that it may write lies from B on; r: its body's block -/
def CS (w : World) (B g : Nat) (r : Option Nat) (s : Ct) : Prop :=
  B ≤ g ∧ ∃ (A : Option Addr) (c : Nat), Blk w g (ctV g s (.slice A s.bd.length c)) 146 ∧ Mn w (g + 1) 50 1 (.slice A s.bd.length c) s.bd.length (nums .u8 s.bd) ∧ s.bd.length ≤ c ∧ (Value.slice A s.bd.length c).ownBlock = r
theorem CS.below {w w' : World} {B g : Nat} {r : Option Nat} {s : Ct} (h : CS w B g r s) (hb : Below w.heap.size w w') : CS w' B g r s := by
  obtain ⟨h1, A, c, h2, h3, h4, h5⟩ := h
  exact ⟨h1, A, c, h2.below hb, h3.below hb, h4, h5⟩
/-- what a catch leaves alone: all but its block and its body's row; the row stays where it was or lies in a new block -/
def Keep (w w' : World) (g : Nat) (r r' : Option Nat) : Prop := (∀ k, k < w.heap.size → k ≠ g → r ≠ some k → w'.heap[k]? = w.heap[k]?) ∧ (r' = r ∨ ∃ k, r' = some k ∧ w.heap.size ≤ k)
theorem Keep.refl (w : World) (g : Nat) (r : Option Nat) : Keep w w g r r := ⟨fun _ _ _ _ => rfl, .inl rfl⟩
theorem Keep.of {w w' : World} (h : Below w.heap.size w w') (g : Nat) (r : Option Nat) : Keep w w' g r r := ⟨fun k hk _ _ => h.block k hk, .inl rfl⟩
theorem Keep.trans {w1 w2 w3 : World} {g : Nat} {r1 r2 r3 : Option Nat} (h : Keep w1 w2 g r1 r2) (h' : Keep w2 w3 g r2 r3) (hs : w1.heap.size ≤ w2.heap.size) : Keep w1 w3 g r1 r3 := by
  refine ⟨fun k hk hg hr => ?_, ?_⟩
  · have hr2 : r2 ≠ some k := by
      rcases h.2 with h2 | ⟨j, h2, h3⟩
      · rw [h2]; exact hr
      · rw [h2]; intro e; cases e; omega
    exact (h'.1 k (by omega) hg hr2).trans (h.1 k hk hg hr)
  · rcases h'.2 with h2 | ⟨j, h2, h3⟩
    · rw [h2]; exact h.2
    · exact .inr ⟨j, h2, by omega⟩
/-- a new one -/
def ct0 (o : Int) : Ct := ⟨o, 0, [], 0, -1, false, false, false⟩

set_option maxHeartbeats 800000 in
set_option maxRecDepth 20000 in
theorem new77_calls (o : Int) (w : World) (h1 : 0 ≤ o) (h2 : o < 8) :
    Calls Try.prog 77 #[.int .i64 o] w fun e w' => e = .returned (.tuple #[.pointer (some ⟨w.heap.size, 0, none⟩), .int .i64 0]) ∧ CS w' w.heap.size w.heap.size none (ct0 o) ∧ Below w.heap.size w w' := by
  go_enter Try.func77, Try.ntmps77
  go_wp2
  go_ret2
  refine ⟨rfl, ⟨Nat.le_refl _, none, 0, ?_, Mn.nil _ _ _ _, Nat.le_refl _, rfl⟩, (by repeat (first | exact Below.refl _ _ | apply Bw.alloc | apply Bw.drewN | apply Bw.drew | (refine Bw.step ?_ (by assumption))))⟩
  exact Blk.new (w := w) rfl
set_option maxHeartbeats 800000 in
set_option maxRecDepth 20000 in
theorem new77_bad (o : Int) (w : World) (h : o < 0 ∨ 8 ≤ o) :
    Calls Try.prog 77 #[.int .i64 o] w fun e w' => e = .returned (.tuple #[.pointer none, .int .i64 1]) ∧ w = w' := by
  rcases h with h | h
  · go_enter Try.func77, Try.ntmps77
    go_wp2
    go_ret2
    exact ⟨rfl, rfl⟩
  · have h0 : ¬ (o < 0) := by omega
    go_enter Try.func77, Try.ntmps77
    go_wp2
    go_ret2
    exact ⟨rfl, rfl⟩

set_option maxHeartbeats 800000 in
set_option maxRecDepth 20000 in
theorem had_calls (B g : Nat) (r : Option Nat) (s : Ct) (w : World) (h : CS w B g r s) :
    Calls Try.prog 82 #[.pointer (some ⟨g, 0, none⟩)] w fun e w' => e = .returned (.int .i64 s.had) ∧ w = w' := by
  obtain ⟨-, A, c, hb, -, -, -⟩ := h
  have c3 := hb.cell 3 (.int .i64 s.had) rfl
  clear hb
  go_enter Try.func82, Try.ntmps82
  go_wp2
  go_ret
  exact ⟨rfl, rfl⟩
end Go.Proofs.Ytnmhhjgiakijgaa
