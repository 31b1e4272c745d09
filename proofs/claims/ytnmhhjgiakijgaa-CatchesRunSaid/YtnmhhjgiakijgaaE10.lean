/- Catches: both texts side by side. -/
import Derived.Test.YtnmhhjgiakijgaaE9
import Derived.Test.YtnmhhjgiakijgaaE8
namespace Go.Proofs.Ytnmhhjgiakijgaa
open Go.RowKit
set_option linter.unusedVariables false
set_option linter.unusedSimpArgs false

theorem CS.alloc {w : World} {B g : Nat} {r : Option Nat} {s : Ct} (h : CS w B g r s) (o : Obj) : CS (w.alloc o) B g r s := h.below ((Below.refl _ _).alloc (Nat.le_refl _) o)
theorem RS.mono {w : World} {B B' g : Nat} {a b : Option Nat} {o : Int} {n : Nat} {x y : Nat → Nat} (h : RS w B g a b o n x y) (hB : B' ≤ B) : RS w B' g a b o n x y := by
  obtain ⟨h1, h2⟩ := h
  exact ⟨by omega, h2⟩
set_option maxHeartbeats 3200000 in
set_option maxRecDepth 20000 in
theorem rstep_full {w : World} {B g : Nat} {a b : Option Nat} {o : Int} {x y : Nat → Nat} (h : RS w B g a b o 114 x y) (near far : Nat) :
    Calls Try.prog 81 #[.pointer (some ⟨g, 0, none⟩), .int .u8 near, .int .u8 far] w fun e w' => e = .returned (.int .u8 0) ∧ w = w' := by
  obtain ⟨hBg, A1, c1, A2, c2, hb, hm1, hm2, hc1, hc2, hn, ha, hbb, hd⟩ := h
  have d1 := hb.cell 1 (.slice A1 114 c1) rfl
  clear hb hm1 hm2 hd ha hbb
  go_enter Try.func81, Try.ntmps81
  go_wp2
  go_ret
  exact ⟨rfl, rfl⟩
theorem outF_late (o : Int) (x y : Nat → Nat) (k : Nat) (h : 114 ≤ k) : outF o x y k = 0 := by
  unfold outF
  rw [if_neg (show ¬ k < 112 by omega), if_neg (show ¬ k = 112 by omega), if_neg (show ¬ k = 113 by omega)]
  split <;> rfl
/-- the document's catch behind k pairs: its step -/
theorem rstepN_calls (xs ys : List Int) (k : Nat) {w : World} {B g : Nat} {a b : Option Nat} {o : Int} {n : Nat} (hn : n = min k 114) (h : RS w B g a b o n (knF xs) (knF ys)) :
    Calls Try.prog 81 #[.pointer (some ⟨g, 0, none⟩), .int .u8 (atN xs k), .int .u8 (atN ys k)] w fun e w' => e = .returned (.int .u8 (outF o (knF xs) (knF ys) k)) ∧ ∃ a' b', RS w' B g a' b' o (min (k + 1) 114) (knF xs) (knF ys) ∧ KeepR w w' g a b a' b' ∧ Below B w w' := by
  by_cases hk : k < 114
  · have e : n = k := by omega
    subst e
    exact rstep_calls h (atN xs n) (atN ys n) rfl rfl
  · have e : n = 114 := by omega
    subst e
    refine (rstep_full h (atN xs k) (atN ys k)).mono ?_
    rintro e w' ⟨rfl, rfl⟩
    rw [outF_late _ _ _ _ (by omega), show min (k + 1) 114 = 114 by omega]
    exact ⟨rfl, a, b, h, ⟨fun _ _ _ _ _ => rfl, .inl rfl, .inl rfl⟩, Below.refl _ _⟩
/-- what both hold behind k pairs -/
theorem stN_had (o : Int) (X Y : Nat → Nat) (k : Nat) : (stN o X Y k).had = min k 114 := (stN_inv o X Y k).had
theorem stN_ul (o : Int) (X Y : Nat → Nat) (k n : Nat) (hk : 0 < k) (hn : n = min k 114) : ulC (stN o X Y k) = unF (fun i => knw (X i)) (fun i => knw (Y i)) n := by
  have h := stN_inv o X Y k
  have h1 := h.had
  have h2 := h.un
  rw [← hn] at h1 h2
  unfold ulC
  rw [h1, if_neg (by simp; omega)]
  exact h2
theorem stN_hi (o : Int) (X Y : Nat → Nat) (k n : Nat) (hn : n = min k 114) : (stN o X Y k).hi = hiP o (fun i => knw (X i)) (fun i => knw (Y i)) n ∧
    (if (stN o X Y k).hi = true then byV (stN o X Y k).bd else []) = hiB o (fun i => knw (X i)) (fun i => knw (Y i)) n := by
  have h := stN_inv o X Y k
  have e1 : (stN o X Y k).hi = hiP o (fun i => knw (X i)) (fun i => knw (Y i)) n := by
    unfold hiP
    by_cases hk : 114 ≤ k
    · rw [hiN hk, decide_eq_true (by omega : 114 ≤ n)]; rfl
    · rw [decide_eq_false (by omega : ¬ 114 ≤ n)]
      cases hc : cuF (fun i => knw (X i)) (fun i => knw (Y i)) k with
      | true => rw [h.dead hc]; rfl
      | false => rw [h.hi hc, decide_eq_false hk]
  refine ⟨e1, ?_⟩
  unfold hiB
  rw [← e1]
  cases hh : (stN o X Y k).hi with
  | false => rfl
  | true =>
    rw [if_pos rfl, if_pos rfl]
    rw [hh] at e1
    unfold hiP at e1
    have e2 := e1.symm
    simp only [Bool.and_eq_true, decide_eq_true_eq] at e2
    have hc := (hiF_true e2.2).2.2.2.2 k
    rw [h.bd hc, show min k 112 = 112 by omega]
/-- they lie apart -/
structure Ap (g g2 : Nat) (r a b : Option Nat) : Prop where
  gg : g ≠ g2
  rg : r ≠ some g2
  ag : a ≠ some g
  bg : b ≠ some g
  ra : ∀ q, a = some q → r ≠ some q
  rb : ∀ q, b = some q → r ≠ some q
theorem RS.keep {w w' : World} {B g2 : Nat} {a b : Option Nat} {o : Int} {n : Nat} {x y : Nat → Nat} {g : Nat} {r r' : Option Nat} (h : RS w B g2 a b o n x y) (hk : Keep w w' g r r') (hp : Ap g g2 r a b) :
    RS w' B g2 a b o n x y ∧ Ap g g2 r' a b :=
  ⟨h.same (hk.1 g2 h.lt (Ne.symm hp.gg) hp.rg) (fun q hq => hk.1 q (h.rowa hq).2 (fun e => hp.ag (e ▸ hq)) (hp.ra q hq)) (fun q hq => hk.1 q (h.rowb hq).2 (fun e => hp.bg (e ▸ hq)) (hp.rb q hq)),
    ⟨hp.gg, hk.apart h.lt hp.rg, hp.ag, hp.bg, fun q hq => hk.apart (h.rowa hq).2 (hp.ra q hq), fun q hq => hk.apart (h.rowb hq).2 (hp.rb q hq)⟩⟩
theorem KeepR.aparts {w w' : World} {g : Nat} {a b a' b' : Option Nat} (hk : KeepR w w' g a b a' b') {q : Nat} (hlt : q < w.heap.size) : (a ≠ some q → a' ≠ some q) ∧ (b ≠ some q → b' ≠ some q) := by
  refine ⟨fun h => ?_, fun h => ?_⟩
  · rcases hk.2.1 with e | ⟨k, e, hq⟩
    · rw [e]; exact h
    · rw [e]; intro e2; cases e2; omega
  · rcases hk.2.2 with e | ⟨k, e, hq⟩
    · rw [e]; exact h
    · rw [e]; intro e2; cases e2; omega
theorem CS.keepR {w w' : World} {B g g2 : Nat} {r a b a' b' : Option Nat} {s : Ct} (h : CS w B g r s) (hk : KeepR w w' g2 a b a' b') (hp : Ap g g2 r a b) : CS w' B g r s ∧ Ap g g2 r a' b' := by
  refine ⟨h.same (hk.1 g h.lt hp.gg hp.ag hp.bg) (fun q hq => hk.1 q (h.row hq).2 (fun e => hp.rg (e ▸ hq)) (fun e => hp.ra q e hq) (fun e => hp.rb q e hq)), ⟨hp.gg, hp.rg, (hk.aparts h.lt).1 hp.ag, (hk.aparts h.lt).2 hp.bg, ?_, ?_⟩⟩
  · intro q hq hr
    exact (hk.aparts (h.row hr).2).1 (fun e => hp.ra q e hr) hq
  · intro q hq hr
    exact (hk.aparts (h.row hr).2).2 (fun e => hp.rb q e hr) hq
end Go.Proofs.Ytnmhhjgiakijgaa
