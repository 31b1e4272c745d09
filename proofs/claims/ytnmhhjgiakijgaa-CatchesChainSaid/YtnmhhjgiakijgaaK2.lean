/- Memory words; layers 1, 2 and 5 of the program and the document, as far as frames are put: contracts. -/
import Derived.Test.YtnmhhjgiakijgaaProg
import Derived.Test.YtnmhhjgiakijgaaK1
import Derived.WalkKit
import Derived.WalkSpells
import Derived.WalkLawsBesides
import Derived.KernelRfl
import Derived.Lib.Hide
import Derived.Deep.QuietTactic
import Derived.BigQuiet
import Derived.Deep.LoopGhost
import Derived.Deep.Draws
import Derived.Maps.AppendAt
import Derived.Deep.AppendLies
import Derived.WideShapes
import Derived.RangeFuncNested
import Derived.RangeFuncBound
import Derived.RangeFuncCalls
import Derived.RangeFuncLeaves
import Derived.Shelf.Abstract
import Derived.Shelf.RegionOpen
import Derived.OwnWalkIn
import Derived.TacticsInMore
import Derived.LoopNIn
import Derived.LoopIn
import Derived.Sort.QuietIn
import Derived.RangeFuncWrites
import Derived.RangeFuncBox
import Derived.Lib.AppendZerosOnto
import Derived.Deep.RegionHeld3
/- Words for memory that the walks of this seat share: a slice that reads as a list, a row of the call's own (its capacity may be cut), and what append does to them. -/
namespace Go.Proofs.Ytnmhhjgiakijgaa
open Go.RowKit
set_option linter.unusedVariables false

/-- numbers as values -/
def nums (k : IntKind) (xs : List Int) : List Value := xs.map (Value.int k)

theorem nums_length (k : IntKind) (xs : List Int) : (nums k xs).length = xs.length := by simp [nums]
theorem nums_append (k : IntKind) (xs ys : List Int) : nums k (xs ++ ys) = nums k xs ++ nums k ys := by simp [nums]
theorem nums_get (k : IntKind) (xs : List Int) (j : Nat) (h : j < xs.length) : (nums k xs)[j]? = some (.int k (gt xs j)) := by
  simp [nums, gt, List.getElem?_eq_getElem h, List.getD_eq_getElem?_getD]
theorem nums_one (k : IntKind) (xs : List Int) : ∀ u ∈ nums k xs, u.oneCell' = true := by
  intro u hu
  simp only [nums, List.mem_map] at hu
  obtain ⟨q, _, rfl⟩ := hu
  rfl

theorem add_lit0 (g j : Nat) : (⟨g, 0, none⟩ : Addr).add j = ⟨g, j, none⟩ := by unfold Addr.add; split <;> simp_all
theorem add_lit (g o j : Nat) : (⟨g, o, none⟩ : Addr).add j = ⟨g, o + j, none⟩ := by unfold Addr.add; split <;> simp_all

/-- m cells that can be read at an address; no address is wanted where there is none -/
def Rv (w : World) (A : Option Addr) (m : Nat) (cs : List Value) : Prop :=
  cs.length = m ∧ (0 < m → ∃ b o, A = some ⟨b, o, none⟩ ∧ ∀ j u, cs[j]? = some u → w.cell? ⟨b, o + j, none⟩ = some u)

/-- a slice of numbers that can be read -/
def Rd (w : World) (k : IntKind) (A : Option Addr) (n : Nat) (xs : List Int) : Prop := Rv w A n (nums k xs)

section
variable {w w' : World} {k : IntKind} {A : Option Addr} {n m : Nat} {xs : List Int} {cs : List Value}

theorem Rv.nil : Rv w A 0 [] := ⟨rfl, fun h => absurd h (by omega)⟩
theorem Rv.at_ (h : Rv w A m cs) (hm : 0 < m) : ∃ b o, A = some ⟨b, o, none⟩ ∧ b < w.heap.size ∧ ∀ j u, cs[j]? = some u → w.cell? ⟨b, o + j, none⟩ = some u := by
  obtain ⟨b, o, e, hc⟩ := h.2 hm
  have h0 : cs[0]? = some (cs[0]'(by have := h.1; omega)) := List.getElem?_eq_getElem _
  exact ⟨b, o, e, World.block_lt_of_cell? w ⟨b, o + 0, none⟩ (hc 0 _ h0), hc⟩
theorem Rv.below (h : Rv w A m cs) (hb : Below w.heap.size w w') : Rv w' A m cs :=
  ⟨h.1, fun hm => by
    obtain ⟨b, o, e, hlt, hc⟩ := h.at_ hm
    exact ⟨b, o, e, fun j u hu => (hb.cell (p := ⟨b, o + j, none⟩) hlt).trans (hc j u hu)⟩⟩
theorem Rv.drewN (h : Rv w A m cs) (q : Nat) : Rv (w.drewN q) A m cs := h
theorem Rv.drew (h : Rv w A m cs) : Rv w.drew A m cs := h
theorem Rv.alloc (h : Rv w A m cs) (o : Obj) : Rv (w.alloc o) A m cs := h.below ((Below.refl _ _).alloc (Nat.le_refl _) o)

theorem Rd.len (h : Rd w k A n xs) : xs.length = n := by have := h.1; rwa [nums_length] at this
theorem Rd.at_ (h : Rd w k A n xs) (j : Nat) (hj : j < n) : ∃ b o, A = some ⟨b, o, none⟩ ∧ w.cell? ⟨b, o + j, none⟩ = some (.int k (gt xs j)) := by
  obtain ⟨b, o, e, hc⟩ := h.2 (by omega)
  exact ⟨b, o, e, hc j _ (nums_get k xs j (by have := h.len; omega))⟩
theorem Rd.below (h : Rd w k A n xs) (hb : Below w.heap.size w w') : Rd w' k A n xs := Rv.below h hb
theorem Rd.drewN (h : Rd w k A n xs) (q : Nat) : Rd (w.drewN q) k A n xs := h
theorem Rd.nil : Rd w k A 0 [] := Rv.nil
theorem Rd.take (h : Rd w k A n xs) (i : Nat) (hi : i ≤ n) : Rd w k A i (xs.take i) := by
  have hl := h.len
  refine ⟨by rw [nums_length, List.length_take]; omega, fun hp => ?_⟩
  obtain ⟨b, o, e, hc⟩ := h.2 (by omega)
  refine ⟨b, o, e, fun j u hu => hc j u ?_⟩
  simp only [nums, List.getElem?_map] at hu ⊢
  rw [List.getElem?_take] at hu
  split at hu
  · exact hu
  · simp at hu
/-- 'xs[i:]' with the walk's 'if' in its address -/
theorem Rd.drop (h : Rd w k A n xs) (i c : Nat) (hi : i ≤ n) (hc : n ≤ c) : Rd w k (if c = i then A else A.map (·.add i)) (n - i) (xs.drop i) := by
  have hl := h.len
  refine ⟨by rw [nums_length, List.length_drop]; omega, fun hp => ?_⟩
  obtain ⟨b, o, rfl, hcell⟩ := h.2 (by omega)
  rw [if_neg (by omega)]
  refine ⟨b, o + i, by simp [add_lit], fun j u hu => ?_⟩
  rw [Nat.add_assoc]
  refine hcell (i + j) u ?_
  simp only [nums, List.getElem?_map, List.getElem?_drop] at hu ⊢
  exact hu
end

/-- n elements of 'size' cells each, in a row of one's own from block B on; its capacity may be cut -/
def Mn (w : World) (B : Nat) (e : TypeId) (size : Nat) (v : Value) (n : Nat) (cs : List Value) : Prop :=
  cs.length = n * size ∧
  ((v = .slice none 0 0 ∧ n = 0) ∨
   ∃ g cap cur, v = .slice (some ⟨g, 0, none⟩) n cap ∧ B ≤ g ∧ w.heap[g]? = some (.cells cur e (0, 0)) ∧ n ≤ cap ∧ cap ≤ maxLen ∧ cap * size ≤ cur.size ∧ cur.toList.take (n * size) = cs)

section
variable {w w' : World} {B B' : Nat} {e : TypeId} {size n : Nat} {v : Value} {cs : List Value}

theorem Mn.nil (w : World) (B : Nat) (e : TypeId) (size : Nat) : Mn w B e size (.slice none 0 0) 0 [] := ⟨by simp, .inl ⟨rfl, rfl⟩⟩
theorem Mn.form (h : Mn w B e size v n cs) : ∃ A cap, v = .slice A n cap ∧ n ≤ cap := by
  rcases h.2 with ⟨rfl, rfl⟩ | ⟨g, cap, cur, rfl, _, _, hc, _⟩
  · exact ⟨none, 0, rfl, Nat.le_refl _⟩
  · exact ⟨_, cap, rfl, hc⟩
theorem Mn.block (h : Mn w B e size v n cs) {g : Nat} (hg : v.ownBlock = some g) : B ≤ g ∧ g < w.heap.size := by
  rcases h.2 with ⟨rfl, _⟩ | ⟨g', cap, cur, rfl, hb, hh, _⟩
  · simp [Value.ownBlock] at hg
  · have : g' = g := by simpa [Value.ownBlock] using hg
    subst this
    exact ⟨hb, (Array.getElem?_eq_some_iff.1 hh).1⟩
theorem Mn.mono (h : Mn w B e size v n cs) (hB : B' ≤ B) : Mn w B' e size v n cs := by
  refine ⟨h.1, ?_⟩
  rcases h.2 with h2 | ⟨g, cap, cur, hv, hb, r⟩
  · exact .inl h2
  · exact .inr ⟨g, cap, cur, hv, by omega, r⟩
theorem Mn.kept {row : Option Nat} (h : Mn w B e size v n cs) (hg : w.grownBy w' row) (hne : v.ownBlock = none ∨ v.ownBlock ≠ row) : Mn w' B e size v n cs := by
  refine ⟨h.1, ?_⟩
  rcases h.2 with h2 | ⟨g, cap, cur, rfl, hb, hh, r⟩
  · exact .inl h2
  · refine .inr ⟨g, cap, cur, rfl, hb, ?_, r⟩
    rw [hg.block g (Array.getElem?_eq_some_iff.1 hh).1 (by simpa [Value.ownBlock] using hne)]
    exact hh
theorem Mn.below (h : Mn w B e size v n cs) (hb : Below w.heap.size w w') : Mn w' B e size v n cs := by
  refine h.kept (row := none) ⟨hb.os, hb.tape, hb.output, hb.size, fun k hk _ => hb.block k hk⟩ ?_
  cases v.ownBlock <;> simp
theorem Mn.drewN (h : Mn w B e size v n cs) (q : Nat) : Mn (w.drewN q) B e size v n cs := h
theorem Mn.alloc (h : Mn w B e size v n cs) (o : Obj) : Mn (w.alloc o) B e size v n cs := h.below ((Below.refl _ _).alloc (Nat.le_refl _) o)
theorem Mn.cap_le {A : Option Addr} {c : Nat} (h : Mn w B e size (.slice A n c) n cs) : c ≤ maxLen := by
  rcases h.2 with ⟨hv, h0⟩ | ⟨g, cap, cur, hv, hb, hh, hc, hm, hs, ht⟩
  · injection hv with h1 h2 h3
    omega
  · injection hv with h1 h2 h3
    omega
/-- its capacity cut to its length -/
theorem Mn.clip {A : Option Addr} {c : Nat} (h : Mn w B e size (.slice A n c) n cs) : Mn w B e size (.slice A n n) n cs := by
  refine ⟨h.1, ?_⟩
  rcases h.2 with ⟨hv, h0⟩ | ⟨g, cap, cur, hv, hb, hh, hc, hm, hs, ht⟩
  · injection hv with h1 h2 h3
    exact .inl ⟨by rw [h1, h0], h0⟩
  · injection hv with h1 h2 h3
    refine .inr ⟨g, n, cur, by rw [h1], hb, hh, Nat.le_refl _, Nat.le_trans hc hm, Nat.le_trans (Nat.mul_le_mul_right _ hc) hs, ht⟩
/-- what is owned can be read -/
theorem Mn.reads {A : Option Addr} {c : Nat} (h : Mn w B e size (.slice A n c) n cs) : Rv w A (n * size) cs := by
  refine ⟨h.1, fun hm => ?_⟩
  rcases h.2 with ⟨hv, h0⟩ | ⟨g, cap, cur, hv, hb, hh, hc, _, hs, ht⟩
  · subst h0
    simp at hm
  · injection hv with h1 h2 h3
    refine ⟨g, 0, h1, fun j u hu => ?_⟩
    rw [← ht, List.getElem?_take] at hu
    split at hu
    · rw [Nat.zero_add, cell_of_row w g j cur e (0, 0) hh]
      simpa using hu
    · cases hu
theorem Mn.rd {A : Option Addr} {c : Nat} {k : IntKind} {xs : List Int} (h : Mn w B e 1 (.slice A n c) n (nums k xs)) : Rd w k A n xs := by
  have := h.reads
  rwa [Nat.mul_one] at this
theorem Mn.lit (w : World) (e : TypeId) (size n : Nat) (cs : Array Value) (hB : B ≤ w.heap.size) (hs : cs.size = n * size) (hn : n ≤ maxLen) :
    Mn (w.alloc (.cells cs e)) B e size (.slice (some ⟨w.heap.size, 0, none⟩) n n) n cs.toList :=
  ⟨by simp [hs], .inr ⟨w.heap.size, n, cs, rfl, hB, heap_alloc_new w _, Nat.le_refl _, hn, by omega, by rw [← hs]; exact List.take_of_length_le (by simp)⟩⟩
end

/-- one number in a block of its own -/
theorem rv_one {w : World} {e : TypeId} {k : IntKind} {x : Int} : Rv (w.alloc (.cells #[.int k x] e)) (some ⟨w.heap.size, 0, none⟩) (1 * 1) (nums k [x]) := by
  refine ⟨rfl, fun _ => ⟨w.heap.size, 0, rfl, fun j u hu => ?_⟩⟩
  rw [Nat.zero_add, cell_of_row _ w.heap.size j #[.int k x] e (0, 0) (heap_alloc_new w _)]
  simpa [nums] using hu

theorem rv_two {w : World} {e : TypeId} {k : IntKind} {x y : Int} : Rv (w.alloc (.cells #[.int k x, .int k y] e)) (some ⟨w.heap.size, 0, none⟩) (2 * 1) (nums k [x, y]) := by
  refine ⟨rfl, fun _ => ⟨w.heap.size, 0, rfl, fun j u hu => ?_⟩⟩
  rw [Nat.zero_add, cell_of_row _ w.heap.size j #[.int k x, .int k y] e (0, 0) (heap_alloc_new w _)]
  simpa [nums] using hu
theorem Mn.ex {w : World} {B : Nat} {e : TypeId} {size n c : Nat} {A : Option Addr} {cs : List Value} (h : Mn w B e size (.slice A n c) n cs) (hn : 0 < n) : ∃ g, A = some ⟨g, 0, none⟩ := by
  rcases h.2 with ⟨hv, h0⟩ | ⟨g, cap, cur, hv, hb, hh, hc, hm, hs, ht⟩
  · omega
  · injection hv with h1 h2 h3
    exact ⟨g, h1⟩

/-! ### append onto a row of one's own -/
section
variable {P : Program} (w : World)

theorem grownBy_refl (w : World) (row : Option Nat) : w.grownBy w row := ⟨rfl, rfl, rfl, Nat.le_refl _, fun _ _ _ => rfl⟩

theorem run_append_mn (B : Nat) (t ty e : TypeId) (i : TypeInfo) (z : Value) (size bytes : Nat) (ht : P.underlying t = some (.slice e)) (hi : P.info? e = some i) (hz : i.zero = some z)
    (hsize : i.size = size) (hby : i.bytes = bytes) (hzs : z.cells.size = size) (hsz : 0 < size)
    (v : Value) (n : Nat) (xs : List Value) (hown : Mn w B e size v n xs)
    (A : Option Addr) (m c : Nat) (news : List Value) (hr : Rv w A (m * size) news) (h1 : ∀ u ∈ news, u.oneCell' = true)
    (hbytes : (n + m) * bytes ≤ 140737488355328) (hn : n + m ≤ 140737488355328) (hbase : B ≤ w.heap.size) :
    ∃ v' w', (Builtin.append_ #[t, t] ty #[v, .slice A m c]).run P w = .ok v' w' ∧ Mn w' B e size v' (n + m) (xs ++ news) ∧ w.grownBy w' v.ownBlock ∧
      (v'.ownBlock = v.ownBlock ∨ v'.ownBlock = some w.heap.size) := by
  subst hsize
  subst hby
  have h63 : n + m ≤ maxLen := by simp only [maxLen]; omega
  rcases Nat.eq_zero_or_pos m with hm0 | hmp
  · subst hm0
    have hnn : news = [] := List.eq_nil_of_length_eq_zero (by simpa using hr.1)
    subst hnn
    refine ⟨v, w, ?_, by simpa using hown, grownBy_refl w _, .inl rfl⟩
    rcases hown.2 with ⟨rfl, rfl⟩ | ⟨g, cap, cur, rfl, _, hh, hnc, _, hcs, _⟩
    · cases A <;> simp [Builtin.append_, run_underlying ht, sizeOf, typeInfo, hi, Builtin.lenOf, Builtin.firstCells, loadCells, loadCellsFrom]
    · cases A <;> simp [Builtin.append_, run_underlying ht, sizeOf, typeInfo, hi, Builtin.lenOf, Builtin.firstCells, hnc, storeCells, loadCells, loadCellsFrom]
  · obtain ⟨b, o, rfl, hcell⟩ := hr.2 (Nat.mul_pos hmp hsz)
    have hnews : ∀ j u, news[j]? = some u → w.cell? ((⟨b, o, none⟩ : Addr).add j) = some u := fun j u hu => by rw [add_lit]; exact hcell j u hu
    have hl := hr.1
    have hlen : (xs ++ news).length = (n + m) * i.size := by rw [List.length_append, hown.1, hl, Nat.add_mul]
    have grown : ∀ (old : Nat) (row : Option Nat),
        Mn (w.drew.alloc (.cells (xs.toArray ++ news.toArray ++ Builtin.zeroCells z.cells (grownCap w (n + m) old e - (n + m))) e)) B e i.size
          (.slice (some ⟨w.heap.size, 0, none⟩) (n + m) (grownCap w (n + m) old e)) (n + m) (xs ++ news) ∧
        w.grownBy (w.drew.alloc (.cells (xs.toArray ++ news.toArray ++ Builtin.zeroCells z.cells (grownCap w (n + m) old e - (n + m))) e)) row := by
      intro old row
      have hge := grownCap_ge w (n + m) old e
      have hcm : grownCap w (n + m) old e ≤ maxLen := grownCap_le_maxLen w (n + m) old e h63
      refine ⟨⟨hlen, .inr ⟨w.heap.size, _, _, rfl, hbase, heap_alloc_new w.drew _, hge, hcm, ?_, ?_⟩⟩, ⟨rfl, rfl, rfl, by simp, fun k hk _ => Below.heap_alloc w.drew _ k hk⟩⟩
      · refine Nat.le_of_eq ?_
        simp only [Array.size_append, List.size_toArray, size_zeroCells, hzs, hown.1, hl, ← Nat.add_mul]
        congr 1
        omega
      · simp only [Array.toList_append, List.append_assoc]
        rw [← List.append_assoc, ← hlen]
        exact List.take_left
    rcases hown.2 with ⟨rfl, rfl⟩ | ⟨g, cap, cur, rfl, hbg, hg, hnc, hcm, hcs, htake⟩
    · have hx : xs = [] := List.eq_nil_of_length_eq_zero (by simpa using hown.1)
      subst hx
      have hr' := run_append_nil (P := P) w t ty e i z ht hi hz ⟨b, o, none⟩ m c news hl hnews (by omega) (by omega) (by have hb := hbytes; simp only [Nat.zero_add] at hb; omega)
      have hgr := grown 0 (Value.ownBlock (.slice none 0 0))
      simp only [Nat.zero_add, List.nil_append, Array.empty_append] at hgr ⊢
      exact ⟨_, _, hr', hgr.1, hgr.2, .inr rfl⟩
    · by_cases hroom : n + m ≤ cap
      · have hfit : n * i.size + news.length ≤ cur.size := by rw [hl, ← Nat.add_mul]; exact Nat.le_trans (Nat.mul_le_mul_right _ hroom) hcs
        have hr' := run_append_room (P := P) w t ty e i ht hi g n cap cur hg ⟨b, o, none⟩ m c news hl hnews h1 hroom hfit
        refine ⟨_, _, hr', ⟨hlen, .inr ⟨g, cap, _, rfl, hbg, setRow_heap w g cur _ e _ hg, hroom, hcm, ?_, ?_⟩⟩, ⟨rfl, rfl, rfl, by simp, fun k hk hne => setRow_other w g k _ (fun e => hne (by simp [Value.ownBlock, e]))⟩, .inl rfl⟩
        · simp only [List.size_toArray, List.length_append, List.length_take, List.length_drop, Array.length_toList]
          omega
        · rw [htake, ← hlen]
          exact List.take_left
      · have holds : ∀ j u, xs[j]? = some u → w.cell? ((⟨g, 0, none⟩ : Addr).add j) = some u := by
          intro j u hu
          rw [add_lit0, cell_of_row w g j cur e (0, 0) hg]
          rw [← htake, List.getElem?_take] at hu
          split at hu
          · simpa using hu
          · cases hu
        have hr' := run_append_grow (P := P) w t ty e i z ht hi hz ⟨g, 0, none⟩ n cap xs hown.1 holds ⟨b, o, none⟩ m c news hl hnews (by omega) (by omega) (growslice_fits (by omega) hbytes)
        have hgr := grown cap (Value.ownBlock (.slice (some ⟨g, 0, none⟩) n cap))
        exact ⟨_, _, hr', hgr.1, hgr.2, .inr rfl⟩

/-- In a walk: behind 'at_builtin'. -/
theorem wpList_append_mn {ops : Array Oper} {rest : List Oper} {o : Oper} {a : Act} {Q : Exit → Act → World → Prop} (hgd : o.guard = none) (s x : Operand) (t : TypeId)
    (ho : o.op = .call { callee := .builtin .append, args := #[s, x], argTypes := #[t, t] })
    (B : Nat) (e : TypeId) (z : Value) (size bytes : Nat) (ht : P.underlying t = some (.slice e)) (hinfo : (P.info? e).map (fun i => (i.zero, i.size, i.bytes)) = some (some z, size, bytes))
    (hzs : z.cells.size = size) (hsz : 0 < size)
    (v : Value) (n : Nat) (xs : List Value) (hs : a.eval s = v) (hown : Mn w B e size v n xs)
    (A : Option Addr) (m c : Nat) (news : List Value) (hx : a.eval x = .slice A m c) (hr : Rv w A (m * size) news) (h1 : ∀ u ∈ news, u.oneCell' = true)
    (hbytes : (n + m) * bytes ≤ 140737488355328) (hn : n + m ≤ 140737488355328) (hbase : B ≤ w.heap.size)
    (h : ∀ A' cap' w', n + m ≤ cap' → Mn w' B e size (.slice A' (n + m) cap') (n + m) (xs ++ news) → w.grownBy w' v.ownBlock → (A'.map (·.block) = v.ownBlock ∨ A'.map (·.block) = some w.heap.size) → wpList P ops Q rest (a.put o.dst (.slice A' (n + m) cap')) w') :
    wpList P ops Q (o :: rest) a w := by
  obtain ⟨i0, hi, hz, hi1, hi2⟩ := info_parts hinfo
  obtain ⟨v', w', hrun, h2, h3, h4⟩ := run_append_mn (P := P) w B t o.type e i0 z size bytes ht hi hz hi1 hi2 hzs hsz v n xs hown A m c news hr h1 hbytes hn hbase
  obtain ⟨A', cap', rfl, hcap⟩ := h2.form
  refine wpList_plain hgd fun K hK => ?_
  unfold Oper.wp execOp
  simp only [ho, resolve, invoke, builtin, Sem.run_bind, Sem.run_pure, Result.andThen_ok, List.map_toArray, List.map_cons, List.map_nil, hs, hx, hrun]
  refine hK _ _ (h A' cap' w' hcap h2 h3 ?_)
  cases A' <;> simpa [Value.ownBlock] using h4
end

end Go.Proofs.Ytnmhhjgiakijgaa

/- slices.Clone and slices.Clip at symbols; bits.whole, bits.Put: contracts. -/
namespace Go.Proofs.Ytnmhhjgiakijgaa
open Go.RowKit
set_option linter.unusedVariables false

theorem info50 : (Try.prog.info? 50).map (fun i => (i.zero, i.size, i.bytes)) = some (some (.int .u8 0), 1, 1) := by kernel_rfl

theorem below_grown {w w' : World} {row : Option Nat} (hg : w.grownBy w' row) (hr : ∀ k, row = some k → w.heap.size ≤ k) : Below w.heap.size w w' :=
  (Below.refl _ _).grown hg (Nat.le_refl _) hr

set_option maxHeartbeats 400000 in
set_option maxRecDepth 20000 in
theorem clone50 (A : Option Addr) (n c : Nat) (cs : List Value) (w : World) (hr : Rv w A n cs) (h1 : ∀ u ∈ cs, u.oneCell' = true) (hc : n ≤ c) (hn : n ≤ 60000) :
    Calls Try.prog 100 #[.slice A n c] w fun e w' => ∃ A' c', e = .returned (.slice A' n c') ∧ n ≤ c' ∧ Mn w' w.heap.size 50 1 (.slice A' n c') n cs ∧ Below w.heap.size w w' := by
  cases A with
  | none =>
    have h0 : n = 0 := by
      rcases Nat.eq_zero_or_pos n with h | h
      · exact h
      · obtain ⟨b, o, e, _⟩ := hr.at_ h
        cases e
    subst h0
    have hcs : cs = [] := List.eq_nil_of_length_eq_zero hr.1
    subst hcs
    clear hr h1
    have hnil := fun wx => Lib.run_eql_slice_nil (P := Try.prog) wx 22 50 none 0 c 0 0 Try.underlying22
    go_enter Try.func100, Try.ntmps100
    go_wp2
    go_ret
    exact ⟨none, 0, rfl, Nat.le_refl _, Mn.nil _ _ _ _, Below.refl _ _⟩
  | some a =>
    have HR := Lib.hid hr
    have H1 := Lib.hid h1
    clear hr h1
    have hnil := fun wx => Lib.run_eql_slice_nil (P := Try.prog) wx 22 50 (some a) n c 0 0 Try.underlying22
    go_enter Try.func100, Try.ntmps100
    go_wp2_with (first
      | (at_builtin
         refine wpList_append_mn _ rfl _ _ _ rfl w.heap.size 50 _ 1 1 Try.underlying22 info50 rfl (by omega) (.slice (some ⟨w.heap.size, 0, none⟩) 0 0) 0 [] rfl (Mn.lit w 50 1 0 #[] (Nat.le_refl _) (by simp) (by omega)) (some a) n c cs rfl (by rw [Nat.mul_one]; exact HR.out.alloc _) H1.out (by omega) (by omega) (by simp) ?_
         intro A1 c1 w1 hc1 hm1 hg1 hat1))
    go_ret
    exact ⟨A1, c1, rfl, by omega, by simpa using hm1, ((Below.refl _ _).alloc (Nat.le_refl _) _).grown hg1 (by simp) (fun k hk => by simp [Value.ownBlock] at hk; omega)⟩

set_option maxHeartbeats 400000 in
set_option maxRecDepth 20000 in
theorem clip50 (A : Option Addr) (n c : Nat) (w : World) (hc : n ≤ c) (hm : c ≤ maxLen) :
    Calls Try.prog 101 #[.slice A n c] w fun e w' => e = .returned (.slice A n n) ∧ w = w' := by
  unfold maxLen at hm
  go_enter Try.func101, Try.ntmps101
  go_wp2
  go_ret
  exact ⟨rfl, rfl⟩

/-! ### run equations: the results behind names -/
section
variable {P : Program} (t t' : TypeId) (w : World)
theorem run_min64 (ats : Array TypeId) (x : Int) : (Builtin.min_ ats t #[.int .i64 x, .int .i64 64]).run P w = .ok (.int .i64 (cut64 x)) w := rfl
end

theorem ediv_shr (N L : Nat) : (N : Int) / 2 ^ L = ((shr N L : Nat) : Int) := by simp [shr]
theorem bits_and1 (M : Nat) (hM : M < 18446744073709551616) : bits .and .u64 (M : Int) 1 = ((low M : Nat) : Int) := by
  have h : bits .and .u64 (M : Int) 1 = IntKind.u64.wrap ((BitVec.ofInt 64 (M : Int) &&& BitVec.ofInt 64 1).toNat : Int) := rfl
  rw [h]
  have h2 : (BitVec.ofInt 64 (M : Int) &&& BitVec.ofInt 64 1).toNat = low M := by
    simp [low, Nat.and_one_is_mod]
    try omega
  rw [h2]
  have := low_lt M
  simp only [IntKind.wrap, IntKind.signed, IntKind.bits]
  simp
  try omega
theorem bits_and_shr (N L : Nat) (hN : N < 18446744073709551616) : bits .and .u64 ((N : Int) / 2 ^ L) 1 = ((low (shr N L) : Nat) : Int) := by
  rw [ediv_shr]
  exact bits_and1 _ (Nat.lt_of_le_of_lt (shr_le _ _) hN)
end Go.Proofs.Ytnmhhjgiakijgaa

/- bits.Put: its contract. -/
namespace Go.Proofs.Ytnmhhjgiakijgaa
open Go.RowKit
set_option linter.unusedVariables false

/-- what holds at Put's label -/
def PutRel (w : World) (xs : List Int) (N : Nat) (b : Int) (v7 v8 : Value) (w' : World) : Prop :=
  ∃ (l : Int) (m c' : Nat) (A' : Option Addr) (ys : List Int), v8 = .int .i64 l ∧ v7 = .slice A' m c' ∧ l ≤ 64 ∧ m ≤ c' ∧ m + l.toNat ≤ 60064 ∧ Mn w' w.heap.size 50 1 (.slice A' m c') m (nums .u8 ys) ∧
    ys ++ putL N l.toNat = putA xs N b ∧ Below w.heap.size w w'

set_option maxHeartbeats 1600000 in
set_option maxRecDepth 20000 in
theorem put_calls (A : Option Addr) (n c : Nat) (xs : List Int) (N : Nat) (b : Int) (w : World) (hr : Rd w .u8 A n xs) (hc : n ≤ c) (hn : n ≤ 60000) (hN : N < 18446744073709551616) :
    Calls Try.prog 31 #[.slice A n c, .int .u64 N, .int .i64 b] w fun e w' => ∃ A' m, e = .returned (.slice A' m m) ∧ m = n + many b ∧ Mn w' w.heap.size 50 1 (.slice A' m m) m (nums .u8 (putA xs N b)) ∧ Below w.heap.size w w' := by
  have HR := Lib.hid hr
  have HN := Lib.hid hN
  have HL := Lib.hid hr.len
  clear hr hN
  have hmin := fun ats ty wx => run_min64 (P := Try.prog) ty wx ats b
  go_enter Try.func31, Try.ntmps31
  go_wp2
  refine wp_scope_jumps 0 (fun a' w' => ∃ (v7 v8 u9 u10 u11 u12 u13 u14 u15 u16 u17 u18 u19 u20 u21 u22 u23 u24 u25 u26 u27 : Value), PutRel w xs N b v7 v8 w' ∧
    a' = { tmps := #[.slice A n c, .int .u64 N, .int .i64 b, undef, undef, undef, .slice none 0 0, v7, v8, u9, u10, u11, u12, u13, u14, u15, u16, u17, u18, u19, u20, u21, u22, u23, u24, u25, u26, u27], defers := [] })
    (fun a' _ => (intOf (a'.tmps.getD 8 undef)).toNat) rfl ?_ ?_
  · go_wp2_with (go_at_call 100; refine (clone50 A n c (nums .u8 xs) _ HR.out (nums_one _ _) hc hn).mono ?_; rintro e w1 ⟨A', c', rfl, hcc, hm, hb⟩)
    go_step3
    clear hmin
    have hl64 := cut64_le b
    have hyl : xs ++ putL N (cut64 b).toNat = putA xs N b := rfl
    have hsum : n + (cut64 b).toNat ≤ 60064 := by omega
    generalize cut64 b = l at *
    by_cases hl0 : l ≤ 0
    · have hz : putL N l.toNat = [] := by rw [show l.toNat = 0 from by omega]; rfl
      have hys : xs = putA xs N b := by rw [hz] at hyl; simpa using hyl
      rw [hys] at hm
      have hmm : n = n + many b := by have := hm.1; rw [nums_length, putA_length] at this; have := HL.out; omega
      clear hyl hz
      have HM := Lib.hid hmm
      clear hmm
      go_wp2_with (go_at_call 101; refine (clip50 _ _ _ _ hcc (Mn.cap_le hm)).mono ?_; rintro e w2 ⟨rfl, rfl⟩)
      simp only [Exit.jump]
      go_ret
      exact ⟨_, _, rfl, HM.out, hm.clip, hb⟩
    · obtain ⟨L, rfl⟩ : ∃ L : Nat, l = (L : Int) + 1 := ⟨(l - 1).toNat, by omega⟩
      have hlo := low_lt (shr N L)
      have hand := bits_and_shr N L HN.out
      have HY := Lib.hid hyl
      clear hyl
      go_wp2_with (first
        | (at_builtin
           refine wpList_append_mn _ rfl _ _ _ rfl w.heap.size 50 _ 1 1 Try.underlying22 info50 rfl (by omega) (.slice A' n c') n (nums .u8 xs) rfl (hm.alloc _) _ 1 1 (nums .u8 [bitOf N L]) rfl rv_one (nums_one _ _) (by omega) (by omega) (by simp; have := hb.size; omega) ?_
           intro A2 c2 w2 hc2 hm2 hg2 hat2))
      go_step3
      have e1 : xs ++ [bitOf N L] ++ putL N L = putA xs N b := by
        have := HY.out
        rw [show ((L : Int) + 1).toNat = L + 1 from by omega] at this
        rw [← this, List.append_assoc]; rfl
      have hb2 : Below w.heap.size w w2 := (hb.alloc hb.size _).grown hg2 (by simp; have := hb.size; omega) (fun k hk => (hm.block hk).1)
      have hrel : PutRel w xs N b (.slice A2 (n + 1) c2) (.int .i64 (L : Int)) w2 :=
        ⟨L, n + 1, c2, A2, xs ++ [bitOf N L], rfl, rfl, by omega, hc2, by omega, by rw [nums_append]; exact hm2, by simpa using e1, hb2⟩
      exact ⟨rfl, _, _, _, _, _, _, _, _, _, _, _, _, _, _, _, _, _, _, _, _, _, hrel, rfl⟩
  · rintro a' w1 ⟨v7, v8, u9, u10, u11, u12, u13, u14, u15, u16, u17, u18, u19, u20, u21, u22, u23, u24, u25, u26, u27, ⟨l, m, c', A', ys, rfl, rfl, hl64, hcc, hsum, hm, hyl, hb⟩, rfl⟩
    by_cases hl0 : l ≤ 0
    · have hz : putL N l.toNat = [] := by rw [show l.toNat = 0 from by omega]; rfl
      have hys : ys = putA xs N b := by rw [hz] at hyl; simpa using hyl
      subst hys
      have hmm : m = n + many b := by have := hm.1; rw [nums_length, putA_length] at this; have := HL.out; omega
      clear hyl hz
      have HM := Lib.hid hmm
      clear hmm
      go_wp2_with (go_at_call 101; refine (clip50 _ _ _ _ hcc (Mn.cap_le hm)).mono ?_; rintro e w2 ⟨rfl, rfl⟩)
      simp only [Exit.jump]
      go_ret
      exact ⟨_, _, rfl, HM.out, hm.clip, hb⟩
    · obtain ⟨L, rfl⟩ : ∃ L : Nat, l = (L : Int) + 1 := ⟨(l - 1).toNat, by omega⟩
      have hlo := low_lt (shr N L)
      have hand := bits_and_shr N L HN.out
      have HY := Lib.hid hyl
      clear hyl
      go_wp2_with (first
        | (at_builtin
           refine wpList_append_mn _ rfl _ _ _ rfl w.heap.size 50 _ 1 1 Try.underlying22 info50 rfl (by omega) (.slice A' m c') m (nums .u8 ys) rfl (hm.alloc _) _ 1 1 (nums .u8 [bitOf N L]) rfl rv_one (nums_one _ _) (by omega) (by omega) (by simp; have := hb.size; omega) ?_
           intro A2 c2 w2 hc2 hm2 hg2 hat2))
      go_step3
      have e1 : ys ++ [bitOf N L] ++ putL N L = putA xs N b := by
        have := HY.out
        rw [show ((L : Int) + 1).toNat = L + 1 from by omega] at this
        rw [← this, List.append_assoc]; rfl
      have hb2 : Below w.heap.size w w2 := (hb.alloc hb.size _).grown hg2 (by simp; have := hb.size; omega) (fun k hk => (hm.block hk).1)
      have hrel : PutRel w xs N b (.slice A2 (m + 1) c2) (.int .i64 (L : Int)) w2 :=
        ⟨L, m + 1, c2, A2, ys ++ [bitOf N L], rfl, rfl, by omega, hc2, by omega, by rw [nums_append]; exact hm2, by simpa using e1, hb2⟩
      exact ⟨rfl, ⟨_, _, _, _, _, _, _, _, _, _, _, _, _, _, _, _, _, _, _, _, _, hrel, rfl⟩, by simp [intOf]⟩
end Go.Proofs.Ytnmhhjgiakijgaa

/- Sameness of lists; whole symbols; numbers of symbols: contracts. -/
namespace Go.Proofs.Ytnmhhjgiakijgaa
open Go.RowKit
set_option linter.unusedVariables false

theorem gt_ne_of {xs ys : List Int} (hl : xs.length = ys.length) (h : ∀ j, j < xs.length → gt xs j = gt ys j) : xs = ys := gt_ext hl h

set_option maxHeartbeats 1600000 in
set_option maxRecDepth 20000 in
theorem samesyms_calls (A B : Option Addr) (n m c d : Nat) (xs ys : List Int) (w : World) (hr : Rd w .u8 A n xs) (hs : Rd w .u8 B m ys) (hc : n ≤ c) (hd : m ≤ d) (hn : n ≤ 60000) :
    Calls Try.prog 32 #[.slice A n c, .slice B m d] w fun e w' => e = .returned (.bool (sameL xs ys)) ∧ ∃ q, w' = w.drewN q := by
  have HR := Lib.hid hr
  have HS := Lib.hid hs
  have HL := Lib.hid hr.len
  have HM := Lib.hid hs.len
  clear hr hs
  by_cases hnm : n = m
  · subst hnm
    go_enter Try.func32, Try.ntmps32
    go_wp2
    go_loopg [5] n (fun g v w' => ∃ k q : Nat, g + k = n ∧ v = .int .i64 k ∧ (∀ j, j < k → gt xs j = gt ys j) ∧ w' = w.drewN q)
    case atStart => exact ⟨0, 0, rfl, rfl, fun j hj => absurd hj (by omega), rfl⟩
    case round =>
      obtain ⟨k, q, hk, rfl, heq, rfl⟩ := hrel
      have HE := Lib.hid heq
      clear heq
      by_cases hlt : k < n
      · obtain ⟨b, o, rfl, hcell⟩ := HR.out.at_ k hlt
        obtain ⟨b', o', rfl, hcell'⟩ := HS.out.at_ k hlt
        by_cases hx : gt xs k = gt ys k
        · have hx' : (gt xs k != gt ys k) = false := by simp [hx]
          have HX := Lib.hid hx
          clear hx
          have HK := Lib.hid hk
          clear hk
          go_wp2
          go_quiet (fail)
          go_wp2
          obtain ⟨g', rfl⟩ : ∃ g', gk = g' + 1 := ⟨gk - 1, by have := HK.out; omega⟩
          go_roundg g'
          case measure => omega
          case rel => exact ⟨k + 1, _, by have := HK.out; omega, by go_num, fun j hj => by
            rcases Nat.lt_succ_iff_lt_or_eq.1 hj with h | h
            · exact HE.out j h
            · rw [h]; exact HX.out, rfl⟩
        · have hx' : (gt xs k != gt ys k) = true := by simp [hx]
          have HX := Lib.hid hx
          clear hx
          go_wp2
          go_quiet (fail)
          go_wp2
          go_ret
          refine ⟨?_, _, World.drewN_drewN ..⟩
          have : sameL xs ys = false := by
            unfold sameL
            exact decide_eq_false fun e => HX.out (by rw [e])
          rw [this]; rfl
      · have e : k = n := by omega
        subst e
        have hfin : sameL xs ys = true := by
          unfold sameL
          exact decide_eq_true (gt_ne_of (HL.out.trans HM.out.symm) (fun j hj => HE.out j (by have := HL.out; omega)))
        have HF := Lib.hid hfin
        clear hfin
        go_wp2
        go_ret
        exact ⟨by rw [HF.out]; rfl, _, rfl⟩
  · have hx' : ((n : Int) != (m : Int)) = true := by simp; omega
    have hfin : sameL xs ys = false := by
      unfold sameL
      exact decide_eq_false fun e => hnm (by rw [← HL.out, ← HM.out, e])
    have HF := Lib.hid hfin
    clear hfin
    go_enter Try.func32, Try.ntmps32
    go_wp2
    go_ret
    exact ⟨by rw [HF.out]; rfl, 0, rfl⟩
set_option maxHeartbeats 1600000 in
set_option maxRecDepth 20000 in
theorem samenums_calls (A B : Option Addr) (n m c d : Nat) (xs ys : List Int) (w : World) (hr : Rd w .i64 A n xs) (hs : Rd w .i64 B m ys) (hc : n ≤ c) (hd : m ≤ d) (hn : n ≤ 60000) :
    Calls Try.prog 106 #[.slice A n c, .slice B m d] w fun e w' => e = .returned (.bool (sameL xs ys)) ∧ ∃ q, w' = w.drewN q := by
  have HR := Lib.hid hr
  have HS := Lib.hid hs
  have HL := Lib.hid hr.len
  have HM := Lib.hid hs.len
  clear hr hs
  by_cases hnm : n = m
  · subst hnm
    go_enter Try.func106, Try.ntmps106
    go_wp2
    go_loopg [5] n (fun g v w' => ∃ k q : Nat, g + k = n ∧ v = .int .i64 k ∧ (∀ j, j < k → gt xs j = gt ys j) ∧ w' = w.drewN q)
    case atStart => exact ⟨0, 0, rfl, rfl, fun j hj => absurd hj (by omega), rfl⟩
    case round =>
      obtain ⟨k, q, hk, rfl, heq, rfl⟩ := hrel
      have HE := Lib.hid heq
      clear heq
      by_cases hlt : k < n
      · obtain ⟨b, o, rfl, hcell⟩ := HR.out.at_ k hlt
        obtain ⟨b', o', rfl, hcell'⟩ := HS.out.at_ k hlt
        by_cases hx : gt xs k = gt ys k
        · have hx' : (gt xs k != gt ys k) = false := by simp [hx]
          have HX := Lib.hid hx
          clear hx
          have HK := Lib.hid hk
          clear hk
          go_wp2
          go_quiet (fail)
          go_wp2
          obtain ⟨g', rfl⟩ : ∃ g', gk = g' + 1 := ⟨gk - 1, by have := HK.out; omega⟩
          go_roundg g'
          case measure => omega
          case rel => exact ⟨k + 1, _, by have := HK.out; omega, by go_num, fun j hj => by
            rcases Nat.lt_succ_iff_lt_or_eq.1 hj with h | h
            · exact HE.out j h
            · rw [h]; exact HX.out, rfl⟩
        · have hx' : (gt xs k != gt ys k) = true := by simp [hx]
          have HX := Lib.hid hx
          clear hx
          go_wp2
          go_quiet (fail)
          go_wp2
          go_ret
          refine ⟨?_, _, World.drewN_drewN ..⟩
          have : sameL xs ys = false := by
            unfold sameL
            exact decide_eq_false fun e => HX.out (by rw [e])
          rw [this]; rfl
      · have e : k = n := by omega
        subst e
        have hfin : sameL xs ys = true := by
          unfold sameL
          exact decide_eq_true (gt_ne_of (HL.out.trans HM.out.symm) (fun j hj => HE.out j (by have := HL.out; omega)))
        have HF := Lib.hid hfin
        clear hfin
        go_wp2
        go_ret
        exact ⟨by rw [HF.out]; rfl, _, rfl⟩
  · have hx' : ((n : Int) != (m : Int)) = true := by simp; omega
    have hfin : sameL xs ys = false := by
      unfold sameL
      exact decide_eq_false fun e => hnm (by rw [← HL.out, ← HM.out, e])
    have HF := Lib.hid hfin
    clear hfin
    go_enter Try.func106, Try.ntmps106
    go_wp2
    go_ret
    exact ⟨by rw [HF.out]; rfl, 0, rfl⟩
end Go.Proofs.Ytnmhhjgiakijgaa

/- Whole symbols, and numbers of symbols: contracts. -/
namespace Go.Proofs.Ytnmhhjgiakijgaa
open Go.RowKit
set_option linter.unusedVariables false

theorem wrap_u64 (n : Int) : IntKind.u64.wrap n = n % 18446744073709551616 := by simp [IntKind.wrap, IntKind.bits, IntKind.signed]
theorem bits_or_nat (a b : Nat) (ha : a < 18446744073709551616) (hb : b < 18446744073709551616) : bits .or .u64 (a : Int) (b : Int) = ((a ||| b : Nat) : Int) := by
  have h : bits .or .u64 (a : Int) (b : Int) = IntKind.u64.wrap ((BitVec.ofInt 64 (a : Int) ||| BitVec.ofInt 64 (b : Int)).toNat : Int) := rfl
  have h1 : BitVec.ofInt 64 (a : Int) = BitVec.ofNat 64 a := by simp
  have h2 : BitVec.ofInt 64 (b : Int) = BitVec.ofNat 64 b := by simp
  rw [h, h1, h2, BitVec.toNat_or, BitVec.toNat_ofNat, BitVec.toNat_ofNat, Nat.mod_eq_of_lt ha, Nat.mod_eq_of_lt hb, wrap_u64]
  have : a ||| b < 2 ^ 64 := Nat.or_lt_two_pow ha hb
  omega
theorem bits_or_low (N : Nat) (x : Int) (hN : N < 9223372036854775808) (hx : x = 1 ∨ x = 2) :
    bits .or .u64 (IntKind.u64.wrap ((N : Int) * 2)) ((x - 1) % 256) = ((2 * N + (x - 1).toNat : Nat) : Int) := by
  have e1 : IntKind.u64.wrap ((N : Int) * 2) = ((2 * N : Nat) : Int) := by rw [wrap_u64]; omega
  have e2 : (x - 1) % 256 = (((x - 1).toNat : Nat) : Int) := by omega
  rw [e1, e2, bits_or_nat _ _ (by omega) (by omega)]
  have := Nat.two_pow_add_eq_or_of_lt (i := 1) (b := (x - 1).toNat) (by omega) N
  simp only [Nat.pow_one] at this
  rw [this]

theorem whole_calls (x : Int) (w : World) : Calls Try.prog 105 #[.int .u8 x] w fun e w' => e = .returned (.bool (wholeB x)) ∧ w = w' := by
  by_cases h : x = 1
  · subst h
    go_enter Try.func105, Try.ntmps105
    go_wp2
    go_ret
    exact ⟨rfl, rfl⟩
  · have h1 : (x == 1) = false := beq_eq_false_iff_ne.2 h
    go_enter Try.func105, Try.ntmps105
    go_wp2
    go_ret
    exact ⟨by unfold wholeB; rw [h1]; rfl, rfl⟩

theorem notwhole_calls (x : Int) (w : World) : Calls Try.prog 108 #[.int .u8 x] w fun e w' => e = .returned (.bool (!wholeB x)) ∧ w = w' := by
  go_enter Try.func108, Try.ntmps108
  go_wp2_with (go_at_call 105; refine (whole_calls _ _).mono ?_; rintro e w' ⟨rfl, rfl⟩)
  go_ret
  exact ⟨rfl, rfl⟩

set_option maxHeartbeats 1600000 in
set_option maxRecDepth 20000 in
theorem index_calls (A : Option Addr) (n c : Nat) (xs : List Int) (w : World) (hr : Rd w .u8 A n xs) (hc : n ≤ c) (hn : n ≤ 60000) :
    Calls Try.prog 147 #[.slice A n c, .func (.func 108) #[] #[]] w fun e w' => ∃ r : Int, e = .returned (.int .i64 r) ∧ decide (0 ≤ r) = !wholeL xs ∧ w = w' := by
  have HR := Lib.hid hr
  have HL := Lib.hid hr.len
  clear hr
  go_enter Try.func147, Try.ntmps147
  go_wp2
  go_loop [8] (fun v => ∃ k : Nat, k ≤ n ∧ v = .int .i64 k ∧ (∀ j, j < k → wholeB (gt xs j) = true)) (fun v => n - (intOf v).toNat)
  case atStart => exact ⟨0, Nat.zero_le _, rfl, fun j hj => absurd hj (by omega)⟩
  case round =>
    obtain ⟨k, hk, rfl, heq⟩ := hrel
    have HE := Lib.hid heq
    clear heq
    by_cases hlt : k < n
    · obtain ⟨b, o, rfl, hcell⟩ := HR.out.at_ k hlt
      cases hx : wholeB (gt xs k) with
      | true =>
        go_wp2_with (go_at_call 108; refine (notwhole_calls _ _).mono ?_; rintro e w' ⟨rfl, rfl⟩)
        go_round
        case rel => exact ⟨k + 1, by omega, by go_num, fun j hj => by
          rcases Nat.lt_succ_iff_lt_or_eq.1 hj with h | h
          · exact HE.out j h
          · rw [h]; exact hx⟩
        case measure => simp [intOf]; omega
      | false =>
        have hfin := wholeL_false (by rw [HL.out]; exact hlt) hx
        have HF := Lib.hid hfin
        clear hfin
        go_wp2_with (go_at_call 108; refine (notwhole_calls _ _).mono ?_; rintro e w' ⟨rfl, rfl⟩)
        go_ret
        exact ⟨k, rfl, by rw [HF.out]; simp, rfl⟩
    · have hfin : wholeL xs = true := (wholeL_iff xs).2 (fun j hj => HE.out j (by have := HL.out; omega))
      have HF := Lib.hid hfin
      clear hfin
      go_wp2
      go_ret
      exact ⟨-1, rfl, by rw [HF.out]; rfl, rfl⟩

set_option maxRecDepth 20000 in
theorem contains_calls (A : Option Addr) (n c : Nat) (xs : List Int) (w : World) (hr : Rd w .u8 A n xs) (hc : n ≤ c) (hn : n ≤ 60000) :
    Calls Try.prog 107 #[.slice A n c, .func (.func 108) #[] #[]] w fun e w' => e = .returned (.bool (!wholeL xs)) ∧ w = w' := by
  have HR := Lib.hid hr
  clear hr
  go_enter Try.func107, Try.ntmps107
  go_wp2_with (go_at_call 147; refine (index_calls _ _ _ xs _ HR.out hc hn).mono ?_; rintro e w' ⟨r, rfl, hr, rfl⟩)
  go_ret
  exact ⟨rfl, rfl⟩

set_option maxRecDepth 20000 in
theorem wholes_calls (A : Option Addr) (n c : Nat) (xs : List Int) (w : World) (hr : Rd w .u8 A n xs) (hc : n ≤ c) (hn : n ≤ 60000) :
    Calls Try.prog 42 #[.slice A n c] w fun e w' => e = .returned (.bool (wholeL xs)) ∧ w = w' := by
  have HR := Lib.hid hr
  clear hr
  go_enter Try.func42, Try.ntmps42
  go_wp2_with (go_at_call 107; refine (contains_calls _ _ _ xs _ HR.out hc hn).mono ?_; rintro e w' ⟨rfl, rfl⟩)
  go_ret
  exact ⟨by simp, rfl⟩

set_option maxHeartbeats 1600000 in
set_option maxRecDepth 20000 in
theorem refwhole_calls (A : Option Addr) (n c : Nat) (xs : List Int) (w : World) (hr : Rd w .u8 A n xs) (hc : n ≤ c) (hn : n ≤ 60000) :
    Calls Try.prog 49 #[.slice A n c] w fun e w' => e = .returned (.bool (wholeL xs)) ∧ w = w' := by
  have HR := Lib.hid hr
  have HL := Lib.hid hr.len
  clear hr
  go_enter Try.func49, Try.ntmps49
  go_wp2
  go_loop [3] (fun v => ∃ k : Nat, k ≤ n ∧ v = .int .i64 k ∧ (∀ j, j < k → wholeB (gt xs j) = true)) (fun v => n - (intOf v).toNat)
  case atStart => exact ⟨0, Nat.zero_le _, rfl, fun j hj => absurd hj (by omega)⟩
  case round =>
    obtain ⟨k, hk, rfl, heq⟩ := hrel
    have HE := Lib.hid heq
    clear heq
    by_cases hlt : k < n
    · obtain ⟨b, o, rfl, hcell⟩ := HR.out.at_ k hlt
      cases hx : wholeB (gt xs k) with
      | true =>
        have HX := Lib.hid hx
        clear hx
        rcases wholeB_cases HX.out with h1 | h1
        all_goals
          rw [h1] at hcell
          go_wp2
          go_round
          case rel => exact ⟨k + 1, by omega, by go_num, fun j hj => by
            rcases Nat.lt_succ_iff_lt_or_eq.1 hj with h | h
            · exact HE.out j h
            · rw [h]; exact HX.out⟩
          case measure => simp [intOf]; omega
      | false =>
        have hfin := wholeL_false (by rw [HL.out]; exact hlt) hx
        have HF := Lib.hid hfin
        clear hfin
        have h12 : (gt xs k != 1) = true ∧ (gt xs k != 2) = true := by
          unfold wholeB at hx
          simpa using hx
        obtain ⟨h1, h2⟩ := h12
        clear hx
        go_wp2
        go_ret
        exact ⟨by rw [HF.out]; rfl, rfl⟩
    · have hfin : wholeL xs = true := (wholeL_iff xs).2 (fun j hj => HE.out j (by have := HL.out; omega))
      have HF := Lib.hid hfin
      clear hfin
      go_wp2
      go_ret
      exact ⟨by rw [HF.out]; rfl, rfl⟩

set_option maxHeartbeats 1600000 in
set_option maxRecDepth 20000 in
theorem num_calls (A : Option Addr) (n c : Nat) (xs : List Int) (w : World) (hr : Rd w .u8 A n xs) (hc : n ≤ c) (hn : n ≤ 60000) :
    Calls Try.prog 29 #[.slice A n c] w fun e w' => e = .returned (.tuple #[.int .u64 (numV xs), .bool (numOk xs)]) ∧ w = w' := by
  have HR := Lib.hid hr
  have HL := Lib.hid hr.len
  clear hr
  by_cases h64 : 64 < n
  · have hg : decide ((n : Int) > 64) = true := by simp; omega
    have hok : numOk xs = false := by unfold numOk; rw [HL.out]; simp; omega
    have HF := Lib.hid hok
    clear hok
    go_enter Try.func29, Try.ntmps29
    go_wp2_with (go_at_call 42; refine (wholes_calls _ _ _ xs _ HR.out hc hn).mono ?_; rintro e w' ⟨rfl, rfl⟩)
    go_ret2
    exact ⟨by unfold numV; rw [HF.out]; rfl, rfl⟩
  · cases hwl : wholeL xs with
    | false =>
      have hok : numOk xs = false := by unfold numOk; rw [hwl]; simp
      have HF := Lib.hid hok
      clear hok
      go_enter Try.func29, Try.ntmps29
      go_wp2_with (go_at_call 42; refine (wholes_calls _ _ _ xs _ HR.out hc hn).mono ?_; rintro e w' ⟨rfl, rfl⟩)
      go_ret2
      exact ⟨by unfold numV; rw [HF.out]; rfl, rfl⟩
    | true =>
      have hok : numOk xs = true := by unfold numOk; rw [hwl, HL.out]; simp; omega
      have HF := Lib.hid hok
      clear hok
      have HW := Lib.hid hwl
      go_enter Try.func29, Try.ntmps29
      go_wp2_with (go_at_call 42; refine (wholes_calls _ _ _ xs _ HR.out hc hn).mono ?_; rintro e w' ⟨rfl, rfl⟩)
      go_loop [2, 16] (fun u v => ∃ (k N : Nat), k ≤ n ∧ v = .int .i64 k ∧ u = .int .u64 N ∧ Hid (N = numL (xs.take k))) (fun _ v => n - (intOf v).toNat)
      case atStart => exact ⟨0, 0, Nat.zero_le _, rfl, rfl, rfl⟩
      case round =>
        obtain ⟨k, N, hk, rfl, rfl, HN⟩ := hrel
        by_cases hlt : k < n
        · obtain ⟨b, o, rfl, hcell⟩ := HR.out.at_ k hlt
          have hN63 : N < 9223372036854775808 := by
            have h1 := numL_lt xs HW.out k (by rw [HL.out]; exact hk)
            rw [← HN.out] at h1
            exact Nat.lt_of_lt_of_le h1 (show 2 ^ k ≤ 2 ^ 63 from Nat.pow_le_pow_right (by omega) (by omega))
          have hor := bits_or_low N (gt xs k) hN63 (wholeB_cases ((wholeL_iff xs).1 HW.out k (by rw [HL.out]; exact hlt)))
          have HO := Lib.hid hor
          clear hor hN63
          go_wp2
          go_round
          case rel => exact ⟨k + 1, 2 * N + (gt xs k - 1).toNat, by omega, by go_num, by rw [HO.out], by
            show _ = _
            rw [numL_take xs k (by rw [HL.out]; exact hlt), HN.out]⟩
          case measure => simp [intOf]; omega
        · go_wp2
          go_ret2
          have e : N = numV xs := by
            have h1 := HN.out
            unfold numV
            rw [HF.out, if_pos rfl, h1, List.take_of_length_le (by rw [HL.out]; omega)]
          exact ⟨by rw [HF.out, ← e]; rfl, rfl⟩

set_option maxHeartbeats 1600000 in
set_option maxRecDepth 20000 in
theorem refnum_calls (A : Option Addr) (n c : Nat) (xs : List Int) (w : World) (hr : Rd w .u8 A n xs) (hc : n ≤ c) (hn : n ≤ 60000) :
    Calls Try.prog 30 #[.slice A n c] w fun e w' => e = .returned (.tuple #[.int .u64 (numV xs), .bool (numOk xs)]) ∧ w = w' := by
  have HR := Lib.hid hr
  have HL := Lib.hid hr.len
  clear hr
  by_cases h64 : 64 < n
  · have hg : decide ((n : Int) > 64) = true := by simp; omega
    have hok : numOk xs = false := by unfold numOk; rw [HL.out]; simp; omega
    have HF := Lib.hid hok
    clear hok
    go_enter Try.func30, Try.ntmps30
    go_wp2_with (go_at_call 49; refine (refwhole_calls _ _ _ xs _ HR.out hc hn).mono ?_; rintro e w' ⟨rfl, rfl⟩)
    go_ret2
    exact ⟨by unfold numV; rw [HF.out]; rfl, rfl⟩
  · cases hwl : wholeL xs with
    | false =>
      have hok : numOk xs = false := by unfold numOk; rw [hwl]; simp
      have HF := Lib.hid hok
      clear hok
      go_enter Try.func30, Try.ntmps30
      go_wp2_with (go_at_call 49; refine (refwhole_calls _ _ _ xs _ HR.out hc hn).mono ?_; rintro e w' ⟨rfl, rfl⟩)
      go_ret2
      exact ⟨by unfold numV; rw [HF.out]; rfl, rfl⟩
    | true =>
      have hok : numOk xs = true := by unfold numOk; rw [hwl, HL.out]; simp; omega
      have HF := Lib.hid hok
      clear hok
      have HW := Lib.hid hwl
      go_enter Try.func30, Try.ntmps30
      go_wp2_with (go_at_call 49; refine (refwhole_calls _ _ _ xs _ HR.out hc hn).mono ?_; rintro e w' ⟨rfl, rfl⟩)
      go_loop [4, 5] (fun u v => ∃ (k N : Nat), k ≤ n ∧ v = .int .i64 k ∧ u = .int .u64 N ∧ Hid (N = numL (xs.take k))) (fun _ v => n - (intOf v).toNat)
      case atStart => exact ⟨0, 0, Nat.zero_le _, rfl, rfl, rfl⟩
      case round =>
        obtain ⟨k, N, hk, rfl, rfl, HN⟩ := hrel
        by_cases hlt : k < n
        · obtain ⟨b, o, rfl, hcell⟩ := HR.out.at_ k hlt
          have hN63 : N < 9223372036854775808 := by
            have h1 := numL_lt xs HW.out k (by rw [HL.out]; exact hk)
            rw [← HN.out] at h1
            exact Nat.lt_of_lt_of_le h1 (show 2 ^ k ≤ 2 ^ 63 from Nat.pow_le_pow_right (by omega) (by omega))
          have H63 := Lib.hid hN63
          clear hN63
          rcases wholeB_cases ((wholeL_iff xs).1 HW.out k (by rw [HL.out]; exact hlt)) with h1 | h1
          all_goals
            rw [h1] at hcell
            have H1 := Lib.hid h1
            clear h1
            go_wp2
            go_round
            case rel => exact ⟨k + 1, 2 * N + (gt xs k - 1).toNat, by omega, by go_num, by
              rw [H1.out]
              have := H63.out
              congr 1
              try simp only [wrap_u64]
              omega, by
              show _ = _
              rw [numL_take xs k (by rw [HL.out]; exact hlt), HN.out]⟩
            case measure => simp [intOf]; omega
        · go_wp2
          go_ret2
          have e : N = numV xs := by
            have h1 := HN.out
            unfold numV
            rw [HF.out, if_pos rfl, h1, List.take_of_length_le (by rw [HL.out]; omega)]
          exact ⟨by rw [HF.out, ← e]; rfl, rfl⟩
end Go.Proofs.Ytnmhhjgiakijgaa

/- A bit of a number; the reference's Put; symbols of bytes, by both; sameness of bytes: contracts. -/
namespace Go.Proofs.Ytnmhhjgiakijgaa
open Go.RowKit
set_option linter.unusedVariables false

theorem half_u64 (m : Nat) (hm : m < 18446744073709551616) : IntKind.u64.wrap ((m : Int).tdiv 2) = ((m / 2 : Nat) : Int) := by
  rw [wrap_u64, Int.tdiv_eq_ediv_of_nonneg (by omega)]
  omega
theorem odd_u64 (m : Nat) : (m : Int).tmod 2 = ((low m : Nat) : Int) := by
  rw [Int.tmod_eq_emod_of_nonneg (by omega)]
  simp [low]

set_option maxHeartbeats 400000 in
theorem bit_calls (n : Nat) (i : Nat) (hn : n < 18446744073709551616) (hi : i ≤ 64) (w : World) :
    Calls Try.prog 102 #[.int .u64 n, .int .i64 i] w fun e w' => e = .returned (.int .u8 (bitOf n i)) ∧ w = w' := by
  have HN := Lib.hid hn
  clear hn
  go_enter Try.func102, Try.ntmps102
  go_wp2
  go_loop [0, 5] (fun u v => ∃ k M : Nat, k ≤ i ∧ v = .int .i64 k ∧ u = .int .u64 (M : Int) ∧ Hid (M = shr n k)) (fun _ v => i - (intOf v).toNat)
  case atStart => exact ⟨0, n, Nat.zero_le _, rfl, rfl, (shr_zero n).symm⟩
  case round =>
    obtain ⟨k, M, hk, rfl, rfl, HM⟩ := hrel
    have hM : M < 18446744073709551616 := by rw [HM.out]; exact Nat.lt_of_le_of_lt (shr_le _ _) HN.out
    have hhalf := half_u64 M hM
    have hodd := odd_u64 M
    have H64 := Lib.hid hM
    clear hM
    by_cases hlt : k < i
    · go_wp2
      go_round
      case rel => exact ⟨k + 1, M / 2, by omega, by go_num, by first | rfl | (congr 1; done) | (congr 1; simp only [wrap_u64]; have := H64.out; omega), by show _ = _; rw [shr_succ, HM.out]⟩
      case measure => simp [intOf]; omega
    · have e : k = i := by omega
      subst e
      have h01 := low_lt M
      by_cases h1 : low M = 1
      · have hb : bitOf n k = 2 := by unfold bitOf; rw [← HM.out, h1]; rfl
        have HB := Lib.hid hb
        rw [h1] at hodd
        clear hb h1
        go_wp2
        go_ret
        exact ⟨by rw [HB.out]; rfl, rfl⟩
      · have h0 : low M = 0 := by omega
        have hb : bitOf n k = 1 := by unfold bitOf; rw [← HM.out, h0]; rfl
        have HB := Lib.hid hb
        rw [h0] at hodd
        clear hb h1 h0
        go_wp2
        go_ret
        exact ⟨by rw [HB.out]; rfl, rfl⟩

set_option maxHeartbeats 1600000 in
set_option maxRecDepth 20000 in
theorem refput_calls (A : Option Addr) (n c : Nat) (xs : List Int) (N : Nat) (b : Int) (w : World) (hr : Rd w .u8 A n xs) (hc : n ≤ c) (hn : n ≤ 60000) (hN : N < 18446744073709551616) :
    Calls Try.prog 33 #[.slice A n c, .int .u64 N, .int .i64 b] w fun e w' => ∃ A' m c', e = .returned (.slice A' m c') ∧ m = n + many b ∧ m ≤ c' ∧ Mn w' w.heap.size 50 1 (.slice A' m c') m (nums .u8 (putA xs N b)) ∧ Below w.heap.size w w' := by
  have HR := Lib.hid hr
  have HN := Lib.hid hN
  have HL := Lib.hid hr.len
  clear hr hN
  go_enter Try.func33, Try.ntmps33
  go_wp2
  go_loopw [7, 8] (fun v i wr => ∃ (k c' : Nat) (A' : Option Addr), k ≤ n ∧ i = .int .i64 k ∧ v = .slice A' k c' ∧ k ≤ c' ∧ Mn wr w.heap.size 50 1 (.slice A' k c') k (nums .u8 (xs.take k)) ∧ Below w.heap.size w wr)
    (fun _ i _ => n - (intOf i).toNat)
  case atStart => exact ⟨0, 0, none, Nat.zero_le _, rfl, rfl, Nat.le_refl _, Mn.nil _ _ _ _, Below.refl _ _⟩
  case round =>
    obtain ⟨k, c', A', hk, rfl, rfl, hkc, hm, hb⟩ := hrel
    by_cases hlt : k < n
    · obtain ⟨b1, o, rfl, hcell⟩ := (HR.out.below hb).at_ k hlt
      have HT := Lib.hid (take_snoc xs k (by rw [HL.out]; exact hlt))
      go_wp2_with (first
        | (at_builtin
           refine wpList_append_mn _ rfl _ _ _ rfl w.heap.size 50 _ 1 1 Try.underlying22 info50 rfl (by omega) (.slice A' k c') k (nums .u8 (xs.take k)) rfl (hm.alloc _) _ 1 1 (nums .u8 [gt xs k]) rfl rv_one (nums_one _ _) (by omega) (by omega) (by simp; have := hb.size; omega) ?_
           intro A2 c2 w2 hc2 hm2 hg2 hat2))
      go_roundw
      case rel => exact ⟨k + 1, c2, A2, by omega, by go_num, rfl, hc2, by rw [HT.out, nums_append]; exact hm2, (hb.alloc hb.size _).grown hg2 (by simp; have := hb.size; omega) (fun k hk => (hm.block hk).1)⟩
      case measure => simp [intOf]; omega
    · have e : k = n := by omega
      subst e
      have hm0 : Mn wr w.heap.size 50 1 (.slice A' k c') k (nums .u8 xs) := by
        rw [List.take_of_length_le (by rw [HL.out]; exact Nat.le_refl _)] at hm; exact hm
      clear hm
      have hcase : (64 < b ∧ many b = 64) ∨ (¬ 64 < b ∧ b < 0 ∧ many b = 0) ∨ (¬ 64 < b ∧ ¬ b < 0 ∧ (many b : Int) = b) := by
        unfold many cut64
        by_cases h : 64 < b
        · left; rw [if_pos h]; omega
        · rw [if_neg h]; right; omega
      rcases hcase with ⟨h1, h3⟩ | ⟨h1, h2, h3⟩ | ⟨h1, h2, h3⟩
      all_goals
        have HML := Lib.hid h3
        clear h3
        go_wp2
        go_loopw [7, 9] (fun v i wr => ∃ (j m c' : Nat) (A' : Option Addr) (ys : List Int), j ≤ 64 ∧ m + j = k + many b ∧ i = .int .i64 ((j : Int) - 1) ∧ v = .slice A' m c' ∧ m ≤ c' ∧ Mn wr w.heap.size 50 1 (.slice A' m c') m (nums .u8 ys) ∧ Hid (ys ++ putL N j = putA xs N b) ∧ Below w.heap.size w wr)
          (fun _ i _ => (intOf i + 1).toNat)
        case atStart => exact ⟨many b, k, c', A', xs, many_le b, rfl, by congr 1; have := HML.out; omega, rfl, hkc, hm0, rfl, hb⟩
        case round =>
          clear hm0
          obtain ⟨j, m, c2, A2, ys, hj, hmj, rfl, rfl, hmc, hm2, hys, hb2⟩ := hrel
          have hml := many_le b
          by_cases hj0 : j = 0
          · subst hj0
            have e : m = k + many b := by omega
            subst e
            have hys2 : ys = putA xs N b := by have := hys.out; simpa [putL] using this
            subst hys2
            go_wp2
            go_ret
            exact ⟨_, _, _, rfl, rfl, hmc, hm2, hb2⟩
          · obtain ⟨L, rfl⟩ : ∃ L, j = L + 1 := ⟨j - 1, by omega⟩
            have eL : (((L + 1 : Nat) : Int) - 1) = (L : Int) := by omega
            rw [eL]
            clear eL hj0
            go_wp2_with (first
              | (go_at_call 102; refine (bit_calls _ _ HN.out (by omega) _).mono ?_; rintro e w' ⟨rfl, rfl⟩)
              | (at_builtin
                 refine wpList_append_mn _ rfl _ _ _ rfl w.heap.size 50 _ 1 1 Try.underlying22 info50 rfl (by omega) (.slice A2 m c2) m (nums .u8 ys) rfl (hm2.alloc _) _ 1 1 (nums .u8 [bitOf N L]) rfl rv_one (nums_one _ _) (by omega) (by omega) (by simp; have := hb2.size; omega) ?_
                 intro A3 c3 w3 hc3 hm3 hg3 hat3))
            go_roundw
            case rel => exact ⟨L, m + 1, c3, A3, ys ++ [bitOf N L], by omega, by omega, by first | rfl | (congr 1; omega), rfl, hc3, by rw [nums_append]; exact hm3, by
              show _ = _
              rw [← hys.out, List.append_assoc]; rfl, (hb2.alloc hb2.size _).grown hg3 (by simp; have := hb2.size; omega) (fun k hk => (hm2.block hk).1)⟩
            case measure => simp [intOf]; try omega
end Go.Proofs.Ytnmhhjgiakijgaa

/- Symbols of bytes, by both texts; sameness of bytes: contracts. -/
namespace Go.Proofs.Ytnmhhjgiakijgaa
open Go.RowKit
set_option linter.unusedVariables false

set_option maxHeartbeats 1600000 in
set_option maxRecDepth 20000 in
theorem of_calls (A : Option Addr) (n c : Nat) (bs : List Int) (w : World) (hr : Rd w .u8 A n bs) (hc : n ≤ c) (hn : n ≤ 7000) (hbs : bytesOk bs) :
    Calls Try.prog 41 #[.slice A n c] w fun e w' => ∃ A' m, e = .returned (.slice A' m m) ∧ m = 8 * n ∧ Mn w' w.heap.size 50 1 (.slice A' m m) m (nums .u8 (ofL bs)) ∧ Below w.heap.size w w' := by
  have HR := Lib.hid hr
  have HL := Lib.hid hr.len
  have HB := Lib.hid hbs
  clear hr hbs
  go_enter Try.func41, Try.ntmps41
  go_wp2
  go_loopw [3, 8] (fun v i wr => ∃ (k m c' : Nat) (A' : Option Addr), k ≤ n ∧ m = 8 * k ∧ i = .int .i64 k ∧ v = .slice A' m c' ∧ m ≤ c' ∧ Mn wr w.heap.size 50 1 (.slice A' m c') m (nums .u8 (ofL (bs.take k))) ∧ Below w.heap.size w wr)
    (fun _ i _ => n - (intOf i).toNat)
  case atStart => exact ⟨0, 0, 0, none, Nat.zero_le _, rfl, rfl, rfl, Nat.le_refl _, Mn.nil _ _ _ _, Below.refl _ _⟩
  case round =>
    obtain ⟨k, m, c', A', hk, hmk, rfl, rfl, hkc, hm, hb⟩ := hrel
    have HMK := Lib.hid hmk
    have hmb : m ≤ 56000 := by omega
    clear hmk
    by_cases hlt : k < n
    · obtain ⟨b1, o, rfl, hcell⟩ := (HR.out.below hb).at_ k hlt
      have h255 := bytesOk_gt HB.out (j := k) (by rw [HL.out]; exact hlt)
      have HT := Lib.hid (ofL_take bs k (by rw [HL.out]; exact hlt))
      obtain ⟨N, hN⟩ : ∃ N : Nat, gt bs k = N := ⟨(gt bs k).toNat, by omega⟩
      rw [hN] at hcell h255
      have HN := Lib.hid hN
      clear hN
      go_wp2_with (go_at_call 31; refine (put_calls _ _ _ _ N 8 _ hm.rd hkc (by omega) (by omega)).mono ?_; rintro e w2 ⟨A2, m2, rfl, hm2, hmn2, hb2⟩; have HM2 := Lib.hid hm2; clear hm2)
      go_roundw
      case rel => exact ⟨k + 1, m2, m2, A2, by omega, by rw [HM2.out, HMK.out, many8]; omega, by go_num, rfl, Nat.le_refl _, by
        rw [HT.out, HN.out, Int.toNat_natCast, ← putA_8]; exact hmn2.mono hb.size, hb.trans (hb2.mono hb.size)⟩
      case measure => simp [intOf]; omega
    · have e : k = n := by omega
      subst e
      rw [List.take_of_length_le (by rw [HL.out]; exact Nat.le_refl _)] at hm
      go_wp2_with (go_at_call 101; refine (clip50 _ _ _ _ hkc (Mn.cap_le hm)).mono ?_; rintro e w2 ⟨rfl, rfl⟩)
      go_ret
      exact ⟨_, _, rfl, HMK.out, hm.clip, hb⟩

set_option maxHeartbeats 1600000 in
set_option maxRecDepth 20000 in
theorem refof_calls (A : Option Addr) (n c : Nat) (bs : List Int) (w : World) (hr : Rd w .u8 A n bs) (hc : n ≤ c) (hn : n ≤ 7000) (hbs : bytesOk bs) :
    Calls Try.prog 46 #[.slice A n c] w fun e w' => ∃ A' m c', e = .returned (.slice A' m c') ∧ m = 8 * n ∧ m ≤ c' ∧ Mn w' w.heap.size 50 1 (.slice A' m c') m (nums .u8 (ofL bs)) ∧ Below w.heap.size w w' := by
  have HR := Lib.hid hr
  have HL := Lib.hid hr.len
  have HB := Lib.hid hbs
  clear hr hbs
  go_enter Try.func46, Try.ntmps46
  go_wp2
  go_loopw [3, 4] (fun v i wr => ∃ (k m c' : Nat) (A' : Option Addr), k ≤ n ∧ m = 8 * k ∧ i = .int .i64 k ∧ v = .slice A' m c' ∧ m ≤ c' ∧ Mn wr w.heap.size 50 1 (.slice A' m c') m (nums .u8 (ofL (bs.take k))) ∧ Below w.heap.size w wr)
    (fun _ i _ => n - (intOf i).toNat)
  case atStart => exact ⟨0, 0, 0, none, Nat.zero_le _, rfl, rfl, rfl, Nat.le_refl _, Mn.nil _ _ _ _, Below.refl _ _⟩
  case round =>
    obtain ⟨k, m, c', A', hk, hmk, rfl, rfl, hkc, hm, hb⟩ := hrel
    have HMK := Lib.hid hmk
    have hmb : m ≤ 56000 := by omega
    clear hmk
    by_cases hlt : k < n
    · obtain ⟨b1, o, rfl, hcell⟩ := (HR.out.below hb).at_ k hlt
      have hlt0 : b1 < w.heap.size := by
        obtain ⟨b2, o2, e2, hb2, _⟩ := Rv.at_ HR.out (by omega)
        injection e2 with e2
        injection e2 with e3 e4
        omega
      have h255 := bytesOk_gt HB.out (j := k) (by rw [HL.out]; exact hlt)
      have HT := Lib.hid (ofL_take bs k (by rw [HL.out]; exact hlt))
      obtain ⟨N, hN⟩ : ∃ N : Nat, gt bs k = N := ⟨(gt bs k).toNat, by omega⟩
      rw [hN] at hcell h255
      have HN := Lib.hid hN
      have HC := Lib.hid hcell
      clear hN hcell
      go_wp2
      obtain ⟨wo, hwo⟩ : ∃ wo : World, wo = wr := ⟨_, rfl⟩
      go_loopw [3, 5] (fun v i wq => ∃ (j m2 c2 : Nat) (A2 : Option Addr) (zs : List Int), j ≤ 8 ∧ m2 + j = m + 8 ∧ i = .int .i64 ((j : Int) - 1) ∧ v = .slice A2 m2 c2 ∧ m2 ≤ c2 ∧ Mn wq w.heap.size 50 1 (.slice A2 m2 c2) m2 (nums .u8 zs) ∧ Hid (zs ++ putL N j = ofL (bs.take k) ++ putL N 8) ∧ Below w.heap.size w wq ∧ Below w.heap.size wr wq)
        (fun _ i _ => (intOf i + 1).toNat)
      case atStart => exact ⟨8, m, c', A', ofL (bs.take k), by omega, by omega, rfl, rfl, hkc, hm, rfl, hb, Below.refl _ _⟩
      case round =>
        obtain ⟨j, m2, c2, A2, zs, hj, hmj, rfl, rfl, hmc, hm2, hzs, hb2, hbq⟩ := hrel
        by_cases hj0 : j = 0
        · subst hj0
          have e : m2 = m + 8 := by omega
          go_wp2
          go_roundw
          case rel => exact ⟨k + 1, m2, c2, A2, by omega, by rw [e, HMK.out]; omega, by go_num, rfl, hmc, by
            rw [HT.out, HN.out, Int.toNat_natCast, ← hzs.out]; simpa [putL] using hm2, hb2⟩
          case measure => simp [intOf]; omega
        · obtain ⟨L, rfl⟩ : ∃ L, j = L + 1 := ⟨j - 1, by omega⟩
          have eL : (((L + 1 : Nat) : Int) - 1) = (L : Int) := by omega
          rw [eL]
          clear eL hj0
          have hcell := (hbq.cell (p := ⟨b1, o + k, none⟩) hlt0).trans HC.out
          go_wp2_with (first
            | (go_at_call 102; refine (bit_calls _ _ (by omega) (by omega) _).mono ?_; rintro e w' ⟨rfl, rfl⟩)
            | (at_builtin
               refine wpList_append_mn _ rfl _ _ _ rfl w.heap.size 50 _ 1 1 Try.underlying22 info50 rfl (by omega) (.slice A2 m2 c2) m2 (nums .u8 zs) rfl (hm2.alloc _) _ 1 1 (nums .u8 [bitOf N L]) rfl rv_one (nums_one _ _) (by omega) (by omega) (by simp; have := hb2.size; omega) ?_
               intro A3 c3 w3 hc3 hm3 hg3 hat3))
          go_roundw
          case rel => exact ⟨L, m2 + 1, c3, A3, zs ++ [bitOf N L], by omega, by omega, by first | rfl | (congr 1; omega), rfl, hc3, by rw [nums_append]; exact hm3, by
            show _ = _
            rw [← hzs.out, List.append_assoc]; rfl, (hb2.alloc hb2.size _).grown hg3 (by simp; have := hb2.size; omega) (fun k hk => (hm2.block hk).1),
            (hbq.alloc hb2.size _).grown hg3 (by simp; have := hb2.size; omega) (fun k hk => (hm2.block hk).1)⟩
          case measure => simp [intOf]; try omega
    · have e : k = n := by omega
      subst e
      rw [List.take_of_length_le (by rw [HL.out]; exact Nat.le_refl _)] at hm
      go_wp2
      go_ret
      exact ⟨_, _, _, rfl, HMK.out, hkc, hm, hb⟩
end Go.Proofs.Ytnmhhjgiakijgaa

/- Sameness of bytes; twins, and whether they were left alone: contracts. -/
namespace Go.Proofs.Ytnmhhjgiakijgaa
open Go.RowKit
set_option linter.unusedVariables false

theorem conv_rd {w : World} {A : Option Addr} {n : Nat} {bs : List Int} (c : Nat) (h : Rd w .u8 A n bs) :
    (convert 43 9 (.slice A n c)).run Try.prog w = .ok (.string (strOfNums bs)) w := by
  have hl := h.len
  rcases Nat.eq_zero_or_pos n with h0 | hp
  · subst h0
    have hb : bs = [] := List.eq_nil_of_length_eq_zero hl
    subst hb
    cases A with
    | none => exact run_convert_bytes_nil w 43 5 Try.underlying43 Try.underlying5 0 c 9 Try.underlying9
    | some a =>
      rw [run_convert_bytes_string w 43 9 5 _ 0 c Try.underlying43 Try.underlying5 Try.underlying9]
      simp [Conv.bytesToString, loadCells, loadCellsFrom]
      rfl
  · obtain ⟨b, o, rfl, hlt, hc⟩ := Rv.at_ h hp
    refine run_convert_bytes_arg w 43 5 Try.underlying43 Try.underlying5 b o n c bs hl (fun i hi => ?_) 9 Try.underlying9
    exact hc i _ (nums_get .u8 bs i (by omega))

theorem ba_inj {a b : ByteArray} (h : a.toList = b.toList) : a = b := by
  rw [ByteArray.toList_eq, ByteArray.toList_eq] at h
  exact Go.WideShapes.bytes_inj h
theorem strOfNums_inj {xs ys : List Int} (hx : bytesOk xs) (hy : bytesOk ys) (h : strOfNums xs = strOfNums ys) : xs = ys := by
  have h1 : xs.map (fun n => UInt8.ofNat n.toNat) = ys.map (fun n => UInt8.ofNat n.toNat) := by
    rw [← strOfNums_data, ← strOfNums_data, h]
  have hl : xs.length = ys.length := by simpa using congrArg List.length h1
  refine gt_ne_of hl (fun j hj => ?_)
  have h2 : (xs.map (fun n => UInt8.ofNat n.toNat))[j]? = (ys.map (fun n => UInt8.ofNat n.toNat))[j]? := by rw [h1]
  rw [List.getElem?_map, List.getElem?_map, List.getElem?_eq_getElem hj, List.getElem?_eq_getElem (by omega : j < ys.length)] at h2
  simp only [Option.map_some, Option.some.injEq] at h2
  have hxj := bytesOk_gt hx hj
  have hyj := bytesOk_gt hy (j := j) (by omega)
  have e1 : gt xs j = xs[j] := by simp [gt, List.getD_eq_getElem?_getD, List.getElem?_eq_getElem hj]
  have e2 : gt ys j = ys[j]'(by omega) := by simp [gt, List.getD_eq_getElem?_getD, List.getElem?_eq_getElem (by omega : j < ys.length)]
  have h3 := congrArg UInt8.toNat h2
  simp only [UInt8.toNat_ofNat'] at h3
  omega

set_option maxRecDepth 20000 in
theorem samebytes_calls (A B : Option Addr) (n m c d : Nat) (xs ys : List Int) (w : World) (hr : Rd w .u8 A n xs) (hs : Rd w .u8 B m ys) (hx : bytesOk xs) (hy : bytesOk ys) :
    Calls Try.prog 47 #[.slice A n c, .slice B m d] w fun e w' => e = .returned (.bool (sameL xs ys)) ∧ w = w' := by
  have h1 := conv_rd c hr
  have h2 := conv_rd d hs
  by_cases h : xs = ys
  · have hf : sameL xs ys = true := decide_eq_true h
    have HF := Lib.hid hf
    clear hf hx hy hr hs
    rw [← h] at h2
    clear h
    go_enter Try.func47, Try.ntmps47
    go_wp2
    go_ret
    exact ⟨by rw [HF.out]; simp, rfl⟩
  · have hf : sameL xs ys = false := decide_eq_false h
    have hne : strOfNums xs ≠ strOfNums ys := fun e => h (strOfNums_inj hx hy e)
    have HF := Lib.hid hf
    have HN := Lib.hid hne
    clear hf hx hy hr hs h hne
    go_enter Try.func47, Try.ntmps47
    go_wp2
    go_ret
    refine ⟨?_, rfl⟩
    rw [HF.out]
    simp
    exact fun e => HN.out (ba_inj e)

set_option maxHeartbeats 1600000 in
set_option maxRecDepth 20000 in
theorem twinsyms_calls (A : Option Addr) (n c : Nat) (xs : List Int) (w : World) (hr : Rd w .u8 A n xs) (hc : n ≤ c) (hn : n ≤ 60000) :
    Calls Try.prog 28 #[.slice A n c] w fun e w' => ∃ g c', e = .returned (.slice (some ⟨g, 0, none⟩) n c') ∧ n + 2 ≤ c' ∧ Mn w' w.heap.size 50 1 (.slice (some ⟨g, 0, none⟩) (n + 2) c') (n + 2) (nums .u8 (xs ++ [77, 77])) ∧ Below w.heap.size w w' := by
  have HR := Lib.hid hr
  have HL := Lib.hid hr.len
  clear hr
  go_enter Try.func28, Try.ntmps28
  go_wp2_with (first
    | (at_builtin
       refine wpList_append_mn _ rfl _ _ _ rfl w.heap.size 50 _ 1 1 Try.underlying22 info50 rfl (by omega) (.slice none 0 0) 0 [] rfl (Mn.nil _ _ _ _) A n c (nums .u8 xs) rfl (by rw [Nat.mul_one]; exact HR.out) (nums_one _ _) (by omega) (by omega) (Nat.le_refl _) ?_
       intro A1 c1 w1 hc1 hm1 hg1 hat1
       have hb1 : Below w.heap.size w w1 := (Below.refl _ _).grown hg1 (Nat.le_refl _) (fun k hk => by simp [Value.ownBlock] at hk))
    | (at_builtin
       refine wpList_append_mn _ rfl _ _ _ rfl w.heap.size 50 _ 1 1 Try.underlying22 info50 rfl (by omega) (.slice A1 n c1) n (nums .u8 xs) rfl (by simpa using hm1.alloc _) _ 2 2 (nums .u8 [77, 77]) rfl rv_two (nums_one _ _) (by omega) (by omega) (by simp; have := hb1.size; omega) ?_
       intro A2 c2 w2 hc2 hm2 hg2 hat2
       obtain ⟨g2, e2⟩ := hm2.ex (by omega)
       subst e2))
  go_ret
  refine ⟨g2, c2, rfl, hc2, by rw [nums_append]; exact hm2, (hb1.alloc hb1.size _).grown hg2 (by simp; have := hb1.size; omega) (fun k hk => (hm1.block (by simpa using hk)).1)⟩

theorem info3 : (Try.prog.info? 3).map (fun i => (i.zero, i.size, i.bytes)) = some (some (.int .i64 0), 1, 8) := by kernel_rfl
theorem info5 : (Try.prog.info? 5).map (fun i => (i.zero, i.size, i.bytes)) = some (some (.int .u8 0), 1, 1) := by kernel_rfl

set_option maxHeartbeats 1600000 in
set_option maxRecDepth 20000 in
theorem twinnums_calls (A : Option Addr) (n c : Nat) (xs : List Int) (w : World) (hr : Rd w .i64 A n xs) (hc : n ≤ c) (hn : n ≤ 60000) :
    Calls Try.prog 37 #[.slice A n c] w fun e w' => ∃ g c', e = .returned (.slice (some ⟨g, 0, none⟩) n c') ∧ n + 2 ≤ c' ∧ Mn w' w.heap.size 3 1 (.slice (some ⟨g, 0, none⟩) (n + 2) c') (n + 2) (nums .i64 (xs ++ [77, 77])) ∧ Below w.heap.size w w' := by
  have HR := Lib.hid hr
  have HL := Lib.hid hr.len
  clear hr
  go_enter Try.func37, Try.ntmps37
  go_wp2_with (first
    | (at_builtin
       refine wpList_append_mn _ rfl _ _ _ rfl w.heap.size 3 _ 1 8 Try.underlying37 info3 rfl (by omega) (.slice none 0 0) 0 [] rfl (Mn.nil _ _ _ _) A n c (nums .i64 xs) rfl (by rw [Nat.mul_one]; exact HR.out) (nums_one _ _) (by omega) (by omega) (Nat.le_refl _) ?_
       intro A1 c1 w1 hc1 hm1 hg1 hat1
       have hb1 : Below w.heap.size w w1 := (Below.refl _ _).grown hg1 (Nat.le_refl _) (fun k hk => by simp [Value.ownBlock] at hk))
    | (at_builtin
       refine wpList_append_mn _ rfl _ _ _ rfl w.heap.size 3 _ 1 8 Try.underlying37 info3 rfl (by omega) (.slice A1 n c1) n (nums .i64 xs) rfl (by simpa using hm1.alloc _) _ 2 2 (nums .i64 [77, 77]) rfl rv_two (nums_one _ _) (by omega) (by omega) (by simp; have := hb1.size; omega) ?_
       intro A2 c2 w2 hc2 hm2 hg2 hat2
       obtain ⟨g2, e2⟩ := hm2.ex (by omega)
       subst e2))
  go_ret
  refine ⟨g2, c2, rfl, hc2, by rw [nums_append]; exact hm2, (hb1.alloc hb1.size _).grown hg2 (by simp; have := hb1.size; omega) (fun k hk => (hm1.block (by simpa using hk)).1)⟩
set_option maxHeartbeats 1600000 in
set_option maxRecDepth 20000 in
theorem twinbytes_calls (A : Option Addr) (n c : Nat) (xs : List Int) (w : World) (hr : Rd w .u8 A n xs) (hc : n ≤ c) (hn : n ≤ 60000) :
    Calls Try.prog 43 #[.slice A n c] w fun e w' => ∃ g c', e = .returned (.slice (some ⟨g, 0, none⟩) n c') ∧ n + 2 ≤ c' ∧ Mn w' w.heap.size 5 1 (.slice (some ⟨g, 0, none⟩) (n + 2) c') (n + 2) (nums .u8 (xs ++ [77, 77])) ∧ Below w.heap.size w w' := by
  have HR := Lib.hid hr
  have HL := Lib.hid hr.len
  clear hr
  go_enter Try.func43, Try.ntmps43
  go_wp2_with (first
    | (at_builtin
       refine wpList_append_mn _ rfl _ _ _ rfl w.heap.size 5 _ 1 1 Try.underlying43 info5 rfl (by omega) (.slice none 0 0) 0 [] rfl (Mn.nil _ _ _ _) A n c (nums .u8 xs) rfl (by rw [Nat.mul_one]; exact HR.out) (nums_one _ _) (by omega) (by omega) (Nat.le_refl _) ?_
       intro A1 c1 w1 hc1 hm1 hg1 hat1
       have hb1 : Below w.heap.size w w1 := (Below.refl _ _).grown hg1 (Nat.le_refl _) (fun k hk => by simp [Value.ownBlock] at hk))
    | (at_builtin
       refine wpList_append_mn _ rfl _ _ _ rfl w.heap.size 5 _ 1 1 Try.underlying43 info5 rfl (by omega) (.slice A1 n c1) n (nums .u8 xs) rfl (by simpa using hm1.alloc _) _ 2 2 (nums .u8 [77, 77]) rfl rv_two (nums_one _ _) (by omega) (by omega) (by simp; have := hb1.size; omega) ?_
       intro A2 c2 w2 hc2 hm2 hg2 hat2
       obtain ⟨g2, e2⟩ := hm2.ex (by omega)
       subst e2))
  go_ret
  refine ⟨g2, c2, rfl, hc2, by rw [nums_append]; exact hm2, (hb1.alloc hb1.size _).grown hg2 (by simp; have := hb1.size; omega) (fun k hk => (hm1.block (by simpa using hk)).1)⟩

set_option maxHeartbeats 1600000 in
set_option maxRecDepth 20000 in
theorem leftsyms_calls (g : Nat) (A : Option Addr) (n c d : Nat) (xs : List Int) (w : World) (ht : Rd w .u8 (some ⟨g, 0, none⟩) (n + 2) (xs ++ [77, 77])) (hl : Rd w .u8 A n xs) (hc : n + 2 ≤ c) (hm : c ≤ maxLen) (hd : n ≤ d) (hn : n ≤ 60000) :
    Calls Try.prog 34 #[.slice (some ⟨g, 0, none⟩) n c, .slice A n d] w fun e w' => e = .returned (.bool true) ∧ ∃ q, w' = w.drewN q := by
  have hlen := hl.len
  obtain ⟨b1, o1, e1, h1⟩ := ht.at_ n (by omega)
  injection e1 with e1
  injection e1 with e1 e2
  subst e1
  subst e2
  obtain ⟨b2, o2, e1, h2⟩ := ht.at_ (n + 1) (by omega)
  injection e1 with e1
  injection e1 with e1 e2
  subst e1
  subst e2
  have g1 : gt (xs ++ [77, 77]) n = 77 := by unfold gt; rw [← hlen]; simp
  have g2 : gt (xs ++ [77, 77]) (n + 1) = 77 := by unfold gt; rw [← hlen]; simp
  rw [g1, Nat.zero_add] at h1
  rw [g2, Nat.zero_add] at h2
  have hs : sameL xs xs = true := decide_eq_true rfl
  have htk : (xs ++ [77, 77]).take n = xs := by rw [← hlen]; simp
  have HT0 := ht.take n (by omega)
  rw [htk] at HT0
  have HT := Lib.hid HT0
  have HL := Lib.hid hl
  have HS := Lib.hid hs
  have ec : decide ((c : Int) < (n : Int) + 2) = false := by simp; omega
  unfold maxLen at hm
  clear hl ht hs hlen g1 g2 htk HT0
  go_enter Try.func34, Try.ntmps34
  go_wp2_with (go_at_call 32; refine (samesyms_calls _ _ _ _ _ _ xs xs _ HT.out HL.out (by omega) hd hn).mono ?_; rintro e w' ⟨rfl, q, rfl⟩; rw [HS.out])
  go_ret
  exact ⟨rfl, _, rfl⟩
set_option maxHeartbeats 1600000 in
set_option maxRecDepth 20000 in
theorem leftnums_calls (g : Nat) (A : Option Addr) (n c d : Nat) (xs : List Int) (w : World) (ht : Rd w .i64 (some ⟨g, 0, none⟩) (n + 2) (xs ++ [77, 77])) (hl : Rd w .i64 A n xs) (hc : n + 2 ≤ c) (hm : c ≤ maxLen) (hd : n ≤ d) (hn : n ≤ 60000) :
    Calls Try.prog 40 #[.slice (some ⟨g, 0, none⟩) n c, .slice A n d] w fun e w' => e = .returned (.bool true) ∧ ∃ q, w' = w.drewN q := by
  have hlen := hl.len
  obtain ⟨b1, o1, e1, h1⟩ := ht.at_ n (by omega)
  injection e1 with e1
  injection e1 with e1 e2
  subst e1
  subst e2
  obtain ⟨b2, o2, e1, h2⟩ := ht.at_ (n + 1) (by omega)
  injection e1 with e1
  injection e1 with e1 e2
  subst e1
  subst e2
  have g1 : gt (xs ++ [77, 77]) n = 77 := by unfold gt; rw [← hlen]; simp
  have g2 : gt (xs ++ [77, 77]) (n + 1) = 77 := by unfold gt; rw [← hlen]; simp
  rw [g1, Nat.zero_add] at h1
  rw [g2, Nat.zero_add] at h2
  have hs : sameL xs xs = true := decide_eq_true rfl
  have htk : (xs ++ [77, 77]).take n = xs := by rw [← hlen]; simp
  have HT0 := ht.take n (by omega)
  rw [htk] at HT0
  have HT := Lib.hid HT0
  have HL := Lib.hid hl
  have HS := Lib.hid hs
  have ec : decide ((c : Int) < (n : Int) + 2) = false := by simp; omega
  unfold maxLen at hm
  clear hl ht hs hlen g1 g2 htk HT0
  go_enter Try.func40, Try.ntmps40
  go_wp2_with (go_at_call 106; refine (samenums_calls _ _ _ _ _ _ xs xs _ HT.out HL.out (by omega) hd hn).mono ?_; rintro e w' ⟨rfl, q, rfl⟩; rw [HS.out])
  go_ret
  exact ⟨rfl, _, rfl⟩

set_option maxHeartbeats 1600000 in
set_option maxRecDepth 20000 in
theorem leftbytes_calls (g : Nat) (A : Option Addr) (n c d : Nat) (xs : List Int) (w : World) (ht : Rd w .u8 (some ⟨g, 0, none⟩) (n + 2) (xs ++ [77, 77])) (hl : Rd w .u8 A n xs) (hc : n + 2 ≤ c) (hm : c ≤ maxLen) (hd : n ≤ d) (hx : bytesOk xs) :
    Calls Try.prog 48 #[.slice (some ⟨g, 0, none⟩) n c, .slice A n d] w fun e w' => e = .returned (.bool true) ∧ w = w' := by
  have hlen := hl.len
  obtain ⟨b1, o1, e1, h1⟩ := ht.at_ n (by omega)
  injection e1 with e1
  injection e1 with e1 e2
  subst e1
  subst e2
  obtain ⟨b2, o2, e1, h2⟩ := ht.at_ (n + 1) (by omega)
  injection e1 with e1
  injection e1 with e1 e2
  subst e1
  subst e2
  have g1 : gt (xs ++ [77, 77]) n = 77 := by unfold gt; rw [← hlen]; simp
  have g2 : gt (xs ++ [77, 77]) (n + 1) = 77 := by unfold gt; rw [← hlen]; simp
  rw [g1, Nat.zero_add] at h1
  rw [g2, Nat.zero_add] at h2
  have hs : sameL xs xs = true := decide_eq_true rfl
  have htk : (xs ++ [77, 77]).take n = xs := by rw [← hlen]; simp
  have HT0 := ht.take n (by omega)
  rw [htk] at HT0
  have HT := Lib.hid HT0
  have HL := Lib.hid hl
  have HS := Lib.hid hs
  have ec : decide ((c : Int) < (n : Int) + 2) = false := by simp; omega
  unfold maxLen at hm
  clear hl ht hs hlen g1 g2 htk HT0
  go_enter Try.func48, Try.ntmps48
  go_wp2_with (go_at_call 47; refine (samebytes_calls _ _ _ _ _ _ xs xs _ HT.out HL.out hx hx).mono ?_; rintro e w' ⟨rfl, rfl⟩; rw [HS.out])
  go_ret
  exact ⟨rfl, rfl⟩
end Go.Proofs.Ytnmhhjgiakijgaa

/- Turned symbols, by both texts: contracts. -/
namespace Go.Proofs.Ytnmhhjgiakijgaa
open Go.RowKit
set_option linter.unusedVariables false

/-- the cell of an owned element, and that it may be written -/
theorem Mn.cellAt {w : World} {B : Nat} {e : TypeId} {n c g : Nat} {k : IntKind} {xs : List Int} (h : Mn w B e 1 (.slice (some ⟨g, 0, none⟩) n c) n (nums k xs)) (j : Nat) (hj : j < n) :
    w.cell? ⟨g, j, none⟩ = some (.int k (gt xs j)) ∧ w.frozen? ⟨g, j, none⟩ = false := by
  have hl : xs.length = n := by have := h.1; rw [nums_length, Nat.mul_one] at this; exact this
  constructor
  · obtain ⟨b, o, e1, hc⟩ := h.rd.at_ j hj
    injection e1 with e1
    injection e1 with e1 e2
    subst e1
    subst e2
    rwa [Nat.zero_add] at hc
  · rcases h.2 with ⟨hv, _⟩ | ⟨g', cap, cur, hv, hb, hh, _⟩
    · cases hv
    · injection hv with h1 h2 h3
      injection h1 with h1
      injection h1 with h1 h4
      subst h1
      simp [World.frozen?, hh]
/-- an owned element is written -/
theorem Mn.set {w : World} {B : Nat} {e : TypeId} {n c g : Nat} {k : IntKind} {xs : List Int} (h : Mn w B e 1 (.slice (some ⟨g, 0, none⟩) n c) n (nums k xs)) (j : Nat) (hj : j < n) (x : Int) :
    Mn (w.setCell ⟨g, j, none⟩ (.int k x)) B e 1 (.slice (some ⟨g, 0, none⟩) n c) n (nums k (xs.set j x)) := by
  have hl : xs.length = n := by have := h.1; rw [nums_length, Nat.mul_one] at this; exact this
  refine ⟨by rw [nums_length, List.length_set]; omega, ?_⟩
  rcases h.2 with ⟨hv, _⟩ | ⟨g', cap, cur, hv, hb, hh, hc, hm, hs, ht⟩
  · cases hv
  · injection hv with h1 h2 h3
    injection h1 with h1
    injection h1 with h1 h4
    subst h1
    refine .inr ⟨g, cap, cur.setIfInBounds j (.int k x), by rw [h3], hb, ?_, hc, hm, by simpa using hs, ?_⟩
    · simp [World.setCell, Array.getElem?_modify, hh]
    · rw [Nat.mul_one] at ht ⊢
      simp only [Array.toList_setIfInBounds]
      rw [List.take_set, ht]
      simp [nums, List.map_set]

set_option maxHeartbeats 1600000 in
set_option maxRecDepth 20000 in
theorem turn_calls (A : Option Addr) (n c : Nat) (xs : List Int) (D : Option Addr) (m d : Nat) (at_ : List Int) (w : World) (hr : Rd w .u8 A n xs) (hc : n ≤ c) (hn : n ≤ 60000) (hs : Rd w .i64 D m at_) (hd : m ≤ d) (hm : m ≤ 60000) :
    Calls Try.prog 38 #[.slice A n c, .slice D m d] w fun e w' => ∃ A', e = .returned (.slice A' n n) ∧ Mn w' w.heap.size 50 1 (.slice A' n n) n (nums .u8 (turnL xs at_)) ∧ Below w.heap.size w w' := by
  have HR := Lib.hid hr
  have HL := Lib.hid hr.len
  have HS := Lib.hid hs
  have HM := Lib.hid hs.len
  clear hr hs
  go_enter Try.func38, Try.ntmps38
  go_wp2_with (first
    | (go_at_call 100; refine (clone50 A n c (nums .u8 xs) _ HR.out (nums_one _ _) hc hn).mono ?_; rintro e w1 ⟨A', c', rfl, hcc, hmn, hb⟩)
    | (go_at_call 101; refine (clip50 _ _ _ _ hcc (Mn.cap_le hmn)).mono ?_; rintro e w2 ⟨rfl, rfl⟩))
  have hm1 := hmn.clip
  clear hmn hcc
  go_loopw [13] (fun i wr => ∃ (k : Nat), k ≤ m ∧ i = .int .i64 k ∧ Mn wr w.heap.size 50 1 (.slice A' n n) n (nums .u8 (turnL xs (at_.take k))) ∧ Below w.heap.size w wr)
    (fun i _ => m - (intOf i).toNat)
  case atStart => exact ⟨0, Nat.zero_le _, rfl, hm1, hb⟩
  case round =>
    clear hm1 hb
    obtain ⟨k, hk, rfl, hm2, hb2⟩ := hrel
    by_cases hlt : k < m
    · obtain ⟨b1, o1, rfl, hcell⟩ := (HS.out.below hb2).at_ k hlt
      have HT := Lib.hid (turnL_take xs at_ k (by rw [HM.out]; exact hlt))
      have HTL := Lib.hid (turnL_length xs (at_.take k))
      generalize gt at_ k = i at *
      generalize turnL xs (at_.take k) = ys at *
      have hyl : ys.length = n := by rw [HTL.out, HL.out]
      have HYL := Lib.hid hyl
      clear hyl
      by_cases h0 : 0 ≤ i
      · obtain ⟨j, rfl⟩ := Int.eq_ofNat_of_zero_le h0
        clear h0
        by_cases hj : j < n
        · obtain ⟨g, rfl⟩ := hm2.ex (by omega)
          obtain ⟨hcj, hfj⟩ := hm2.cellAt j hj
          have hgB := (hm2.block (g := g) rfl).1
          have HG := Lib.hid hgB
          clear hgB
          cases hw : wholeB (gt ys j) with
          | true =>
            have h12 : 1 ≤ gt ys j ∧ gt ys j ≤ 2 := by have := wholeB_cases hw; omega
            obtain ⟨hx1, hx2⟩ := h12
            have ht1 : turn1 ys (j : Int) = ys.set j (3 - gt ys j) := by
              unfold turn1 flip
              rw [if_pos ⟨by omega, by rw [HYL.out]; omega⟩, Int.toNat_natCast, if_pos hw]
            have HT1 := Lib.hid ht1
            clear ht1
            go_wp2_with (go_at_call 105; refine (whole_calls _ _).mono ?_; rintro e w' ⟨rfl, rfl⟩)
            go_roundw
            case rel => exact ⟨k + 1, by omega, by go_num, by rw [HT.out, HT1.out]; exact hm2.set j hj _, hb2.setCell (p := ⟨g, j, none⟩) HG.out _⟩
            case measure => simp [intOf]; omega
          | false =>
            have ht1 : turn1 ys (j : Int) = ys := by
              unfold turn1 flip
              rw [if_pos ⟨by omega, by rw [HYL.out]; omega⟩, Int.toNat_natCast, hw]
              refine gt_ext (by simp) (fun q hq => ?_)
              rw [gt_set _ _ _ _ (by rw [HYL.out]; exact hj)]
              split
              · rename_i e; rw [e]; rfl
              · rfl
            have HT1 := Lib.hid ht1
            clear ht1
            go_wp2_with (go_at_call 105; refine (whole_calls _ _).mono ?_; rintro e w' ⟨rfl, rfl⟩)
            go_roundw
            case rel => exact ⟨k + 1, by omega, by go_num, by rw [HT.out, HT1.out]; exact hm2, hb2⟩
            case measure => simp [intOf]; omega
        · have ht1 : turn1 ys (j : Int) = ys := by unfold turn1; rw [if_neg (by rw [HYL.out]; omega)]
          have HT1 := Lib.hid ht1
          clear ht1
          go_wp2
          go_roundw
          case rel => exact ⟨k + 1, by omega, by go_num, by rw [HT.out, HT1.out]; exact hm2, hb2⟩
          case measure => simp [intOf]; omega
      · have ht1 : turn1 ys i = ys := by unfold turn1; rw [if_neg (by omega)]
        have HT1 := Lib.hid ht1
        clear ht1
        have h0' : i < 0 := by omega
        clear h0
        go_wp2
        go_roundw
        case rel => exact ⟨k + 1, by omega, by go_num, by rw [HT.out, HT1.out]; exact hm2, hb2⟩
        case measure => simp [intOf]; omega
    · have e : k = m := by omega
      subst e
      rw [List.take_of_length_le (by rw [HM.out]; exact Nat.le_refl _)] at hm2
      go_wp2
      go_ret
      exact ⟨_, rfl, hm2, hb2⟩
end Go.Proofs.Ytnmhhjgiakijgaa

/- Turned symbols, by the reference: its contract. -/
namespace Go.Proofs.Ytnmhhjgiakijgaa
open Go.RowKit
set_option linter.unusedVariables false

set_option maxHeartbeats 3200000 in
set_option maxRecDepth 20000 in
theorem refturn_calls (A : Option Addr) (n c : Nat) (xs : List Int) (D : Option Addr) (m d : Nat) (at_ : List Int) (w : World) (hr : Rd w .u8 A n xs) (hc : n ≤ c) (hn : n ≤ 60000) (hs : Rd w .i64 D m at_) (hd : m ≤ d) (hm : m ≤ 60000) :
    Calls Try.prog 39 #[.slice A n c, .slice D m d] w fun e w' => ∃ A' c', e = .returned (.slice A' n c') ∧ n ≤ c' ∧ Mn w' w.heap.size 50 1 (.slice A' n c') n (nums .u8 (turnL xs at_)) ∧ Below w.heap.size w w' := by
  have HR := Lib.hid hr
  have HL := Lib.hid hr.len
  have HS := Lib.hid hs
  have HM := Lib.hid hs.len
  have HTL := Lib.hid ((turnL_length xs at_).trans hr.len)
  clear hr hs
  go_enter Try.func39, Try.ntmps39
  go_wp2
  go_loopw [5, 6] (fun v i wr => ∃ (k c' : Nat) (A' : Option Addr), k ≤ n ∧ i = .int .i64 k ∧ v = .slice A' k c' ∧ k ≤ c' ∧ Mn wr w.heap.size 50 1 (.slice A' k c') k (nums .u8 ((turnL xs at_).take k)) ∧ Below w.heap.size w wr)
    (fun _ i _ => n - (intOf i).toNat)
  case atStart => exact ⟨0, 0, none, Nat.zero_le _, rfl, rfl, Nat.le_refl _, Mn.nil _ _ _ _, Below.refl _ _⟩
  case round =>
    obtain ⟨k, c', A', hk, rfl, rfl, hkc, hm1, hb⟩ := hrel
    by_cases hlt : k < n
    · obtain ⟨b1, o, rfl, hcell⟩ := (HR.out.below hb).at_ k hlt
      have HT := Lib.hid (turnL_take_snoc xs at_ k (by rw [HL.out]; exact hlt))
      have HC := Lib.hid hcell
      have HMn := Lib.hid hm1
      have HSr := Lib.hid (HS.out.below hb)
      have HB := Lib.hid hb
      clear hcell hm1 hb
      go_wp2
      go_loop [7, 8] (fun u v => ∃ j T : Nat, j ≤ m ∧ v = .int .i64 j ∧ u = .int .i64 T ∧ Hid (T = times (at_.take j) k) ∧ T ≤ j) (fun _ v => m - (intOf v).toNat)
      case atStart => exact ⟨0, 0, Nat.zero_le _, rfl, rfl, rfl, Nat.le_refl _⟩
      case round =>
        obtain ⟨j, T, hj, rfl, rfl, HTT, hTj⟩ := hrel
        by_cases hjl : j < m
        · obtain ⟨b2, o2, e2, hcell2⟩ := HSr.out.at_ j hjl
          subst e2
          have HQ := Lib.hid (times_take at_ j k (by rw [HM.out]; exact hjl))
          by_cases hi : gt at_ j = (k : Int)
          · rw [hi] at hcell2
            have HI := Lib.hid hi
            clear hi
            go_wp2
            go_round
            case rel => exact ⟨j + 1, T + 1, by omega, by go_num, by go_num, by show _ = _; rw [HQ.out, if_pos HI.out, HTT.out], by omega⟩
            case measure => simp [intOf]; omega
          · have hne : (gt at_ j == (k : Int)) = false := by simp; exact hi
            have HI := Lib.hid hi
            clear hi
            go_wp2
            go_round
            case rel => exact ⟨j + 1, T, by omega, by go_num, rfl, by show _ = _; rw [HQ.out, if_neg HI.out, HTT.out, Nat.add_zero], by omega⟩
            case measure => simp [intOf]; omega
        · have e : j = m := by omega
          subst e
          have hTT := HTT.out
          rw [List.take_of_length_le (by rw [HM.out]; exact Nat.le_refl _)] at hTT
          have HX := Lib.hid hTT
          clear hTT
          have hcell := HC.out
          have hm1 := HMn.out
          have hb := HB.out
          obtain ⟨y, hy⟩ : ∃ y, y = oddly T (gt xs k) := ⟨_, rfl⟩
          have HY := Lib.hid hy
          clear hy
          generalize hgx : gt xs k = x at *
          have hcases : (T % 2 = 1 ∧ x = 1 ∧ y = 2) ∨ (T % 2 = 1 ∧ x = 2 ∧ y = 1) ∨ (T % 2 = 1 ∧ (x == 1) = false ∧ (x == 2) = false ∧ y = x) ∨ (T % 2 = 0 ∧ y = x) := by
            have := HY.out
            unfold oddly at this
            by_cases ht : T % 2 = 1
            · rw [if_pos ht] at this
              unfold flip at this
              by_cases h1 : x = 1
              · subst h1; left; exact ⟨ht, rfl, by rw [this]; rfl⟩
              · by_cases h2 : x = 2
                · subst h2; right; left; exact ⟨ht, rfl, by rw [this]; rfl⟩
                · right; right; left
                  have hf1 : (x == 1) = false := by simp; exact h1
                  have hf2 : (x == 2) = false := by simp; exact h2
                  have hw : wholeB x = false := by unfold wholeB; rw [hf1, hf2]; rfl
                  rw [hw] at this
                  exact ⟨ht, hf1, hf2, this⟩
            · rw [if_neg ht] at this
              right; right; right; exact ⟨by omega, this⟩
          rcases hcases with ⟨ht, rfl, rfl⟩ | ⟨ht, rfl, rfl⟩ | ⟨ht, hf1, hf2, rfl⟩ | ⟨ht, rfl⟩
          all_goals
            have ht2 : ((T : Int) % 2) = ((T % 2 : Nat) : Int) := by omega
            rw [ht] at ht2
            have ht3 : ((T : Int).tmod 2) = ((T % 2 : Nat) : Int) := by rw [Int.tmod_eq_emod_of_nonneg (by omega)]; omega
            rw [ht] at ht3
            clear ht
            go_wp2_with (first
              | (at_builtin
                 refine wpList_append_mn _ rfl _ _ _ rfl w.heap.size 50 _ 1 1 Try.underlying22 info50 rfl (by omega) (.slice A' k c') k (nums .u8 ((turnL xs at_).take k)) rfl (hm1.alloc _) _ 1 1 (nums .u8 [_]) rfl rv_one (nums_one _ _) (by omega) (by omega) (by simp; have := hb.size; omega) ?_
                 intro A2 c2 w2 hc2 hm2 hg2 hat2))
            go_roundw
            case rel => exact ⟨k + 1, c2, A2, by omega, by go_num, rfl, hc2, by rw [HT.out, ← HX.out, nums_append, ← HY.out]; exact hm2, (hb.alloc hb.size _).grown hg2 (by simp; have := hb.size; omega) (fun k hk => (hm1.block hk).1)⟩
            case measure => simp [intOf]; omega
    · have e : k = n := by omega
      subst e
      rw [List.take_of_length_le (by rw [HTL.out]; exact Nat.le_refl _)] at hm1
      go_wp2
      go_ret
      exact ⟨_, _, rfl, hkc, hm1, hb⟩
end Go.Proofs.Ytnmhhjgiakijgaa

/- Layer 1's examples: sennitlaw01.lives returns true. -/
namespace Go.Proofs.Ytnmhhjgiakijgaa
open Go.RowKit
set_option linter.unusedVariables false

/-- 'Below' from one's own start on, step by step -/
theorem Bw.alloc {w W : World} (h : Below w.heap.size w W) (o : Obj) : Below w.heap.size w (W.alloc o) := Below.alloc h h.size o
theorem Bw.drewN {w W : World} (h : Below w.heap.size w W) (n : Nat) : Below w.heap.size w (W.drewN n) := ⟨h.os, h.tape, h.output, h.size, h.block⟩
theorem Bw.drew {w W : World} (h : Below w.heap.size w W) : Below w.heap.size w W.drew := ⟨h.os, h.tape, h.output, h.size, h.block⟩
theorem Bw.step {w W W' : World} (h : Below w.heap.size w W) (k : Below W.heap.size W W') : Below w.heap.size w W' := h.trans (k.mono h.size)

/-- numbers in a block of their own -/
theorem rd_cells {w : World} {e : TypeId} {k : IntKind} {a : Nat} (ha : a = w.heap.size) (xs : List Int) : Rd (w.alloc (.cells (nums k xs).toArray e)) k (some ⟨a, 0, none⟩) xs.length xs := by
  subst ha
  refine ⟨by rw [nums_length], fun _ => ⟨w.heap.size, 0, rfl, fun j u hu => ?_⟩⟩
  rw [Nat.zero_add, cell_of_row _ w.heap.size j (nums k xs).toArray e (0, 0) (heap_alloc_new w _)]
  simpa using hu

theorem r_one (w : World) (x : Int) (a : Nat) (ha : a = w.heap.size) : Rd (w.alloc (.cells #[.int .i64 x] 3)) .i64 (some ⟨a, 0, none⟩) 1 [x] := rd_cells ha [x]
theorem r_two (w : World) (x y : Int) (a : Nat) (ha : a = w.heap.size) : Rd (w.alloc (.cells #[.int .i64 x, .int .i64 y] 3)) .i64 (some ⟨a, 0, none⟩) 2 [x, y] := rd_cells ha [x, y]
theorem r_221 (w : World) (a : Nat) (ha : a = w.heap.size) : Rd (w.alloc (.cells #[.int .u8 2, .int .u8 2, .int .u8 1] 50)) .u8 (some ⟨a, 0, none⟩) 3 [2, 2, 1] := rd_cells ha [2, 2, 1]
theorem r_121 (w : World) (a : Nat) (ha : a = w.heap.size) : Rd (w.alloc (.cells #[.int .u8 1, .int .u8 2, .int .u8 1] 50)) .u8 (some ⟨a, 0, none⟩) 3 [1, 2, 1] := rd_cells ha [1, 2, 1]
theorem r_1212 (w : World) (a : Nat) (ha : a = w.heap.size) : Rd (w.alloc (.cells #[.int .u8 1, .int .u8 2, .int .u8 1, .int .u8 2] 50)) .u8 (some ⟨a, 0, none⟩) 4 [1, 2, 1, 2] := rd_cells ha [1, 2, 1, 2]
theorem r_eight (w : World) (a : Nat) (ha : a = w.heap.size) : Rd (w.alloc (.cells #[.int .u8 1, .int .u8 1, .int .u8 1, .int .u8 1, .int .u8 1, .int .u8 2, .int .u8 1, .int .u8 2] 50)) .u8 (some ⟨a, 0, none⟩) 8 [1, 1, 1, 1, 1, 2, 1, 2] := rd_cells ha [1, 1, 1, 1, 1, 2, 1, 2]
theorem r_5 (w : World) (a : Nat) (ha : a = w.heap.size) : Rd (w.alloc (.cells #[.int .u8 5] 5)) .u8 (some ⟨a, 0, none⟩) 1 [5] := rd_cells ha [5]
theorem r_0229 (w : World) (a : Nat) (ha : a = w.heap.size) : Rd (w.alloc (.cells #[.int .i64 0, .int .i64 2, .int .i64 2, .int .i64 9] 3)) .i64 (some ⟨a, 0, none⟩) 4 [0, 2, 2, 9] := rd_cells ha [0, 2, 2, 9]

set_option maxHeartbeats 3200000 in
set_option maxRecDepth 20000 in
theorem lives01 (w : World) : Calls Try.prog 27 #[] w fun e w' => e = .returned (.bool true) ∧ Below w.heap.size w w' := by
  have N1 := Lib.hid (show numV [2, 2, 1] = 6 by decide)
  have N2 := Lib.hid (show numOk [2, 2, 1] = true by decide)
  have S1 := Lib.hid (show sameL (ofL [5]) [1, 1, 1, 1, 1, 2, 1, 2] = true by decide)
  have S2 := Lib.hid (show sameL (putA [] 5 4) [1, 2, 1, 2] = true by decide)
  have S3 := Lib.hid (show sameL (turnL [2, 2, 1] [0, 2, 2, 9]) [1, 2, 1] = true by decide)
  go_enter Try.func27, Try.ntmps27
  go_wp2_with fail
  refine (num_calls _ 3 3 [2, 2, 1] _ (r_221 _ _ (by simp)) (by omega) (by omega)).mono ?_; rintro e w' ⟨rfl, rfl⟩; rewrite [N1.out, N2.out]
  go_wp2_with fail
  refine (of_calls _ 1 1 [5] _ (r_5 _ _ (by simp)) (by omega) (by omega) (by intro x hx; simp at hx; omega)).mono ?_; rintro e w1 ⟨A1, m1, rfl, hl1, hm1, hb1⟩; have HL1 := Lib.hid hl1; clear hl1
  go_wp2_with fail
  refine (samesyms_calls _ _ _ _ _ _ (ofL [5]) [1, 1, 1, 1, 1, 2, 1, 2] _ ((hm1.alloc _).rd) (r_eight _ _ (by simp)) (by omega) (by omega) (by have := HL1.out; omega)).mono ?_; rintro e w' ⟨rfl, q1, rfl⟩; rewrite [S1.out]
  go_wp2_with fail
  refine (put_calls _ _ _ [] 5 4 _ Rd.nil (by omega) (by omega) (by omega)).mono ?_; rintro e w2 ⟨A2, m2, rfl, hl2, hm2, hb2⟩; have HL2 := Lib.hid hl2; clear hl2
  go_wp2_with fail
  refine (samesyms_calls _ _ _ _ _ _ (putA [] 5 4) [1, 2, 1, 2] _ ((hm2.alloc _).rd) (r_1212 _ _ (by simp)) (by omega) (by omega) (by have := HL2.out; have := many_le 4; omega)).mono ?_; rintro e w' ⟨rfl, q2, rfl⟩; rewrite [S2.out]
  go_wp2_with fail
  refine (turn_calls _ _ _ [2, 2, 1] _ _ _ [0, 2, 2, 9] _ ((r_221 _ _ (by simp)).alloc _) (by omega) (by omega) (r_0229 _ _ (by simp)) (by omega) (by omega)).mono ?_; rintro e w3 ⟨A3, rfl, hm3, hb3⟩
  go_wp2_with fail
  refine (samesyms_calls _ _ _ _ _ _ (turnL [2, 2, 1] [0, 2, 2, 9]) [1, 2, 1] _ ((hm3.alloc _).rd) (r_121 _ _ (by simp)) (by omega) (by omega) (by omega)).mono ?_; rintro e w' ⟨rfl, q3, rfl⟩; rewrite [S3.out]
  go_wp2
  go_ret
  exact ⟨rfl, by repeat (first | exact Below.refl _ _ | apply Bw.alloc | apply Bw.drewN | (refine Bw.step ?_ (by assumption)))⟩
end Go.Proofs.Ytnmhhjgiakijgaa

/- slices.Chunk at symbols, eight at a time: what its range hands over. -/
namespace Go.Proofs.Ytnmhhjgiakijgaa
open Go.RowKit Go.Shelf
attribute [local go_sem] Oper.semAt_some
set_option linter.unusedVariables false

theorem Rd.sub {w : World} {k : IntKind} {b o n : Nat} {xs : List Int} (h : Rd w k (some ⟨b, o, none⟩) n xs) (i m : Nat) (hi : i + m ≤ n) : Rd w k (some ⟨b, o + i, none⟩) m ((xs.drop i).take m) := by
  have hl := h.len
  refine ⟨by rw [nums_length, List.length_take, List.length_drop]; omega, fun hp => ⟨b, o + i, rfl, fun j u hu => ?_⟩⟩
  obtain ⟨b', o', e, hc⟩ := h.2 (by omega)
  injection e with e
  injection e with e1 e2
  subst e1
  subst e2
  rw [Nat.add_assoc]
  refine hc (i + j) u ?_
  simp only [nums, List.getElem?_map, List.getElem?_take, List.getElem?_drop] at hu ⊢
  split at hu
  · exact hu
  · simp at hu

set_option maxRecDepth 20000 in
theorem chunk_calls (A : Option Addr) (n c : Nat) (w : World) :
    Calls Try.prog 109 #[.slice A n c, .int .i64 8] w fun e w' => e = .returned (.func (.func 148) #[] #[.pointer (some ⟨w.heap.size, 0, none⟩), .pointer (some ⟨w.heap.size + 1, 0, none⟩)]) ∧
      w' = (w.alloc (.cells #[.slice A n c] 22)).alloc (.cells #[.int .i64 8] 3) := by
  go_enter Try.func109, Try.ntmps109
  go_wp2
  go_ret
  exact ⟨rfl, rfl⟩

theorem run_min8 {P : Program} (t : TypeId) (w : World) (ats : Array TypeId) (x : Int) (hx : 8 ≤ x) : (Builtin.min_ ats t #[.int .i64 8, .int .i64 x]).run P w = .ok (.int .i64 8) w := by
  have h : (Builtin.min_ ats t #[.int .i64 8, .int .i64 x]).run P w = .ok (.int .i64 (if x < 8 then x else 8)) w := rfl
  rw [h, if_neg (by omega)]

/-- what a round keeps: the two boxes of the closure -/
def KpC (Bs Bn : Nat) (W W' : World) : Prop := W'.cell? ⟨Bs, 0, none⟩ = W.cell? ⟨Bs, 0, none⟩ ∧ W'.cell? ⟨Bn, 0, none⟩ = W.cell? ⟨Bn, 0, none⟩

set_option maxRecDepth 100000 in
set_option maxHeartbeats 4000000 in
/-- the closure of Chunk: for every loop body that keeps what lay below n₀ -/
theorem chunk1_in (n : Nat) (hn : 1 ≤ n) (l Bs Bn b o m c : Nat) (hm : m ≤ 7000) (hc : 8 * m ≤ c) (hcm : c ≤ maxLen) (A : Option Addr) (hA : 0 < m → A = some ⟨b, o, none⟩) (J Jx : List (Fin m) → World → Prop)
    (hY : ∀ pre (x : Fin m) W, J pre W → pre.length < m → YieldAt Fence.wide (n - 1) Try.prog l #[.slice (some ⟨b, o + 8 * x.1, none⟩) 8 8] W fun e W' =>
      (e = .returned (.bool true) ∧ J (pre ++ [x]) W' ∧ KpC Bs Bn W W') ∨ (e = .returned (.bool false) ∧ Jx (pre ++ [x]) W'))
    (W : World) (hBs : W.cell? ⟨Bs, 0, none⟩ = some (.slice A (8 * m) c)) (hBn : W.cell? ⟨Bn, 0, none⟩ = some (.int .i64 8)) (h0 : J [] W)
    (hdr : ∀ pre W q, J pre W → J pre (W.drewN q)) :
    CallsIn Fence.wide n Try.prog 148 #[.func (.yield l) #[] #[], .pointer (some ⟨Bs, 0, none⟩), .pointer (some ⟨Bn, 0, none⟩)] W fun e W' => (∃ v, e = .returned v) ∧
      ((∃ ys : List (Fin m), ys.map (·.1) = List.range m ∧ J ys W') ∨ (∃ pre, Jx pre W')) := by
  have hro : Fence.wide.round = none := rfl
  refine callsIn_of_wp Try.func148 rfl trivial ?_ hro
  simp only [Try.ntmps148, List.size_toArray, List.length_cons, List.length_nil, Nat.reduceAdd, Nat.reduceSub, Array.replicate_succ, Array.replicate_zero, List.push_toArray, List.append_toArray, List.nil_append, List.cons_append]
  gi_wp2
  gi_loopw [4] (fun i wr => ∃ (k : Nat) (ys : List (Fin m)), k ≤ m ∧ i = .int .i64 ((8 * k : Nat) : Int) ∧ ys.map (·.1) = List.range k ∧ J ys wr ∧ KpC Bs Bn W wr)
    (fun i _ => 8 * m - (intOf i).toNat)
  case atStart => exact ⟨0, [], Nat.zero_le _, rfl, rfl, h0, ⟨rfl, rfl⟩⟩
  case round =>
    obtain ⟨k, ys, hk, rfl, hys, hJs, hnx⟩ := hrel
    have hs := hnx.1.trans hBs
    have hnn := hnx.2.trans hBn
    have HYS := Lib.hid hys
    clear hys
    by_cases hlt : k < m
    · have hA1 := hA (by omega)
      subst hA1
      have hk8 : ((8 * k : Nat) : Int) < 8 * (m : Int) := by omega
      have hmin := fun ats ty wx => run_min8 (P := Try.prog) ty wx ats (8 * (m : Int) - 8 * (k : Int)) (by omega)
      unfold maxLen at hcm
      gi_wp2
      gi_quiet (fail)
      obtain ⟨fn, tmps, assign, body, hy, hR⟩ := hY ys ⟨k, hlt⟩ (wr.drewN nq) (hdr _ _ _ hJs) (by have := congrArg List.length HYS.out; simp at this; omega)
      dsimp only at hy
      gi_wp2
      refine hR.mono ?_
      rintro e W3 (⟨rfl, hJ3, hk3⟩ | ⟨rfl, hJx3⟩)
      · have hnn3 : W3.cell? ⟨Bn, 0, none⟩ = some (.int .i64 8) := hk3.2.trans hnn
        have hnx3 : KpC Bs Bn W W3 := ⟨hk3.1.trans hnx.1, hk3.2.trans hnx.2⟩
        have HN3 := Lib.hid hnx3
        clear hnx3
        clear hs hnn hnx hmin hk3
        gi_wp2
        go_roundw
        case rel => exact ⟨k + 1, ys ++ [⟨k, hlt⟩], by omega, by first | rfl | (congr 1; omega), by rw [List.map_append, HYS.out, List.range_succ]; rfl, hJ3, HN3.out⟩
        case measure => simp [intOf]; omega
      · gi_wp2
        refine bodyPost_ret (results_none rfl _ _ _) rfl ?_
        exact ⟨⟨_, rfl⟩, .inr ⟨_, hJx3⟩⟩
    · obtain rfl : k = m := by omega
      gi_wp2
      go_end0
      exact ⟨⟨_, rfl⟩, .inl ⟨_, HYS.out, hJs⟩⟩

/-- what 'range slices.Chunk(s, 8)' hands over -/
theorem chunk_stops (n : Nat) (hn : 1 ≤ n) (b o m c : Nat) (hm : m ≤ 7000) (hc : 8 * m ≤ c) (hcm : c ≤ maxLen) (A : Option Addr) (hA : 0 < m → A = some ⟨b, o, none⟩) (w : World) (Bs Bn : Nat) (hBs0 : Bs < w.heap.size) (hBn0 : Bn < w.heap.size)
    (hBs : w.cell? ⟨Bs, 0, none⟩ = some (.slice A (8 * m) c)) (hBn : w.cell? ⟨Bn, 0, none⟩ = some (.int .i64 8)) :
    SeqStopsK Fence.wide n Try.prog 148 #[.pointer (some ⟨Bs, 0, none⟩), .pointer (some ⟨Bn, 0, none⟩)] (fun x : Fin m => #[.slice (some ⟨b, o + 8 * x.1, none⟩) 8 8]) (KpC Bs Bn)
      (fun ys => ys.map (·.1) = List.range m) (fun _ => True) m w := fun l J Jx W hW hJ hJx hY h0 =>
  (chunk1_in n hn l Bs Bn b o m c hm hc hcm A hA J Jx hY W ((hW.cell (p := ⟨Bs, 0, none⟩) hBs0).trans hBs) ((hW.cell (p := ⟨Bn, 0, none⟩) hBn0).trans hBn) h0
    (fun pre W2 q hj => hJ pre W2 _ none hj ⟨rfl, rfl, rfl, Nat.le_refl _, fun _ _ _ => rfl⟩ (fun r e => by cases e))).mono fun e W' ⟨he, h⟩ => ⟨he, by
      rcases h with ⟨ys, h1, h2⟩ | ⟨pre, h⟩
      · exact .inl ⟨ys, h1, h2⟩
      · exact .inr ⟨pre, trivial, h⟩⟩
end Go.Proofs.Ytnmhhjgiakijgaa

/- bits.Bytes: its contract. -/
namespace Go.Proofs.Ytnmhhjgiakijgaa
open Go.RowKit Go.Shelf
attribute [local go_sem] Oper.semAt_some
set_option linter.unusedVariables false

def BytesPost (w : World) (xs : List Int) (e : Ending) (w' : World) : Prop :=
  ∃ A' m, e = .returned (.tuple #[.slice A' m m, .bool (byOk xs)]) ∧ m = (byV xs).length ∧ Mn w' w.heap.size 5 1 (.slice A' m m) m (nums .u8 (byV xs)) ∧ Below w.heap.size w w'

set_option maxRecDepth 100000 in
set_option maxHeartbeats 4000000 in
theorem bytes_odd (A : Option Addr) (n c : Nat) (xs : List Int) (w : World) (hr : Rd w .u8 A n xs) (h8 : n % 8 ≠ 0) : Calls Try.prog 44 #[.slice A n c] w (BytesPost w xs) := by
  have h := byV_odd xs (by rw [hr.len]; exact h8)
  have H := Lib.hid h
  clear h hr
  have hne : ((n : Int) % 8 != 0) = true := by simp; omega
  go_enter Try.func44, Try.ntmps44
  go_wp2
  refine bodyPost_ret (v := .tuple #[.slice none 0 0, .bool false]) (by simp [results, Try.results44, go_sem]) rfl ⟨none, 0, by rw [H.out.1], by rw [H.out.2]; rfl, by rw [H.out.2]; exact Mn.nil _ _ _ _, Bw.alloc (Bw.alloc (Below.refl _ _) _) _⟩

/-- a box is kept where what turned is no cells -/
theorem box_kept {W W' : World} {row : Option Nat} {B : Nat} {t : TypeId} {v : Value} (h : Boxed W B t v) (hg : W.grownBy W' row) (hr : ∀ r, row = some r → ∃ o : Obj, W.heap[r]? = some o ∧ o.isCells = false) : Boxed W' B t v := by
  refine h.kept hg (fun e => ?_)
  obtain ⟨o, ho, hc⟩ := hr B e.symm
  rw [show W.heap[B]? = _ from h] at ho
  cases ho
  cases hc
theorem row_kept {W W' : World} {row : Option Nat} {base : Nat} {e : TypeId} {size n : Nat} {v : Value} {cs : List Value} (h : W.ownsRow base e size v n cs) (hg : W.grownBy W' row) (hr : ∀ r, row = some r → ∃ o : Obj, W.heap[r]? = some o ∧ o.isCells = false) : W'.ownsRow base e size v n cs := by
  refine h.kept hg ?_
  rcases h.2 with ⟨rfl, _⟩ | ⟨g, cap, cur, rfl, _, hgb, _⟩
  · exact .inl rfl
  · refine .inr fun e' => ?_
    obtain ⟨o, ho, hc⟩ := hr g (by simpa [Value.ownBlock] using e'.symm)
    rw [hgb] at ho
    cases ho
    cases hc
theorem mn_of_own {W : World} {base : Nat} {e : TypeId} {size n : Nat} {v : Value} {cs : List Value} (h : W.ownsRow base e size v n cs) : Mn W base e size v n cs := by
  refine ⟨h.1, ?_⟩
  rcases h.2 with h2 | ⟨g, cap, cur, hv, hb, hh, hc, hm, hs, ht⟩
  · exact .inl h2
  · exact .inr ⟨g, cap, cur, hv, hb, hh, hc, hm, by omega, ht⟩

/-- between two rounds -/
def ByI (w : World) (A : Option Addr) (n c : Nat) (xs : List Int) (m : Nat) (pre : List (Fin m)) (W : World) : Prop :=
  (∃ v, Boxed W (w.heap.size + 1 + 1) 43 v ∧ W.ownsRow w.heap.size 5 1 v pre.length (nums .u8 (pre.map fun x => byteOf xs x.1))) ∧ Boxed W w.heap.size 43 (.slice none 0 0) ∧ Boxed W (w.heap.size + 1) 4 (.bool false) ∧
    Boxed W (w.heap.size + 1 + 1 + 1) 22 (.slice A n c) ∧ Boxed W (w.heap.size + 1 + 1 + 1 + 1) 3 (.int .i64 8) ∧ (∀ x ∈ pre, wholeL (chunk xs x.1) = true) ∧ Below w.heap.size w W
/-- left -/
def ByX (w : World) (xs : List Int) (m : Nat) (c : Code) (pre : List (Fin m)) (W : World) : Prop :=
  c = .ret ∧ Boxed W w.heap.size 43 (.slice none 0 0) ∧ Boxed W (w.heap.size + 1) 4 (.bool false) ∧ wholeL xs = false ∧ Below w.heap.size w W

theorem byI_own (w : World) (A : Option Addr) (n c : Nat) (xs : List Int) (m B : Nat) (hB : w.heap.size ≤ B) : OwnFrom B (ByI w A n c xs m) := by
  rintro s W W' row ⟨⟨v, h1, h2⟩, h3, h4, h5, h6, h7, h8⟩ hg hr
  have hr2 : ∀ r, row = some r → ∃ o : Obj, W.heap[r]? = some o ∧ o.isCells = false := fun r e => (hr r e).2
  exact ⟨⟨v, box_kept h1 hg hr2, row_kept h2 hg hr2⟩, box_kept h3 hg hr2, box_kept h4 hg hr2, box_kept h5 hg hr2, box_kept h6 hg hr2, h7,
    h8.grown hg h8.size (fun k e => Nat.le_trans hB (hr k e).1)⟩
theorem byX_own (w : World) (xs : List Int) (m : Nat) (c : Code) (B : Nat) (hB : w.heap.size ≤ B) : OwnFrom B (ByX w xs m c) := by
  rintro s W W' row ⟨h0, h3, h4, h7, h8⟩ hg hr
  have hr2 : ∀ r, row = some r → ∃ o : Obj, W.heap[r]? = some o ∧ o.isCells = false := fun r e => (hr r e).2
  exact ⟨h0, box_kept h3 hg hr2, box_kept h4 hg hr2, h7, h8.grown hg h8.size (fun k e => Nat.le_trans hB (hr k e).1)⟩

theorem box_app {W w1 : World} {base B B' size n : Nat} {t e : TypeId} {u v : Value} {cs : List Value} {tmp : Obj} (h : Boxed W B t u) (hte : t ≠ e) (hr : W.ownsRow base e size v n cs) (hg : (W.alloc tmp).grownBy w1 v.ownBlock) (hne : B ≠ B') (v' : Value) : Boxed (w1.setCell ⟨B', 0, none⟩ v') B t u :=
  ((h.alloc tmp).kept hg ((h.alloc tmp).not_row hte (hr.alloc tmp))).other hne v'

theorem clip5 (A : Option Addr) (n c : Nat) (w : World) (hc : n ≤ c) (hm : c ≤ maxLen) :
    Calls Try.prog 110 #[.slice A n c] w fun e w' => e = .returned (.slice A n n) ∧ w = w' := by
  unfold maxLen at hm
  go_enter Try.func110, Try.ntmps110
  go_wp2
  go_ret
  exact ⟨rfl, rfl⟩

theorem kpc_t {Bs Bn : Nat} {A B C : World} (h : KpC Bs Bn A B) (k : KpC Bs Bn B C) : KpC Bs Bn A C := ⟨k.1.trans h.1, k.2.trans h.2⟩
theorem kpc_b {Bs Bn : Nat} {w : World} (hs : Bs < w.heap.size) (hn : Bn < w.heap.size) (W : World) (l : Nat) (o o' : Obj) (hl : w.heap.size ≤ l) (_ : W.heap[l]? = some o) (_ : o.isCells = false) (_ : o.isWalk = false) : KpC Bs Bn W (W.putObj l o') :=
  ⟨World.cell?_of_block (World.putObj_heap_other (by show Bs ≠ l; omega)), World.cell?_of_block (World.putObj_heap_other (by show Bn ≠ l; omega))⟩

set_option maxRecDepth 100000 in
set_option maxHeartbeats 4000000 in
theorem bytes_even (A : Option Addr) (m c : Nat) (xs : List Int) (w : World) (hr : Rd w .u8 A (8 * m) xs) (hc : 8 * m ≤ c) (hcm : c ≤ maxLen) (hm : m ≤ 7000) : Calls Try.prog 44 #[.slice A (8 * m) c] w (BytesPost w xs) := by
  refine (callsIn_wide (n := 3)).1 ?_
  refine callsIn_of_wp_marks Try.func44 rfl trivial ?_ rfl
  simp only [Try.ntmps44, List.size_toArray, List.length_cons, List.length_nil, Nat.reduceAdd, Nat.reduceSub, Array.replicate_succ, Array.replicate_zero, List.push_toArray, List.append_toArray, List.nil_append, List.cons_append]
  gi_wp2_with (refine ⟨trivial, ?_⟩; gi_at_call 109; refine (callsIn_wide.2 (chunk_calls _ _ _ _)).mono ?_; rintro e w' ⟨rfl, rfl⟩)
  have hlen := hr.len
  obtain ⟨i0, hi, hz0, hz1, hz2⟩ := info_parts info5
  obtain ⟨b, o, hA⟩ : ∃ b o, 0 < m → A = some ⟨b, o, none⟩ := by
    rcases Nat.eq_zero_or_pos m with h | h
    · exact ⟨0, 0, fun h2 => by omega⟩
    · obtain ⟨b, o, e, _⟩ := hr.2 (by omega)
      exact ⟨b, o, fun _ => e⟩
  have b1 := Boxed.new w 43 (.slice none 0 0)
  have b2 := Boxed.new (w.alloc (.cells #[.slice none 0 0] 43)) 4 (.bool false)
  have b3 := Boxed.new ((w.alloc (.cells #[.slice none 0 0] 43)).alloc (.cells #[.bool false] 4)) 43 (.slice none 0 0)
  have b4 := Boxed.new (((w.alloc (.cells #[.slice none 0 0] 43)).alloc (.cells #[.bool false] 4)).alloc (.cells #[.slice none 0 0] 43)) 22 (.slice A (8 * m) c)
  have b5 := Boxed.new ((((w.alloc (.cells #[.slice none 0 0] 43)).alloc (.cells #[.bool false] 4)).alloc (.cells #[.slice none 0 0] 43)).alloc (.cells #[.slice A (8 * m) c] 22)) 3 (.int .i64 8)
  simp only [World.size_alloc] at b2 b3 b4 b5
  have hB0 : Below w.heap.size w (((((w.alloc (.cells #[.slice none 0 0] 43)).alloc (.cells #[.bool false] 4)).alloc (.cells #[.slice none 0 0] 43)).alloc (.cells #[.slice A (8 * m) c] 22)).alloc (.cells #[.int .i64 8] 3)) :=
    Bw.alloc (Bw.alloc (Bw.alloc (Bw.alloc (Bw.alloc (Below.refl _ _) _) _) _) _) _
  refine wpIn_rangeFunc_ownG rfl (by omega) (gf := 148) (lb := #[.pointer (some ⟨w.heap.size + 1 + 1 + 1, 0, none⟩), .pointer (some ⟨w.heap.size + 1 + 1 + 1 + 1, 0, none⟩)]) rfl trivial (enters_of Try.func148 (by kernel_rfl) rfl)
    (chunk_stops (3 - 1) (by omega) b o m c hm hc hcm A hA _ (w.heap.size + 1 + 1 + 1) (w.heap.size + 1 + 1 + 1 + 1) (by simp) (by simp) (b4.alloc _).cell b5.cell) kpc_t (kpc_b (by simp) (by simp)) (Below.refl _ _) (fun _ => rfl)
    (ByI w A (8 * m) c xs m) (ByX w xs m) (byI_own _ _ _ _ _ _ _ (by simp; omega)) (fun _ => byX_own _ _ _ _ _ (by simp; omega))
    ⟨⟨_, (b3.alloc _).alloc _, World.ownsRow_nil _ _ _ _⟩, (((b1.alloc _).alloc _).alloc _).alloc _, ((b2.alloc _).alloc _).alloc _, b4.alloc _, b5, (fun x hx => by cases hx), hB0⟩
    (fun x => { tmps := #[.slice A (8 * m) c, undef, .pointer (some ⟨w.heap.size, 0, none⟩), .pointer (some ⟨w.heap.size + 1, 0, none⟩), .pointer (some ⟨w.heap.size + 1 + 1, 0, none⟩), .slice (some ⟨b, o + 8 * x.1, none⟩) 8 8, undef, undef, .slice A (8 * m) c,
      .int .i64 (8 * (m : Int)), .int .i64 0, .bool false, .slice A (8 * m) c, .func (.func 148) #[] #[.pointer (some ⟨w.heap.size + 1 + 1 + 1, 0, none⟩), .pointer (some ⟨w.heap.size + 1 + 1 + 1 + 1, 0, none⟩)],
      .slice (some ⟨b, o + 8 * x.1, none⟩) 8 8, undef, undef, undef, undef, undef, undef, undef, undef, undef, undef, undef, undef, undef, undef], defers := [] }) ?assign ?body ?done ?stop
  case assign =>
    intro l x W K hK
    gi_wp2
    exact hK
  case body =>
    rintro l pre x W ⟨⟨v, hv, hrow⟩, h1, h2, h3, h4, hw, hB⟩ hlt
    have hc1 := hv.cell
    have hxl := x.2
    have hAx := hA (by omega)
    subst hAx
    have hl8 : 8 * x.1 + 8 ≤ xs.length := by omega
    have hpart : Rd W .u8 (some ⟨b, o + 8 * x.1, none⟩) 8 (chunk xs x.1) := Rd.sub (hr.below hB) (8 * x.1) 8 (by omega)
    have HPT := Lib.hid hpart
    have HRW := Lib.hid hrow
    clear hr hpart b1 b2 b3 b4 b5 hB0 hA
    cases hcw : wholeL (chunk xs x.1) with
    | true =>
      have HV := Lib.hid (numV_chunk xs x.1 hl8 hcw)
      have HO := Lib.hid ((numOk_chunk xs x.1 hl8).trans hcw)
      have hN := numL_chunk_lt xs x.1 hl8 hcw
      have hf : byteOf xs x.1 = (numL (chunk xs x.1) : Int) := rfl
      generalize numL (chunk xs x.1) = N at *
      have HF := Lib.hid hf
      have HW := Lib.hid hw
      have HCW := Lib.hid hcw
      clear hf hw hcw
      gi_wp2_with (first
        | (refine ⟨trivial, ?_⟩; gi_at_call 29; refine (CallsIn.inRound l (callsIn_wide.2 (num_calls _ _ _ (chunk xs x.1) _ HPT.out (by omega) (by omega)))).mono ?_; rintro e w' ⟨rfl, rfl⟩; rewrite [HV.out, HO.out])
        | (gi_at_builtin; refine wpListIn_append_own _ rfl _ _ 43 rfl w.heap.size 5 i0 (.int .u8 0) 1 1 Try.underlying43 hi hz0 hz1 hz2 rfl (by decide) _ _ _ rfl (hrow.alloc _) ⟨W.heap.size, 0, none⟩ 1 1 [.int .u8 N] rfl rfl (cell_one_new _ _ _) (by simp [Value.oneCell']) (by simp only [maxLen]; omega) (by omega) (by have := hB.size; simp; omega) ?_; intro v' w1 hown' hgrow _; obtain ⟨g', cap', rfl⟩ := ownsRow_succ hown'; obtain ⟨hv1, hv2, hr2, hk2, hb2⟩ := hv.appended (by decide) hrow hB.size (by omega) hown' hgrow; have hc1' := hv1.cell; have hf1 := hv1.frozen))
      have g1 := box_app h1 (by decide) HRW.out hgrow (by omega : w.heap.size ≠ w.heap.size + 1 + 1)
      have g2 := box_app h2 (by decide) HRW.out hgrow (by omega : w.heap.size + 1 ≠ w.heap.size + 1 + 1)
      have g3 := box_app h3 (by decide) HRW.out hgrow (by omega : w.heap.size + 1 + 1 + 1 ≠ w.heap.size + 1 + 1)
      have g4 := box_app h4 (by decide) HRW.out hgrow (by omega : w.heap.size + 1 + 1 + 1 + 1 ≠ w.heap.size + 1 + 1)
      refine ⟨hk2.from _, ⟨(g3 _).cell.trans h3.cell.symm, (g4 _).cell.trans h4.cell.symm⟩, ⟨_, hv2, ?_⟩, g1 _, g2 _, g3 _, g4 _, ?_, hB.trans hb2⟩
      · rw [List.map_append, List.map_singleton, nums_append, HF.out, List.length_append]
        exact hr2
      · intro y hy
        rcases List.mem_append.1 hy with h | h
        · exact HW.out y h
        · rw [List.mem_singleton.1 h]; exact HCW.out
    | false =>
      have HO := Lib.hid ((numOk_chunk xs x.1 hl8).trans hcw)
      have hwx := wholeL_chunk_false xs m x.1 (by omega) hxl hcw
      have HWX := Lib.hid hwx
      clear hw hcw hwx
      have c1 := h1.cell
      have f1 := h1.frozen
      have c2 := h2.cell
      have f2 := h2.frozen
      gi_wp2_with (first
        | (refine ⟨trivial, ?_⟩; gi_at_call 29; refine (CallsIn.inRound l (callsIn_wide.2 (num_calls _ _ _ (chunk xs x.1) _ HPT.out (by omega) (by omega)))).mono ?_; rintro e w' ⟨rfl, rfl⟩; rewrite [HO.out]))
      exact ⟨((KeepsOthers.setCell _ _ _).trans (KeepsOthers.setCell _ _ _)).from _, rfl, (h1.set _).other (by omega) _, (h2.other (by omega) _).set _, HWX.out, (hB.setCell (p := ⟨w.heap.size, 0, none⟩) (Nat.le_refl _) _).setCell (p := ⟨w.heap.size + 1, 0, none⟩) (by show w.heap.size ≤ w.heap.size + 1; omega) _⟩
  case done =>
    rintro D ys W hD hys ⟨⟨v, hv, hrow⟩, h1, h2, h3, h4, hw, hB⟩ hK
    have hc1 := hv.cell
    obtain ⟨A', cap, rfl, hcap⟩ := (mn_of_own hrow).form
    have hcm2 := (mn_of_own hrow).cap_le
    have c1 := h1.cell
    have f1 := h1.frozen
    have c2 := h2.cell
    have f2 := h2.frozen
    gi_wp2_with (refine ⟨trivial, ?_⟩; gi_at_call 110; refine (callsIn_wide.2 (clip5 _ _ _ _ hcap hcm2)).mono ?_; rintro e w' ⟨rfl, rfl⟩)
    have hK2 := ((KeepsOthers.setCell W ⟨w.heap.size, 0, none⟩ (.slice A' ys.length ys.length)).trans (KeepsOthers.setCell _ ⟨w.heap.size + 1, 0, none⟩ (.bool true))).same D _ hK rfl
    have e1 := (h1.set (.slice A' ys.length ys.length)).other (B' := w.heap.size + 1) (by omega) (.bool true)
    have e2 := (h2.other (B' := w.heap.size) (by omega) (.slice A' ys.length ys.length)).set (.bool true)
    have k1 := cell_kept e1.cell (grownBy_putObj' _ D (.deferred none)) (fun r e => by cases e; exact ⟨_, hK2, rfl⟩)
    have k2 := cell_kept e2.cell (grownBy_putObj' _ D (.deferred none)) (fun r e => by cases e; exact ⟨_, hK2, rfl⟩)
    have hyl : ys.length = m := by have := congrArg List.length hys; simpa using this
    have hwx : wholeL xs = true := (wholeL_chunks xs m (by omega)).2 (fun k hk => by
      have : k ∈ ys.map (·.1) := by rw [hys]; exact List.mem_range.2 hk
      obtain ⟨x, hx, rfl⟩ := List.mem_map.1 this
      exact hw x hx)
    have hb := byV_true xs m (by omega) hwx
    have hlist : ys.map (fun x => byteOf xs x.1) = bytesN xs m := by
      unfold bytesN
      rw [← hys, List.map_map]
      rfl
    refine ⟨by simp, .inl ⟨_, _, rfl, run_takeDeferred hK2, ?_⟩⟩
    refine ⟨.tuple #[.slice A' ys.length ys.length, .bool true], by simp [results, Try.results44, go_sem, k1, k2], A', ys.length, by rw [hb.1], by rw [hb.2, bytesN_length, hyl], ?_, ?_⟩
    · rw [hb.2, ← hlist]
      have r1 := hrow.kept (grownBy_setCell' W w.heap.size (.slice A' ys.length ys.length)) (.inr (h1.not_row (by decide) hrow).symm)
      have r2 := r1.kept (grownBy_setCell' _ (w.heap.size + 1) (.bool true)) (.inr ((h2.other (B' := w.heap.size) (by omega) (.slice A' ys.length ys.length)).not_row (by decide) r1).symm)
      exact (mn_of_own (ownsRow_putObj r2 (.deferred none) hK2 rfl)).clip
    · have hB2 := (hB.setCell (p := ⟨w.heap.size, 0, none⟩) (Nat.le_refl _) (.slice A' ys.length ys.length)).setCell (p := ⟨w.heap.size + 1, 0, none⟩) (by show w.heap.size ≤ w.heap.size + 1; omega) (.bool true)
      exact hB2.trans (belowK_b (w := w) (Nat.le_refl _) _ D _ _ (by simp at hD; omega) hK2 rfl rfl)
  case stop =>
    rintro D c pre W hD _ ⟨rfl, h1, h2, hw, hB⟩ hK
    have c1 := h1.cell
    have c2 := h2.cell
    gi_wp2
    have k1 : (W.putObj D (.deferred none)).cell? ⟨w.heap.size, 0, none⟩ = some (.slice none 0 0) := cell_kept c1 (grownBy_putObj' _ D (.deferred none)) (fun r e => by cases e; exact ⟨_, hK, rfl⟩)
    have k2 : (W.putObj D (.deferred none)).cell? ⟨w.heap.size + 1, 0, none⟩ = some (.bool false) := cell_kept c2 (grownBy_putObj' _ D (.deferred none)) (fun r e => by cases e; exact ⟨_, hK, rfl⟩)
    have hb := byV_whole xs hw
    refine ⟨by simp, .inl ⟨_, _, rfl, run_takeDeferred hK, ?_⟩⟩
    refine ⟨.tuple #[.slice none 0 0, .bool false], by simp [results, Try.results44, go_sem, k1, k2], none, 0, by rw [hb.1], by rw [hb.2]; rfl, by rw [hb.2]; exact Mn.nil _ _ _ _, ?_⟩
    exact hB.trans (belowK_b (w := w) (Nat.le_refl _) W D _ _ (by simp at hD; omega) hK rfl rfl)

theorem bytes_calls (A : Option Addr) (n c : Nat) (xs : List Int) (w : World) (hr : Rd w .u8 A n xs) (hc : n ≤ c) (hcm : c ≤ maxLen) (hn : n ≤ 56000) : Calls Try.prog 44 #[.slice A n c] w (BytesPost w xs) := by
  by_cases h8 : n % 8 = 0
  · obtain ⟨m, rfl⟩ : ∃ m, n = 8 * m := ⟨n / 8, by omega⟩
    exact bytes_even A m c xs w hr hc hcm (by omega)
  · exact bytes_odd A n c xs w hr h8
end Go.Proofs.Ytnmhhjgiakijgaa

/- The book of rows: what it holds in memory, 'Book.Syms', 'Book.Bytes', 'mark'. -/
namespace Go.Proofs.Ytnmhhjgiakijgaa
open Go.RowKit
set_option linter.unusedVariables false

/-- a row of a book: where it lies and how long it is (its capacity is its length) -/
abbrev Row := Option Addr × Nat
def Row.val (r : Row) : Value := .slice r.1 r.2 r.2
def Row.blk (r : Row) : Option Nat := if r.2 = 0 then none else r.1.map (·.block)
/-- a row's block: its own, from B on -/
def RowAt (w : World) (B : Nat) (e : TypeId) (r : Row) : Prop :=
  r.2 ≤ 60000000 ∧ (0 < r.2 → ∃ g cur, r.1 = some ⟨g, 0, none⟩ ∧ B ≤ g ∧ w.heap[g]? = some (.cells cur e (0, 0)) ∧ r.2 ≤ cur.size)

theorem RowAt.of_mn {w : World} {B : Nat} {e : TypeId} {A : Option Addr} {n c : Nat} {cs : List Value} (h : Mn w B e 1 (.slice A n c) n cs) (hn : n ≤ 60000000) : RowAt w B e (A, n) := by
  refine ⟨hn, fun hp => ?_⟩
  rcases h.2 with ⟨hv, h0⟩ | ⟨g, cap, cur, hv, hb, hh, hc, hm, hs, ht⟩
  · simp only at hp; omega
  · injection hv with h1 h2 h3
    exact ⟨g, cur, h1, hb, hh, by simp only; omega⟩
theorem RowAt.empty {w : World} {B : Nat} {e : TypeId} {A : Option Addr} : RowAt w B e (A, 0) := ⟨by simp, fun h => by simp at h⟩
theorem Row.blk_empty (A : Option Addr) : Row.blk (A, 0) = none := rfl
theorem RowAt.mono {w : World} {B B' : Nat} {e : TypeId} {r : Row} (h : RowAt w B e r) (hB : B' ≤ B) : RowAt w B' e r :=
  ⟨h.1, fun hp => by obtain ⟨g, cur, h1, h2, h3⟩ := h.2 hp; exact ⟨g, cur, h1, by omega, h3⟩⟩
theorem RowAt.same {w w' : World} {B : Nat} {e : TypeId} {r : Row} (h : RowAt w B e r) (hk : ∀ g, r.blk = some g → g < w.heap.size → w'.heap[g]? = w.heap[g]?) : RowAt w' B e r :=
  ⟨h.1, fun hp => by
    obtain ⟨g, cur, h1, h2, h3, h4⟩ := h.2 hp
    refine ⟨g, cur, h1, h2, ?_, h4⟩
    rw [hk g (by unfold Row.blk; rw [if_neg (by omega), h1]; rfl) (Array.getElem?_eq_some_iff.1 h3).1]
    exact h3⟩
theorem RowAt.below {w w' : World} {B : Nat} {e : TypeId} {r : Row} (h : RowAt w B e r) (hb : Below w.heap.size w w') : RowAt w' B e r := h.same fun g _ hg => hb.block g hg
theorem RowAt.blk_ge {w : World} {B : Nat} {e : TypeId} {r : Row} (h : RowAt w B e r) {g : Nat} (hg : r.blk = some g) : B ≤ g ∧ g < w.heap.size := by
  unfold Row.blk at hg
  split at hg
  · cases hg
  · rename_i hne
    obtain ⟨g', cur, h1, h2, h3, h4⟩ := h.2 (by omega)
    rw [h1] at hg
    have : g' = g := by simpa using hg
    subst this
    exact ⟨h2, (Array.getElem?_eq_some_iff.1 h3).1⟩

theorem Mn.same {w w' : World} {B : Nat} {e : TypeId} {size n : Nat} {v : Value} {cs : List Value} (h : Mn w B e size v n cs) (hk : ∀ g, v.ownBlock = some g → g < w.heap.size → w'.heap[g]? = w.heap[g]?) : Mn w' B e size v n cs := by
  refine ⟨h.1, ?_⟩
  rcases h.2 with h2 | ⟨g, cap, cur, rfl, hb, hh, r⟩
  · exact .inl h2
  · refine .inr ⟨g, cap, cur, rfl, hb, ?_, r⟩
    rw [hk g rfl (Array.getElem?_eq_some_iff.1 hh).1]
    exact hh

/-- A book at block k: the rows of bytes and of symbols that it holds, all apart; all that it may write lies from B on. -/
structure BS (w : World) (B k : Nat) (Bv Sv : Value) (bs ss : List Row) : Prop where
  book : w.heap[k]? = some (.cells #[Bv, .slice none 0 0, Sv, .bool false] 34 (0, 0))
  hB : B ≤ k
  hb : Mn w (k + 1) 43 1 Bv bs.length (bs.map Row.val)
  hs : Mn w (k + 1) 22 1 Sv ss.length (ss.map Row.val)
  rb : ∀ r ∈ bs, RowAt w B 5 r
  rs : ∀ r ∈ ss, RowAt w B 50 r
  apart : (bs ++ ss).Pairwise fun r r' => r.blk = r'.blk → r.blk = none
  off : ∀ r ∈ bs ++ ss, ∀ g, r.blk = some g → g ≠ k ∧ Bv.ownBlock ≠ some g ∧ Sv.ownBlock ≠ some g
  heads : ∀ g, Bv.ownBlock = some g → Sv.ownBlock ≠ some g
  few : bs.length ≤ 100 ∧ ss.length ≤ 100

section
variable {w w' : World} {B k : Nat} {Bv Sv : Value} {bs ss : List Row}

theorem BS.lt (h : BS w B k Bv Sv bs ss) : k < w.heap.size := (Array.getElem?_eq_some_iff.1 h.book).1
theorem BS.cell (h : BS w B k Bv Sv bs ss) (j : Nat) : w.cell? ⟨k, j, none⟩ = #[Bv, .slice none 0 0, Sv, .bool false][j]? := cell_of_row w k j _ 34 (0, 0) h.book
theorem BS.frozen (h : BS w B k Bv Sv bs ss) (j : Nat) : w.frozen? ⟨k, j, none⟩ = false := by simp [World.frozen?, h.book]
/-- a new book -/
theorem BS.new {a : Nat} (ha : a = w.heap.size) (hB : B ≤ w.heap.size) : BS (w.alloc (.cells #[.slice none 0 0, .slice none 0 0, .slice none 0 0, .bool false] 34)) B a (.slice none 0 0) (.slice none 0 0) [] [] := by
  subst ha
  refine ⟨heap_alloc_new w _, hB, Mn.nil .., Mn.nil .., ?_, ?_, ?_, ?_, ?_, ?_⟩ <;> simp [Value.ownBlock]
/-- all that the book names is as it was -/
theorem BS.same (h : BS w B k Bv Sv bs ss) (hk : ∀ g, g < w.heap.size → w'.heap[g]? = w.heap[g]?) : BS w' B k Bv Sv bs ss :=
  ⟨(hk k h.lt).trans h.book, h.hB, h.hb.same fun g _ hg => hk g hg, h.hs.same fun g _ hg => hk g hg, fun r hr => (h.rb r hr).same fun g _ hg => hk g hg, fun r hr => (h.rs r hr).same fun g _ hg => hk g hg, h.apart, h.off, h.heads, h.few⟩
theorem BS.below (h : BS w B k Bv Sv bs ss) (hb : Below w.heap.size w w') : BS w' B k Bv Sv bs ss := h.same fun g hg => hb.block g hg
theorem BS.drewN (h : BS w B k Bv Sv bs ss) (q : Nat) : BS (w.drewN q) B k Bv Sv bs ss := h.same fun _ _ => rfl
end

/-- what a row must be to be put into the book -/
structure Fits (w : World) (B k : Nat) (Bv Sv : Value) (bs ss : List Row) (e : TypeId) (r : Row) : Prop where
  at_ : RowAt w B e r
  new : ∀ r' ∈ bs ++ ss, r'.blk = r.blk → r.blk = none
  off : ∀ g, r.blk = some g → g ≠ k ∧ Bv.ownBlock ≠ some g ∧ Sv.ownBlock ≠ some g

/-- a row enters: the sides of bytes -/
theorem BS.addB {w w' : World} {B k : Nat} {Bv Sv Bv' : Value} {bs ss : List Row} {r : Row} (h : BS w B k Bv Sv bs ss) (hf : Fits w B k Bv Sv bs ss 5 r)
    (hbook : w'.heap[k]? = some (.cells #[Bv', .slice none 0 0, Sv, .bool false] 34 (0, 0)))
    (hm : Mn w' (k + 1) 43 1 Bv' (bs.length + 1) (bs.map Row.val ++ [r.val]))
    (hk : ∀ g, g < w.heap.size → g ≠ k → Bv.ownBlock ≠ some g → w'.heap[g]? = w.heap[g]?)
    (hat : Bv'.ownBlock = Bv.ownBlock ∨ ∃ q, Bv'.ownBlock = some q ∧ w.heap.size ≤ q) (hfew : bs.length + 1 ≤ 100) : BS w' B k Bv' Sv (bs ++ [r]) ss := by
  have hoff' : ∀ r' ∈ bs ++ ss, ∀ g, r'.blk = some g → Bv'.ownBlock ≠ some g := by
    intro r' hr' g hg e
    rcases hat with h1 | ⟨q, h1, h2⟩
    · exact (h.off r' hr' g hg).2.1 (h1 ▸ e)
    · rw [h1] at e
      injection e with e
      have : g < w.heap.size := by
        rcases List.mem_append.1 hr' with h3 | h3
        · exact ((h.rb r' h3).blk_ge hg).2
        · exact ((h.rs r' h3).blk_ge hg).2
      omega
  have hoffr : ∀ g, r.blk = some g → Bv'.ownBlock ≠ some g := by
    intro g hg e
    rcases hat with h1 | ⟨q, h1, h2⟩
    · exact (hf.off g hg).2.1 (h1 ▸ e)
    · rw [h1] at e
      injection e with e
      have := (hf.at_.blk_ge hg).2
      omega
  have hks : ∀ g, Sv.ownBlock = some g → g < w.heap.size → w'.heap[g]? = w.heap[g]? := fun g hg hl => hk g hl
    (by have := (h.hs.block hg).1; omega) (fun e => h.heads g e hg)
  refine ⟨hbook, h.hB, by simpa using hm, h.hs.same hks, ?_, ?_, ?_, ?_, ?_, by simp; have := h.few; omega⟩
  · intro r' hr'
    rcases List.mem_append.1 hr' with h3 | h3
    · exact (h.rb r' h3).same fun g hg hl => hk g hl (h.off r' (List.mem_append_left _ h3) g hg).1 (h.off r' (List.mem_append_left _ h3) g hg).2.1
    · rw [List.mem_singleton.1 h3]
      exact hf.at_.same fun g hg hl => hk g hl (hf.off g hg).1 (hf.off g hg).2.1
  · intro r' hr'
    exact (h.rs r' hr').same fun g hg hl => hk g hl (h.off r' (List.mem_append_right _ hr') g hg).1 (h.off r' (List.mem_append_right _ hr') g hg).2.1
  · have hp := List.pairwise_append.1 h.apart
    refine List.pairwise_append.2 ⟨List.pairwise_append.2 ⟨hp.1, by simp, ?_⟩, hp.2.1, ?_⟩
    · intro a ha b hb e
      rw [List.mem_singleton.1 hb] at e
      rw [e]
      exact hf.new a (List.mem_append_left _ ha) e
    · intro a ha b hb e
      rcases List.mem_append.1 ha with h3 | h3
      · exact hp.2.2 a h3 b hb e
      · rw [List.mem_singleton.1 h3] at e ⊢
        exact hf.new b (List.mem_append_right _ hb) e.symm
  · intro r' hr' g hg
    have hcase : r' ∈ bs ++ ss ∨ r' = r := by
      simp only [List.mem_append, List.mem_singleton] at hr' ⊢
      rcases hr' with (h1 | h1) | h1
      · exact .inl (.inl h1)
      · exact .inr h1
      · exact .inl (.inr h1)
    rcases hcase with h1 | rfl
    · exact ⟨(h.off r' h1 g hg).1, hoff' r' h1 g hg, (h.off r' h1 g hg).2.2⟩
    · exact ⟨(hf.off g hg).1, hoffr g hg, (hf.off g hg).2.2⟩
  · intro g hg e
    rcases hat with h1 | ⟨q, h1, h2⟩
    · exact h.heads g (h1 ▸ hg) e
    · rw [h1] at hg
      injection hg with hg
      have := (h.hs.block e).2
      omega

/-- a row enters: the side of symbols -/
theorem BS.addS {w w' : World} {B k : Nat} {Bv Sv Sv' : Value} {bs ss : List Row} {r : Row} (h : BS w B k Bv Sv bs ss) (hf : Fits w B k Bv Sv bs ss 50 r)
    (hbook : w'.heap[k]? = some (.cells #[Bv, .slice none 0 0, Sv', .bool false] 34 (0, 0)))
    (hm : Mn w' (k + 1) 22 1 Sv' (ss.length + 1) (ss.map Row.val ++ [r.val]))
    (hk : ∀ g, g < w.heap.size → g ≠ k → Sv.ownBlock ≠ some g → w'.heap[g]? = w.heap[g]?)
    (hat : Sv'.ownBlock = Sv.ownBlock ∨ ∃ q, Sv'.ownBlock = some q ∧ w.heap.size ≤ q) (hfew : ss.length + 1 ≤ 100) : BS w' B k Bv Sv' bs (ss ++ [r]) := by
  have hoff' : ∀ r' ∈ bs ++ ss, ∀ g, r'.blk = some g → Sv'.ownBlock ≠ some g := by
    intro r' hr' g hg e
    rcases hat with h1 | ⟨q, h1, h2⟩
    · exact (h.off r' hr' g hg).2.2 (h1 ▸ e)
    · rw [h1] at e
      injection e with e
      have : g < w.heap.size := by
        rcases List.mem_append.1 hr' with h3 | h3
        · exact ((h.rb r' h3).blk_ge hg).2
        · exact ((h.rs r' h3).blk_ge hg).2
      omega
  have hoffr : ∀ g, r.blk = some g → Sv'.ownBlock ≠ some g := by
    intro g hg e
    rcases hat with h1 | ⟨q, h1, h2⟩
    · exact (hf.off g hg).2.2 (h1 ▸ e)
    · rw [h1] at e
      injection e with e
      have := (hf.at_.blk_ge hg).2
      omega
  have hkb : ∀ g, Bv.ownBlock = some g → g < w.heap.size → w'.heap[g]? = w.heap[g]? := fun g hg hl => hk g hl
    (by have := (h.hb.block hg).1; omega) (fun e => h.heads g hg e)
  refine ⟨hbook, h.hB, h.hb.same hkb, by simpa using hm, ?_, ?_, ?_, ?_, ?_, by simp; have := h.few; omega⟩
  · intro r' hr'
    exact (h.rb r' hr').same fun g hg hl => hk g hl (h.off r' (List.mem_append_left _ hr') g hg).1 (h.off r' (List.mem_append_left _ hr') g hg).2.2
  · intro r' hr'
    rcases List.mem_append.1 hr' with h3 | h3
    · exact (h.rs r' h3).same fun g hg hl => hk g hl (h.off r' (List.mem_append_right _ h3) g hg).1 (h.off r' (List.mem_append_right _ h3) g hg).2.2
    · rw [List.mem_singleton.1 h3]
      exact hf.at_.same fun g hg hl => hk g hl (hf.off g hg).1 (hf.off g hg).2.2
  · rw [← List.append_assoc]
    refine List.pairwise_append.2 ⟨h.apart, by simp, ?_⟩
    intro a ha b hb e
    rw [List.mem_singleton.1 hb] at e
    rw [e]
    exact hf.new a ha e
  · intro r' hr' g hg
    rw [← List.append_assoc] at hr'
    rcases List.mem_append.1 hr' with h1 | h1
    · exact ⟨(h.off r' h1 g hg).1, (h.off r' h1 g hg).2.1, hoff' r' h1 g hg⟩
    · rw [List.mem_singleton.1 h1] at hg
      exact ⟨(hf.off g hg).1, (hf.off g hg).2.1, hoffr g hg⟩
  · intro g hg e
    rcases hat with h1 | ⟨q, h1, h2⟩
    · exact h.heads g hg (h1 ▸ e)
    · rw [h1] at e
      injection e with e
      have := (h.hb.block hg).2
      omega
end Go.Proofs.Ytnmhhjgiakijgaa

/- 'Book.Syms', 'Book.Bytes', 'mark': contracts. -/
namespace Go.Proofs.Ytnmhhjgiakijgaa
open Go.RowKit
set_option linter.unusedVariables false

/-- the mark of row i at a turn -/
def markOf (i t : Nat) : Nat := if t = 0 then i % 200 else i / 200 % 200
theorem markOf_lt (i t : Nat) : markOf i t < 200 := by unfold markOf; split <;> omega

set_option maxHeartbeats 800000 in
set_option maxRecDepth 20000 in
theorem mark_calls (i t : Nat) (hi : i ≤ 1000) (ht : t ≤ 2) (w : World) :
    Calls Try.prog 103 #[.int .i64 i, .int .i64 t] w fun e w' => e = .returned (.int .i64 (markOf i t)) ∧ w' = w := by
  by_cases h0 : t = 0
  · subst h0
    have hm : markOf i 0 = i % 200 := if_pos rfl
    have h1 : (i : Int) % 200 = ((i % 200 : Nat) : Int) := by omega
    have h2 : (i : Int).tmod 200 = ((i % 200 : Nat) : Int) := by rw [Int.tmod_eq_emod_of_nonneg (by omega)]; exact h1
    rw [hm]
    generalize i % 200 = r at *
    go_enter Try.func103, Try.ntmps103
    go_wp2
    go_ret
    exact ⟨rfl, rfl⟩
  · have hm : markOf i t = i / 200 % 200 := if_neg h0
    have ht0 : ((t : Int) == 0) = false := by simp; omega
    have h1 : (i : Int).tdiv 200 = ((i / 200 : Nat) : Int) := by rw [Int.tdiv_eq_ediv_of_nonneg (by omega)]; omega
    have h1' : (i : Int) / 200 = ((i / 200 : Nat) : Int) := by omega
    have h2 : ((i / 200 : Nat) : Int) % 200 = ((i / 200 % 200 : Nat) : Int) := by omega
    have h3 : ((i / 200 : Nat) : Int).tmod 200 = ((i / 200 % 200 : Nat) : Int) := by rw [Int.tmod_eq_emod_of_nonneg (by omega)]; exact h2
    have hb : i / 200 ≤ 5 := by omega
    rw [hm]
    generalize i / 200 % 200 = r at *
    generalize i / 200 = d at *
    go_enter Try.func103, Try.ntmps103
    go_wp2
    go_ret
    exact ⟨rfl, rfl⟩

theorem info43 : (Try.prog.info? 43).map (fun i => (i.zero, i.size, i.bytes)) = some (some (.slice none 0 0), 1, 24) := by kernel_rfl
theorem info22 : (Try.prog.info? 22).map (fun i => (i.zero, i.size, i.bytes)) = some (some (.slice none 0 0), 1, 24) := by kernel_rfl

theorem setCell_other (w : World) (k j g : Nat) (v : Value) (hg : g ≠ k) : (w.setCell ⟨k, j, none⟩ v).heap[g]? = w.heap[g]? := by
  simp [World.setCell, Array.getElem?_modify, Ne.symm hg]
theorem setCell_row (w : World) (k j : Nat) (v : Value) (cur : Array Value) (e : TypeId) (hh : w.heap[k]? = some (.cells cur e (0, 0))) : (w.setCell ⟨k, j, none⟩ v).heap[k]? = some (.cells (cur.setIfInBounds j v) e (0, 0)) := by
  simp [World.setCell, Array.getElem?_modify, hh]
/-- one slice in a block of its own -/
theorem rv_row {w : World} {e : TypeId} {v : Value} {a : Nat} (ha : a = w.heap.size) : Rv (w.alloc (.cells #[v] e)) (some ⟨a, 0, none⟩) (1 * 1) [v] := by
  subst ha
  refine ⟨rfl, fun _ => ⟨w.heap.size, 0, rfl, fun j u hu => ?_⟩⟩
  rw [Nat.zero_add, cell_of_row _ w.heap.size j #[v] e (0, 0) (heap_alloc_new w _)]
  simpa using hu

set_option maxHeartbeats 1600000 in
set_option maxRecDepth 20000 in
theorem book_syms (B k : Nat) (Bv Sv : Value) (bs ss : List Row) (r : Row) (w : World) (h : BS w B k Bv Sv bs ss) (hf : Fits w B k Bv Sv bs ss 50 r) (hfew : ss.length + 1 ≤ 100) :
    Calls Try.prog 35 #[.pointer (some ⟨k, 0, none⟩), .slice r.1 r.2 r.2] w fun e w' => e = .returned (.tuple #[]) ∧ ∃ Sv', BS w' B k Bv Sv' bs (ss ++ [r]) ∧ Below k w w' ∧ (Sv'.ownBlock = Sv.ownBlock ∨ ∃ q, Sv'.ownBlock = some q ∧ w.heap.size ≤ q) := by
  have c2 : w.cell? ⟨k, 2, none⟩ = some Sv := h.cell 2
  have c3 : w.cell? ⟨k, 3, none⟩ = some (.bool false) := h.cell 3
  have f2 := h.frozen 2
  have f3 := h.frozen 3
  obtain ⟨A, cap, rfl, hcap⟩ := h.hs.form
  have HB := Lib.hid h
  have HF := Lib.hid hf
  have HC := Lib.hid hcap
  have HW := Lib.hid hfew
  have hs1 : Mn (w.setCell ⟨k, 3, none⟩ (.bool false)) (k + 1) 22 1 (.slice A ss.length cap) ss.length (ss.map Row.val) :=
    h.hs.same fun g hg _ => setCell_other w k 3 g _ (by have := (h.hs.block hg).1; omega)
  have HS1 := Lib.hid hs1
  have hk1 : (w.setCell ⟨k, 3, none⟩ (.bool false)).heap.size = w.heap.size := by simp [World.setCell]
  have HK1 := Lib.hid hk1
  clear h hf hcap hfew hs1 hk1
  go_enter Try.func35, Try.ntmps35
  go_wp2_with (at_builtin
               refine wpList_append_mn _ rfl _ _ _ rfl (k + 1) 22 _ 1 24 Try.underlying32 info22 rfl (by omega) (.slice A ss.length cap) ss.length (ss.map Row.val) rfl (HS1.out.alloc _) _ 1 1 [r.val] rfl (rv_row (by simp)) (by simp [Row.val, Value.oneCell']) (by have := HW.out; omega) (by have := HW.out; omega) (by have := HB.out.lt; simp; omega) ?_
               intro A' cap' w1 hc1 hm1 hg1 hat1
               have hbk : w1.heap[k]? = some (.cells #[Bv, .slice none 0 0, .slice A ss.length cap, .bool false] 34 (0, 0)) := by
                 rw [hg1.block k (by have := HB.out.lt; simp [HK1.out]; omega) (fun e => by have := (HB.out.hs.block e.symm).1; omega), Below.heap_alloc _ _ k (by have := HB.out.lt; rw [HK1.out]; exact this), setCell_row _ _ _ _ _ _ HB.out.book]
                 rfl
               have hfr : w1.frozen? ⟨k, 2, none⟩ = false := by simp [World.frozen?, hbk]
               have hcl : w1.cell? ⟨k, 2, none⟩ = some (.slice A ss.length cap) := cell_of_row w1 k 2 _ 34 (0, 0) hbk
               have HBK := Lib.hid hbk
               clear hbk)
  refine bodyPost_end (v := .tuple #[]) (by simp [results, Try.f35, go_sem]) rfl ?_
  have hkk : ∀ g, g < w.heap.size → g ≠ k → (Value.slice A ss.length cap).ownBlock ≠ some g → (w1.setCell ⟨k, 2, none⟩ (.slice A' (ss.length + 1) cap')).heap[g]? = w.heap[g]? := by
    intro g hl hg hne
    rw [setCell_other _ _ _ _ _ hg, hg1.block g (by simp [HK1.out]; omega) (fun e => hne e.symm), Below.heap_alloc _ _ g (by rw [HK1.out]; exact hl), setCell_other _ _ _ _ _ hg]
  have hat2 : (Value.slice A' (ss.length + 1) cap').ownBlock = (Value.slice A ss.length cap).ownBlock ∨ ∃ q, (Value.slice A' (ss.length + 1) cap').ownBlock = some q ∧ w.heap.size ≤ q := by
    rcases hat1 with h1 | h1
    · exact .inl (by cases A' <;> simpa [Value.ownBlock] using h1)
    · exact .inr ⟨_, (by cases A' with
        | none => cases h1
        | some a => simpa [Value.ownBlock] using h1), by simp⟩
  refine ⟨rfl, _, HB.out.addS HF.out (by rw [setCell_row _ _ _ _ _ _ HBK.out]; rfl) (hm1.same fun g hg _ => setCell_other _ _ _ _ _ (by have := (hm1.block hg).1; omega)) hkk hat2 HW.out, ?_, hat2⟩
  have hlt := HB.out.lt
  refine ⟨hg1.os, hg1.tape, hg1.output, ?_, fun g hg => hkk g (by omega) (by omega) (fun e => by have := (HB.out.hs.block e).1; omega)⟩
  have := hg1.size
  simp [World.setCell] at this ⊢
  omega
set_option maxHeartbeats 1600000 in
set_option maxRecDepth 20000 in
theorem book_bytes (B k : Nat) (Bv Sv : Value) (bs ss : List Row) (r : Row) (w : World) (h : BS w B k Bv Sv bs ss) (hf : Fits w B k Bv Sv bs ss 5 r) (hfew : bs.length + 1 ≤ 100) :
    Calls Try.prog 50 #[.pointer (some ⟨k, 0, none⟩), .slice r.1 r.2 r.2] w fun e w' => e = .returned (.tuple #[]) ∧ ∃ Bv', BS w' B k Bv' Sv (bs ++ [r]) ss ∧ Below k w w' ∧ (Bv'.ownBlock = Bv.ownBlock ∨ ∃ q, Bv'.ownBlock = some q ∧ w.heap.size ≤ q) := by
  have c2 : w.cell? ⟨k, 0, none⟩ = some Bv := h.cell 0
  have c3 : w.cell? ⟨k, 3, none⟩ = some (.bool false) := h.cell 3
  have f2 := h.frozen 0
  have f3 := h.frozen 3
  obtain ⟨A, cap, rfl, hcap⟩ := h.hb.form
  have HB := Lib.hid h
  have HF := Lib.hid hf
  have HC := Lib.hid hcap
  have HW := Lib.hid hfew
  have hs1 : Mn (w.setCell ⟨k, 3, none⟩ (.bool false)) (k + 1) 43 1 (.slice A bs.length cap) bs.length (bs.map Row.val) :=
    h.hb.same fun g hg _ => setCell_other w k 3 g _ (by have := (h.hb.block hg).1; omega)
  have HS1 := Lib.hid hs1
  have hk1 : (w.setCell ⟨k, 3, none⟩ (.bool false)).heap.size = w.heap.size := by simp [World.setCell]
  have HK1 := Lib.hid hk1
  clear h hf hcap hfew hs1 hk1
  go_enter Try.func50, Try.ntmps50
  go_wp2_with (at_builtin
               refine wpList_append_mn _ rfl _ _ _ rfl (k + 1) 43 _ 1 24 Try.underlying30 info43 rfl (by omega) (.slice A bs.length cap) bs.length (bs.map Row.val) rfl (HS1.out.alloc _) _ 1 1 [r.val] rfl (rv_row (by simp)) (by simp [Row.val, Value.oneCell']) (by have := HW.out; omega) (by have := HW.out; omega) (by have := HB.out.lt; simp; omega) ?_
               intro A' cap' w1 hc1 hm1 hg1 hat1
               have hbk : w1.heap[k]? = some (.cells #[.slice A bs.length cap, .slice none 0 0, Sv, .bool false] 34 (0, 0)) := by
                 rw [hg1.block k (by have := HB.out.lt; simp [HK1.out]; omega) (fun e => by have := (HB.out.hb.block e.symm).1; omega), Below.heap_alloc _ _ k (by have := HB.out.lt; rw [HK1.out]; exact this), setCell_row _ _ _ _ _ _ HB.out.book]
                 rfl
               have hfr : w1.frozen? ⟨k, 0, none⟩ = false := by simp [World.frozen?, hbk]
               have hcl : w1.cell? ⟨k, 0, none⟩ = some (.slice A bs.length cap) := cell_of_row w1 k 0 _ 34 (0, 0) hbk
               have HBK := Lib.hid hbk
               clear hbk)
  refine bodyPost_end (v := .tuple #[]) (by simp [results, Try.f50, go_sem]) rfl ?_
  have hkk : ∀ g, g < w.heap.size → g ≠ k → (Value.slice A bs.length cap).ownBlock ≠ some g → (w1.setCell ⟨k, 0, none⟩ (.slice A' (bs.length + 1) cap')).heap[g]? = w.heap[g]? := by
    intro g hl hg hne
    rw [setCell_other _ _ _ _ _ hg, hg1.block g (by simp [HK1.out]; omega) (fun e => hne e.symm), Below.heap_alloc _ _ g (by rw [HK1.out]; exact hl), setCell_other _ _ _ _ _ hg]
  have hat2 : (Value.slice A' (bs.length + 1) cap').ownBlock = (Value.slice A bs.length cap).ownBlock ∨ ∃ q, (Value.slice A' (bs.length + 1) cap').ownBlock = some q ∧ w.heap.size ≤ q := by
    rcases hat1 with h1 | h1
    · exact .inl (by cases A' <;> simpa [Value.ownBlock] using h1)
    · exact .inr ⟨_, (by cases A' with
        | none => cases h1
        | some a => simpa [Value.ownBlock] using h1), by simp⟩
  refine ⟨rfl, _, HB.out.addB HF.out (by rw [setCell_row _ _ _ _ _ _ HBK.out]; rfl) (hm1.same fun g hg _ => setCell_other _ _ _ _ _ (by have := (hm1.block hg).1; omega)) hkk hat2 HW.out, ?_, hat2⟩
  have hlt := HB.out.lt
  refine ⟨hg1.os, hg1.tape, hg1.output, ?_, fun g hg => hkk g (by omega) (by omega) (fun e => by have := (HB.out.hb.block e).1; omega)⟩
  have := hg1.size
  simp [World.setCell] at this ⊢
  omega
end Go.Proofs.Ytnmhhjgiakijgaa

/- The reference's bytes of symbols: its contract. -/
namespace Go.Proofs.Ytnmhhjgiakijgaa
open Go.RowKit
set_option linter.unusedVariables false

def RefBytesPost (w : World) (xs : List Int) (e : Ending) (w' : World) : Prop :=
  ∃ A' m c', e = .returned (.tuple #[.slice A' m c', .bool (byOk xs)]) ∧ m = (byV xs).length ∧ m ≤ c' ∧ Mn w' w.heap.size 5 1 (.slice A' m c') m (nums .u8 (byV xs)) ∧ Below w.heap.size w w'

theorem refBytes_none {w : World} {xs : List Int} (h : byOk xs = false ∧ byV xs = []) : RefBytesPost w xs (.returned (.tuple #[.slice none 0 0, .bool false])) w :=
  ⟨none, 0, 0, by rw [h.1], by rw [h.2]; rfl, Nat.le_refl _, by rw [h.2]; exact Mn.nil _ _ _ _, Below.refl _ _⟩

set_option maxHeartbeats 3200000 in
set_option maxRecDepth 20000 in
theorem refbytes_calls (A : Option Addr) (n c : Nat) (xs : List Int) (w : World) (hr : Rd w .u8 A n xs) (hc : n ≤ c) (hn : n ≤ 56000) : Calls Try.prog 45 #[.slice A n c] w (RefBytesPost w xs) := by
  have HR := Lib.hid hr
  have HL := Lib.hid hr.len
  clear hr
  have hm1 : (n : Int) % 8 = ((n % 8 : Nat) : Int) := by omega
  have hm2 : (n : Int).tmod 8 = ((n % 8 : Nat) : Int) := by rw [Int.tmod_eq_emod_of_nonneg (by omega)]; exact hm1
  by_cases h8 : n % 8 = 0
  · rw [h8] at hm1 hm2
    cases hw : wholeL xs with
    | false =>
      have HF := Lib.hid (byV_whole xs hw)
      go_enter Try.func45, Try.ntmps45
      go_wp2_with (go_at_call 49; refine (refwhole_calls _ _ _ xs _ HR.out hc (by omega)).mono ?_; rintro e w' ⟨rfl, rfl⟩; rewrite [hw])
      go_ret2
      exact refBytes_none HF.out
    | true =>
      obtain ⟨m, hm⟩ : ∃ m, n = 8 * m := ⟨n / 8, by omega⟩
      have HM := Lib.hid hm
      have HW := Lib.hid hw
      clear hm h8
      have HV := Lib.hid (byV_true xs m (by rw [HL.out, HM.out]) hw)
      go_enter Try.func45, Try.ntmps45
      go_wp2_with (go_at_call 49; refine (refwhole_calls _ _ _ xs _ HR.out hc (by omega)).mono ?_; rintro e w' ⟨rfl, rfl⟩; rewrite [hw])
      clear hm1 hm2 hw
      go_loopw [4, 5] (fun u v w' => ∃ (i k : Nat) (A' : Option Addr) (c' : Nat), v = .int .i64 i ∧ u = .slice A' k c' ∧ Hid (i = 8 * k ∧ k ≤ m) ∧ i ≤ n ∧ k ≤ c' ∧ Mn w' w.heap.size 5 1 (.slice A' k c') k (nums .u8 (bytesN xs k)) ∧ Below w.heap.size w w') (fun _ v _ => n - (intOf v).toNat)
      case atStart => exact ⟨0, 0, none, 0, rfl, rfl, ⟨rfl, Nat.zero_le _⟩, Nat.zero_le _, Nat.zero_le _, Mn.nil _ _ _ _, Below.refl _ _⟩
      case round =>
        obtain ⟨i, k, A1, c1, rfl, rfl, HI, hi, hc1, hmn, hb⟩ := hrel
        by_cases hlt : i < n
        · have hi8 : i + 8 ≤ n := by have := HI.out; have := HM.out; omega
          obtain ⟨b, o, rfl, -⟩ := HR.out.at_ i hlt
          have hpart := Rd.sub (HR.out.below hb) i 8 hi8
          rw [show (xs.drop i).take 8 = chunk xs k from by rw [HI.out.1]; rfl] at hpart
          have HPT := Lib.hid hpart
          have hcw : wholeL (chunk xs k) = true := (wholeL_chunks xs m (by rw [HL.out, HM.out])).1 HW.out k (by have := HI.out; have := HM.out; omega)
          have hck : 8 * k + 8 ≤ xs.length := by rw [HL.out, ← HI.out.1]; exact hi8
          have HK := Lib.hid hck
          have HNV := Lib.hid (numV_chunk xs k hck hcw)
          have hlt2 := numL_chunk_lt xs k hck hcw
          have HBO := Lib.hid (show byteOf xs k = (numL (chunk xs k) : Int) from rfl)
          have hk7 : k ≤ 7000 := by have := HI.out; omega
          clear hck hcw hpart
          go_wp2_with (first
            | (go_at_call 30; refine (refnum_calls _ _ _ (chunk xs k) _ HPT.out (by omega) (by omega)).mono ?_; rintro e w' ⟨rfl, rfl⟩; rewrite [HNV.out])
            | (at_builtin
               refine wpList_append_mn _ rfl _ _ _ rfl w.heap.size 5 _ 1 1 Try.underlying43 info5 rfl (by omega) (.slice A1 k c1) k (nums .u8 (bytesN xs k)) rfl (hmn.alloc _) _ 1 1 (nums .u8 [(numL (chunk xs k) : Int)]) rfl rv_one (nums_one _ _) (by omega) (by omega) (by have := hb.size; simp; omega) ?_
               intro A2 c2 w2 hc2 hm2 hg2 hat2
               have hm3 : Mn w2 w.heap.size 5 1 (.slice A2 (k + 1) c2) (k + 1) (nums .u8 (bytesN xs (k + 1))) := by rw [bytesN_succ, HBO.out, nums_append]; exact hm2
               have hb3 : Below w.heap.size w w2 := Below.grown (hb.alloc hb.size _) hg2 (by have := hb.size; simp; omega) (fun q hq => (hmn.block hq).1)
               clear hg2 hat2 hm2 hmn hb)
            | fail)
          go_roundw
          case rel => exact ⟨i + 8, k + 1, A2, c2, by go_num, rfl, ⟨by have := HI.out; omega, by have := HI.out; have := HM.out; omega⟩, hi8, hc2, hm3, hb3⟩
          case measure => simp [intOf]; omega
        · have hkm : k = m := by have := HI.out; have := HM.out; omega
          subst hkm
          go_wp2
          go_ret2
          exact ⟨A1, k, c1, by rw [HV.out.1]; rfl, by rw [HV.out.2, bytesN_length], hc1, by rw [HV.out.2]; exact hmn, hb⟩
  · have HF := Lib.hid (byV_odd xs (by rw [HL.out]; exact h8))
    have hne : (((n % 8 : Nat) : Int) != 0) = true := by simp; omega
    generalize n % 8 = r at *
    go_enter Try.func45, Try.ntmps45
    go_wp2
    go_ret2
    exact refBytes_none HF.out
end Go.Proofs.Ytnmhhjgiakijgaa

/- sums: the register's step. -/
namespace Go.Proofs.Ytnmhhjgiakijgaa
open Go.RowKit
set_option linter.unusedVariables false

theorem wrap_u32 (n : Int) : IntKind.u32.wrap n = n % 4294967296 := by simp [IntKind.wrap, IntKind.bits, IntKind.signed]
theorem bits_xor_u32 (a b : Nat) (ha : a < 4294967296) (hb : b < 4294967296) : bits .xor .u32 (a : Int) (b : Int) = ((a ^^^ b : Nat) : Int) := by
  have h : bits .xor .u32 (a : Int) (b : Int) = IntKind.u32.wrap ((BitVec.ofInt 32 (a : Int) ^^^ BitVec.ofInt 32 (b : Int)).toNat : Int) := rfl
  have h1 : BitVec.ofInt 32 (a : Int) = BitVec.ofNat 32 a := by simp
  have h2 : BitVec.ofInt 32 (b : Int) = BitVec.ofNat 32 b := by simp
  rw [h, h1, h2, BitVec.toNat_xor, BitVec.toNat_ofNat, BitVec.toNat_ofNat, Nat.mod_eq_of_lt ha, Nat.mod_eq_of_lt hb, wrap_u32]
  have : a ^^^ b < 2 ^ 32 := Nat.xor_lt_two_pow ha hb
  omega
theorem bits_and_u32 (a b : Nat) (ha : a < 4294967296) (hb : b < 4294967296) : bits .and .u32 (a : Int) (b : Int) = ((a &&& b : Nat) : Int) := by
  have h : bits .and .u32 (a : Int) (b : Int) = IntKind.u32.wrap ((BitVec.ofInt 32 (a : Int) &&& BitVec.ofInt 32 (b : Int)).toNat : Int) := rfl
  have h1 : BitVec.ofInt 32 (a : Int) = BitVec.ofNat 32 a := by simp
  have h2 : BitVec.ofInt 32 (b : Int) = BitVec.ofNat 32 b := by simp
  rw [h, h1, h2, BitVec.toNat_and, BitVec.toNat_ofNat, BitVec.toNat_ofNat, Nat.mod_eq_of_lt ha, Nat.mod_eq_of_lt hb, wrap_u32]
  have : a &&& b < 2 ^ 32 := Nat.and_lt_two_pow _ hb
  omega
theorem high_bit (r : Nat) (hr : r < 4294967296) : (bits .and .u32 (r : Int) 2147483648 != 0) = r.testBit 31 := by
  rw [show (2147483648 : Int) = ((2147483648 : Nat) : Int) from rfl, bits_and_u32 r _ hr (by decide)]
  have h : r &&& 2147483648 = if r.testBit 31 = true then 2147483648 else 0 := by
    refine Nat.eq_of_testBit_eq fun p => ?_
    rw [Nat.testBit_and, show (2147483648 : Nat) = 2 ^ 31 from rfl, Nat.testBit_two_pow]
    by_cases hp : 31 = p
    · subst hp
      cases r.testBit 31
      · simp
      · simp only [if_true, Bool.true_and]
        rfl
    · rw [decide_eq_false hp, Bool.and_false]
      split
      · rw [Nat.testBit_two_pow, decide_eq_false hp]
      · simp
  rw [h]
  cases r.testBit 31 <;> simp

/-- a register's block -/
def Reg (w : World) (g r : Nat) : Prop := w.heap[g]? = some (.cells #[.int .u32 r] 265 (0, 0))
theorem Reg.cell {w : World} {g r : Nat} (h : Reg w g r) : w.cell? ⟨g, 0, none⟩ = some (.int .u32 r) := cell_of_row w g 0 _ 265 (0, 0) h
theorem Reg.frozen {w : World} {g r : Nat} (h : Reg w g r) : w.frozen? ⟨g, 0, none⟩ = false := by simp [World.frozen?, show w.heap[g]? = _ from h]
theorem Reg.set {w : World} {g r : Nat} (h : Reg w g r) (s : Nat) : Reg (w.setCell ⟨g, 0, none⟩ (.int .u32 s)) g s := setCell_row w g 0 _ _ 265 h

set_option maxHeartbeats 1600000 in
set_option maxRecDepth 20000 in
theorem add_calls (g r b : Nat) (w : World) (h : Reg w g r) (hr : r < 4294967296) (hb : b ≤ 255) :
    Calls Try.prog 178 #[.pointer (some ⟨g, 0, none⟩), .int .u8 b] w fun e w' => e = .returned (.tuple #[]) ∧ Reg w' g (regByte r b) ∧ Below g w w' := by
  have c0 := h.cell
  have f0 := h.frozen
  have H := Lib.hid h
  clear h
  obtain ⟨s, hs⟩ : ∃ s, s = r ^^^ (b * 16777216) := ⟨_, rfl⟩
  have hx : bits .xor .u32 (r : Int) ((b : Int) * 16777216) = (s : Int) := by
    rw [hs, show (b : Int) * 16777216 = ((b * 16777216 : Nat) : Int) from by omega]
    exact bits_xor_u32 r (b * 16777216) hr (by omega)
  have hsl : s < 4294967296 := by rw [hs]; exact Nat.xor_lt_two_pow (n := 32) hr (by omega)
  have HS := Lib.hid hs
  clear hs
  go_enter Try.func178, Try.ntmps178
  go_wp2
  clear hx
  have h1 := H.out.set s
  have hb1 : Below g w (w.setCell ⟨g, 0, none⟩ (.int .u32 s)) := (Below.refl g w).setCell (p := ⟨g, 0, none⟩) (Nat.le_refl _) _
  clear c0 f0
  go_loopw [13] (fun v w' => ∃ k : Nat, k ≤ 8 ∧ v = .int .i64 k ∧ Reg w' g (regSteps k s) ∧ Below g w w') (fun v _ => 8 - (intOf v).toNat)
  case atStart => exact ⟨0, Nat.zero_le _, rfl, h1, hb1⟩
  case round =>
    obtain ⟨k, hk, rfl, hreg, hbel⟩ := hrel
    by_cases hlt : k < 8
    · have hxl := regSteps_lt k s hsl
      have HN := Lib.hid (regSteps_succ k s)
      generalize regSteps k s = x at *
      have c1 := hreg.cell
      have f1 := hreg.frozen
      have hh := high_bit x hxl
      obtain ⟨y, hy⟩ : ∃ y, y = (x * 2) % 4294967296 := ⟨_, rfl⟩
      have hyi : (x : Int) * 2 % 4294967296 = (y : Int) := by omega
      have hyl : y < 4294967296 := by omega
      have c2 := (hreg.set y).cell
      have f2 := (hreg.set y).frozen
      have hxx : bits .xor .u32 (y : Int) 79764919 = ((y ^^^ poly32 : Nat) : Int) := bits_xor_u32 y poly32 hyl poly32_lt
      have HR := Lib.hid hreg
      have HY := Lib.hid hy
      have HB := Lib.hid hbel
      clear hreg hy hbel
      cases ht : x.testBit 31 with
      | true =>
        rw [ht] at hh
        have hst : regStep x = y ^^^ poly32 := by unfold regStep; rw [if_pos ht, HY.out]
        generalize y ^^^ poly32 = z at *
        have HST := Lib.hid hst
        clear hst ht
        go_wp2
        go_roundw
        case rel => exact ⟨k + 1, by omega, by go_num, by rw [HN.out, HST.out]; exact (HR.out.set y).set z, (HB.out.setCell (p := ⟨g, 0, none⟩) (Nat.le_refl _) _).setCell (p := ⟨g, 0, none⟩) (Nat.le_refl _) _⟩
        case measure => simp [intOf]; omega
      | false =>
        rw [ht] at hh
        have hst : regStep x = y := by unfold regStep; rw [if_neg (by rw [ht]; simp), HY.out]
        have HST := Lib.hid hst
        clear hst ht
        go_wp2
        go_roundw
        case rel => exact ⟨k + 1, by omega, by go_num, by rw [HN.out, HST.out]; exact HR.out.set y, HB.out.setCell (p := ⟨g, 0, none⟩) (Nat.le_refl _) _⟩
        case measure => simp [intOf]; omega
    · have hk8 : k = 8 := by omega
      subst hk8
      go_wp2
      refine bodyPost_end (v := .tuple #[]) (by simp [results, Try.f178, go_sem]) rfl ?_
      exact ⟨rfl, by rw [HS.out] at hreg; exact hreg, hbel⟩
end Go.Proofs.Ytnmhhjgiakijgaa

/- sums.Of: the sum of parts. -/
namespace Go.Proofs.Ytnmhhjgiakijgaa
open Go.RowKit
set_option linter.unusedVariables false

/-- a slice of slices of bytes, as lists -/
def Parts (w : World) (A : Option Addr) (n : Nat) (ps : List (List Int)) : Prop :=
  ps.length = n ∧ ∀ i, i < n → ∃ b o D m d, A = some ⟨b, o, none⟩ ∧ b < w.heap.size ∧ w.cell? ⟨b, o + i, none⟩ = some (.slice D m d) ∧ m ≤ d ∧ m ≤ 60000 ∧ Rd w .u8 D m (ps.getD i []) ∧ bytesOk (ps.getD i [])
theorem Parts.below {w w' : World} {A : Option Addr} {n : Nat} {ps : List (List Int)} (h : Parts w A n ps) (hb : Below w.heap.size w w') : Parts w' A n ps :=
  ⟨h.1, fun i hi => by
    obtain ⟨b, o, D, m, d, h1, h2, h3, h4, h5, h6, h7⟩ := h.2 i hi
    exact ⟨b, o, D, m, d, h1, Nat.lt_of_lt_of_le h2 hb.size, (hb.cell (p := ⟨b, o + i, none⟩) h2).trans h3, h4, h5, h6.below hb, h7⟩⟩
theorem flat_take (ps : List (List Int)) (i : Nat) (hi : i < ps.length) : (ps.take (i + 1)).flatten = (ps.take i).flatten ++ ps.getD i [] := by
  rw [List.take_succ_eq_append_getElem hi, List.flatten_append]
  simp [List.getD_eq_getElem?_getD, List.getElem?_eq_getElem hi]

set_option maxHeartbeats 1600000 in
set_option maxRecDepth 20000 in
theorem sumof_calls (A : Option Addr) (n c : Nat) (ps : List (List Int)) (w : World) (h : Parts w A n ps) (hn : n ≤ 100) (hc : n ≤ c) :
    Calls Try.prog 162 #[.slice A n c] w fun e w' => e = .returned (.int .u32 (sumL ps.flatten)) ∧ Below w.heap.size w w' := by
  have H := Lib.hid h
  have HL := Lib.hid h.1
  clear h
  go_enter Try.func162, Try.ntmps162
  go_wp2
  go_loopw [12] (fun v w' => ∃ i r : Nat, i ≤ n ∧ v = .int .i64 i ∧ r < 4294967296 ∧ Hid (r = regL 4294967295 (ps.take i).flatten) ∧ Reg w' w.heap.size r ∧ Below w.heap.size w w') (fun v _ => n - (intOf v).toNat)
  case atStart => exact ⟨0, 4294967295, Nat.zero_le _, rfl, by decide, Lib.hid rfl, heap_alloc_new w _, (by repeat (first | exact Below.refl _ _ | apply Bw.alloc | apply Bw.drewN | apply Bw.drew | (refine Bw.step ?_ (by assumption))))⟩
  case round =>
    obtain ⟨i, r, hi, rfl, hrl, HR, hreg, hb⟩ := hrel
    by_cases hlt : i < n
    · obtain ⟨b, o, D, m, d, rfl, hblt, hcell0, hmd, hm6, hrd, hby⟩ := H.out.2 i hlt
      have hcell := (hb.cell (p := ⟨b, o + i, none⟩) hblt).trans hcell0
      obtain ⟨xs, hxs⟩ : ∃ xs, xs = ps.getD i [] := ⟨_, rfl⟩
      rw [← hxs] at hrd hby
      have HX := Lib.hid hxs
      have HRD := Lib.hid hrd
      have HXL := Lib.hid hrd.len
      have HBY := Lib.hid hby
      have HB := Lib.hid hb
      have HREG := Lib.hid hreg
      have HRL := Lib.hid hrl
      clear hxs hrd hby hb hblt hcell0 hreg hrl
      go_wp2
      go_loopw [18] (fun v w' => ∃ j r : Nat, j ≤ m ∧ v = .int .i64 j ∧ r < 4294967296 ∧ Hid (r = regL 4294967295 ((ps.take i).flatten ++ xs.take j)) ∧ Reg w' w.heap.size r ∧ Below w.heap.size w w') (fun v _ => m - (intOf v).toNat)
      case atStart => exact ⟨0, r, Nat.zero_le _, rfl, HRL.out, Lib.hid (by rw [List.take_zero, List.append_nil]; exact HR.out), HREG.out, HB.out⟩
      case round =>
        clear HB hcell HREG HRL HR
        obtain ⟨j, r, hj, rfl, hrl, HR2, hreg, hb⟩ := hrel
        have HREG := Lib.hid hreg
        have HRL := Lib.hid hrl
        have HB := Lib.hid hb
        clear hrl hreg hb
        by_cases hjl : j < m
        · obtain ⟨b2, o2, rfl, hcj⟩ := (HRD.out.below HB.out).at_ j hjl
          have hbb := bytesOk_gt HBY.out (j := j) (by rw [HXL.out]; exact hjl)
          obtain ⟨x, hx⟩ : ∃ x : Nat, gt xs j = x := ⟨(gt xs j).toNat, by omega⟩
          have HTK := Lib.hid (take_snoc xs j (by rw [HXL.out]; exact hjl))
          rw [hx] at hcj hbb
          have HXJ := Lib.hid hx
          have hx255 : x ≤ 255 := by omega
          clear hx hbb
          go_wp2_with (go_at_call 178; refine (add_calls w.heap.size r x _ HREG.out HRL.out hx255).mono ?_; rintro e w2 ⟨rfl, hreg2, hb2⟩)
          go_roundw
          case rel => exact ⟨j + 1, regByte r x, by omega, by go_num, regByte_lt _ _ HRL.out hx255, Lib.hid (by rw [HTK.out, ← List.append_assoc, regL_append, ← HR2.out, HXJ.out]; rfl), hreg2, HB.out.trans hb2⟩
          case measure => simp [intOf]; omega
        · have hjm : j = m := by omega
          subst hjm
          have HFT := Lib.hid (flat_take ps i (by rw [HL.out]; exact hlt))
          go_wp2
          go_roundw
          case rel => exact ⟨i + 1, r, by omega, by go_num, HRL.out, Lib.hid (by rw [HFT.out, ← HX.out, HR2.out, show xs.take j = xs from List.take_of_length_le (by rw [HXL.out]; exact Nat.le_refl _)]), HREG.out, HB.out⟩
          case measure => simp [intOf]; omega
    · have hin : n = i := by omega
      subst hin
      have c0 := hreg.cell
      have hs : sumL ps.flatten = 4294967295 ^^^ r := by unfold sumL; rw [HR.out, List.take_of_length_le (by rw [HL.out]; exact Nat.le_refl _)]
      have HS := Lib.hid hs
      have HB := Lib.hid hb
      have hmx : bits .xor .u32 IntKind.u32.max (r : Int) = ((4294967295 ^^^ r : Nat) : Int) := bits_xor_u32 4294967295 r (by decide) hrl
      have HMX := Lib.hid hmx
      clear hs hb hreg hmx
      go_wp2
      go_ret
      exact ⟨by rw [HS.out, ← HMX.out]; rfl, HB.out⟩
end Go.Proofs.Ytnmhhjgiakijgaa

/- slices.Grow of nothing; slices.Concat: bytes and symbols. -/
namespace Go.Proofs.Ytnmhhjgiakijgaa
open Go.RowKit
set_option linter.unusedVariables false

theorem run_grow177 (n : Nat) (w : World) (hn : 0 < n) (h6 : n ≤ 60000) : ∀ ty, (Builtin.append_ #[43, 3] ty #[.slice none 0 0, .int .i64 n]).run Try.prog w =
    .ok (.slice (some ⟨w.heap.size, 0, none⟩) n (grownCap w n 0 5)) (w.drew.alloc (.cells (Builtin.zeroCells (Value.int .u8 0).cells n ++ Builtin.zeroCells (Value.int .u8 0).cells (grownCap w n 0 5 - n)) 5)) := by
  intro ty
  obtain ⟨i0, hi, hz, hs, hb⟩ := info_parts info5
  have h := Lib.run_append_grow_zeros (P := Try.prog) w 43 3 ty 5 i0 (.int .u8 0) .i64 .i64 Try.underlying43 Try.underlying3 hi hz none 0 0 [] (by simp [Builtin.firstCells]) n hn (by omega) (by omega) (by omega) (by rw [hb]; omega) (by rw [hb]; exact growslice_fits (by omega) (by omega))
  simpa using h

set_option maxHeartbeats 800000 in
set_option maxRecDepth 20000 in
theorem grow177_calls (n : Nat) (w : World) (h6 : n ≤ 60000) :
    Calls Try.prog 177 #[.slice none 0 0, .int .i64 n] w fun e w' => ∃ A c, e = .returned (.slice A 0 c) ∧ Mn w' w.heap.size 5 1 (.slice A 0 c) 0 [] ∧ Below w.heap.size w w' := by
  by_cases h0 : n = 0
  · subst h0
    go_enter Try.func177, Try.ntmps177
    go_wp2
    go_ret
    exact ⟨none, 0, rfl, Mn.nil _ _ _ _, Below.refl _ _⟩
  · have hn : 0 < n := by omega
    have hrz := run_grow177 n w hn h6
    have hcm := grownCap_le_maxLen w n 0 5 (by simp only [maxLen]; omega)
    have hcn := grownCap_ge w n 0 5
    obtain ⟨cp, hcp⟩ : ∃ cp, grownCap w n 0 5 = cp := ⟨_, rfl⟩
    rw [hcp] at hrz hcm hcn
    have HCM := Lib.hid hcm
    clear hcm hcp
    go_enter Try.func177, Try.ntmps177
    go_wp2_with (at_builtin; refine Lib.wpList_append_run _ rfl _ _ _ _ rfl _ _ rfl rfl _ _ (hrz _) ?_)
    all_goals
      go_ret
      refine ⟨some ⟨w.heap.size, 0, none⟩, cp, rfl, ⟨rfl, .inr ⟨w.heap.size, cp, _, rfl, Nat.le_refl _, heap_alloc_new w.drew _, Nat.zero_le _, HCM.out, ?_, ?_⟩⟩, Bw.alloc (Bw.drew (Below.refl _ _)) _⟩
      · simp only [Array.size_append, size_zeroCells]
        show cp * 1 ≤ n * 1 + (cp - n) * 1
        omega
      · rw [Nat.zero_mul]; rfl

set_option maxHeartbeats 1600000 in
set_option maxRecDepth 20000 in
theorem concat161_calls (A : Option Addr) (n c : Nat) (ps : List (List Int)) (w : World) (h : Parts w A n ps) (hn : n ≤ 100) (hc : n ≤ c) (hs : ps.flatten.length ≤ 60000) :
    Calls Try.prog 161 #[.slice A n c] w fun e w' => ∃ A' m c', e = .returned (.slice A' m c') ∧ m = ps.flatten.length ∧ m ≤ c' ∧ Mn w' w.heap.size 5 1 (.slice A' m c') m (nums .u8 ps.flatten) ∧ Below w.heap.size w w' := by
  have H := Lib.hid h
  have HL := Lib.hid h.1
  have HS := Lib.hid hs
  clear h hs
  go_enter Try.func161, Try.ntmps161
  go_wp2
  go_loop [3, 11] (fun u v => ∃ i l : Nat, i ≤ n ∧ v = .int .i64 i ∧ u = .int .i64 l ∧ l ≤ 60000 ∧ Hid (l = (ps.take i).flatten.length)) (fun _ v => n - (intOf v).toNat)
  case atStart => exact ⟨0, 0, Nat.zero_le _, rfl, rfl, Nat.zero_le _, Lib.hid rfl⟩
  case round =>
    obtain ⟨i, l, hi, rfl, rfl, hl, HLL⟩ := hrel
    by_cases hlt : i < n
    · obtain ⟨b, o, D, m, d, rfl, -, hcell, hmd, hm6, hrd, -⟩ := H.out.2 i hlt
      have hlen : l + m = (ps.take (i + 1)).flatten.length := by rw [flat_take ps i (by rw [HL.out]; exact hlt), List.length_append, ← HLL.out, hrd.len]
      have hle : l + m ≤ 60000 := by
        rw [hlen]
        refine Nat.le_trans ?_ HS.out
        conv => rhs; rw [← List.take_append_drop (i + 1) ps]
        rw [List.flatten_append, List.length_append]
        omega
      have HLEN := Lib.hid hlen
      clear hlen hrd
      go_wp2
      go_round
      case rel => exact ⟨i + 1, l + m, by omega, by go_num, by go_num, hle, HLEN⟩
      case measure => simp [intOf]; omega
    · have hin : n = i := by omega
      subst hin
      have HFL := Lib.hid (show l = ps.flatten.length by rw [HLL.out, List.take_of_length_le (by rw [HL.out]; exact Nat.le_refl _)])
      clear HLL
      go_wp2_with (go_at_call 177; refine (grow177_calls l _ hl).mono ?_; rintro e w1 ⟨A1, c1, rfl, hm1, hb1⟩)
      go_loopw [6, 27] (fun u v w' => ∃ (i k : Nat) (A' : Option Addr) (c' : Nat), i ≤ n ∧ v = .int .i64 i ∧ u = .slice A' k c' ∧ k ≤ 60000 ∧ k ≤ c' ∧ Hid (k = (ps.take i).flatten.length) ∧ Mn w' w.heap.size 5 1 (.slice A' k c') k (nums .u8 (ps.take i).flatten) ∧ Below w.heap.size w w') (fun _ v _ => n - (intOf v).toNat)
      case atStart => exact ⟨0, 0, A1, c1, Nat.zero_le _, rfl, rfl, Nat.zero_le _, Nat.zero_le _, Lib.hid rfl, hm1, hb1⟩
      case round =>
        clear hm1 hb1
        obtain ⟨i, k, A2, c2, hi, rfl, rfl, hk, hkc, HK, hmn, hb⟩ := hrel
        by_cases hlt : i < n
        · obtain ⟨b, o, D, m, d, rfl, hblt, hcell0, hmd, hm6, hrd, -⟩ := H.out.2 i hlt
          have hcell := (hb.cell (p := ⟨b, o + i, none⟩) hblt).trans hcell0
          have hft := flat_take ps i (by rw [HL.out]; exact hlt)
          have hlen : k + m = (ps.take (i + 1)).flatten.length := by rw [hft, List.length_append, ← HK.out, hrd.len]
          have hle : k + m ≤ 60000 := by
            rw [hlen]
            refine Nat.le_trans ?_ HS.out
            conv => rhs; rw [← List.take_append_drop (i + 1) ps]
            rw [List.flatten_append, List.length_append]
            omega
          have HLEN := Lib.hid hlen
          have HFT := Lib.hid hft
          have HRD := Lib.hid (hrd.below hb)
          clear hlen hrd hft hblt hcell0
          go_wp2_with (at_builtin
                       refine wpList_append_mn _ rfl _ _ _ rfl w.heap.size 5 _ 1 1 Try.underlying43 info5 rfl (by omega) (.slice A2 k c2) k (nums .u8 (ps.take i).flatten) rfl hmn D m d (nums .u8 (ps.getD i [])) rfl (by rw [Nat.mul_one]; exact HRD.out) (nums_one _ _) (by omega) (by omega) hb.size ?_
                       intro A3 c3 w3 hc3 hm3 hg3 hat3
                       have hm4 : Mn w3 w.heap.size 5 1 (.slice A3 (k + m) c3) (k + m) (nums .u8 (ps.take (i + 1)).flatten) := by rw [HFT.out, nums_append]; exact hm3
                       have hb4 : Below w.heap.size w w3 := Below.grown hb hg3 hb.size (fun q hq => (hmn.block hq).1)
                       clear hg3 hat3 hm3 hmn hb HRD)
          go_roundw
          case rel => exact ⟨i + 1, k + m, A3, c3, by omega, by go_num, rfl, hle, hc3, HLEN, hm4, hb4⟩
          case measure => simp [intOf]; omega
        · have hin : n = i := by omega
          subst hin
          have hfl : (ps.take n).flatten = ps.flatten := by rw [List.take_of_length_le (by rw [HL.out]; exact Nat.le_refl _)]
          rw [hfl] at hmn
          have HKF := Lib.hid (HK.out.trans (by rw [hfl]))
          clear hfl
          go_wp2
          go_ret
          exact ⟨A2, k, c2, rfl, HKF.out, hkc, hmn, hb⟩
theorem run_grow164 (n : Nat) (w : World) (hn : 0 < n) (h6 : n ≤ 60000) : ∀ ty, (Builtin.append_ #[22, 3] ty #[.slice none 0 0, .int .i64 n]).run Try.prog w =
    .ok (.slice (some ⟨w.heap.size, 0, none⟩) n (grownCap w n 0 50)) (w.drew.alloc (.cells (Builtin.zeroCells (Value.int .u8 0).cells n ++ Builtin.zeroCells (Value.int .u8 0).cells (grownCap w n 0 50 - n)) 50)) := by
  intro ty
  obtain ⟨i0, hi, hz, hs, hb⟩ := info_parts info50
  have h := Lib.run_append_grow_zeros (P := Try.prog) w 22 3 ty 50 i0 (.int .u8 0) .i64 .i64 Try.underlying22 Try.underlying3 hi hz none 0 0 [] (by simp [Builtin.firstCells]) n hn (by omega) (by omega) (by omega) (by rw [hb]; omega) (by rw [hb]; exact growslice_fits (by omega) (by omega))
  simpa using h

set_option maxHeartbeats 800000 in
set_option maxRecDepth 20000 in
theorem grow164_calls (n : Nat) (w : World) (h6 : n ≤ 60000) :
    Calls Try.prog 164 #[.slice none 0 0, .int .i64 n] w fun e w' => ∃ A c, e = .returned (.slice A 0 c) ∧ Mn w' w.heap.size 50 1 (.slice A 0 c) 0 [] ∧ Below w.heap.size w w' := by
  by_cases h0 : n = 0
  · subst h0
    go_enter Try.func164, Try.ntmps164
    go_wp2
    go_ret
    exact ⟨none, 0, rfl, Mn.nil _ _ _ _, Below.refl _ _⟩
  · have hn : 0 < n := by omega
    have hrz := run_grow164 n w hn h6
    have hcm := grownCap_le_maxLen w n 0 50 (by simp only [maxLen]; omega)
    have hcn := grownCap_ge w n 0 50
    obtain ⟨cp, hcp⟩ : ∃ cp, grownCap w n 0 50 = cp := ⟨_, rfl⟩
    rw [hcp] at hrz hcm hcn
    have HCM := Lib.hid hcm
    clear hcm hcp
    go_enter Try.func164, Try.ntmps164
    go_wp2_with (at_builtin; refine Lib.wpList_append_run _ rfl _ _ _ _ rfl _ _ rfl rfl _ _ (hrz _) ?_)
    all_goals
      go_ret
      refine ⟨some ⟨w.heap.size, 0, none⟩, cp, rfl, ⟨rfl, .inr ⟨w.heap.size, cp, _, rfl, Nat.le_refl _, heap_alloc_new w.drew _, Nat.zero_le _, HCM.out, ?_, ?_⟩⟩, Bw.alloc (Bw.drew (Below.refl _ _)) _⟩
      · simp only [Array.size_append, size_zeroCells]
        show cp * 1 ≤ n * 1 + (cp - n) * 1
        omega
      · rw [Nat.zero_mul]; rfl

set_option maxHeartbeats 1600000 in
set_option maxRecDepth 20000 in
theorem concat123_calls (A : Option Addr) (n c : Nat) (ps : List (List Int)) (w : World) (h : Parts w A n ps) (hn : n ≤ 100) (hc : n ≤ c) (hs : ps.flatten.length ≤ 60000) :
    Calls Try.prog 123 #[.slice A n c] w fun e w' => ∃ A' m c', e = .returned (.slice A' m c') ∧ m = ps.flatten.length ∧ m ≤ c' ∧ Mn w' w.heap.size 50 1 (.slice A' m c') m (nums .u8 ps.flatten) ∧ Below w.heap.size w w' := by
  have H := Lib.hid h
  have HL := Lib.hid h.1
  have HS := Lib.hid hs
  clear h hs
  go_enter Try.func123, Try.ntmps123
  go_wp2
  go_loop [3, 11] (fun u v => ∃ i l : Nat, i ≤ n ∧ v = .int .i64 i ∧ u = .int .i64 l ∧ l ≤ 60000 ∧ Hid (l = (ps.take i).flatten.length)) (fun _ v => n - (intOf v).toNat)
  case atStart => exact ⟨0, 0, Nat.zero_le _, rfl, rfl, Nat.zero_le _, Lib.hid rfl⟩
  case round =>
    obtain ⟨i, l, hi, rfl, rfl, hl, HLL⟩ := hrel
    by_cases hlt : i < n
    · obtain ⟨b, o, D, m, d, rfl, -, hcell, hmd, hm6, hrd, -⟩ := H.out.2 i hlt
      have hlen : l + m = (ps.take (i + 1)).flatten.length := by rw [flat_take ps i (by rw [HL.out]; exact hlt), List.length_append, ← HLL.out, hrd.len]
      have hle : l + m ≤ 60000 := by
        rw [hlen]
        refine Nat.le_trans ?_ HS.out
        conv => rhs; rw [← List.take_append_drop (i + 1) ps]
        rw [List.flatten_append, List.length_append]
        omega
      have HLEN := Lib.hid hlen
      clear hlen hrd
      go_wp2
      go_round
      case rel => exact ⟨i + 1, l + m, by omega, by go_num, by go_num, hle, HLEN⟩
      case measure => simp [intOf]; omega
    · have hin : n = i := by omega
      subst hin
      have HFL := Lib.hid (show l = ps.flatten.length by rw [HLL.out, List.take_of_length_le (by rw [HL.out]; exact Nat.le_refl _)])
      clear HLL
      go_wp2_with (go_at_call 164; refine (grow164_calls l _ hl).mono ?_; rintro e w1 ⟨A1, c1, rfl, hm1, hb1⟩)
      go_loopw [6, 27] (fun u v w' => ∃ (i k : Nat) (A' : Option Addr) (c' : Nat), i ≤ n ∧ v = .int .i64 i ∧ u = .slice A' k c' ∧ k ≤ 60000 ∧ k ≤ c' ∧ Hid (k = (ps.take i).flatten.length) ∧ Mn w' w.heap.size 50 1 (.slice A' k c') k (nums .u8 (ps.take i).flatten) ∧ Below w.heap.size w w') (fun _ v _ => n - (intOf v).toNat)
      case atStart => exact ⟨0, 0, A1, c1, Nat.zero_le _, rfl, rfl, Nat.zero_le _, Nat.zero_le _, Lib.hid rfl, hm1, hb1⟩
      case round =>
        clear hm1 hb1
        obtain ⟨i, k, A2, c2, hi, rfl, rfl, hk, hkc, HK, hmn, hb⟩ := hrel
        by_cases hlt : i < n
        · obtain ⟨b, o, D, m, d, rfl, hblt, hcell0, hmd, hm6, hrd, -⟩ := H.out.2 i hlt
          have hcell := (hb.cell (p := ⟨b, o + i, none⟩) hblt).trans hcell0
          have hft := flat_take ps i (by rw [HL.out]; exact hlt)
          have hlen : k + m = (ps.take (i + 1)).flatten.length := by rw [hft, List.length_append, ← HK.out, hrd.len]
          have hle : k + m ≤ 60000 := by
            rw [hlen]
            refine Nat.le_trans ?_ HS.out
            conv => rhs; rw [← List.take_append_drop (i + 1) ps]
            rw [List.flatten_append, List.length_append]
            omega
          have HLEN := Lib.hid hlen
          have HFT := Lib.hid hft
          have HRD := Lib.hid (hrd.below hb)
          clear hlen hrd hft hblt hcell0
          go_wp2_with (at_builtin
                       refine wpList_append_mn _ rfl _ _ _ rfl w.heap.size 50 _ 1 1 Try.underlying22 info50 rfl (by omega) (.slice A2 k c2) k (nums .u8 (ps.take i).flatten) rfl hmn D m d (nums .u8 (ps.getD i [])) rfl (by rw [Nat.mul_one]; exact HRD.out) (nums_one _ _) (by omega) (by omega) hb.size ?_
                       intro A3 c3 w3 hc3 hm3 hg3 hat3
                       have hm4 : Mn w3 w.heap.size 50 1 (.slice A3 (k + m) c3) (k + m) (nums .u8 (ps.take (i + 1)).flatten) := by rw [HFT.out, nums_append]; exact hm3
                       have hb4 : Below w.heap.size w w3 := Below.grown hb hg3 hb.size (fun q hq => (hmn.block hq).1)
                       clear hg3 hat3 hm3 hmn hb HRD)
          go_roundw
          case rel => exact ⟨i + 1, k + m, A3, c3, by omega, by go_num, rfl, hle, hc3, HLEN, hm4, hb4⟩
          case measure => simp [intOf]; omega
        · have hin : n = i := by omega
          subst hin
          have hfl : (ps.take n).flatten = ps.flatten := by rw [List.take_of_length_le (by rw [HL.out]; exact Nat.le_refl _)]
          rw [hfl] at hmn
          have HKF := Lib.hid (HK.out.trans (by rw [hfl]))
          clear hfl
          go_wp2
          go_ret
          exact ⟨A2, k, c2, rfl, HKF.out, hkc, hmn, hb⟩
end Go.Proofs.Ytnmhhjgiakijgaa

/- sums.Put: the parts one behind the other, and their sum behind them. -/
namespace Go.Proofs.Ytnmhhjgiakijgaa
open Go.RowKit
set_option linter.unusedVariables false

theorem Parts.lit {w : World} {a : Nat} {e : TypeId} (ha : a = w.heap.size) (rows : List (Value × List Int))
    (h : ∀ r ∈ rows, ∃ D m d, r.1 = .slice D m d ∧ m ≤ d ∧ m ≤ 60000 ∧ Rd w .u8 D m r.2 ∧ bytesOk r.2) :
    Parts (w.alloc (.cells (rows.map (·.1)).toArray e)) (some ⟨a, 0, none⟩) rows.length (rows.map (·.2)) := by
  subst ha
  refine ⟨by simp, fun i hi => ?_⟩
  obtain ⟨D, m, d, h1, h2, h3, h4, h5⟩ := h (rows[i]) (List.getElem_mem hi)
  have hg : (rows.map (·.2)).getD i [] = (rows[i]).2 := by simp [List.getD_eq_getElem?_getD, List.getElem?_eq_getElem hi]
  refine ⟨w.heap.size, 0, D, m, d, rfl, by simp, ?_, h2, h3, ?_, ?_⟩
  · rw [Nat.zero_add, cell_of_row _ w.heap.size i _ e (0, 0) (heap_alloc_new w _)]
    simp [List.getElem?_eq_getElem hi, h1]
  · rw [hg]; exact Rv.alloc h4 _
  · rw [hg]; exact h5

theorem rd_four {w : World} {e : TypeId} {a : Nat} (ha : a = w.heap.size) (p q r s : Int) : Rv (w.alloc (.cells #[.int .u8 p, .int .u8 q, .int .u8 r, .int .u8 s] e)) (some ⟨a, 0, none⟩) (4 * 1) (nums .u8 [p, q, r, s]) := rd_cells ha [p, q, r, s]

set_option maxHeartbeats 1600000 in
set_option maxRecDepth 20000 in
theorem sumput_calls (A : Option Addr) (n c : Nat) (ps : List (List Int)) (w : World) (h : Parts w A n ps) (hn : n ≤ 100) (hc : n ≤ c) (hs : ps.flatten.length ≤ 50000) (hok : bytesOk ps.flatten) :
    Calls Try.prog 119 #[.slice A n c] w fun e w' => ∃ A' m, e = .returned (.slice A' m m) ∧ m = (putS ps.flatten).length ∧ Mn w' w.heap.size 5 1 (.slice A' m m) m (nums .u8 (putS ps.flatten)) ∧ Below w.heap.size w w' := by
  have H := Lib.hid h
  have HS := Lib.hid hs
  have HO := Lib.hid hok
  have HLT := Lib.hid (sumL_lt ps.flatten hok)
  have HPS := Lib.hid (putS_length ps.flatten)
  clear h hs hok
  go_enter Try.func119, Try.ntmps119
  go_wp2_with fail
  refine (concat161_calls _ _ _ ps _ H.out hn hc (by have := HS.out; omega)).mono ?_; rintro e w1 ⟨A1, m1, c1, rfl, hl1, hc1, hm1, hb1⟩
  have HL1 := Lib.hid hl1
  clear hl1
  have h60 : m1 ≤ 50000 := by rw [HL1.out]; exact HS.out
  go_wp2_with fail
  have hp := Parts.lit (w := w1) (e := 43) rfl [(.slice A1 m1 c1, ps.flatten)] (by
    intro r hr
    rw [List.mem_singleton.1 hr]
    exact ⟨A1, m1, c1, rfl, hc1, by omega, hm1.rd, HO.out⟩)
  refine (sumof_calls _ 1 1 [ps.flatten] _ hp (by omega) (by omega)).mono ?_
  clear hp
  rintro e w2 ⟨rfl, hb2⟩
  have hfl : sumL [ps.flatten].flatten = sumL ps.flatten := by simp
  rewrite [hfl]
  clear hfl
  obtain ⟨s, hs⟩ : ∃ s, sumL ps.flatten = s := ⟨_, rfl⟩
  rewrite [hs]
  have hsl : s < 4294967296 := by rw [← hs]; exact HLT.out
  have HSS := Lib.hid (show putS ps.flatten = ps.flatten ++ be4 s by unfold putS; rw [hs])
  clear hs
  have hm2 := hm1.below (show Below w1.heap.size w1 w2 from (by repeat (first | exact Below.refl _ _ | apply Bw.alloc | apply Bw.drewN | apply Bw.drew | (refine Bw.step ?_ (by assumption)))))
  have hbw : Below w.heap.size w w2 := (by repeat (first | exact Below.refl _ _ | apply Bw.alloc | apply Bw.drewN | apply Bw.drew | (refine Bw.step ?_ (by assumption))))
  have HM := Lib.hid hm2
  have HBW := Lib.hid hbw
  clear hm1 hb1 hb2 hm2 hbw
  go_wp2_with (first
    | (at_builtin
       refine wpList_append_mn _ rfl _ _ _ rfl w.heap.size 5 _ 1 1 Try.underlying43 info5 rfl (by omega) (.slice A1 m1 c1) m1 (nums .u8 ps.flatten) rfl (HM.out.alloc _) _ 4 4 (nums .u8 [(s : Int) / 16777216, (s : Int) / 65536 % 256, (s : Int) / 256 % 256, (s : Int) % 256]) rfl (rd_four rfl _ _ _ _) (nums_one _ _) (by omega) (by omega) (by have := HBW.out.size; simp; omega) ?_
       intro A3 c3 w3 hc3 hm3 hg3 hat3
       have hb3 : Below w.heap.size w w3 := Below.grown (HBW.out.alloc HBW.out.size _) hg3 (by have := HBW.out.size; simp; omega) (fun q hq => (HM.out.block hq).1)
       rewrite [← nums_append, ← be4_lt s hsl, ← HSS.out] at hm3
       clear hg3 hat3 HM HBW)
    | (go_at_call 110; refine (clip5 _ _ _ _ hc3 (Mn.cap_le hm3)).mono ?_; rintro e w4 ⟨rfl, rfl⟩))
  go_ret
  exact ⟨A3, m1 + 4, rfl, by rw [HPS.out, HL1.out], hm3.clip, hb3⟩
end Go.Proofs.Ytnmhhjgiakijgaa

/- The reference's sum: the chapter's long division. -/
namespace Go.Proofs.Ytnmhhjgiakijgaa
open Go.RowKit
set_option linter.unusedVariables false

/-- truths as values -/
def FB (f : Nat → Bool) (n : Nat) : List Value := (List.range n).map fun j => .bool (f j)
theorem FB_length (f : Nat → Bool) (n : Nat) : (FB f n).length = n := by simp [FB]
theorem FB_get (f : Nat → Bool) (n j : Nat) (h : j < n) : (FB f n)[j]? = some (.bool (f j)) := by simp [FB, h]
theorem FB_snoc (f : Nat → Bool) (n : Nat) : FB f n ++ [.bool (f n)] = FB f (n + 1) := by simp [FB, List.range_succ]
theorem FB_congr {f g : Nat → Bool} {n : Nat} (h : ∀ j, j < n → f j = g j) : FB f n = FB g n := by
  unfold FB
  refine List.map_congr_left fun j hj => ?_
  rw [h j (List.mem_range.1 hj)]
theorem FB_set (f g : Nat → Bool) (n j : Nat) (b : Bool) (hj : j < n) (hg : ∀ q, q < n → g q = if q = j then b else f q) : (FB f n).set j (.bool b) = FB g n := by
  refine List.ext_getElem? fun q => ?_
  rw [List.getElem?_set]
  by_cases hq : q < n
  · rw [FB_get g n q hq, hg q hq]
    by_cases e : j = q
    · subst e
      rw [if_pos rfl, if_pos (by rw [FB_length]; exact hq), if_pos rfl]
    · rw [if_neg e, FB_get f n q hq, if_neg (Ne.symm e)]
  · rw [List.getElem?_eq_none (by rw [FB_length]; omega), List.getElem?_eq_none (by rw [FB_length]; omega)]
    split <;> simp_all
theorem FB_one (f : Nat → Bool) (n : Nat) : ∀ u ∈ FB f n, u.oneCell' = true := by
  intro u hu
  simp only [FB, List.mem_map] at hu
  obtain ⟨q, _, rfl⟩ := hu
  rfl

theorem Mn.cellV {w : World} {B : Nat} {e : TypeId} {n c g : Nat} {cs : List Value} (h : Mn w B e 1 (.slice (some ⟨g, 0, none⟩) n c) n cs) (j : Nat) (u : Value) (hj : cs[j]? = some u) :
    w.cell? ⟨g, j, none⟩ = some u ∧ w.frozen? ⟨g, j, none⟩ = false := by
  have hl : cs.length = n := by have := h.1; rwa [Nat.mul_one] at this
  have hjn : j < n := by rw [← hl]; exact (List.getElem?_eq_some_iff.1 hj).1
  constructor
  · obtain ⟨b, o, e1, hc⟩ := h.reads.2 (by omega)
    injection e1 with e1
    injection e1 with e1 e2
    subst e1
    subst e2
    have := hc j u hj
    rwa [Nat.zero_add] at this
  · rcases h.2 with ⟨hv, _⟩ | ⟨g', cap, cur, hv, hb, hh, _⟩
    · cases hv
    · injection hv with h1 h2 h3
      injection h1 with h1
      injection h1 with h1 h4
      subst h1
      simp [World.frozen?, hh]
theorem Mn.setV {w : World} {B : Nat} {e : TypeId} {n c g : Nat} {cs ds : List Value} (h : Mn w B e 1 (.slice (some ⟨g, 0, none⟩) n c) n cs) (j : Nat) (v : Value) (hd : cs.set j v = ds) :
    Mn (w.setCell ⟨g, j, none⟩ v) B e 1 (.slice (some ⟨g, 0, none⟩) n c) n ds := by
  subst hd
  refine ⟨by rw [List.length_set]; exact h.1, ?_⟩
  rcases h.2 with ⟨hv, _⟩ | ⟨g', cap, cur, hv, hb, hh, hc, hm, hs, ht⟩
  · cases hv
  · injection hv with h1 h2 h3
    injection h1 with h1
    injection h1 with h1 h4
    subst h1
    refine .inr ⟨g, cap, cur.setIfInBounds j v, by rw [h3], hb, ?_, hc, hm, by simpa using hs, ?_⟩
    · simp [World.setCell, Array.getElem?_modify, hh]
    · rw [Nat.mul_one] at ht ⊢
      simp only [Array.toList_setIfInBounds]
      rw [List.take_set, ht]

def tapsN : List Nat := [26, 23, 22, 16, 12, 11, 10, 8, 7, 5, 4, 2, 1, 0]
def taps : List Int := [26, 23, 22, 16, 12, 11, 10, 8, 7, 5, 4, 2, 1, 0]
theorem taps_at (k : Nat) (hk : k < 14) : ∃ t : Nat, t ≤ 26 ∧ gt taps k = t ∧ tapsN.take (k + 1) = tapsN.take k ++ [t] ∧ t ∉ tapsN.take k := by
  have : ∀ k : Fin 14, ∃ t : Fin 27, gt taps k = ((t : Nat) : Int) ∧ tapsN.take (k + 1) = tapsN.take k ++ [(t : Nat)] ∧ (t : Nat) ∉ tapsN.take k := by decide
  obtain ⟨t, h1, h2, h3⟩ := this ⟨k, hk⟩
  exact ⟨t, by omega, h1, h2, h3⟩
theorem poly_taps (t : Nat) (ht : t < 32) : poly32.testBit t = tapsN.contains t := by
  have : ∀ t : Fin 32, poly32.testBit t = tapsN.contains (t : Nat) := by decide
  exact this ⟨t, ht⟩
theorem tapsN_le (t : Nat) (h : t ∈ tapsN) : t ≤ 26 := by
  have : ∀ t ∈ tapsN, t ≤ 26 := by decide
  exact this t h
/-- the list behind k of the taps at place i -/
def tapAt (bs : List Int) (i k j : Nat) : Bool := (if j = i then false else divAt bs i j) ^^ (tapsN.take k).any fun t => decide (j + t = i + 32)
theorem tapAt_step (bs : List Int) (i k t : Nat) (ht : t ≤ 26) (h : tapsN.take (k + 1) = tapsN.take k ++ [t]) (hn : t ∉ tapsN.take k) (j : Nat) :
    tapAt bs i (k + 1) j = if j = i + 32 - t then !tapAt bs i k (i + 32 - t) else tapAt bs i k j := by
  unfold tapAt
  rw [h, List.any_append]
  by_cases hj : j = i + 32 - t
  · subst hj
    rw [if_pos rfl]
    have h1 : ([t].any fun t_1 => decide (i + 32 - t + t_1 = i + 32)) = true := by simp; omega
    have h2 : ((tapsN.take k).any fun t_1 => decide (i + 32 - t + t_1 = i + 32)) = false := by
      rw [List.any_eq_false]
      intro q hq e
      have : q = t := by have := of_decide_eq_true e; omega
      subst this
      exact hn hq
    rw [h1, h2]
    simp
  · rw [if_neg hj]
    have h1 : ([t].any fun t_1 => decide (j + t_1 = i + 32)) = false := by simp; omega
    rw [h1, Bool.or_false]
theorem tapAt_done (bs : List Int) (i j : Nat) (hd : divAt bs i i = true) : tapAt bs i 14 j = divAt bs (i + 1) j := by
  show _ = (if divAt bs i i = true then (if j = i then false else divAt bs i j ^^ (decide (i + 1 ≤ j ∧ j ≤ i + 32) && poly32.testBit (i + 32 - j))) else divAt bs i j)
  rw [if_pos hd]
  unfold tapAt
  rw [show tapsN.take 14 = tapsN from rfl]
  have hany : (tapsN.any fun t => decide (j + t = i + 32)) = (decide (i + 1 ≤ j ∧ j ≤ i + 32) && poly32.testBit (i + 32 - j)) := by
    rw [Bool.eq_iff_iff, List.any_eq_true, Bool.and_eq_true, decide_eq_true_eq]
    constructor
    · rintro ⟨t, ht, e⟩
      have e := of_decide_eq_true e
      have := tapsN_le t ht
      refine ⟨by omega, ?_⟩
      rw [poly_taps _ (by omega), show i + 32 - j = t from by omega]
      simpa using ht
    · rintro ⟨h1, h2⟩
      rw [poly_taps _ (by omega)] at h2
      exact ⟨i + 32 - j, by simpa using h2, decide_eq_true (by omega)⟩
  rw [hany]
  by_cases hj : j = i
  · subst hj
    rw [if_pos rfl, if_pos rfl, decide_eq_false (by omega)]
    rfl
  · rw [if_neg hj, if_neg hj]
/-- the first p bits of the sum as a number -/
theorem top_step (s p : Nat) (hp : p < 32) : s / 2 ^ (31 - p) = 2 * (s / 2 ^ (32 - p)) + (if s.testBit (31 - p) = true then 1 else 0) := by
  have h1 : s / 2 ^ (32 - p) = s / 2 ^ (31 - p) / 2 := by rw [show 32 - p = (31 - p) + 1 from by omega, Nat.pow_succ, Nat.div_div_eq_div_mul]
  have h2 : s.testBit (31 - p) = decide (s / 2 ^ (31 - p) % 2 = 1) := Nat.testBit_eq_decide_div_mod_eq
  rw [h1, h2]
  by_cases h : s / 2 ^ (31 - p) % 2 = 1
  · rw [if_pos (decide_eq_true h)]; omega
  · rw [if_neg (by simp [h])]; omega
end Go.Proofs.Ytnmhhjgiakijgaa

/- The reference's sum: its contract. -/
namespace Go.Proofs.Ytnmhhjgiakijgaa
open Go.RowKit
set_option linter.unusedVariables false

theorem info4 : (Try.prog.info? 4).map (fun i => (i.zero, i.size, i.bytes)) = some (some (.bool false), 1, 1) := by kernel_rfl

theorem divAt_skip (bs : List Int) (i j : Nat) (h : divAt bs i i = false) : divAt bs (i + 1) j = divAt bs i j := by
  show (if divAt bs i i = true then _ else divAt bs i j) = _
  rw [h, if_neg (by decide)]
theorem one_bool (v : Bool) : ∀ u ∈ [Value.bool v], u.oneCell' = true := by
  intro u hu
  rw [List.mem_singleton.1 hu]
  rfl
theorem bits_and1_u8 (M : Nat) (hM : M < 256) : bits .and .u8 (M : Int) 1 = ((M % 2 : Nat) : Int) := by
  have h : ∀ m : Fin 256, bits .and .u8 ((m : Nat) : Int) 1 = (((m : Nat) % 2 : Nat) : Int) := by decide +kernel
  exact h ⟨M, hM⟩
theorem bit_u8 (x k : Nat) (hx : x ≤ 255) : (bits .and .u8 ((x : Int) / 2 ^ k) 1 == 1) = x.testBit k := by
  rw [ediv_shr, bits_and1_u8 _ (Nat.lt_of_le_of_lt (shr_le _ _) (by omega)), Nat.testBit_eq_decide_div_mod_eq]
  unfold shr
  by_cases h : x / 2 ^ k % 2 = 1
  · rw [h, decide_eq_true rfl]; rfl
  · rw [show x / 2 ^ k % 2 = 0 from by omega]; rfl

set_option maxHeartbeats 6400000 in
set_option maxRecDepth 20000 in
theorem refsum_calls (A : Option Addr) (n c : Nat) (bs : List Int) (w : World) (hr : Rd w .u8 A n bs) (hc : n ≤ c) (hn : n ≤ 5000) (hb : bytesOk bs) :
    Calls Try.prog 163 #[.slice A n c] w fun e w' => e = .returned (.int .u32 (sumL bs)) ∧ Below w.heap.size w w' := by
  have HR := Lib.hid hr
  have HL := Lib.hid hr.len
  have HB := Lib.hid hb
  clear hr hb
  go_enter Try.func163, Try.ntmps163
  go_wp2
  have hT : Rd (w.alloc (.cells (nums .i64 taps).toArray 267)) .i64 (some ⟨w.heap.size, 0, none⟩) 14 taps := rd_cells rfl taps
  have hW : Below w.heap.size w (w.alloc (.cells (nums .i64 taps).toArray 267)) := (by repeat (first | exact Below.refl _ _ | apply Bw.alloc | apply Bw.drewN | apply Bw.drew | (refine Bw.step ?_ (by assumption))))
  have hlt : w.heap.size < (w.alloc (.cells (nums .i64 taps).toArray 267)).heap.size := by simp
  simp only [nums, taps, List.map_cons, List.map_nil] at hT hW hlt
  generalize hWe : (w.alloc (.cells #[Value.int IntKind.i64 26, Value.int IntKind.i64 23, Value.int IntKind.i64 22, Value.int IntKind.i64 16, Value.int IntKind.i64 12, Value.int IntKind.i64 11, Value.int IntKind.i64 10, Value.int IntKind.i64 8, Value.int IntKind.i64 7, Value.int IntKind.i64 5, Value.int IntKind.i64 4, Value.int IntKind.i64 2, Value.int IntKind.i64 1, Value.int IntKind.i64 0] 267)) = W at *
  clear hWe
  obtain ⟨g0, hg0⟩ : ∃ g0, g0 = w.heap.size := ⟨_, rfl⟩
  rewrite [← hg0]
  rw [← hg0] at hT hlt
  have HTP : Hid (∀ w', Below W.heap.size W w' → ∀ k t : Nat, k < 14 → gt taps k = t → w'.cell? ⟨g0, k, none⟩ = some (.int .i64 t)) := fun w' hb k t hk ht => by
    obtain ⟨b, o, e1, hc⟩ := hT.at_ k hk
    injection e1 with e1
    injection e1 with e1 e2
    subst e1
    subst e2
    rw [Nat.zero_add] at hc
    rw [hb.cell (p := ⟨g0, k, none⟩) hlt, hc]
    show some (Value.int .i64 (gt taps k)) = _
    rw [ht]
  have HRW := Lib.hid (HR.out.below hW)
  have HW := Lib.hid hW
  clear hT hlt hW hg0
  go_loopw [4, 5] (fun u v w' => ∃ (i l : Nat) (A' : Option Addr) (c' : Nat), i ≤ n ∧ v = .int .i64 i ∧ u = .slice A' l c' ∧ l ≤ c' ∧ l ≤ 40000 ∧ Hid (l = 8 * i) ∧ Mn w' W.heap.size 4 1 (.slice A' l c') l (FB (rawBit bs) l) ∧ Below W.heap.size W w') (fun _ v _ => n - (intOf v).toNat)
  case atStart => exact ⟨0, 0, none, 0, Nat.zero_le _, rfl, rfl, Nat.le_refl _, Nat.zero_le _, Lib.hid rfl, Mn.nil _ _ _ _, Below.refl _ _⟩
  case round =>
    obtain ⟨i, l, A1, c1, hi, rfl, rfl, hlc, hl4, HI, hm1, hb1⟩ := hrel
    by_cases hlt : i < n
    · have hbb := bytesOk_gt HB.out (j := i) (by rw [HL.out]; exact hlt)
      obtain ⟨x, hx⟩ : ∃ x : Nat, gt bs i = x := ⟨(gt bs i).toNat, by omega⟩
      have hx255 : x ≤ 255 := by omega
      have HX := Lib.hid hx
      clear hx hbb
      go_wp2
      go_loopw [4, 6] (fun u v w' => ∃ (j l : Nat) (A' : Option Addr) (c' : Nat), j ≤ 8 ∧ v = .int .i64 ((j : Int) - 1) ∧ u = .slice A' l c' ∧ l ≤ c' ∧ l ≤ 40000 ∧ Hid (l + j = 8 * i + 8) ∧ Mn w' W.heap.size 4 1 (.slice A' l c') l (FB (rawBit bs) l) ∧ Below W.heap.size W w') (fun _ v _ => (intOf v + 1).toNat)
      case atStart => exact ⟨8, l, A1, c1, Nat.le_refl _, rfl, rfl, hlc, hl4, Lib.hid (by have := HI.out; omega), hm1, hb1⟩
      case round =>
        clear hm1 hb1 HI hl4 hlc
        obtain ⟨j, l, A2, c2, hj, rfl, rfl, hlc, hl4, HI, hm2, hb2⟩ := hrel
        by_cases hj0 : j = 0
        · subst hj0
          go_wp2
          go_roundw
          case rel => exact ⟨i + 1, l, A2, c2, by omega, by go_num, rfl, hlc, hl4, Lib.hid (by have := HI.out; omega), hm2, hb2⟩
          case measure => simp [intOf]; omega
        · obtain ⟨k, rfl⟩ : ∃ k, j = k + 1 := ⟨j - 1, by omega⟩
          have eL : (((k + 1 : Nat) : Int) - 1) = (k : Int) := by omega
          rw [eL]
          clear eL hj0
          obtain ⟨b2, o2, rfl, hcell⟩ := (HRW.out.below hb2).at_ i hlt
          rw [HX.out] at hcell
          have hl1 : l + 1 ≤ 40000 := by have := HI.out; omega
          have hraw : rawBit bs l = x.testBit k := by
            have := HI.out
            unfold rawBit byteBits
            rw [if_pos (by rw [HL.out]; omega), show l / 8 = i from by omega, HX.out, show 7 - l % 8 = k from by omega]
            rfl
          have hbit : (bits .and .u8 ((x : Int) / 2 ^ k) 1 == 1) = x.testBit k := bit_u8 x k hx255
          have HRAW := Lib.hid hraw
          generalize x.testBit k = v at *
          clear hraw
          go_wp2_with (at_builtin; refine wpList_append_mn _ rfl _ _ _ rfl W.heap.size 4 _ 1 1 Try.underlying268 info4 rfl (by omega) (.slice A2 l c2) l (FB (rawBit bs) l) rfl (hm2.alloc _) _ 1 1 [.bool v] rfl (rv_row rfl) (one_bool v) (by omega) (by omega) (by simp; have := hb2.size; omega) ?_; intro A3 c3 w3 hc3 hm3 hg3 hat3; have hb3 : Below W.heap.size W w3 := (hb2.alloc hb2.size _).grown hg3 (by simp; have := hb2.size; omega) (fun q hq => (hm2.block hq).1); clear hg3 hat3 hm2 hb2)
          go_roundw
          case rel => exact ⟨k, l + 1, A3, c3, by omega, by first | rfl | (congr 1; omega), rfl, hc3, hl1, Lib.hid (by have := HI.out; omega), by rw [← FB_snoc, HRAW.out]; exact hm3, hb3⟩
          case measure => simp [intOf]; try omega
    · have hin : n = i := by omega
      subst hin
      have hl8 : l = 8 * n := HI.out
      subst hl8
      clear HI hlt hl4
      go_wp2
      -- 32 bits of nothing behind
      go_loopw [4, 7] (fun u v w' => ∃ (i l : Nat) (A' : Option Addr) (c' : Nat), i ≤ 32 ∧ v = .int .i64 i ∧ u = .slice A' l c' ∧ l ≤ c' ∧ l ≤ 41000 ∧ Hid (l = 8 * n + i) ∧ Mn w' W.heap.size 4 1 (.slice A' l c') l (FB (rawBit bs) l) ∧ Below W.heap.size W w') (fun _ v _ => 32 - (intOf v).toNat)
      case atStart => exact ⟨0, 8 * n, A1, c1, Nat.zero_le _, rfl, rfl, hlc, by omega, Lib.hid rfl, hm1, hb1⟩
      case round =>
        clear hm1 hb1 hlc hi
        obtain ⟨i, l, A2, c2, hi, rfl, rfl, hlc, hl4, HL8, hm2, hb2⟩ := hrel
        by_cases hlt : i < 32
        · have hl1 : l + 1 ≤ 60000 := by omega
          have HRAW := Lib.hid (show rawBit bs l = false from if_neg (by rw [HL.out]; have := HL8.out; omega))
          go_wp2_with (at_builtin; refine wpList_append_mn _ rfl _ _ _ rfl W.heap.size 4 _ 1 1 Try.underlying268 info4 rfl (by omega) (.slice A2 l c2) l (FB (rawBit bs) l) rfl (hm2.alloc _) _ 1 1 [.bool false] rfl (rv_row rfl) (one_bool false) (by omega) (by omega) (by simp; have := hb2.size; omega) ?_; intro A3 c3 w3 hc3 hm3 hg3 hat3; have hb3 : Below W.heap.size W w3 := (hb2.alloc hb2.size _).grown hg3 (by simp; have := hb2.size; omega) (fun q hq => (hm2.block hq).1); clear hg3 hat3 hm2 hb2)
          go_roundw
          case rel => exact ⟨i + 1, l + 1, A3, c3, by omega, by go_num, rfl, hc3, by have := HL8.out; omega, Lib.hid (by have := HL8.out; omega), by rw [← FB_snoc, HRAW.out]; exact hm3, hb3⟩
          case measure => simp [intOf]; omega
        · have hi32 : i = 32 := by omega
          subst hi32
          obtain ⟨g, rfl⟩ := hm2.ex (by have := HL8.out; omega)
          have hgW := (hm2.block (g := g) rfl).1
          have HG := Lib.hid hgW
          clear hgW hlt hi
          go_wp2
          -- the first 32 turned
          go_loopw [8] (fun v w' => ∃ i : Nat, i ≤ 32 ∧ v = .int .i64 i ∧ Mn w' W.heap.size 4 1 (.slice (some ⟨g, 0, none⟩) l c2) l (FB (fun j => rawBit bs j ^^ decide (j < i)) l) ∧ Below W.heap.size W w') (fun v _ => 32 - (intOf v).toNat)
          case atStart => exact ⟨0, Nat.zero_le _, rfl, by rw [FB_congr (g := rawBit bs) (fun j _ => by simp)]; exact hm2, hb2⟩
          case round =>
            clear hm2 hb2
            obtain ⟨i, hi, rfl, hm3, hb3⟩ := hrel
            by_cases hlt : i < 32
            · have hil : i < l := by have := HL8.out; omega
              obtain ⟨hc, hf⟩ := hm3.cellV i _ (FB_get _ l i hil)
              have HM := Lib.hid (hm3.setV i (.bool (!(rawBit bs i ^^ decide (i < i)))) (FB_set _ (fun j => rawBit bs j ^^ decide (j < i + 1)) l i _ hil (fun q hq => by
                by_cases e : q = i
                · subst e
                  rw [if_pos rfl, decide_eq_true (show q < q + 1 by omega), decide_eq_false (show ¬ q < q by omega)]
                  simp
                · rw [if_neg e]
                  congr 1
                  exact decide_eq_decide.2 (by omega))))
              have HB3 := Lib.hid (hb3.setCell (p := ⟨g, i, none⟩) HG.out (.bool (!(rawBit bs i ^^ decide (i < i)))))
              generalize (rawBit bs i ^^ decide (i < i)) = b at *
              clear hm3 hb3
              go_wp2
              go_roundw
              case rel => exact ⟨i + 1, by omega, by go_num, HM.out, HB3.out⟩
              case measure => simp [intOf]; omega
            · have hi32 : i = 32 := by omega
              subst hi32
              have hm3' : Mn _ W.heap.size 4 1 (.slice (some ⟨g, 0, none⟩) l c2) l (FB (divAt bs 0) l) := hm3
              clear hm3 hlt hi
              go_wp2
              -- the division
              go_loopw [9] (fun v w' => ∃ i : Nat, i + 32 ≤ l ∧ v = .int .i64 i ∧ Mn w' W.heap.size 4 1 (.slice (some ⟨g, 0, none⟩) l c2) l (FB (divAt bs i) l) ∧ Below W.heap.size W w') (fun v _ => l - (intOf v).toNat)
              case atStart => exact ⟨0, by have := HL8.out; omega, rfl, hm3', hb3⟩
              case round =>
                clear hm3' hb3
                obtain ⟨i, hi, rfl, hm3, hb3⟩ := hrel
                by_cases hlt : i + 32 < l
                · have hil : i < l := by omega
                  obtain ⟨hc, hf⟩ := hm3.cellV i _ (FB_get _ l i hil)
                  cases hd : divAt bs i i with
                  | false =>
                    rw [hd] at hc
                    have HM := Lib.hid hm3
                    have HB3 := Lib.hid hb3
                    have HD := Lib.hid hd
                    clear hm3 hb3 hd
                    go_wp2
                    go_roundw
                    case rel => exact ⟨i + 1, by omega, by go_num, by rw [FB_congr (g := divAt bs i) (fun j _ => divAt_skip bs i j HD.out)]; exact HM.out, HB3.out⟩
                    case measure => simp [intOf]; omega
                  | true =>
                    rw [hd] at hc
                    have HD := Lib.hid hd
                    have HM := Lib.hid (hm3.setV i (.bool false) (FB_set _ (tapAt bs i 0) l i _ hil (fun q hq => by
                      unfold tapAt
                      simp)))
                    have HB3 := Lib.hid (hb3.setCell (p := ⟨g, i, none⟩) HG.out (.bool false))
                    clear hm3 hb3 hd
                    go_wp2
                    go_loopw [10] (fun v w' => ∃ k : Nat, k ≤ 14 ∧ v = .int .i64 k ∧ Mn w' W.heap.size 4 1 (.slice (some ⟨g, 0, none⟩) l c2) l (FB (tapAt bs i k) l) ∧ Below W.heap.size W w') (fun v _ => 14 - (intOf v).toNat)
                    case atStart => exact ⟨0, Nat.zero_le _, rfl, HM.out, HB3.out⟩
                    case round =>
                      clear HM HB3 hc hf
                      obtain ⟨k, hk, rfl, hm4, hb4⟩ := hrel
                      by_cases hk14 : k < 14
                      · obtain ⟨t, ht26, htg, htk, htn⟩ := taps_at k hk14
                        obtain ⟨p, hp⟩ : ∃ p : Nat, p = i + 32 - t := ⟨_, rfl⟩
                        have hpi : (i : Int) + 32 - (t : Int) = (p : Int) := by omega
                        have hpl : p < l := by omega
                        have hct := HTP.out _ hb4 k t hk14 htg
                        obtain ⟨hc, hf⟩ := hm4.cellV p _ (FB_get _ l p hpl)
                        have HM := Lib.hid (hm4.setV p (.bool (!(tapAt bs i k p))) (FB_set _ (tapAt bs i (k + 1)) l p _ hpl (fun q hq => by
                          rw [tapAt_step bs i k t ht26 htk htn q, hp])))
                        have HB4 := Lib.hid (hb4.setCell (p := ⟨g, p, none⟩) HG.out (.bool (!(tapAt bs i k p))))
                        generalize tapAt bs i k p = b at *
                        clear hm4 hb4 hp htg htk htn
                        go_wp2
                        go_roundw
                        case rel => exact ⟨k + 1, by omega, by go_num, HM.out, HB4.out⟩
                        case measure => simp [intOf]; omega
                      · have hk14' : k = 14 := by omega
                        subst hk14'
                        have HM4 := Lib.hid (show Mn _ W.heap.size 4 1 (.slice (some ⟨g, 0, none⟩) l c2) l (FB (divAt bs (i + 1)) l) from by rw [← FB_congr (f := tapAt bs i 14) (fun j _ => tapAt_done bs i j HD.out)]; exact hm4)
                        have HB4 := Lib.hid hb4
                        clear hm4 hb4
                        go_wp2
                        go_roundw
                        case rel => exact ⟨i + 1, by omega, by go_num, HM4.out, HB4.out⟩
                        case measure => simp [intOf]; omega
                · have hi8 : i = 8 * n := by have := HL8.out; omega
                  obtain ⟨q, hq⟩ : ∃ q, q = 8 * n := ⟨_, rfl⟩
                  have hlq : (l : Int) - 32 = (q : Int) := by have := HL8.out; omega
                  have hq8 : q + 32 = l := by have := HL8.out; omega
                  rw [hi8] at hm3
                  have HQ := Lib.hid hq
                  have HQ8 := Lib.hid hq8
                  have hS := sumL_lt bs HB.out
                  obtain ⟨S, hSS⟩ : ∃ S, S = sumL bs := ⟨_, rfl⟩
                  rw [← hSS] at hS
                  have HSS := Lib.hid hSS
                  have HM3 := Lib.hid hm3
                  have HB3 := Lib.hid hb3
                  have HS := Lib.hid hS
                  clear hq hq8 hS hSS hm3 hb3 hi8
                  go_wp2
                  -- the number of the last 32
                  go_loopw [12, 13] (fun u v w' => ∃ (p j x : Nat), p ≤ 32 ∧ v = .int .i64 j ∧ u = .int .u32 x ∧ x < 4294967296 ∧ j ≤ 41000 ∧ Hid (j = q + p) ∧ Hid (x = S / 2 ^ (32 - p)) ∧ Mn w' W.heap.size 4 1 (.slice (some ⟨g, 0, none⟩) l c2) l (FB (divAt bs (8 * n)) l) ∧ Below W.heap.size W w') (fun _ v _ => l - (intOf v).toNat)
                  case atStart => exact ⟨0, q, 0, Nat.zero_le _, rfl, rfl, by decide, by have := HQ8.out; omega, Lib.hid rfl, Lib.hid (by have := HS.out; rw [Nat.sub_zero, Nat.div_eq_of_lt (by simpa using this)]), HM3.out, HB3.out⟩
                  case round =>
                    clear HM3 HB3 hlt hlq
                    obtain ⟨p, j, x, hp, rfl, rfl, hx32, hj4, HJ, HX, hm5, hb5⟩ := hrel
                    by_cases hp32 : p < 32
                    · have hjl : j < l := by have := HJ.out; have := HQ8.out; omega
                      obtain ⟨hc, hf⟩ := hm5.cellV j _ (FB_get _ l j hjl)
                      have hds := divAt_sum bs HB.out p hp32
                      rw [HL.out, ← HQ.out, ← HSS.out] at hds
                      rw [← HQ.out, HJ.out] at hc
                      rw [← HJ.out] at hc
                      have hts := top_step S p hp32
                      rw [← HX.out] at hts
                      have hxs : x < 2147483648 := by
                        have h1 : S / 2 ^ (31 - p) < 4294967296 := Nat.lt_of_le_of_lt (Nat.div_le_self _ _) HS.out
                        omega
                      rw [← HJ.out] at hds
                      obtain ⟨y, hy⟩ : ∃ y, y = 2 * x := ⟨_, rfl⟩
                      have hy1 : (2 * (x : Int)) % 4294967296 = (y : Int) := by omega
                      have hy2 : ((x : Int) * 2) % 4294967296 = (y : Int) := by omega
                      have hz1 : ((y : Int) + 1) % 4294967296 = ((y + 1 : Nat) : Int) := by omega
                      have hy32 : y + 1 < 4294967296 := by omega
                      have HY := Lib.hid hy
                      have HDS := Lib.hid hds
                      have HTS := Lib.hid hts
                      have HM := Lib.hid hm5
                      have HB5 := Lib.hid hb5
                      clear hy hds hts hm5 hb5 hxs
                      cases hd : divAt bs q j with
                      | false =>
                        rw [hd] at hc
                        have hx' := Lib.hid (show y + 1 = S / 2 ^ (31 - p) by
                          have h1 := HTS.out
                          have h2 := HDS.out
                          rw [hd] at h2
                          rw [← h2] at h1
                          rw [h1, HY.out]
                          rfl)
                        clear hd
                        go_wp2
                        go_roundw
                        case rel => exact ⟨p + 1, j + 1, y + 1, by omega, by go_num, by first | rfl | go_num, hy32, by omega, Lib.hid (by have := HJ.out; omega), Lib.hid (by rw [show 32 - (p + 1) = 31 - p from by omega]; exact hx'.out), HM.out, HB5.out⟩
                        case measure => simp [intOf]; omega
                      | true =>
                        rw [hd] at hc
                        have hx' := Lib.hid (show y = S / 2 ^ (31 - p) by
                          have h1 := HTS.out
                          have h2 := HDS.out
                          rw [hd] at h2
                          rw [← h2] at h1
                          rw [h1, HY.out]
                          rfl)
                        clear hd
                        go_wp2
                        go_roundw
                        case rel => exact ⟨p + 1, j + 1, y, by omega, by go_num, by first | rfl | go_num, by omega, by omega, Lib.hid (by have := HJ.out; omega), Lib.hid (by rw [show 32 - (p + 1) = 31 - p from by omega]; exact hx'.out), HM.out, HB5.out⟩
                        case measure => simp [intOf]; omega
                    · have hp32' : p = 32 := by omega
                      subst hp32'
                      have hjl : ¬ (j < l) := by have := HJ.out; have := HQ8.out; omega
                      have hxS : x = sumL bs := by rw [HX.out, ← HSS.out]; simp
                      have HXS := Lib.hid hxS
                      have HBW := Lib.hid (HW.out.trans (hb5.mono HW.out.size))
                      clear hxS hm5 hb5 hp32 hp
                      go_wp2
                      go_ret
                      exact ⟨by rw [HXS.out]; rfl, HBW.out⟩
end Go.Proofs.Ytnmhhjgiakijgaa

/- Frames: the small functions. -/
namespace Go.Proofs.Ytnmhhjgiakijgaa
open Go.RowKit
set_option linter.unusedVariables false

/-- may there be such a frame? -/
def mayB (o : Int) (k : Nat) : Bool := decide (0 ≤ o) && decide (o < 8) && (k == 1 || k == 2)
theorem mayB_true {o : Int} {k : Nat} (h : mayB o k = true) : 0 ≤ o ∧ o < 8 ∧ (k = 1 ∨ k = 2) := by
  simp only [mayB, Bool.and_eq_true, decide_eq_true_eq, Bool.or_eq_true, beq_iff_eq] at h
  exact ⟨h.1.1, h.1.2, h.2⟩

set_option maxHeartbeats 800000 in
set_option maxRecDepth 20000 in
theorem may_calls (o : Int) (k s q v : Nat) (w : World) :
    Calls Try.prog 118 #[.agg #[.int .i64 o, .int .u8 k, .int .u8 s, .int .u32 q, .int .u32 v]] w fun e w' => e = .returned (.bool (mayB o k)) ∧ Below w.heap.size w w' := by
  have HM : Hid (∀ b, mayB o k = b → True) := fun _ _ => trivial
  by_cases h1 : 0 ≤ o
  · by_cases h2 : o < 8
    · by_cases h3 : k = 1
      · subst h3
        have h := Lib.hid (show mayB o 1 = true by simp [mayB, h1, h2])
        go_enter Try.func118, Try.ntmps118
        go_wp2
        go_ret
        exact ⟨by rw [h.out]; rfl, (by repeat (first | exact Below.refl _ _ | apply Bw.alloc | apply Bw.drewN | apply Bw.drew | (refine Bw.step ?_ (by assumption))))⟩
      · by_cases h4 : k = 2
        · subst h4
          have h := Lib.hid (show mayB o 2 = true by simp [mayB, h1, h2])
          go_enter Try.func118, Try.ntmps118
          go_wp2
          go_ret
          exact ⟨by rw [h.out]; rfl, (by repeat (first | exact Below.refl _ _ | apply Bw.alloc | apply Bw.drewN | apply Bw.drew | (refine Bw.step ?_ (by assumption))))⟩
        · have h := Lib.hid (show mayB o k = false by simp [mayB, h3, h4])
          have e1 : ((k : Int) == 1) = false := by simp; omega
          have e2 : ((k : Int) == 2) = false := by simp; omega
          go_enter Try.func118, Try.ntmps118
          go_wp2
          go_ret
          exact ⟨by rw [h.out]; rfl, (by repeat (first | exact Below.refl _ _ | apply Bw.alloc | apply Bw.drewN | apply Bw.drew | (refine Bw.step ?_ (by assumption))))⟩
    · have h := Lib.hid (show mayB o k = false by simp [mayB, h2])
      go_enter Try.func118, Try.ntmps118
      go_wp2
      go_ret
      exact ⟨by rw [h.out]; rfl, (by repeat (first | exact Below.refl _ _ | apply Bw.alloc | apply Bw.drewN | apply Bw.drew | (refine Bw.step ?_ (by assumption))))⟩
  · have h := Lib.hid (show mayB o k = false by simp [mayB, h1])
    go_enter Try.func118, Try.ntmps118
    go_wp2
    go_ret
    exact ⟨by rw [h.out]; rfl, (by repeat (first | exact Below.refl _ _ | apply Bw.alloc | apply Bw.drewN | apply Bw.drew | (refine Bw.step ?_ (by assumption))))⟩
set_option maxHeartbeats 800000 in
set_option maxRecDepth 20000 in
theorem refmay_calls (o : Int) (k s q v : Nat) (w : World) :
    Calls Try.prog 121 #[.agg #[.int .i64 o, .int .u8 k, .int .u8 s, .int .u32 q, .int .u32 v]] w fun e w' => e = .returned (.bool (mayB o k)) ∧ Below w.heap.size w w' := by
  have HM : Hid (∀ b, mayB o k = b → True) := fun _ _ => trivial
  by_cases h1 : 0 ≤ o
  · by_cases h2 : o < 8
    · have h7 : o ≤ 7 := by omega
      by_cases h3 : k = 1
      · subst h3
        have h := Lib.hid (show mayB o 1 = true by simp [mayB, h1, h2])
        go_enter Try.func121, Try.ntmps121
        go_wp2
        go_ret
        exact ⟨by rw [h.out]; rfl, (by repeat (first | exact Below.refl _ _ | apply Bw.alloc | apply Bw.drewN | apply Bw.drew | (refine Bw.step ?_ (by assumption))))⟩
      · by_cases h4 : k = 2
        · subst h4
          have h := Lib.hid (show mayB o 2 = true by simp [mayB, h1, h2])
          go_enter Try.func121, Try.ntmps121
          go_wp2
          go_ret
          exact ⟨by rw [h.out]; rfl, (by repeat (first | exact Below.refl _ _ | apply Bw.alloc | apply Bw.drewN | apply Bw.drew | (refine Bw.step ?_ (by assumption))))⟩
        · have h := Lib.hid (show mayB o k = false by simp [mayB, h3, h4])
          have e1 : ((k : Int) == 1) = false := by simp; omega
          have e2 : ((k : Int) == 2) = false := by simp; omega
          go_enter Try.func121, Try.ntmps121
          go_wp2
          go_ret
          exact ⟨by rw [h.out]; rfl, (by repeat (first | exact Below.refl _ _ | apply Bw.alloc | apply Bw.drewN | apply Bw.drew | (refine Bw.step ?_ (by assumption))))⟩
    · have h := Lib.hid (show mayB o k = false by simp [mayB, h2])
      have h7 : ¬ (o ≤ 7) := by omega
      go_enter Try.func121, Try.ntmps121
      go_wp2
      go_ret
      exact ⟨by rw [h.out]; rfl, (by repeat (first | exact Below.refl _ _ | apply Bw.alloc | apply Bw.drewN | apply Bw.drew | (refine Bw.step ?_ (by assumption))))⟩
  · have h := Lib.hid (show mayB o k = false by simp [mayB, h1])
    go_enter Try.func121, Try.ntmps121
    go_wp2
    go_ret
    exact ⟨by rw [h.out]; rfl, (by repeat (first | exact Below.refl _ _ | apply Bw.alloc | apply Bw.drewN | apply Bw.drew | (refine Bw.step ?_ (by assumption))))⟩

set_option maxHeartbeats 800000 in
set_option maxRecDepth 20000 in
theorem of58_calls (o : Int) (k s q v : Nat) (w : World) :
    Calls Try.prog 58 #[.int .i64 o, .agg #[.int .u8 k, .int .u8 s, .int .u32 q, .int .u32 v]] w fun e w' => e = .returned (.agg #[.int .i64 o, .int .u8 k, .int .u8 s, .int .u32 q, .int .u32 v]) ∧ Below w.heap.size w w' := by
  go_enter Try.func58, Try.ntmps58
  go_wp2
  refine bodyPost_ret (v := .agg #[.int .i64 o, .int .u8 k, .int .u8 s, .int .u32 q, .int .u32 v]) (by simp [results, Try.results58, go_sem]) rfl ?_
  exact ⟨rfl, (by repeat (first | exact Below.refl _ _ | apply Bw.alloc | apply Bw.drewN | apply Bw.drew | (refine Bw.step ?_ (by assumption))))⟩

set_option maxHeartbeats 800000 in
set_option maxRecDepth 20000 in
theorem four_calls (q : Nat) (w : World) (hq : q < 4294967296) :
    Calls Try.prog 120 #[.int .u32 q] w fun e w' => ∃ A, e = .returned (.slice A 4 4) ∧ Mn w' w.heap.size 5 1 (.slice A 4 4) 4 (nums .u8 (be4 q)) ∧ Below w.heap.size w w' := by
  go_enter Try.func120, Try.ntmps120
  go_wp2
  go_ret
  refine ⟨_, rfl, ?_, (by repeat (first | exact Below.refl _ _ | apply Bw.alloc | apply Bw.drewN | apply Bw.drew | (refine Bw.step ?_ (by assumption))))⟩
  rw [be4_lt q hq]
  exact Mn.lit w 5 1 4 _ (Nat.le_refl _) rfl (by simp only [maxLen]; omega)

set_option maxHeartbeats 800000 in
set_option maxRecDepth 20000 in
theorem parts_calls (a b : Bool) (w : World) :
    Calls Try.prog 124 #[.agg #[.bool a, .bool b]] w fun e w' => e = .returned (.agg #[.bool a, .bool b]) ∧ Below w.heap.size w w' := by
  go_enter Try.func124, Try.ntmps124
  go_wp2
  refine bodyPost_ret (v := .agg #[.bool a, .bool b]) (by simp [results, Try.results124, go_sem]) rfl ?_
  exact ⟨rfl, (by repeat (first | exact Below.refl _ _ | apply Bw.alloc | apply Bw.drewN | apply Bw.drew | (refine Bw.step ?_ (by assumption))))⟩

set_option maxHeartbeats 800000 in
set_option maxRecDepth 20000 in
theorem good125_calls (w : World) :
    Calls Try.prog 125 #[] w fun e w' => e = .returned (.agg #[.bool true, .bool false]) ∧ Below w.heap.size w w' := by
  go_enter Try.func125, Try.ntmps125
  go_wp2
  refine bodyPost_ret (v := .agg #[.bool true, .bool false]) (by simp [results, Try.results125, go_sem]) rfl ?_
  exact ⟨rfl, (by repeat (first | exact Below.refl _ _ | apply Bw.alloc | apply Bw.drewN | apply Bw.drew | (refine Bw.step ?_ (by assumption))))⟩

@[go_sem] theorem eq83 (a b c d : Bool) (w : World) : (Op.equalIn 10000 83 (.agg #[.bool a, .bool b]) (.agg #[.bool c, .bool d])).run Try.prog w = .ok (a == c && b == d) w := by
  have u4 := Try.underlying4
  have a4 := Try.isAgg4
  have z4 := Try.sizeOf4
  rw [show (10000 : Nat) = 9999 + 1 from rfl, Op.equalIn]
  simp only [Sem.run_bind, run_underlying Try.underlying83, Result.andThen_ok]
  simp only [Std.Legacy.Range.forIn_eq_forIn_range', Std.Legacy.Range.size, Nat.sub_zero, Nat.add_sub_cancel, Nat.div_one, List.range'_succ, List.range'_zero, List.forIn_cons, List.forIn_nil]
  go_simp
  cases a <;> cases b <;> cases c <;> cases d <;> simp

set_option maxHeartbeats 800000 in
set_option maxRecDepth 20000 in
theorem good_calls (a b : Bool) (w : World) :
    Calls Try.prog 62 #[.agg #[.bool a, .bool b]] w fun e w' => e = .returned (.bool (a && !b)) ∧ Below w.heap.size w w' := by
  go_enter Try.func62, Try.ntmps62
  go_wp2_with fail
  refine (parts_calls a b _).mono ?_; rintro e w1 ⟨rfl, hb1⟩
  go_wp2_with fail
  refine (good125_calls _).mono ?_; rintro e w2 ⟨rfl, hb2⟩
  cases a <;> cases b
  all_goals
    go_wp2
    go_ret
    exact ⟨rfl, (by repeat (first | exact Below.refl _ _ | apply Bw.alloc | apply Bw.drewN | apply Bw.drew | (refine Bw.step ?_ (by assumption))))⟩

set_option maxHeartbeats 800000 in
set_option maxRecDepth 20000 in
theorem refgood_calls (a b : Bool) (w : World) :
    Calls Try.prog 63 #[.agg #[.bool a, .bool b]] w fun e w' => e = .returned (.bool (a && !b)) ∧ Below w.heap.size w w' := by
  cases a <;> cases b
  all_goals
    go_enter Try.func63, Try.ntmps63
    go_wp2
    go_ret
    exact ⟨rfl, (by repeat (first | exact Below.refl _ _ | apply Bw.alloc | apply Bw.drewN | apply Bw.drew | (refine Bw.step ?_ (by assumption))))⟩

/-- the symbol of what is so, or not -/
def sy (b : Bool) : Int := if b = true then 2 else 1
set_option maxHeartbeats 800000 in
set_option maxRecDepth 20000 in
theorem sym_calls (b : Bool) (w : World) :
    Calls Try.prog 126 #[.bool b] w fun e w' => e = .returned (.int .u8 (sy b)) ∧ w = w' := by
  cases b
  all_goals
    go_enter Try.func126, Try.ntmps126
    go_wp2
    go_ret
    exact ⟨rfl, rfl⟩

def tailL (a b : Bool) : List Int := [sy a, sy b]
theorem rd2_mn {w : World} {B : Nat} {e : TypeId} {x y : Int} (hB : B ≤ w.heap.size) {a : Nat} (ha : a = w.heap.size) : Mn (w.alloc (.cells #[.int .u8 x, .int .u8 y] e)) B e 1 (.slice (some ⟨a, 0, none⟩) 2 2) 2 (nums .u8 [x, y]) := by
  subst ha
  exact Mn.lit w e 1 2 _ hB rfl (by simp only [maxLen]; omega)
set_option maxHeartbeats 800000 in
set_option maxRecDepth 20000 in
theorem reftail_calls (a b : Bool) (w : World) :
    Calls Try.prog 65 #[.agg #[.bool a, .bool b]] w fun e w' => ∃ A, e = .returned (.slice A 2 2) ∧ Mn w' w.heap.size 50 1 (.slice A 2 2) 2 (nums .u8 (tailL a b)) ∧ Below w.heap.size w w' := by
  go_enter Try.func65, Try.ntmps65
  go_wp2_with fail
  have hc0 : (w.alloc (.cells #[.bool a, .bool b] 94)).cell? ⟨w.heap.size, 0, none⟩ = some (.bool a) := by simp [go_sem]
  have hc1 : (w.alloc (.cells #[.bool a, .bool b] 94)).cell? ⟨w.heap.size, 1, none⟩ = some (.bool b) := by simp [go_sem]
  have hbw : Below w.heap.size w (w.alloc (.cells #[.bool a, .bool b] 94)) := (by repeat (first | exact Below.refl _ _ | apply Bw.alloc | apply Bw.drewN | apply Bw.drew | (refine Bw.step ?_ (by assumption))))
  have hlt : w.heap.size < (w.alloc (.cells #[.bool a, .bool b] 94)).heap.size := by simp
  generalize w.alloc (.cells #[.bool a, .bool b] 94) = W at *
  have HK : Hid (∀ w', Below W.heap.size W w' → w'.cell? ⟨w.heap.size, 0, none⟩ = some (.bool a) ∧ w'.cell? ⟨w.heap.size, 1, none⟩ = some (.bool b)) := fun w' h => ⟨(h.cell (p := ⟨w.heap.size, 0, none⟩) hlt).trans hc0, (h.cell (p := ⟨w.heap.size, 1, none⟩) hlt).trans hc1⟩
  clear hlt
  go_region_held3 (fun w' => w'.cell? ⟨w.heap.size, 0, none⟩ = some (.bool a) ∧ w'.cell? ⟨w.heap.size, 1, none⟩ = some (.bool b)) (first | assumption | exact HK.out _ (by repeat (first | exact Below.refl _ _ | apply Bw.alloc | apply Bw.drewN | apply Bw.drew | (refine Bw.step ?_ (by assumption)))))
    (first
      | (go_at_call 126; refine (sym_calls a _).mono ?_; rintro e w8 ⟨rfl, rfl⟩)
      | (go_at_call 126; refine (sym_calls b _).mono ?_; rintro e w8 ⟨rfl, rfl⟩))
  go_wp2
  go_ret
  exact ⟨_, rfl, rd2_mn (w := W) hbw.size rfl, (by repeat (first | exact Below.refl _ _ | apply Bw.alloc | apply Bw.drewN | apply Bw.drew | (refine Bw.step ?_ (by assumption))))⟩

@[go_sem] theorem index83_0 (a b : Bool) (w : World) : (Instr.index 83 (.agg #[.bool a, .bool b]) (.int .i64 0)).run Try.prog w = .ok (.bool a) w := by
  have u4 := Try.underlying4
  have a4 := Try.isAgg4
  have z4 := Try.sizeOf4
  simp [Instr.index, run_underlying Try.underlying83, asIntOf, part, go_sem, a4, z4]
@[go_sem] theorem index83_1 (a b : Bool) (w : World) : (Instr.index 83 (.agg #[.bool a, .bool b]) (.int .i64 1)).run Try.prog w = .ok (.bool b) w := by
  have u4 := Try.underlying4
  have a4 := Try.isAgg4
  have z4 := Try.sizeOf4
  simp [Instr.index, run_underlying Try.underlying83, asIntOf, part, go_sem, a4, z4]
theorem putL_bit (b : Bool) : putL (if b = true then 1 else 0) 1 = [sy b] := by cases b <;> rfl
set_option maxHeartbeats 800000 in
set_option maxRecDepth 20000 in
theorem tail_calls (a b : Bool) (w : World) :
    Calls Try.prog 64 #[.agg #[.bool a, .bool b]] w fun e w' => ∃ A, e = .returned (.slice A 2 2) ∧ Mn w' w.heap.size 50 1 (.slice A 2 2) 2 (nums .u8 (tailL a b)) ∧ Below w.heap.size w w' := by
  go_enter Try.func64, Try.ntmps64
  go_wp2_with fail
  refine (parts_calls a b _).mono ?_; rintro e w1 ⟨rfl, hb1⟩
  go_wp2_with fail
  have hbw : Below w.heap.size w w1 := (by repeat (first | exact Below.refl _ _ | apply Bw.alloc | apply Bw.drewN | apply Bw.drew | (refine Bw.step ?_ (by assumption))))
  go_loopw [3, 9] (fun u v w' => (v = .int .i64 0 ∧ u = .slice none 0 0 ∧ Below w.heap.size w w') ∨ (∃ A, v = .int .i64 1 ∧ u = .slice A 1 1 ∧ Mn w' w.heap.size 50 1 (.slice A 1 1) 1 (nums .u8 [sy a]) ∧ Below w.heap.size w w') ∨ (∃ A, v = .int .i64 2 ∧ u = .slice A 2 2 ∧ Mn w' w.heap.size 50 1 (.slice A 2 2) 2 (nums .u8 (tailL a b)) ∧ Below w.heap.size w w')) (fun _ v _ => 2 - (intOf v).toNat)
  case atStart => exact .inl ⟨rfl, rfl, hbw⟩
  case round =>
    clear hb1 hbw
    rcases hrel with ⟨rfl, rfl, hb⟩ | ⟨A, rfl, rfl, hm, hb⟩ | ⟨A, rfl, rfl, hm, hb⟩
    · have h := Lib.hid (fun w => put_calls none 0 0 [] (if a = true then 1 else 0) 1 w Rd.nil (Nat.le_refl _) (by omega) (by split <;> omega))
      have hp := Lib.hid (show putA [] (if a = true then 1 else 0) 1 = [sy a] by cases a <;> rfl)
      have hm1 := Lib.hid (show many 1 = 1 by decide)
      cases a
      all_goals
        go_wp2_with fail
        refine (h.out _).mono ?_
        rintro e w2 ⟨A2, m2, rfl, hm2, hmn2, hb2⟩
        rewrite [hm1.out] at hm2
        simp only [Nat.zero_add] at hm2
        subst hm2
        rewrite [hp.out] at hmn2
        go_wp2
        go_roundw
        case rel => exact .inr (.inl ⟨A2, rfl, rfl, hmn2.mono hb.size, (by repeat (first | exact Below.refl _ _ | apply Bw.alloc | apply Bw.drewN | apply Bw.drew | (refine Bw.step ?_ (by assumption))))⟩)
        case measure => simp [intOf]
    · have h := Lib.hid (fun w hr => put_calls A 1 1 [sy a] (if b = true then 1 else 0) 1 w hr (Nat.le_refl _) (by omega) (by split <;> omega))
      have hp := Lib.hid (show putA [sy a] (if b = true then 1 else 0) 1 = tailL a b by cases b <;> rfl)
      have hm1 := Lib.hid (show many 1 = 1 by decide)
      cases b
      all_goals
        go_wp2_with fail
        refine (h.out _ hm.rd).mono ?_
        rintro e w2 ⟨A2, m2, rfl, hm2, hmn2, hb2⟩
        rewrite [hm1.out] at hm2
        subst hm2
        rewrite [hp.out] at hmn2
        go_wp2
        go_roundw
        case rel => exact .inr (.inr ⟨A2, rfl, rfl, hmn2.mono hb.size, (by repeat (first | exact Below.refl _ _ | apply Bw.alloc | apply Bw.drewN | apply Bw.drew | (refine Bw.step ?_ (by assumption))))⟩)
        case measure => simp [intOf]
    · go_wp2
      go_ret
      exact ⟨A, rfl, hm, hb⟩
end Go.Proofs.Ytnmhhjgiakijgaa

/- The reference's sum behind bytes: its contract. -/
namespace Go.Proofs.Ytnmhhjgiakijgaa
open Go.RowKit
set_option linter.unusedVariables false

/-- byte k of a number, the lowest one: 0 -/
def byAt (s k : Nat) : Int := (s : Int) / 2 ^ (8 * k) % 256
theorem be4_at (s : Nat) : be4 s = [byAt s 3, byAt s 2, byAt s 1, byAt s 0] := by simp [be4, byAt]
/-- the four bytes from the highest on, as far as byte k -/
def beTo (s : Nat) : Nat → List Int
  | 0 => [byAt s 3, byAt s 2, byAt s 1, byAt s 0]
  | 1 => [byAt s 3, byAt s 2, byAt s 1]
  | 2 => [byAt s 3, byAt s 2]
  | 3 => [byAt s 3]
  | _ => []
theorem beTo_step (s k : Nat) (h : k < 4) : beTo s k = beTo s (k + 1) ++ [byAt s k] := by
  have : k = 0 ∨ k = 1 ∨ k = 2 ∨ k = 3 := by omega
  rcases this with rfl | rfl | rfl | rfl <;> rfl

set_option maxHeartbeats 1600000 in
set_option maxRecDepth 20000 in
theorem refput2_calls (A : Option Addr) (n c : Nat) (bs : List Int) (w : World) (hr : Rd w .u8 A n bs) (hc : n ≤ c) (hn : n ≤ 5000) (hb : bytesOk bs) :
    Calls Try.prog 122 #[.slice A n c] w fun e w' => ∃ A' c', e = .returned (.slice A' (n + 4) c') ∧ n + 4 ≤ c' ∧ Mn w' w.heap.size 5 1 (.slice A' (n + 4) c') (n + 4) (nums .u8 (putS bs)) ∧ Below w.heap.size w w' := by
  have HR := Lib.hid hr
  have HB := Lib.hid hb
  have HS := Lib.hid (sumL_lt bs hb)
  clear hr hb
  go_enter Try.func122, Try.ntmps122
  go_wp2_with fail
  refine (refsum_calls _ _ _ bs _ HR.out hc hn HB.out).mono ?_; rintro e w1 ⟨rfl, hb1⟩
  obtain ⟨s, hs⟩ : ∃ s, s = sumL bs := ⟨_, rfl⟩
  rewrite [← hs]
  have HSS := Lib.hid (show putS bs = bs ++ beTo s 0 by rw [hs]; exact congrArg (bs ++ ·) (be4_at _))
  have hsl : s < 4294967296 := by rw [hs]; exact HS.out
  clear hs
  go_wp2_with (at_builtin; refine wpList_append_mn _ rfl _ _ _ rfl w.heap.size 5 _ 1 1 Try.underlying43 info5 rfl (by omega) (.slice none 0 0) 0 [] rfl (Mn.nil _ _ _ _) A n c (nums .u8 bs) rfl (by rw [Nat.mul_one]; exact HR.out.below hb1) (nums_one _ _) (by omega) (by omega) hb1.size ?_; intro A3 c3 w3 hc3 hm3 hg3 hat3; have hb3 : Below w.heap.size w w3 := hb1.grown hg3 hb1.size (fun q hq => by simp [Value.ownBlock] at hq); clear hg3 hat3 hb1)
  have hbe : Mn w3 w.heap.size 5 1 (.slice A3 n c3) n (nums .u8 (bs ++ beTo s 4)) := by
    rw [Nat.zero_add] at hm3
    simpa [beTo] using hm3
  have hc3' : n ≤ c3 := by omega
  clear hm3
  go_loopw [4, 5] (fun u v w' => ∃ (j l : Nat) (A' : Option Addr) (c' : Nat), j ≤ 4 ∧ v = .int .i64 ((j : Int) - 1) ∧ u = .slice A' l c' ∧ l ≤ c' ∧ l ≤ 6000 ∧ Hid (l + j = n + 4) ∧ Mn w' w.heap.size 5 1 (.slice A' l c') l (nums .u8 (bs ++ beTo s j)) ∧ Below w.heap.size w w') (fun _ v _ => (intOf v + 1).toNat)
  case atStart => exact ⟨4, n, A3, c3, Nat.le_refl _, rfl, by first | rfl | simp, hc3', by omega, Lib.hid rfl, hbe, hb3⟩
  case round =>
    clear hbe hb3 hc3 hc3'
    obtain ⟨j, l, A1, c1, hj, rfl, rfl, hlc, hl6, HL, hm1, hb1⟩ := hrel
    by_cases hj0 : j = 0
    · subst hj0
      have hl : l = n + 4 := HL.out
      subst hl
      go_wp2
      go_ret
      exact ⟨A1, c1, rfl, hlc, by rw [HSS.out]; exact hm1, hb1⟩
    · obtain ⟨k, rfl⟩ : ∃ k, j = k + 1 := ⟨j - 1, by omega⟩
      have eL : (((k + 1 : Nat) : Int) - 1) = (k : Int) := by omega
      rw [eL]
      clear eL hj0
      have HST := Lib.hid (beTo_step s k (by omega))
      have hk : k = 0 ∨ k = 1 ∨ k = 2 ∨ k = 3 := by omega
      rcases hk with rfl | rfl | rfl | rfl
      · have HZ := Lib.hid (show byAt s 0 = (s : Int) % 256 by simp only [byAt]; omega)
        go_wp2_with (at_builtin; refine wpList_append_mn _ rfl _ _ _ rfl w.heap.size 5 _ 1 1 Try.underlying43 info5 rfl (by omega) (.slice A1 l c1) l (nums .u8 (bs ++ beTo s (0 + 1))) rfl (hm1.alloc _) _ 1 1 (nums .u8 [(s : Int) % 256]) rfl rv_one (nums_one _ _) (by omega) (by omega) (by simp; have := hb1.size; omega) ?_; intro A3 c3 w3 hc3 hm3 hg3 hat3; have hb3 : Below w.heap.size w w3 := (hb1.alloc hb1.size _).grown hg3 (by simp; have := hb1.size; omega) (fun q hq => (hm1.block hq).1); clear hg3 hat3 hm1 hb1)
        go_roundw
        case rel => exact ⟨0, l + 1, A3, c3, by omega, by first | rfl | (congr 1; omega), rfl, hc3, by have := HL.out; omega, Lib.hid (by have := HL.out; omega), by rw [HST.out, HZ.out, ← List.append_assoc, nums_append]; exact hm3, hb3⟩
        case measure => simp [intOf]; try omega
      · have HZ := Lib.hid (show byAt s 1 = (s : Int) / 256 % 256 by simp only [byAt]; omega)
        go_wp2_with (at_builtin; refine wpList_append_mn _ rfl _ _ _ rfl w.heap.size 5 _ 1 1 Try.underlying43 info5 rfl (by omega) (.slice A1 l c1) l (nums .u8 (bs ++ beTo s (1 + 1))) rfl (hm1.alloc _) _ 1 1 (nums .u8 [(s : Int) / 256 % 256]) rfl rv_one (nums_one _ _) (by omega) (by omega) (by simp; have := hb1.size; omega) ?_; intro A3 c3 w3 hc3 hm3 hg3 hat3; have hb3 : Below w.heap.size w w3 := (hb1.alloc hb1.size _).grown hg3 (by simp; have := hb1.size; omega) (fun q hq => (hm1.block hq).1); clear hg3 hat3 hm1 hb1)
        go_roundw
        case rel => exact ⟨1, l + 1, A3, c3, by omega, by first | rfl | (congr 1; omega), rfl, hc3, by have := HL.out; omega, Lib.hid (by have := HL.out; omega), by rw [HST.out, HZ.out, ← List.append_assoc, nums_append]; exact hm3, hb3⟩
        case measure => simp [intOf]; try omega
      · have HZ := Lib.hid (show byAt s 2 = (s : Int) / 65536 % 256 by simp only [byAt]; omega)
        go_wp2_with (at_builtin; refine wpList_append_mn _ rfl _ _ _ rfl w.heap.size 5 _ 1 1 Try.underlying43 info5 rfl (by omega) (.slice A1 l c1) l (nums .u8 (bs ++ beTo s (2 + 1))) rfl (hm1.alloc _) _ 1 1 (nums .u8 [(s : Int) / 65536 % 256]) rfl rv_one (nums_one _ _) (by omega) (by omega) (by simp; have := hb1.size; omega) ?_; intro A3 c3 w3 hc3 hm3 hg3 hat3; have hb3 : Below w.heap.size w w3 := (hb1.alloc hb1.size _).grown hg3 (by simp; have := hb1.size; omega) (fun q hq => (hm1.block hq).1); clear hg3 hat3 hm1 hb1)
        go_roundw
        case rel => exact ⟨2, l + 1, A3, c3, by omega, by first | rfl | (congr 1; omega), rfl, hc3, by have := HL.out; omega, Lib.hid (by have := HL.out; omega), by rw [HST.out, HZ.out, ← List.append_assoc, nums_append]; exact hm3, hb3⟩
        case measure => simp [intOf]; try omega
      · have HZ := Lib.hid (show byAt s 3 = (s : Int) / 16777216 by simp only [byAt]; omega)
        go_wp2_with (at_builtin; refine wpList_append_mn _ rfl _ _ _ rfl w.heap.size 5 _ 1 1 Try.underlying43 info5 rfl (by omega) (.slice A1 l c1) l (nums .u8 (bs ++ beTo s (3 + 1))) rfl (hm1.alloc _) _ 1 1 (nums .u8 [(s : Int) / 16777216]) rfl rv_one (nums_one _ _) (by omega) (by omega) (by simp; have := hb1.size; omega) ?_; intro A3 c3 w3 hc3 hm3 hg3 hat3; have hb3 : Below w.heap.size w w3 := (hb1.alloc hb1.size _).grown hg3 (by simp; have := hb1.size; omega) (fun q hq => (hm1.block hq).1); clear hg3 hat3 hm1 hb1)
        go_roundw
        case rel => exact ⟨3, l + 1, A3, c3, by omega, by first | rfl | (congr 1; omega), rfl, hc3, by have := HL.out; omega, Lib.hid (by have := HL.out; omega), by rw [HST.out, HZ.out, ← List.append_assoc, nums_append]; exact hm3, hb3⟩
        case measure => simp [intOf]; try omega
end Go.Proofs.Ytnmhhjgiakijgaa

/- The reference's bytes of a frame: their contract. -/
namespace Go.Proofs.Ytnmhhjgiakijgaa
open Go.RowKit
set_option linter.unusedVariables false

/-- the first two bytes of a frame -/
def frH (o : Int) (k s : Nat) : List Int := [16 * (k : Int) + o, (s : Int)]
/-- the ten bytes ahead of the sum -/
def frB (o : Int) (k s q v : Nat) : List Int := frH o k s ++ beTo q 0 ++ beTo v 0
theorem beTo_ok (s j : Nat) : bytesOk (beTo s j) := by
  have h : ∀ k, 0 ≤ byAt s k ∧ byAt s k ≤ 255 := fun k => by unfold byAt; omega
  intro x hx
  match j, hx with
  | 0, hx => simp only [beTo, List.mem_cons, List.not_mem_nil, or_false] at hx; rcases hx with rfl | rfl | rfl | rfl <;> exact h _
  | 1, hx => simp only [beTo, List.mem_cons, List.not_mem_nil, or_false] at hx; rcases hx with rfl | rfl | rfl <;> exact h _
  | 2, hx => simp only [beTo, List.mem_cons, List.not_mem_nil, or_false] at hx; rcases hx with rfl | rfl <;> exact h _
  | 3, hx => simp only [beTo, List.mem_cons, List.not_mem_nil, or_false] at hx; rcases hx with rfl; exact h _
  | _ + 4, hx => cases hx
theorem bytesOk_append {a b : List Int} (ha : bytesOk a) (hb : bytesOk b) : bytesOk (a ++ b) := fun x hx => (List.mem_append.1 hx).elim (ha x) (hb x)
theorem frB_ok (o : Int) (k s q v : Nat) (hm : mayB o k = true) (hs : s ≤ 255) : bytesOk (frB o k s q v) := by
  obtain ⟨h1, h2, h3⟩ := mayB_true hm
  refine bytesOk_append (bytesOk_append ?_ (beTo_ok _ _)) (beTo_ok _ _)
  intro x hx
  simp only [frH, List.mem_cons, List.not_mem_nil, or_false] at hx
  rcases hx with rfl | rfl
  · rcases h3 with rfl | rfl <;> omega
  · omega
theorem frB_length (o : Int) (k s q v : Nat) : (frB o k s q v).length = 10 := rfl
/-- the bytes of a frame, or none -/
def frP (o : Int) (k s q v : Nat) : List Int := if mayB o k = true then putS (frB o k s q v) else []
/-- the number of the error: none, or of an argument -/
def errP (o : Int) (k : Nat) : Int := if mayB o k = true then 0 else 1

/-- what 'Put' answers, in the reference -/
def RefPutPost (o : Int) (k s q v : Nat) (w : World) (e : Ending) (w' : World) : Prop :=
  ∃ A c, e = .returned (.tuple #[.slice A (frP o k s q v).length c, .int .i64 (errP o k)]) ∧ (frP o k s q v).length ≤ c ∧ Mn w' w.heap.size 5 1 (.slice A (frP o k s q v).length c) (frP o k s q v).length (nums .u8 (frP o k s q v)) ∧ Below w.heap.size w w'

set_option maxHeartbeats 3200000 in
set_option maxRecDepth 20000 in
theorem refput5_calls (o : Int) (k s q v : Nat) (w : World) (hs : s ≤ 255) (hq : q < 4294967296) (hv : v < 4294967296) :
    Calls Try.prog 59 #[.agg #[.int .i64 o, .int .u8 k, .int .u8 s, .int .u32 q, .int .u32 v]] w (RefPutPost o k s q v w) := by
  cases hm : mayB o k with
  | false =>
    have HM := Lib.hid hm
    have HE := Lib.hid (show frP o k s q v = [] ∧ errP o k = 1 by simp [frP, errP, hm])
    clear hm
    go_enter Try.func59, Try.ntmps59
    go_wp2_with fail
    refine (refmay_calls o k s q v _).mono ?_; rintro e w1 ⟨rfl, hb1⟩
    rewrite [HM.out]
    go_wp2
    go_ret2
    refine ⟨none, 0, ?_, ?_, ?_, (by repeat (first | exact Below.refl _ _ | apply Bw.alloc | apply Bw.drewN | apply Bw.drew | (refine Bw.step ?_ (by assumption))))⟩ <;> rw [HE.out.1] <;> first | exact Nat.le_refl _ | exact Mn.nil _ _ _ _ | (rw [HE.out.2]; rfl)
  | true =>
    have HM := Lib.hid hm
    have HE := Lib.hid (show frP o k s q v = putS (frB o k s q v) ∧ errP o k = 0 by simp [frP, errP, hm])
    have HOK := Lib.hid (frB_ok o k s q v hm hs)
    obtain ⟨h1, h2, h3⟩ := mayB_true hm
    obtain ⟨a, ha⟩ : ∃ a : Int, a = 16 * (k : Int) + o := ⟨_, rfl⟩
    have HA := Lib.hid ha
    have ha1 : 0 ≤ a ∧ a ≤ 39 := by rcases h3 with rfl | rfl <;> omega
    have hk2 : k ≤ 2 := by omega
    have HA1 := Lib.hid ha1
    clear hm h3 ha ha1
    go_enter Try.func59, Try.ntmps59
    go_wp2_with fail
    refine (refmay_calls o k s q v _).mono ?_; rintro e W ⟨rfl, hbW⟩
    rewrite [HM.out]
    have hKq : W.cell? ⟨w.heap.size, 3, none⟩ = some (.int .u32 q) := by rw [hbW.cell (p := ⟨w.heap.size, 3, none⟩) (by simp)]; simp [go_sem]
    have hKv : W.cell? ⟨w.heap.size, 4, none⟩ = some (.int .u32 v) := by rw [hbW.cell (p := ⟨w.heap.size, 4, none⟩) (by simp)]; simp [go_sem]
    have hKk : W.cell? ⟨w.heap.size, 1, none⟩ = some (.int .u8 k) := by rw [hbW.cell (p := ⟨w.heap.size, 1, none⟩) (by simp)]; simp [go_sem]
    have hKo : W.cell? ⟨w.heap.size, 0, none⟩ = some (.int .i64 o) := by rw [hbW.cell (p := ⟨w.heap.size, 0, none⟩) (by simp)]; simp [go_sem]
    have hKs : W.cell? ⟨w.heap.size, 2, none⟩ = some (.int .u8 s) := by rw [hbW.cell (p := ⟨w.heap.size, 2, none⟩) (by simp)]; simp [go_sem]
    have hlt : w.heap.size < W.heap.size := by have := hbW.size; simp at this; omega
    have HK : Hid (∀ w', Below W.heap.size W w' → w'.cell? ⟨w.heap.size, 3, none⟩ = some (.int .u32 q) ∧ w'.cell? ⟨w.heap.size, 4, none⟩ = some (.int .u32 v)) := fun w' h => ⟨(h.cell (p := ⟨w.heap.size, 3, none⟩) hlt).trans hKq, (h.cell (p := ⟨w.heap.size, 4, none⟩) hlt).trans hKv⟩
    have HBW : Hid (Below w.heap.size w W) := (by repeat (first | exact Below.refl _ _ | apply Bw.alloc | apply Bw.drewN | apply Bw.drew | (refine Bw.step ?_ (by assumption))))
    clear hKq hKv hbW
    go_wp2
    have hm0 : Mn (W.alloc (.cells #[.int .u8 (16 * (k : Int) + o), .int .u8 s] 5)) W.heap.size 5 1 (.slice (some ⟨W.heap.size, 0, none⟩) 2 2) 2 (nums .u8 (frH o k s ++ beTo q 4)) := rd2_mn (w := W) (Nat.le_refl _) rfl
    have hb0 : Below W.heap.size W (W.alloc (.cells #[.int .u8 (16 * (k : Int) + o), .int .u8 s] 5)) := (by repeat (first | exact Below.refl _ _ | apply Bw.alloc | apply Bw.drewN | apply Bw.drew | (refine Bw.step ?_ (by assumption))))
    clear hKk hKo hKs hlt
    go_loopw [4, 5] (fun lu lv w' => ∃ (j l : Nat) (A' : Option Addr) (c' : Nat), j ≤ 4 ∧ lv = .int .i64 ((j : Int) - 1) ∧ lu = .slice A' l c' ∧ l ≤ c' ∧ l ≤ 6000 ∧ Hid (l + j = 2 + 4) ∧ Mn w' W.heap.size 5 1 (.slice A' l c') l (nums .u8 (frH o k s ++ beTo q j)) ∧ Below W.heap.size W w') (fun _ lv _ => (intOf lv + 1).toNat)
    case atStart => exact ⟨4, 2, _, 2, Nat.le_refl _, rfl, rfl, Nat.le_refl _, by omega, Lib.hid rfl, hm0, hb0⟩
    case round =>
      clear hm0 hb0
      obtain ⟨j, l, A1, c1, hj, rfl, rfl, hlc, hl6, HL, hm1, hb1⟩ := hrel
      by_cases hj0 : j = 0
      · subst hj0
        have hl : l = 6 := HL.out
        subst hl
        go_wp2
        go_loopw [4, 6] (fun lu lv w' => ∃ (j l : Nat) (A' : Option Addr) (c' : Nat), j ≤ 4 ∧ lv = .int .i64 ((j : Int) - 1) ∧ lu = .slice A' l c' ∧ l ≤ c' ∧ l ≤ 6000 ∧ Hid (l + j = 6 + 4) ∧ Mn w' W.heap.size 5 1 (.slice A' l c') l (nums .u8 ((frH o k s ++ beTo q 0) ++ beTo v j)) ∧ Below W.heap.size W w') (fun _ lv _ => (intOf lv + 1).toNat)
        case atStart => exact ⟨4, 6, A1, c1, Nat.le_refl _, rfl, rfl, hlc, by omega, Lib.hid rfl, by rw [show beTo v 4 = [] from rfl, List.append_nil]; exact hm1, hb1⟩
        case round =>
          clear hm1 hb1 hlc hl6 HL hj
          obtain ⟨j, l, A1, c1, hj, rfl, rfl, hlc, hl6, HL, hm1, hb1⟩ := hrel
          by_cases hj0 : j = 0
          · subst hj0
            have hl : l = 10 := HL.out
            subst hl
            go_wp2_with fail
            refine (refput2_calls A1 10 c1 (frB o k s q v) _ hm1.rd hlc (by omega) HOK.out).mono ?_; rintro e w5 ⟨A5, c5, rfl, hc5, hm5, hb5⟩
            go_wp2
            go_ret2
            refine ⟨A5, c5, ?_, ?_, ?_, (by repeat (first | exact Below.refl _ _ | apply Bw.alloc | apply Bw.drewN | apply Bw.drew | (refine Bw.step ?_ (by assumption))))⟩
            · rw [HE.out.1, HE.out.2, putS_length, frB_length]; rfl
            · rw [HE.out.1, putS_length, frB_length]; exact hc5
            · rw [HE.out.1, putS_length, frB_length]; exact hm5.mono (by have := HBW.out.size; have := hb1.size; omega)
          · obtain ⟨k, rfl⟩ : ∃ k, j = k + 1 := ⟨j - 1, by omega⟩
            have eL : (((k + 1 : Nat) : Int) - 1) = (k : Int) := by omega
            rw [eL]
            clear eL hj0
            have HST := Lib.hid (beTo_step v k (by omega))
            have hcv := (HK.out _ hb1).2
            have hk : k = 0 ∨ k = 1 ∨ k = 2 ∨ k = 3 := by omega
            rcases hk with rfl | rfl | rfl | rfl
            · have HZ := Lib.hid (show byAt v 0 = (v : Int) % 256 by simp only [byAt]; omega)
              go_wp2_with (at_builtin; refine wpList_append_mn _ rfl _ _ _ rfl W.heap.size 5 _ 1 1 Try.underlying43 info5 rfl (by omega) (.slice A1 l c1) l (nums .u8 ((frH o k s ++ beTo q 0) ++ beTo v (0 + 1))) rfl (hm1.alloc _) _ 1 1 (nums .u8 [(v : Int) % 256]) rfl rv_one (nums_one _ _) (by omega) (by omega) (by simp; have := hb1.size; omega) ?_; intro A3 c3 w3 hc3 hm3 hg3 hat3; have hb3 : Below W.heap.size W w3 := (hb1.alloc hb1.size _).grown hg3 (by simp; have := hb1.size; omega) (fun q hq => (hm1.block hq).1); clear hg3 hat3 hm1 hb1)
              go_roundw
              case rel => exact ⟨0, l + 1, A3, c3, by omega, by first | rfl | (congr 1; omega), rfl, hc3, by have := HL.out; omega, Lib.hid (by have := HL.out; omega), by rw [HST.out, HZ.out, ← List.append_assoc, nums_append]; exact hm3, hb3⟩
              case measure => simp [intOf]; try omega
            · have HZ := Lib.hid (show byAt v 1 = (v : Int) / 256 % 256 by simp only [byAt]; omega)
              go_wp2_with (at_builtin; refine wpList_append_mn _ rfl _ _ _ rfl W.heap.size 5 _ 1 1 Try.underlying43 info5 rfl (by omega) (.slice A1 l c1) l (nums .u8 ((frH o k s ++ beTo q 0) ++ beTo v (1 + 1))) rfl (hm1.alloc _) _ 1 1 (nums .u8 [(v : Int) / 256 % 256]) rfl rv_one (nums_one _ _) (by omega) (by omega) (by simp; have := hb1.size; omega) ?_; intro A3 c3 w3 hc3 hm3 hg3 hat3; have hb3 : Below W.heap.size W w3 := (hb1.alloc hb1.size _).grown hg3 (by simp; have := hb1.size; omega) (fun q hq => (hm1.block hq).1); clear hg3 hat3 hm1 hb1)
              go_roundw
              case rel => exact ⟨1, l + 1, A3, c3, by omega, by first | rfl | (congr 1; omega), rfl, hc3, by have := HL.out; omega, Lib.hid (by have := HL.out; omega), by rw [HST.out, HZ.out, ← List.append_assoc, nums_append]; exact hm3, hb3⟩
              case measure => simp [intOf]; try omega
            · have HZ := Lib.hid (show byAt v 2 = (v : Int) / 65536 % 256 by simp only [byAt]; omega)
              go_wp2_with (at_builtin; refine wpList_append_mn _ rfl _ _ _ rfl W.heap.size 5 _ 1 1 Try.underlying43 info5 rfl (by omega) (.slice A1 l c1) l (nums .u8 ((frH o k s ++ beTo q 0) ++ beTo v (2 + 1))) rfl (hm1.alloc _) _ 1 1 (nums .u8 [(v : Int) / 65536 % 256]) rfl rv_one (nums_one _ _) (by omega) (by omega) (by simp; have := hb1.size; omega) ?_; intro A3 c3 w3 hc3 hm3 hg3 hat3; have hb3 : Below W.heap.size W w3 := (hb1.alloc hb1.size _).grown hg3 (by simp; have := hb1.size; omega) (fun q hq => (hm1.block hq).1); clear hg3 hat3 hm1 hb1)
              go_roundw
              case rel => exact ⟨2, l + 1, A3, c3, by omega, by first | rfl | (congr 1; omega), rfl, hc3, by have := HL.out; omega, Lib.hid (by have := HL.out; omega), by rw [HST.out, HZ.out, ← List.append_assoc, nums_append]; exact hm3, hb3⟩
              case measure => simp [intOf]; try omega
            · have HZ := Lib.hid (show byAt v 3 = (v : Int) / 16777216 by simp only [byAt]; omega)
              go_wp2_with (at_builtin; refine wpList_append_mn _ rfl _ _ _ rfl W.heap.size 5 _ 1 1 Try.underlying43 info5 rfl (by omega) (.slice A1 l c1) l (nums .u8 ((frH o k s ++ beTo q 0) ++ beTo v (3 + 1))) rfl (hm1.alloc _) _ 1 1 (nums .u8 [(v : Int) / 16777216]) rfl rv_one (nums_one _ _) (by omega) (by omega) (by simp; have := hb1.size; omega) ?_; intro A3 c3 w3 hc3 hm3 hg3 hat3; have hb3 : Below W.heap.size W w3 := (hb1.alloc hb1.size _).grown hg3 (by simp; have := hb1.size; omega) (fun q hq => (hm1.block hq).1); clear hg3 hat3 hm1 hb1)
              go_roundw
              case rel => exact ⟨3, l + 1, A3, c3, by omega, by first | rfl | (congr 1; omega), rfl, hc3, by have := HL.out; omega, Lib.hid (by have := HL.out; omega), by rw [HST.out, HZ.out, ← List.append_assoc, nums_append]; exact hm3, hb3⟩
              case measure => simp [intOf]; try omega
      · obtain ⟨k, rfl⟩ : ∃ k, j = k + 1 := ⟨j - 1, by omega⟩
        have eL : (((k + 1 : Nat) : Int) - 1) = (k : Int) := by omega
        rw [eL]
        clear eL hj0
        have HST := Lib.hid (beTo_step q k (by omega))
        have hcq := (HK.out _ hb1).1
        have hk : k = 0 ∨ k = 1 ∨ k = 2 ∨ k = 3 := by omega
        rcases hk with rfl | rfl | rfl | rfl
        · have HZ := Lib.hid (show byAt q 0 = (q : Int) % 256 by simp only [byAt]; omega)
          go_wp2_with (at_builtin; refine wpList_append_mn _ rfl _ _ _ rfl W.heap.size 5 _ 1 1 Try.underlying43 info5 rfl (by omega) (.slice A1 l c1) l (nums .u8 (frH o k s ++ beTo q (0 + 1))) rfl (hm1.alloc _) _ 1 1 (nums .u8 [(q : Int) % 256]) rfl rv_one (nums_one _ _) (by omega) (by omega) (by simp; have := hb1.size; omega) ?_; intro A3 c3 w3 hc3 hm3 hg3 hat3; have hb3 : Below W.heap.size W w3 := (hb1.alloc hb1.size _).grown hg3 (by simp; have := hb1.size; omega) (fun q hq => (hm1.block hq).1); clear hg3 hat3 hm1 hb1)
          go_roundw
          case rel => exact ⟨0, l + 1, A3, c3, by omega, by first | rfl | (congr 1; omega), rfl, hc3, by have := HL.out; omega, Lib.hid (by have := HL.out; omega), by rw [HST.out, HZ.out, ← List.append_assoc, nums_append]; exact hm3, hb3⟩
          case measure => simp [intOf]; try omega
        · have HZ := Lib.hid (show byAt q 1 = (q : Int) / 256 % 256 by simp only [byAt]; omega)
          go_wp2_with (at_builtin; refine wpList_append_mn _ rfl _ _ _ rfl W.heap.size 5 _ 1 1 Try.underlying43 info5 rfl (by omega) (.slice A1 l c1) l (nums .u8 (frH o k s ++ beTo q (1 + 1))) rfl (hm1.alloc _) _ 1 1 (nums .u8 [(q : Int) / 256 % 256]) rfl rv_one (nums_one _ _) (by omega) (by omega) (by simp; have := hb1.size; omega) ?_; intro A3 c3 w3 hc3 hm3 hg3 hat3; have hb3 : Below W.heap.size W w3 := (hb1.alloc hb1.size _).grown hg3 (by simp; have := hb1.size; omega) (fun q hq => (hm1.block hq).1); clear hg3 hat3 hm1 hb1)
          go_roundw
          case rel => exact ⟨1, l + 1, A3, c3, by omega, by first | rfl | (congr 1; omega), rfl, hc3, by have := HL.out; omega, Lib.hid (by have := HL.out; omega), by rw [HST.out, HZ.out, ← List.append_assoc, nums_append]; exact hm3, hb3⟩
          case measure => simp [intOf]; try omega
        · have HZ := Lib.hid (show byAt q 2 = (q : Int) / 65536 % 256 by simp only [byAt]; omega)
          go_wp2_with (at_builtin; refine wpList_append_mn _ rfl _ _ _ rfl W.heap.size 5 _ 1 1 Try.underlying43 info5 rfl (by omega) (.slice A1 l c1) l (nums .u8 (frH o k s ++ beTo q (2 + 1))) rfl (hm1.alloc _) _ 1 1 (nums .u8 [(q : Int) / 65536 % 256]) rfl rv_one (nums_one _ _) (by omega) (by omega) (by simp; have := hb1.size; omega) ?_; intro A3 c3 w3 hc3 hm3 hg3 hat3; have hb3 : Below W.heap.size W w3 := (hb1.alloc hb1.size _).grown hg3 (by simp; have := hb1.size; omega) (fun q hq => (hm1.block hq).1); clear hg3 hat3 hm1 hb1)
          go_roundw
          case rel => exact ⟨2, l + 1, A3, c3, by omega, by first | rfl | (congr 1; omega), rfl, hc3, by have := HL.out; omega, Lib.hid (by have := HL.out; omega), by rw [HST.out, HZ.out, ← List.append_assoc, nums_append]; exact hm3, hb3⟩
          case measure => simp [intOf]; try omega
        · have HZ := Lib.hid (show byAt q 3 = (q : Int) / 16777216 by simp only [byAt]; omega)
          go_wp2_with (at_builtin; refine wpList_append_mn _ rfl _ _ _ rfl W.heap.size 5 _ 1 1 Try.underlying43 info5 rfl (by omega) (.slice A1 l c1) l (nums .u8 (frH o k s ++ beTo q (3 + 1))) rfl (hm1.alloc _) _ 1 1 (nums .u8 [(q : Int) / 16777216]) rfl rv_one (nums_one _ _) (by omega) (by omega) (by simp; have := hb1.size; omega) ?_; intro A3 c3 w3 hc3 hm3 hg3 hat3; have hb3 : Below W.heap.size W w3 := (hb1.alloc hb1.size _).grown hg3 (by simp; have := hb1.size; omega) (fun q hq => (hm1.block hq).1); clear hg3 hat3 hm1 hb1)
          go_roundw
          case rel => exact ⟨3, l + 1, A3, c3, by omega, by first | rfl | (congr 1; omega), rfl, hc3, by have := HL.out; omega, Lib.hid (by have := HL.out; omega), by rw [HST.out, HZ.out, ← List.append_assoc, nums_append]; exact hm3, hb3⟩
          case measure => simp [intOf]; try omega
end Go.Proofs.Ytnmhhjgiakijgaa

/- The bytes of a frame: their contract. -/
namespace Go.Proofs.Ytnmhhjgiakijgaa
open Go.RowKit
set_option linter.unusedVariables false

/-- what 'Put' answers -/
def PutPost (o : Int) (k s q v : Nat) (w : World) (e : Ending) (w' : World) : Prop :=
  ∃ A, e = .returned (.tuple #[.slice A (frP o k s q v).length (frP o k s q v).length, .int .i64 (errP o k)]) ∧ Mn w' w.heap.size 5 1 (.slice A (frP o k s q v).length (frP o k s q v).length) (frP o k s q v).length (nums .u8 (frP o k s q v)) ∧ Below w.heap.size w w'

theorem be4_beTo (s : Nat) : be4 s = beTo s 0 := be4_at s
theorem frB_flat (o : Int) (k s q v : Nat) : [frH o k s, be4 q, be4 v].flatten = frB o k s q v := by
  simp [frB, be4_beTo]

set_option maxHeartbeats 6400000 in
set_option maxRecDepth 20000 in
theorem put5_calls (o : Int) (k s q v : Nat) (w : World) (hs : s ≤ 255) (hq : q < 4294967296) (hv : v < 4294967296) :
    Calls Try.prog 57 #[.agg #[.int .i64 o, .int .u8 k, .int .u8 s, .int .u32 q, .int .u32 v]] w (PutPost o k s q v w) := by
  cases hm : mayB o k with
  | false =>
    have HM := Lib.hid hm
    have HE := Lib.hid (show frP o k s q v = [] ∧ errP o k = 1 by simp [frP, errP, hm])
    clear hm
    go_enter Try.func57, Try.ntmps57
    go_wp2_with fail
    refine (may_calls o k s q v _).mono ?_; rintro e w1 ⟨rfl, hb1⟩
    rewrite [HM.out]
    go_wp2
    go_ret2
    refine ⟨none, ?_, ?_, (by repeat (first | exact Below.refl _ _ | apply Bw.alloc | apply Bw.drewN | apply Bw.drew | (refine Bw.step ?_ (by assumption))))⟩ <;> rw [HE.out.1] <;> first | exact Mn.nil _ _ _ _ | (rw [HE.out.2]; rfl)
  | true =>
    have HM := Lib.hid hm
    have HE := Lib.hid (show frP o k s q v = putS (frB o k s q v) ∧ errP o k = 0 by simp [frP, errP, hm])
    have HOK := Lib.hid (frB_ok o k s q v hm hs)
    have HFL := Lib.hid (frB_flat o k s q v)
    obtain ⟨h1, h2, h3⟩ := mayB_true hm
    have hk2 : k ≤ 2 := by omega
    have HH := Lib.hid (show bytesOk (frH o k s) from by
      intro x hx
      simp only [frH, List.mem_cons, List.not_mem_nil, or_false] at hx
      rcases hx with rfl | rfl <;> omega)
    clear hm h3
    go_enter Try.func57, Try.ntmps57
    go_wp2_with fail
    refine (may_calls o k s q v _).mono ?_; rintro e W ⟨rfl, hbW⟩
    rewrite [HM.out]
    have hKq : W.cell? ⟨w.heap.size, 3, none⟩ = some (.int .u32 q) := by rw [hbW.cell (p := ⟨w.heap.size, 3, none⟩) (by simp)]; simp [go_sem]
    have hKv : W.cell? ⟨w.heap.size, 4, none⟩ = some (.int .u32 v) := by rw [hbW.cell (p := ⟨w.heap.size, 4, none⟩) (by simp)]; simp [go_sem]
    have hKk : W.cell? ⟨w.heap.size, 1, none⟩ = some (.int .u8 k) := by rw [hbW.cell (p := ⟨w.heap.size, 1, none⟩) (by simp)]; simp [go_sem]
    have hKo : W.cell? ⟨w.heap.size, 0, none⟩ = some (.int .i64 o) := by rw [hbW.cell (p := ⟨w.heap.size, 0, none⟩) (by simp)]; simp [go_sem]
    have hKs : W.cell? ⟨w.heap.size, 2, none⟩ = some (.int .u8 s) := by rw [hbW.cell (p := ⟨w.heap.size, 2, none⟩) (by simp)]; simp [go_sem]
    have hlt : w.heap.size < W.heap.size := by have := hbW.size; simp at this; omega
    have HK : Hid (∀ w', Below W.heap.size W w' → w'.cell? ⟨w.heap.size, 0, none⟩ = some (.int .i64 o) ∧ w'.cell? ⟨w.heap.size, 1, none⟩ = some (.int .u8 k) ∧ w'.cell? ⟨w.heap.size, 2, none⟩ = some (.int .u8 s) ∧ w'.cell? ⟨w.heap.size, 3, none⟩ = some (.int .u32 q) ∧ w'.cell? ⟨w.heap.size, 4, none⟩ = some (.int .u32 v)) := fun w' h =>
      ⟨(h.cell (p := ⟨w.heap.size, 0, none⟩) hlt).trans hKo, (h.cell (p := ⟨w.heap.size, 1, none⟩) hlt).trans hKk, (h.cell (p := ⟨w.heap.size, 2, none⟩) hlt).trans hKs, (h.cell (p := ⟨w.heap.size, 3, none⟩) hlt).trans hKq, (h.cell (p := ⟨w.heap.size, 4, none⟩) hlt).trans hKv⟩
    have HBW : Below w.heap.size w W := (by repeat (first | exact Below.refl _ _ | apply Bw.alloc | apply Bw.drewN | apply Bw.drew | (refine Bw.step ?_ (by assumption))))
    have HFQ := Lib.hid (fun w => four_calls q w hq)
    have HFV := Lib.hid (fun w => four_calls v w hv)
    clear hKq hKv hKk hKo hKs hbW hlt
    have hw1 : IntKind.i64.wrap (k : Int) = k := IntWalk.i64_in _ (by omega)
    have hw2 : IntKind.i64.wrap (16 * (k : Int)) = 16 * (k : Int) := IntWalk.i64_in _ (by omega)
    have hw3 : IntKind.i64.wrap (16 * (k : Int) + o) = 16 * (k : Int) + o := IntWalk.i64_in _ (by omega)
    have hw4 : IntKind.u8.wrap (16 * (k : Int) + o) = 16 * (k : Int) + o := by rw [show IntKind.u8.wrap (16 * (k : Int) + o) = (16 * (k : Int) + o) % 256 from rfl]; omega
    go_wp2_with fail
    go_region_held3 (fun w' => w'.cell? ⟨w.heap.size, 0, none⟩ = some (.int .i64 o) ∧ w'.cell? ⟨w.heap.size, 1, none⟩ = some (.int .u8 k) ∧ w'.cell? ⟨w.heap.size, 2, none⟩ = some (.int .u8 s) ∧ w'.cell? ⟨w.heap.size, 3, none⟩ = some (.int .u32 q) ∧ w'.cell? ⟨w.heap.size, 4, none⟩ = some (.int .u32 v)) (first | assumption | exact HK.out _ (by repeat (first | exact Below.refl _ _ | apply Bw.alloc | apply Bw.drewN | apply Bw.drew | (refine Bw.step ?_ (by assumption)))))
      (first
        | (go_at_call 120; (with_reducible refine (HFQ.out _).mono ?_); rintro e w8 ⟨A8, rfl, hm8, hb8⟩)
        | (go_at_call 120; (with_reducible refine (HFV.out _).mono ?_); rintro e w9 ⟨A9, rfl, hm9, hb9⟩)
        | (go_at_call 119
           refine (sumput_calls _ 3 3 [frH o k s, be4 q, be4 v] _ (Parts.lit (by simp) [(_, frH o k s), (_, be4 q), (_, be4 v)] (by
             intro r hr
             rcases List.mem_cons.1 hr with rfl | hr
             · exact ⟨_, 2, 2, rfl, by omega, by omega, (by first | exact rd_cells rfl (frH o k s) | exact (rd_cells (w := W) rfl (frH o k s)).below (by repeat (first | exact Below.refl _ _ | apply Bw.alloc | apply Bw.drewN | apply Bw.drew | (refine Bw.step ?_ (by assumption)))) | exact (rd_cells (w := w8) rfl (frH o k s)).below (by repeat (first | exact Below.refl _ _ | apply Bw.alloc | apply Bw.drewN | apply Bw.drew | (refine Bw.step ?_ (by assumption))))), HH.out⟩
             rcases List.mem_cons.1 hr with rfl | hr
             · exact ⟨_, 4, 4, rfl, by omega, by omega, hm8.rd.below (by repeat (first | exact Below.refl _ _ | apply Bw.alloc | apply Bw.drewN | apply Bw.drew | (refine Bw.step ?_ (by assumption)))), be4_ok q⟩
             rcases List.mem_cons.1 hr with rfl | hr
             · exact ⟨_, 4, 4, rfl, by omega, by omega, hm9.rd.below (by repeat (first | exact Below.refl _ _ | apply Bw.alloc | apply Bw.drewN | apply Bw.drew | (refine Bw.step ?_ (by assumption)))), be4_ok v⟩
             cases hr)) (by omega) (by omega) (by rw [HFL.out, frB_length]; omega) (by rw [HFL.out]; exact HOK.out)).mono ?_
           rintro e w10 ⟨A10, m10, rfl, hl10, hm10, hb10⟩
           rw [HFL.out, ← HE.out.1] at hl10 hm10
           subst hl10
           have hm11 := hm10.mono (Below.size (show Below w.heap.size w _ from (by repeat (first | exact Below.refl _ _ | apply Bw.alloc | apply Bw.drewN | apply Bw.drew | (refine Bw.step ?_ (by assumption))))))
           clear hm10))
    all_goals
      go_wp2
      go_ret2
      exact ⟨A10, by rw [HE.out.2]; rfl, hm11, (by repeat (first | exact Below.refl _ _ | apply Bw.alloc | apply Bw.drewN | apply Bw.drew | (refine Bw.step ?_ (by assumption))))⟩
end Go.Proofs.Ytnmhhjgiakijgaa

/- The symbols of a frame: their contracts; layer 5's examples. -/
namespace Go.Proofs.Ytnmhhjgiakijgaa
open Go.RowKit
set_option linter.unusedVariables false

/-- append onto a row of one's own, in a region that draws its order -/
theorem step_append_mn {P : Program} {w : World} {ops : Array Oper} {o : Oper} {a : Act} {K : Act → World → Prop} {Q : Exit → Act → World → Prop} {E : Prop} (hgd : o.guard = none) (s x : Operand) (t : TypeId)
    (ho : o.op = .call { callee := .builtin .append, args := #[s, x], argTypes := #[t, t] })
    (B : Nat) (e : TypeId) (z : Value) (size bytes : Nat) (ht : P.underlying t = some (.slice e)) (hinfo : (P.info? e).map (fun i => (i.zero, i.size, i.bytes)) = some (some z, size, bytes))
    (hzs : z.cells.size = size) (hsz : 0 < size)
    (v : Value) (n : Nat) (xs : List Value) (hs : a.eval s = v) (hown : Mn w B e size v n xs)
    (A : Option Addr) (m c : Nat) (news : List Value) (hx : a.eval x = .slice A m c) (hr : Rv w A (m * size) news) (h1 : ∀ u ∈ news, u.oneCell' = true)
    (hbytes : (n + m) * bytes ≤ 140737488355328) (hn : n + m ≤ 140737488355328) (hbase : B ≤ w.heap.size)
    (h : ∀ A' cap' w', n + m ≤ cap' → Mn w' B e size (.slice A' (n + m) cap') (n + m) (xs ++ news) → w.grownBy w' v.ownBlock → (A'.map (·.block) = v.ownBlock ∨ A'.map (·.block) = some w.heap.size) → K (a.put o.dst (.slice A' (n + m) cap')) w') :
    if Region.wanted o (yielded ops a.tmps) = true then Oper.wp P o a w K Q else E := by
  have hw : Region.wanted o (yielded ops a.tmps) = true := by simp [Region.wanted, hgd]
  rw [if_pos hw]
  obtain ⟨i0, hi, hz, hi1, hi2⟩ := info_parts hinfo
  obtain ⟨v', w', hrun, h2, h3, h4⟩ := run_append_mn (P := P) w B t o.type e i0 z size bytes ht hi hz hi1 hi2 hzs hsz v n xs hown A m c news hr h1 hbytes hn hbase
  obtain ⟨A', cap', rfl, hcap⟩ := h2.form
  unfold Oper.wp execOp
  simp only [ho, resolve, invoke, builtin, Sem.run_bind, Sem.run_pure, Result.andThen_ok, List.map_toArray, List.map_cons, List.map_nil, hs, hx, hrun]
  refine h A' cap' w' hcap h2 h3 ?_
  cases A' <;> simpa [Value.ownBlock] using h4

/-- the symbols of a frame with a tail, or none -/
def syP (o : Int) (k s q v : Nat) (a b : Bool) : List Int := if mayB o k = true then ofL (frP o k s q v) ++ tailL a b else []
theorem frP_length (o : Int) (k s q v : Nat) (h : mayB o k = true) : (frP o k s q v).length = 14 := by
  unfold frP; rw [if_pos h, putS_length, frB_length]
theorem frP_ok (o : Int) (k s q v : Nat) (hs : s ≤ 255) : bytesOk (frP o k s q v) := by
  unfold frP
  split
  · exact putS_ok (frB_ok _ _ _ _ _ (by assumption) hs)
  · intro x hx; cases hx
theorem syP_length (o : Int) (k s q v : Nat) (a b : Bool) (h : mayB o k = true) : (syP o k s q v a b).length = 114 := by
  unfold syP; rw [if_pos h, List.length_append, ofL_length, frP_length _ _ _ _ _ h]; rfl
theorem ofL_ok (bs : List Int) : bytesOk (ofL bs) := by
  intro x hx
  obtain ⟨j, hj, rfl⟩ := List.mem_iff_getElem.1 hx
  have h1 := of_bit bs j (by rw [ofL_length] at hj; exact hj)
  have h2 : (ofL bs)[j] = gt (ofL bs) j := by simp [gt, List.getD_eq_getElem?_getD, List.getElem?_eq_getElem hj]
  rw [h2, h1]
  split <;> omega
theorem sy_ok (a b : Bool) : bytesOk (tailL a b) := by
  intro x hx
  simp only [tailL, List.mem_cons, List.not_mem_nil, or_false] at hx
  rcases hx with rfl | rfl <;> unfold sy <;> split <;> omega

/-- what 'Syms' answers -/
def SymsPost (o : Int) (k s q v : Nat) (a b : Bool) (w : World) (e : Ending) (w' : World) : Prop :=
  ∃ A, e = .returned (.tuple #[.slice A (syP o k s q v a b).length (syP o k s q v a b).length, .int .i64 (errP o k)]) ∧ Mn w' w.heap.size 50 1 (.slice A (syP o k s q v a b).length (syP o k s q v a b).length) (syP o k s q v a b).length (nums .u8 (syP o k s q v a b)) ∧ Below w.heap.size w w'

set_option maxHeartbeats 6400000 in
set_option maxRecDepth 20000 in
theorem syms_calls (o : Int) (k s q v : Nat) (a b : Bool) (w : World) (hs : s ≤ 255) (hq : q < 4294967296) (hv : v < 4294967296) :
    Calls Try.prog 60 #[.agg #[.int .i64 o, .int .u8 k, .int .u8 s, .int .u32 q, .int .u32 v], .agg #[.bool a, .bool b]] w (SymsPost o k s q v a b w) := by
  have HP := Lib.hid (fun w => put5_calls o k s q v w hs hq hv)
  cases hm : mayB o k with
  | false =>
    have HM := Lib.hid hm
    have HE := Lib.hid (show syP o k s q v a b = [] ∧ errP o k = 1 by simp [syP, errP, hm])
    clear hm
    go_enter Try.func60, Try.ntmps60
    go_wp2_with fail
    refine (HP.out _).mono ?_; rintro e w1 ⟨A1, rfl, hm1, hb1⟩
    rewrite [HE.out.2]
    go_wp2
    go_ret2
    refine ⟨none, ?_, ?_, (by repeat (first | exact Below.refl _ _ | apply Bw.alloc | apply Bw.drewN | apply Bw.drew | (refine Bw.step ?_ (by assumption))))⟩ <;> rw [HE.out.1] <;> first | exact Mn.nil _ _ _ _ | (rw [HE.out.2]; rfl)
  | true =>
    have HM := Lib.hid hm
    have HE := Lib.hid (show syP o k s q v a b = ofL (frP o k s q v) ++ tailL a b ∧ errP o k = 0 by simp [syP, errP, hm])
    have HL := Lib.hid (frP_length o k s q v hm)
    have HL2 := Lib.hid (syP_length o k s q v a b hm)
    have HOK := Lib.hid (frP_ok o k s q v hs)
    have HFL := Lib.hid (show [ofL (frP o k s q v), tailL a b].flatten = syP o k s q v a b by rw [HE.out.1]; simp)
    clear hm
    go_enter Try.func60, Try.ntmps60
    go_wp2_with fail
    refine (HP.out _).mono ?_; rintro e W ⟨A1, he, hm1, hbW⟩
    rw [HE.out.2, HL.out] at he
    rw [HL.out] at hm1
    subst he
    have hKa : W.cell? ⟨w.heap.size + 1, 0, none⟩ = some (.bool a) := by rw [hbW.cell (p := ⟨w.heap.size + 1, 0, none⟩) (by simp)]; simp [go_sem]
    have hKb : W.cell? ⟨w.heap.size + 1, 1, none⟩ = some (.bool b) := by rw [hbW.cell (p := ⟨w.heap.size + 1, 1, none⟩) (by simp)]; simp [go_sem]
    have hlt : w.heap.size + 1 < W.heap.size := by have := hbW.size; simp at this; omega
    have HK : Hid (∀ w', Below W.heap.size W w' → w'.cell? ⟨w.heap.size + 1, 0, none⟩ = some (.bool a) ∧ w'.cell? ⟨w.heap.size + 1, 1, none⟩ = some (.bool b)) := fun w' h =>
      ⟨(h.cell (p := ⟨w.heap.size + 1, 0, none⟩) hlt).trans hKa, (h.cell (p := ⟨w.heap.size + 1, 1, none⟩) hlt).trans hKb⟩
    have HBW : Below w.heap.size w W := (by repeat (first | exact Below.refl _ _ | apply Bw.alloc | apply Bw.drewN | apply Bw.drew | (refine Bw.step ?_ (by assumption))))
    clear hKa hKb hlt hbW
    go_wp2_with fail
    go_region_held3 (fun w' => w'.cell? ⟨w.heap.size + 1, 0, none⟩ = some (.bool a) ∧ w'.cell? ⟨w.heap.size + 1, 1, none⟩ = some (.bool b)) (first | assumption | exact HK.out _ (by repeat (first | exact Below.refl _ _ | apply Bw.alloc | apply Bw.drewN | apply Bw.drew | (refine Bw.step ?_ (by assumption)))))
      (first
        | (go_at_call 41; refine (of_calls _ _ _ (frP o k s q v) _ (hm1.rd.below (by repeat (first | exact Below.refl _ _ | apply Bw.alloc | apply Bw.drewN | apply Bw.drew | (refine Bw.step ?_ (by assumption))))) (Nat.le_refl _) (by omega) HOK.out).mono ?_; rintro e w8 ⟨A8, m8, rfl, hl8, hm8, hb8⟩; have e8 : m8 = 112 := (by rw [hl8]); subst e8; clear hl8)
        | (go_at_call 64; refine (tail_calls a b _).mono ?_; rintro e w9 ⟨A9, rfl, hm9, hb9⟩)
        | (go_at_call 123
           refine (concat123_calls _ 2 2 [ofL (frP o k s q v), tailL a b] _ (Parts.lit (by simp) [(_, ofL (frP o k s q v)), (_, tailL a b)] (by
             intro r hr
             rcases List.mem_cons.1 hr with rfl | hr
             · exact ⟨_, 112, 112, rfl, by omega, by omega, hm8.rd.below (by repeat (first | exact Below.refl _ _ | apply Bw.alloc | apply Bw.drewN | apply Bw.drew | (refine Bw.step ?_ (by assumption)))), ofL_ok _⟩
             rcases List.mem_cons.1 hr with rfl | hr
             · exact ⟨_, 2, 2, rfl, by omega, by omega, hm9.rd.below (by repeat (first | exact Below.refl _ _ | apply Bw.alloc | apply Bw.drewN | apply Bw.drew | (refine Bw.step ?_ (by assumption)))), sy_ok _ _⟩
             cases hr)) (by omega) (by omega) (by rw [HFL.out, HL2.out]; omega)).mono ?_
           rintro e w10 ⟨A10, m10, c10, rfl, hl10, hc10, hm10, hb10⟩
           rw [HFL.out] at hl10 hm10
           rw [HL2.out] at hl10
           subst hl10
           have hm11 := hm10.mono (Below.size (show Below w.heap.size w _ from (by repeat (first | exact Below.refl _ _ | apply Bw.alloc | apply Bw.drewN | apply Bw.drew | (refine Bw.step ?_ (by assumption))))))
           have hcm := hm10.cap_le
           simp only [maxLen] at hcm
           have hci : (114 : Int) ≤ (c10 : Int) := by omega
           clear hm10))
    all_goals
      go_wp2
      go_ret2
      refine ⟨A10, ?_, ?_, (by repeat (first | exact Below.refl _ _ | apply Bw.alloc | apply Bw.drewN | apply Bw.drew | (refine Bw.step ?_ (by assumption))))⟩
      · rw [HE.out.2, HL2.out]; rfl
      · rw [HL2.out]; exact hm11.clip

/-- what 'Syms' answers, in the reference -/
def RefSymsPost (o : Int) (k s q v : Nat) (a b : Bool) (w : World) (e : Ending) (w' : World) : Prop :=
  ∃ A c, e = .returned (.tuple #[.slice A (syP o k s q v a b).length c, .int .i64 (errP o k)]) ∧ (syP o k s q v a b).length ≤ c ∧ Mn w' w.heap.size 50 1 (.slice A (syP o k s q v a b).length c) (syP o k s q v a b).length (nums .u8 (syP o k s q v a b)) ∧ Below w.heap.size w w'

set_option maxHeartbeats 6400000 in
set_option maxRecDepth 20000 in
theorem refsyms_calls (o : Int) (k s q v : Nat) (a b : Bool) (w : World) (hs : s ≤ 255) (hq : q < 4294967296) (hv : v < 4294967296) :
    Calls Try.prog 61 #[.agg #[.int .i64 o, .int .u8 k, .int .u8 s, .int .u32 q, .int .u32 v], .agg #[.bool a, .bool b]] w (RefSymsPost o k s q v a b w) := by
  have HP := Lib.hid (fun w => refput5_calls o k s q v w hs hq hv)
  cases hm : mayB o k with
  | false =>
    have HM := Lib.hid hm
    have HE := Lib.hid (show syP o k s q v a b = [] ∧ errP o k = 1 by simp [syP, errP, hm])
    clear hm
    go_enter Try.func61, Try.ntmps61
    go_wp2_with fail
    refine (HP.out _).mono ?_; rintro e w1 ⟨A1, c1, rfl, hc1, hm1, hb1⟩
    rewrite [HE.out.2]
    go_wp2
    go_ret2
    refine ⟨none, 0, ?_, ?_, ?_, (by repeat (first | exact Below.refl _ _ | apply Bw.alloc | apply Bw.drewN | apply Bw.drew | (refine Bw.step ?_ (by assumption))))⟩ <;> rw [HE.out.1] <;> first | exact Nat.le_refl _ | exact Mn.nil _ _ _ _ | (rw [HE.out.2]; rfl)
  | true =>
    have HM := Lib.hid hm
    have HE := Lib.hid (show syP o k s q v a b = ofL (frP o k s q v) ++ tailL a b ∧ errP o k = 0 by simp [syP, errP, hm])
    have HL := Lib.hid (frP_length o k s q v hm)
    have HL2 := Lib.hid (syP_length o k s q v a b hm)
    have HOK := Lib.hid (frP_ok o k s q v hs)
    clear hm
    go_enter Try.func61, Try.ntmps61
    go_wp2_with fail
    refine (HP.out _).mono ?_; rintro e W ⟨A1, c1, he, hc1, hm1, hbW⟩
    rw [HE.out.2, HL.out] at he
    rw [HL.out] at hm1 hc1
    subst he
    have hKa : W.cell? ⟨w.heap.size + 1, 0, none⟩ = some (.bool a) := by rw [hbW.cell (p := ⟨w.heap.size + 1, 0, none⟩) (by simp)]; simp [go_sem]
    have hKb : W.cell? ⟨w.heap.size + 1, 1, none⟩ = some (.bool b) := by rw [hbW.cell (p := ⟨w.heap.size + 1, 1, none⟩) (by simp)]; simp [go_sem]
    have hlt : w.heap.size + 1 < W.heap.size := by have := hbW.size; simp at this; omega
    have HK : Hid (∀ w', Below W.heap.size W w' → w'.cell? ⟨w.heap.size + 1, 0, none⟩ = some (.bool a) ∧ w'.cell? ⟨w.heap.size + 1, 1, none⟩ = some (.bool b)) := fun w' h =>
      ⟨(h.cell (p := ⟨w.heap.size + 1, 0, none⟩) hlt).trans hKa, (h.cell (p := ⟨w.heap.size + 1, 1, none⟩) hlt).trans hKb⟩
    have HBW : Below w.heap.size w W := (by repeat (first | exact Below.refl _ _ | apply Bw.alloc | apply Bw.drewN | apply Bw.drew | (refine Bw.step ?_ (by assumption))))
    clear hKa hKb hlt hbW
    go_wp2_with fail
    go_region_held3 (fun w' => w'.cell? ⟨w.heap.size + 1, 0, none⟩ = some (.bool a) ∧ w'.cell? ⟨w.heap.size + 1, 1, none⟩ = some (.bool b)) (first | assumption | exact HK.out _ (by repeat (first | exact Below.refl _ _ | apply Bw.alloc | apply Bw.drewN | apply Bw.drew | (refine Bw.step ?_ (by assumption)))))
      (first
        | (go_at_call 46; refine (refof_calls _ _ _ (frP o k s q v) _ (hm1.rd.below (by repeat (first | exact Below.refl _ _ | apply Bw.alloc | apply Bw.drewN | apply Bw.drew | (refine Bw.step ?_ (by assumption))))) hc1 (by omega) HOK.out).mono ?_; rintro e w8 ⟨A8, m8, c8, rfl, hl8, hc8, hm8, hb8⟩; have e8 : m8 = 112 := (by rw [hl8]); subst e8; clear hl8)
        | (go_at_call 65; refine (reftail_calls a b _).mono ?_; rintro e w9 ⟨A9, rfl, hm9, hb9⟩; have hm8' := hm8.below hb9)
        | (refine step_append_mn rfl _ _ _ rfl W.heap.size 50 _ 1 1 Try.underlying22 info50 rfl (by omega) (.slice A8 112 c8) 112 (nums .u8 (ofL (frP o k s q v))) rfl (hm8'.mono (Nat.le_refl _)) A9 2 2 (nums .u8 (tailL a b)) rfl hm9.reads (nums_one _ _) (by omega) (by omega) (by have := hb8.size; have := hb9.size; simp at *; omega) ?_
           intro A10 c10 w10 hc10 hm10 hg10 hat10
           have hb10 : Below W.heap.size W w10 := (show Below W.heap.size W w9 from (by repeat (first | exact Below.refl _ _ | apply Bw.alloc | apply Bw.drewN | apply Bw.drew | (refine Bw.step ?_ (by assumption))))).grown hg10 (by have := hb8.size; have := hb9.size; simp at *; omega) (fun q hq => (hm8'.block hq).1)
           clear hg10 hat10))
    all_goals
      go_wp2
      go_ret2
      refine ⟨A10, c10, ?_, ?_, ?_, (by repeat (first | exact Below.refl _ _ | apply Bw.alloc | apply Bw.drewN | apply Bw.drew | (refine Bw.step ?_ (by assumption))))⟩
      · rw [HE.out.2, HL2.out]; rfl
      · rw [HL2.out]; exact hc10
      · rw [HL2.out, HE.out.1, nums_append]; exact hm10.mono HBW.size
end Go.Proofs.Ytnmhhjgiakijgaa

/- Layer 5's examples: sennitlaw05.lives returns true. -/
namespace Go.Proofs.Ytnmhhjgiakijgaa
open Go.RowKit
set_option linter.unusedVariables false

theorem ok10 : bytesOk [33, 2, 0, 0, 0, 3, 0, 0, 0, 4] := by
  intro x hx
  simp only [List.mem_cons, List.not_mem_nil, or_false] at hx
  omega
set_option maxHeartbeats 3200000 in
set_option maxRecDepth 20000 in
theorem lives05 (w : World) : Calls Try.prog 66 #[] w fun e w' => e = .returned (.bool true) ∧ Below w.heap.size w w' := by
  have HL := Lib.hid (frP_length 1 2 2 3 4 rfl)
  have HE := Lib.hid (show errP 1 2 = 0 from rfl)
  have S1 := Lib.hid (show sameL ((frP 1 2 2 3 4).take 10) [33, 2, 0, 0, 0, 3, 0, 0, 0, 4] = true from sameL_eq (by
    rw [show frP 1 2 2 3 4 = putS (frB 1 2 2 3 4) from rfl]
    unfold putS
    rw [List.take_append_of_le_length (by rw [frB_length]; exact Nat.le_refl _), List.take_of_length_le (by rw [frB_length]; exact Nat.le_refl _)]
    decide))
  have S2 := Lib.hid (show sameL (tailL true false) [2, 1] = true from rfl)
  have HOK := Lib.hid (frP_ok 1 2 2 3 4 (by omega))
  have HP := Lib.hid (fun w => put5_calls 1 2 2 3 4 w (by omega) (by omega) (by omega))
  have H58 := Lib.hid (fun w => of58_calls 1 2 2 3 4 w)
  go_enter Try.func66, Try.ntmps66
  go_wp2_with fail
  refine (H58.out _).mono ?_; rintro e w1 ⟨rfl, hb1⟩
  go_wp2_with fail
  refine (HP.out _).mono ?_; rintro e w2 ⟨A1, he, hm1, hb2⟩
  rw [HE.out, HL.out] at he
  rw [HL.out] at hm1
  subst he
  have HK : Hid (∀ w', Below (w2.alloc (.cells #[.bool true, .bool false] 93)).heap.size (w2.alloc (.cells #[.bool true, .bool false] 93)) w' → w'.cell? ⟨w2.heap.size, 0, none⟩ = some (.bool true) ∧ w'.cell? ⟨w2.heap.size, 1, none⟩ = some (.bool false)) := fun w' h =>
    ⟨(h.cell (p := ⟨w2.heap.size, 0, none⟩) (by simp)).trans (by simp [go_sem]), (h.cell (p := ⟨w2.heap.size, 1, none⟩) (by simp)).trans (by simp [go_sem])⟩
  go_wp2_with fail
  refine (samebytes_calls _ _ _ _ _ _ ((frP 1 2 2 3 4).take 10) [33, 2, 0, 0, 0, 3, 0, 0, 0, 4] _ ((hm1.rd.take 10 (by omega)).below (by repeat (first | exact Below.refl _ _ | apply Bw.alloc | apply Bw.drewN | apply Bw.drew | (refine Bw.step ?_ (by assumption))))) (rd_cells (by simp) [33, 2, 0, 0, 0, 3, 0, 0, 0, 4]) (fun x hx => HOK.out x (List.mem_of_mem_take hx)) ok10).mono ?_; rintro e w' ⟨rfl, rfl⟩; rewrite [S1.out]
  go_wp2_with fail
  refine (good_calls true false _).mono ?_; rintro e w3 ⟨rfl, hb3⟩
  obtain ⟨hk0, hk1⟩ := HK.out w3 (by repeat (first | exact Below.refl _ _ | apply Bw.alloc | apply Bw.drewN | apply Bw.drew | (refine Bw.step ?_ (by assumption))))
  go_wp2_with fail
  refine (tail_calls true false _).mono ?_; rintro e w4 ⟨A4, rfl, hm4, hb4⟩
  go_wp2_with fail
  refine (samesyms_calls _ _ _ _ _ _ (tailL true false) [2, 1] _ (hm4.rd.below (by repeat (first | exact Below.refl _ _ | apply Bw.alloc | apply Bw.drewN | apply Bw.drew | (refine Bw.step ?_ (by assumption))))) (rd_cells (by simp) [2, 1]) (by omega) (by decide) (by omega)).mono ?_; rintro e w' ⟨rfl, q1, rfl⟩; rewrite [S2.out]
  go_wp2
  go_ret
  exact ⟨rfl, (by repeat (first | exact Below.refl _ _ | apply Bw.alloc | apply Bw.drewN | apply Bw.drew | (refine Bw.step ?_ (by assumption))))⟩
end Go.Proofs.Ytnmhhjgiakijgaa
