/- bits.Bytes: its contract. -/
import Derived.Test.YtnmhhjgiakijgaaA10
import Derived.Test.YtnmhhjgiakijgaaM4
import Derived.RangeFuncWrites
import Derived.RangeFuncBox
namespace Go.Proofs.Ytnmhhjgiakijgaa
open Go.RowKit Go.Shelf
attribute [local go_sem] Oper.semAt_some
set_option linter.unusedVariables false

def BytesPost (w : World) (xs : List Int) (e : Ending) (w' : World) : Prop :=
  ∃ A' m, e = .returned (.tuple #[.slice A' m m, .bool (byOk xs)]) ∧ m = (byV xs).length ∧ Mn w' w.heap.size 5 1 (.slice A' m m) m (nums .u8 (byV xs)) ∧ Below w.heap.size w w'

set_option maxRecDepth 100000 in
set_option maxHeartbeats 4000000 in
theorem bytes_odd (A : Option Addr) (n c : Nat) (xs : List Int) (w : World) (hr : Rd w .u8 A n xs) (h8 : n % 8 ≠ 0) : Calls Try.prog 44 #[.slice A n c] w (BytesPost w xs) := by
  have h := byV_odd xs (by rw [hr.len]; exact h8)
  have H := Lib.hid h
  clear h hr
  have hne : ((n : Int) % 8 != 0) = true := by simp; omega
  go_enter Try.func44, Try.ntmps44
  go_wp2
  refine bodyPost_ret (v := .tuple #[.slice none 0 0, .bool false]) (by simp [results, Try.results44, go_sem]) rfl ⟨none, 0, by rw [H.out.1], by rw [H.out.2]; rfl, by rw [H.out.2]; exact Mn.nil _ _ _ _, Bw.alloc (Bw.alloc (Below.refl _ _) _) _⟩

/-- a box is kept where what turned is no cells -/
theorem box_kept {W W' : World} {row : Option Nat} {B : Nat} {t : TypeId} {v : Value} (h : Boxed W B t v) (hg : W.grownBy W' row) (hr : ∀ r, row = some r → ∃ o : Obj, W.heap[r]? = some o ∧ o.isCells = false) : Boxed W' B t v := by
  refine h.kept hg (fun e => ?_)
  obtain ⟨o, ho, hc⟩ := hr B e.symm
  rw [show W.heap[B]? = _ from h] at ho
  cases ho
  cases hc
theorem row_kept {W W' : World} {row : Option Nat} {base : Nat} {e : TypeId} {size n : Nat} {v : Value} {cs : List Value} (h : W.ownsRow base e size v n cs) (hg : W.grownBy W' row) (hr : ∀ r, row = some r → ∃ o : Obj, W.heap[r]? = some o ∧ o.isCells = false) : W'.ownsRow base e size v n cs := by
  refine h.kept hg ?_
  rcases h.2 with ⟨rfl, _⟩ | ⟨g, cap, cur, rfl, _, hgb, _⟩
  · exact .inl rfl
  · refine .inr fun e' => ?_
    obtain ⟨o, ho, hc⟩ := hr g (by simpa [Value.ownBlock] using e'.symm)
    rw [hgb] at ho
    cases ho
    cases hc
theorem mn_of_own {W : World} {base : Nat} {e : TypeId} {size n : Nat} {v : Value} {cs : List Value} (h : W.ownsRow base e size v n cs) : Mn W base e size v n cs := by
  refine ⟨h.1, ?_⟩
  rcases h.2 with h2 | ⟨g, cap, cur, hv, hb, hh, hc, hm, hs, ht⟩
  · exact .inl h2
  · exact .inr ⟨g, cap, cur, hv, hb, hh, hc, hm, by omega, ht⟩

/-- between two rounds -/
def ByI (w : World) (A : Option Addr) (n c : Nat) (xs : List Int) (m : Nat) (pre : List (Fin m)) (W : World) : Prop :=
  (∃ v, Boxed W (w.heap.size + 1 + 1) 43 v ∧ W.ownsRow w.heap.size 5 1 v pre.length (nums .u8 (pre.map fun x => byteOf xs x.1))) ∧ Boxed W w.heap.size 43 (.slice none 0 0) ∧ Boxed W (w.heap.size + 1) 4 (.bool false) ∧
    Boxed W (w.heap.size + 1 + 1 + 1) 22 (.slice A n c) ∧ Boxed W (w.heap.size + 1 + 1 + 1 + 1) 3 (.int .i64 8) ∧ (∀ x ∈ pre, wholeL (chunk xs x.1) = true) ∧ Below w.heap.size w W
/-- left -/
def ByX (w : World) (xs : List Int) (m : Nat) (c : Code) (pre : List (Fin m)) (W : World) : Prop :=
  c = .ret ∧ Boxed W w.heap.size 43 (.slice none 0 0) ∧ Boxed W (w.heap.size + 1) 4 (.bool false) ∧ wholeL xs = false ∧ Below w.heap.size w W

theorem byI_own (w : World) (A : Option Addr) (n c : Nat) (xs : List Int) (m B : Nat) (hB : w.heap.size ≤ B) : OwnFrom B (ByI w A n c xs m) := by
  rintro s W W' row ⟨⟨v, h1, h2⟩, h3, h4, h5, h6, h7, h8⟩ hg hr
  have hr2 : ∀ r, row = some r → ∃ o : Obj, W.heap[r]? = some o ∧ o.isCells = false := fun r e => (hr r e).2
  exact ⟨⟨v, box_kept h1 hg hr2, row_kept h2 hg hr2⟩, box_kept h3 hg hr2, box_kept h4 hg hr2, box_kept h5 hg hr2, box_kept h6 hg hr2, h7,
    h8.grown hg h8.size (fun k e => Nat.le_trans hB (hr k e).1)⟩
theorem byX_own (w : World) (xs : List Int) (m : Nat) (c : Code) (B : Nat) (hB : w.heap.size ≤ B) : OwnFrom B (ByX w xs m c) := by
  rintro s W W' row ⟨h0, h3, h4, h7, h8⟩ hg hr
  have hr2 : ∀ r, row = some r → ∃ o : Obj, W.heap[r]? = some o ∧ o.isCells = false := fun r e => (hr r e).2
  exact ⟨h0, box_kept h3 hg hr2, box_kept h4 hg hr2, h7, h8.grown hg h8.size (fun k e => Nat.le_trans hB (hr k e).1)⟩

theorem box_app {W w1 : World} {base B B' size n : Nat} {t e : TypeId} {u v : Value} {cs : List Value} {tmp : Obj} (h : Boxed W B t u) (hte : t ≠ e) (hr : W.ownsRow base e size v n cs) (hg : (W.alloc tmp).grownBy w1 v.ownBlock) (hne : B ≠ B') (v' : Value) : Boxed (w1.setCell ⟨B', 0, none⟩ v') B t u :=
  ((h.alloc tmp).kept hg ((h.alloc tmp).not_row hte (hr.alloc tmp))).other hne v'

theorem clip5 (A : Option Addr) (n c : Nat) (w : World) (hc : n ≤ c) (hm : c ≤ maxLen) :
    Calls Try.prog 110 #[.slice A n c] w fun e w' => e = .returned (.slice A n n) ∧ w = w' := by
  unfold maxLen at hm
  go_enter Try.func110, Try.ntmps110
  go_wp2
  go_ret
  exact ⟨rfl, rfl⟩

theorem kpc_t {Bs Bn : Nat} {A B C : World} (h : KpC Bs Bn A B) (k : KpC Bs Bn B C) : KpC Bs Bn A C := ⟨k.1.trans h.1, k.2.trans h.2⟩
theorem kpc_b {Bs Bn : Nat} {w : World} (hs : Bs < w.heap.size) (hn : Bn < w.heap.size) (W : World) (l : Nat) (o o' : Obj) (hl : w.heap.size ≤ l) (_ : W.heap[l]? = some o) (_ : o.isCells = false) (_ : o.isWalk = false) : KpC Bs Bn W (W.putObj l o') :=
  ⟨World.cell?_of_block (World.putObj_heap_other (by show Bs ≠ l; omega)), World.cell?_of_block (World.putObj_heap_other (by show Bn ≠ l; omega))⟩

set_option maxRecDepth 100000 in
set_option maxHeartbeats 4000000 in
theorem bytes_even (A : Option Addr) (m c : Nat) (xs : List Int) (w : World) (hr : Rd w .u8 A (8 * m) xs) (hc : 8 * m ≤ c) (hcm : c ≤ maxLen) (hm : m ≤ 7000) : Calls Try.prog 44 #[.slice A (8 * m) c] w (BytesPost w xs) := by
  refine (callsIn_wide (n := 3)).1 ?_
  refine callsIn_of_wp_marks Try.func44 rfl trivial ?_ rfl
  simp only [Try.ntmps44, List.size_toArray, List.length_cons, List.length_nil, Nat.reduceAdd, Nat.reduceSub, Array.replicate_succ, Array.replicate_zero, List.push_toArray, List.append_toArray, List.nil_append, List.cons_append]
  gi_wp2_with (refine ⟨trivial, ?_⟩; gi_at_call 109; refine (callsIn_wide.2 (chunk_calls _ _ _ _)).mono ?_; rintro e w' ⟨rfl, rfl⟩)
  have hlen := hr.len
  obtain ⟨i0, hi, hz0, hz1, hz2⟩ := info_parts info5
  obtain ⟨b, o, hA⟩ : ∃ b o, 0 < m → A = some ⟨b, o, none⟩ := by
    rcases Nat.eq_zero_or_pos m with h | h
    · exact ⟨0, 0, fun h2 => by omega⟩
    · obtain ⟨b, o, e, _⟩ := hr.2 (by omega)
      exact ⟨b, o, fun _ => e⟩
  have b1 := Boxed.new w 43 (.slice none 0 0)
  have b2 := Boxed.new (w.alloc (.cells #[.slice none 0 0] 43)) 4 (.bool false)
  have b3 := Boxed.new ((w.alloc (.cells #[.slice none 0 0] 43)).alloc (.cells #[.bool false] 4)) 43 (.slice none 0 0)
  have b4 := Boxed.new (((w.alloc (.cells #[.slice none 0 0] 43)).alloc (.cells #[.bool false] 4)).alloc (.cells #[.slice none 0 0] 43)) 22 (.slice A (8 * m) c)
  have b5 := Boxed.new ((((w.alloc (.cells #[.slice none 0 0] 43)).alloc (.cells #[.bool false] 4)).alloc (.cells #[.slice none 0 0] 43)).alloc (.cells #[.slice A (8 * m) c] 22)) 3 (.int .i64 8)
  simp only [World.size_alloc] at b2 b3 b4 b5
  have hB0 : Below w.heap.size w (((((w.alloc (.cells #[.slice none 0 0] 43)).alloc (.cells #[.bool false] 4)).alloc (.cells #[.slice none 0 0] 43)).alloc (.cells #[.slice A (8 * m) c] 22)).alloc (.cells #[.int .i64 8] 3)) :=
    Bw.alloc (Bw.alloc (Bw.alloc (Bw.alloc (Bw.alloc (Below.refl _ _) _) _) _) _) _
  refine wpIn_rangeFunc_ownG rfl (by omega) (gf := 148) (lb := #[.pointer (some ⟨w.heap.size + 1 + 1 + 1, 0, none⟩), .pointer (some ⟨w.heap.size + 1 + 1 + 1 + 1, 0, none⟩)]) rfl trivial (enters_of Try.func148 (by kernel_rfl) rfl)
    (chunk_stops (3 - 1) (by omega) b o m c hm hc hcm A hA _ (w.heap.size + 1 + 1 + 1) (w.heap.size + 1 + 1 + 1 + 1) (by simp) (by simp) (b4.alloc _).cell b5.cell) kpc_t (kpc_b (by simp) (by simp)) (Below.refl _ _) (fun _ => rfl)
    (ByI w A (8 * m) c xs m) (ByX w xs m) (byI_own _ _ _ _ _ _ _ (by simp; omega)) (fun _ => byX_own _ _ _ _ _ (by simp; omega))
    ⟨⟨_, (b3.alloc _).alloc _, World.ownsRow_nil _ _ _ _⟩, (((b1.alloc _).alloc _).alloc _).alloc _, ((b2.alloc _).alloc _).alloc _, b4.alloc _, b5, (fun x hx => by cases hx), hB0⟩
    (fun x => { tmps := #[.slice A (8 * m) c, undef, .pointer (some ⟨w.heap.size, 0, none⟩), .pointer (some ⟨w.heap.size + 1, 0, none⟩), .pointer (some ⟨w.heap.size + 1 + 1, 0, none⟩), .slice (some ⟨b, o + 8 * x.1, none⟩) 8 8, undef, undef, .slice A (8 * m) c,
      .int .i64 (8 * (m : Int)), .int .i64 0, .bool false, .slice A (8 * m) c, .func (.func 148) #[] #[.pointer (some ⟨w.heap.size + 1 + 1 + 1, 0, none⟩), .pointer (some ⟨w.heap.size + 1 + 1 + 1 + 1, 0, none⟩)],
      .slice (some ⟨b, o + 8 * x.1, none⟩) 8 8, undef, undef, undef, undef, undef, undef, undef, undef, undef, undef, undef, undef, undef, undef], defers := [] }) ?assign ?body ?done ?stop
  case assign =>
    intro l x W K hK
    gi_wp2
    exact hK
  case body =>
    rintro l pre x W ⟨⟨v, hv, hrow⟩, h1, h2, h3, h4, hw, hB⟩ hlt
    have hc1 := hv.cell
    have hxl := x.2
    have hAx := hA (by omega)
    subst hAx
    have hl8 : 8 * x.1 + 8 ≤ xs.length := by omega
    have hpart : Rd W .u8 (some ⟨b, o + 8 * x.1, none⟩) 8 (chunk xs x.1) := Rd.sub (hr.below hB) (8 * x.1) 8 (by omega)
    have HPT := Lib.hid hpart
    have HRW := Lib.hid hrow
    clear hr hpart b1 b2 b3 b4 b5 hB0 hA
    cases hcw : wholeL (chunk xs x.1) with
    | true =>
      have HV := Lib.hid (numV_chunk xs x.1 hl8 hcw)
      have HO := Lib.hid ((numOk_chunk xs x.1 hl8).trans hcw)
      have hN := numL_chunk_lt xs x.1 hl8 hcw
      have hf : byteOf xs x.1 = (numL (chunk xs x.1) : Int) := rfl
      generalize numL (chunk xs x.1) = N at *
      have HF := Lib.hid hf
      have HW := Lib.hid hw
      have HCW := Lib.hid hcw
      clear hf hw hcw
      gi_wp2_with (first
        | (refine ⟨trivial, ?_⟩; gi_at_call 29; refine (CallsIn.inRound l (callsIn_wide.2 (num_calls _ _ _ (chunk xs x.1) _ HPT.out (by omega) (by omega)))).mono ?_; rintro e w' ⟨rfl, rfl⟩; rewrite [HV.out, HO.out])
        | (gi_at_builtin; refine wpListIn_append_own _ rfl _ _ 43 rfl w.heap.size 5 i0 (.int .u8 0) 1 1 Try.underlying43 hi hz0 hz1 hz2 rfl (by decide) _ _ _ rfl (hrow.alloc _) ⟨W.heap.size, 0, none⟩ 1 1 [.int .u8 N] rfl rfl (cell_one_new _ _ _) (by simp [Value.oneCell']) (by simp only [maxLen]; omega) (by omega) (by have := hB.size; simp; omega) ?_; intro v' w1 hown' hgrow _; obtain ⟨g', cap', rfl⟩ := ownsRow_succ hown'; obtain ⟨hv1, hv2, hr2, hk2, hb2⟩ := hv.appended (by decide) hrow hB.size (by omega) hown' hgrow; have hc1' := hv1.cell; have hf1 := hv1.frozen))
      have g1 := box_app h1 (by decide) HRW.out hgrow (by omega : w.heap.size ≠ w.heap.size + 1 + 1)
      have g2 := box_app h2 (by decide) HRW.out hgrow (by omega : w.heap.size + 1 ≠ w.heap.size + 1 + 1)
      have g3 := box_app h3 (by decide) HRW.out hgrow (by omega : w.heap.size + 1 + 1 + 1 ≠ w.heap.size + 1 + 1)
      have g4 := box_app h4 (by decide) HRW.out hgrow (by omega : w.heap.size + 1 + 1 + 1 + 1 ≠ w.heap.size + 1 + 1)
      refine ⟨hk2.from _, ⟨(g3 _).cell.trans h3.cell.symm, (g4 _).cell.trans h4.cell.symm⟩, ⟨_, hv2, ?_⟩, g1 _, g2 _, g3 _, g4 _, ?_, hB.trans hb2⟩
      · rw [List.map_append, List.map_singleton, nums_append, HF.out, List.length_append]
        exact hr2
      · intro y hy
        rcases List.mem_append.1 hy with h | h
        · exact HW.out y h
        · rw [List.mem_singleton.1 h]; exact HCW.out
    | false =>
      have HO := Lib.hid ((numOk_chunk xs x.1 hl8).trans hcw)
      have hwx := wholeL_chunk_false xs m x.1 (by omega) hxl hcw
      have HWX := Lib.hid hwx
      clear hw hcw hwx
      have c1 := h1.cell
      have f1 := h1.frozen
      have c2 := h2.cell
      have f2 := h2.frozen
      gi_wp2_with (first
        | (refine ⟨trivial, ?_⟩; gi_at_call 29; refine (CallsIn.inRound l (callsIn_wide.2 (num_calls _ _ _ (chunk xs x.1) _ HPT.out (by omega) (by omega)))).mono ?_; rintro e w' ⟨rfl, rfl⟩; rewrite [HO.out]))
      exact ⟨((KeepsOthers.setCell _ _ _).trans (KeepsOthers.setCell _ _ _)).from _, rfl, (h1.set _).other (by omega) _, (h2.other (by omega) _).set _, HWX.out, (hB.setCell (p := ⟨w.heap.size, 0, none⟩) (Nat.le_refl _) _).setCell (p := ⟨w.heap.size + 1, 0, none⟩) (by show w.heap.size ≤ w.heap.size + 1; omega) _⟩
  case done =>
    rintro D ys W hD hys ⟨⟨v, hv, hrow⟩, h1, h2, h3, h4, hw, hB⟩ hK
    have hc1 := hv.cell
    obtain ⟨A', cap, rfl, hcap⟩ := (mn_of_own hrow).form
    have hcm2 := (mn_of_own hrow).cap_le
    have c1 := h1.cell
    have f1 := h1.frozen
    have c2 := h2.cell
    have f2 := h2.frozen
    gi_wp2_with (refine ⟨trivial, ?_⟩; gi_at_call 110; refine (callsIn_wide.2 (clip5 _ _ _ _ hcap hcm2)).mono ?_; rintro e w' ⟨rfl, rfl⟩)
    have hK2 := ((KeepsOthers.setCell W ⟨w.heap.size, 0, none⟩ (.slice A' ys.length ys.length)).trans (KeepsOthers.setCell _ ⟨w.heap.size + 1, 0, none⟩ (.bool true))).same D _ hK rfl
    have e1 := (h1.set (.slice A' ys.length ys.length)).other (B' := w.heap.size + 1) (by omega) (.bool true)
    have e2 := (h2.other (B' := w.heap.size) (by omega) (.slice A' ys.length ys.length)).set (.bool true)
    have k1 := cell_kept e1.cell (grownBy_putObj' _ D (.deferred none)) (fun r e => by cases e; exact ⟨_, hK2, rfl⟩)
    have k2 := cell_kept e2.cell (grownBy_putObj' _ D (.deferred none)) (fun r e => by cases e; exact ⟨_, hK2, rfl⟩)
    have hyl : ys.length = m := by have := congrArg List.length hys; simpa using this
    have hwx : wholeL xs = true := (wholeL_chunks xs m (by omega)).2 (fun k hk => by
      have : k ∈ ys.map (·.1) := by rw [hys]; exact List.mem_range.2 hk
      obtain ⟨x, hx, rfl⟩ := List.mem_map.1 this
      exact hw x hx)
    have hb := byV_true xs m (by omega) hwx
    have hlist : ys.map (fun x => byteOf xs x.1) = bytesN xs m := by
      unfold bytesN
      rw [← hys, List.map_map]
      rfl
    refine ⟨by simp, .inl ⟨_, _, rfl, run_takeDeferred hK2, ?_⟩⟩
    refine ⟨.tuple #[.slice A' ys.length ys.length, .bool true], by simp [results, Try.results44, go_sem, k1, k2], A', ys.length, by rw [hb.1], by rw [hb.2, bytesN_length, hyl], ?_, ?_⟩
    · rw [hb.2, ← hlist]
      have r1 := hrow.kept (grownBy_setCell' W w.heap.size (.slice A' ys.length ys.length)) (.inr (h1.not_row (by decide) hrow).symm)
      have r2 := r1.kept (grownBy_setCell' _ (w.heap.size + 1) (.bool true)) (.inr ((h2.other (B' := w.heap.size) (by omega) (.slice A' ys.length ys.length)).not_row (by decide) r1).symm)
      exact (mn_of_own (ownsRow_putObj r2 (.deferred none) hK2 rfl)).clip
    · have hB2 := (hB.setCell (p := ⟨w.heap.size, 0, none⟩) (Nat.le_refl _) (.slice A' ys.length ys.length)).setCell (p := ⟨w.heap.size + 1, 0, none⟩) (by show w.heap.size ≤ w.heap.size + 1; omega) (.bool true)
      exact hB2.trans (belowK_b (w := w) (Nat.le_refl _) _ D _ _ (by simp at hD; omega) hK2 rfl rfl)
  case stop =>
    rintro D c pre W hD _ ⟨rfl, h1, h2, hw, hB⟩ hK
    have c1 := h1.cell
    have c2 := h2.cell
    gi_wp2
    have k1 : (W.putObj D (.deferred none)).cell? ⟨w.heap.size, 0, none⟩ = some (.slice none 0 0) := cell_kept c1 (grownBy_putObj' _ D (.deferred none)) (fun r e => by cases e; exact ⟨_, hK, rfl⟩)
    have k2 : (W.putObj D (.deferred none)).cell? ⟨w.heap.size + 1, 0, none⟩ = some (.bool false) := cell_kept c2 (grownBy_putObj' _ D (.deferred none)) (fun r e => by cases e; exact ⟨_, hK, rfl⟩)
    have hb := byV_whole xs hw
    refine ⟨by simp, .inl ⟨_, _, rfl, run_takeDeferred hK, ?_⟩⟩
    refine ⟨.tuple #[.slice none 0 0, .bool false], by simp [results, Try.results44, go_sem, k1, k2], none, 0, by rw [hb.1], by rw [hb.2]; rfl, by rw [hb.2]; exact Mn.nil _ _ _ _, ?_⟩
    exact hB.trans (belowK_b (w := w) (Nat.le_refl _) W D _ _ (by simp at hD; omega) hK rfl rfl)

theorem bytes_calls (A : Option Addr) (n c : Nat) (xs : List Int) (w : World) (hr : Rd w .u8 A n xs) (hc : n ≤ c) (hcm : c ≤ maxLen) (hn : n ≤ 56000) : Calls Try.prog 44 #[.slice A n c] w (BytesPost w xs) := by
  by_cases h8 : n % 8 = 0
  · obtain ⟨m, rfl⟩ : ∃ m, n = 8 * m := ⟨n / 8, by omega⟩
    exact bytes_even A m c xs w hr hc hcm (by omega)
  · exact bytes_odd A n c xs w hr h8
end Go.Proofs.Ytnmhhjgiakijgaa
