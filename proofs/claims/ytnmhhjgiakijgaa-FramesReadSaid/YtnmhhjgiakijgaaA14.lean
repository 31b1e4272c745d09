/- 'Book.kept': a book whose rows all bear their marks. -/
import Derived.Test.YtnmhhjgiakijgaaA13
namespace Go.Proofs.Ytnmhhjgiakijgaa
open Go.RowKit
set_option linter.unusedVariables false

/-- the first c elements of a row bear mark m -/
def Mk (w : World) (r : Row) (m c : Nat) : Prop := ∀ j, j < c → ∀ g, r.1 = some ⟨g, 0, none⟩ → w.cell? ⟨g, j, none⟩ = some (.int .u8 m)
/-- the first c rows bear the marks of their places -/
def Full (w : World) (rs : List Row) (t c : Nat) : Prop := ∀ i, i < c → ∀ r, rs[i]? = some r → Mk w r (markOf i t) r.2

theorem Mk.same {w w' : World} {r : Row} {m c : Nat} (h : Mk w r m c) (hk : ∀ p : Addr, w'.cell? p = w.cell? p) : Mk w' r m c := fun j hj g hg => (hk _).trans (h j hj g hg)
theorem Full.same {w w' : World} {rs : List Row} {t c : Nat} (h : Full w rs t c) (hk : ∀ p : Addr, w'.cell? p = w.cell? p) : Full w' rs t c := fun i hi r hr => (h i hi r hr).same hk

/-- a row's header, as it stands in the book -/
theorem hdr_at {w : World} {B : Nat} {e : TypeId} {A : Option Addr} {n c : Nat} {rs : List Row} (h : Mn w B e 1 (.slice A n c) n (rs.map Row.val)) (hn : rs.length = n) (i : Nat) (hi : i < n) :
    ∃ b o P m, A = some ⟨b, o, none⟩ ∧ rs[i]? = some (P, m) ∧ w.cell? ⟨b, o + i, none⟩ = some (.slice P m m) := by
  obtain ⟨b, o, rfl, hc⟩ := h.reads.2 (by omega)
  have hr : rs[i]? = some (rs[i]'(by omega)) := List.getElem?_eq_getElem _
  refine ⟨b, o, (rs[i]'(by omega)).1, (rs[i]'(by omega)).2, rfl, hr, hc i _ ?_⟩
  rw [List.getElem?_map, hr]
  rfl

set_option maxHeartbeats 3200000 in
set_option maxRecDepth 20000 in
theorem kept_calls (B k t nb ns : Nat) (Bv Sv : Value) (bs ss : List Row) (w : World) (h : BS w B k Bv Sv bs ss) (hnb : bs.length = nb) (hns : ss.length = ns) (ht : t ≤ 2) (hfb : Full w bs t nb) (hfs : Full w ss t ns) :
    Calls Try.prog 104 #[.pointer (some ⟨k, 0, none⟩), .int .i64 t] w fun e w' => e = .returned (.bool true) ∧ ∃ q, w' = w.drewN q := by
  have c0 : w.cell? ⟨k, 0, none⟩ = some Bv := h.cell 0
  have c1 : w.cell? ⟨k, 1, none⟩ = some (.slice none 0 0) := h.cell 1
  have c2 : w.cell? ⟨k, 2, none⟩ = some Sv := h.cell 2
  have hmb := h.hb
  have hms := h.hs
  rw [hnb] at hmb
  rw [hns] at hms
  obtain ⟨A, cap, rfl, hcap⟩ := hmb.form
  obtain ⟨D, dap, rfl, hdap⟩ := hms.form
  have h100 : nb ≤ 100 := hnb ▸ h.few.1
  have h100' : ns ≤ 100 := hns ▸ h.few.2
  have HB := Lib.hid h
  have HMB := Lib.hid hmb
  have HMS := Lib.hid hms
  have HFB := Lib.hid hfb
  have HFS := Lib.hid hfs
  have HC := Lib.hid hcap
  have HD := Lib.hid hdap
  have HT := Lib.hid ht
  have HNB := Lib.hid hnb
  have HNS := Lib.hid hns
  clear h hfb hfs hcap hdap ht hmb hms hnb hns
  go_enter Try.func104, Try.ntmps104
  go_wp2
  go_loopg [5] nb (fun g v w' => ∃ i q : Nat, g + i = nb ∧ v = .int .i64 i ∧ w' = w.drewN q)
  case atStart => exact ⟨0, 0, rfl, rfl, rfl⟩
  case round =>
    obtain ⟨i, q, hi, rfl, rfl⟩ := hrel
    by_cases hlt : i < nb
    · obtain ⟨b, o, P, m, rfl, hri, hrow⟩ := hdr_at HMB.out HNB.out i hlt
      have HRI := Lib.hid hri
      have HI := Lib.hid hi
      clear hri hi
      have hm6 : m ≤ 60000000 := (HB.out.rb _ (List.mem_of_getElem? HRI.out)).1
      have hmk : Mk w (P, m) (markOf i t) m := HFB.out i hlt _ HRI.out
      have HMK := Lib.hid hmk
      have HAT := Lib.hid (HB.out.rb _ (List.mem_of_getElem? HRI.out))
      clear hmk
      go_wp2
      go_loopg [6] m (fun g v w' => ∃ j q : Nat, g + j = m ∧ v = .int .i64 j ∧ w' = w.drewN q)
      case atStart => exact ⟨0, q, rfl, rfl, rfl⟩
      case round =>
        obtain ⟨j, q', hj, rfl, rfl⟩ := hrel
        have HJ := Lib.hid hj
        clear hj
        by_cases hjl : j < m
        · obtain ⟨g, cur, hP, -⟩ := HAT.out.2 (by simp only; omega)
          simp only at hP
          subst hP
          have hcj : w.cell? ⟨g, j, none⟩ = some (.int .u8 (markOf i t)) := HMK.out j hjl g rfl
          have hm2 := markOf_lt i t
          have HMC := Lib.hid (fun w => mark_calls i t (by omega) HT.out w)
          generalize markOf i t = x at *
          have hx8 : IntKind.u8.wrap (x : Int) = x := by have : (x : Int) < 200 := by omega
                                                         rw [show IntKind.u8.wrap (x : Int) = (x : Int) % 256 from rfl]; omega
          go_wp2
          go_quiet (exact (HMC.out _).mono fun _ _ h => ⟨h.1, _, h.2⟩)
          go_wp2
          obtain ⟨g', rfl⟩ : ∃ g', gk = g' + 1 := ⟨gk - 1, by have := HJ.out; omega⟩

          go_roundg g'
          case measure => omega
          case rel => exact ⟨j + 1, _, by have := HJ.out; omega, by go_num, rfl⟩
        · go_wp2
          obtain ⟨g', hg'⟩ : ∃ g', nb = g' + (i + 1) := ⟨nb - (i + 1), by omega⟩
          have hg2 := HI.out
          go_roundg g'
          case measure => omega
          case rel => exact ⟨i + 1, _, by omega, by go_num, rfl⟩
    · go_wp2
      go_loop [7] (fun v => v = .int .i64 0) (fun _ => 0)
      case atStart => rfl
      case round =>
        subst hrel
        go_wp2
        go_loopg [9] ns (fun g v w' => ∃ i q : Nat, g + i = ns ∧ v = .int .i64 i ∧ w' = w.drewN q)
        case atStart => exact ⟨0, _, rfl, rfl, rfl⟩
        case round =>
        obtain ⟨i, q, hi, rfl, rfl⟩ := hrel
        by_cases hlt : i < ns
        · obtain ⟨b, o, P, m, rfl, hri, hrow⟩ := hdr_at HMS.out HNS.out i hlt
          have HRI := Lib.hid hri
          have HI := Lib.hid hi
          clear hri hi
          have hm6 : m ≤ 60000000 := (HB.out.rs _ (List.mem_of_getElem? HRI.out)).1
          have hmk : Mk w (P, m) (markOf i t) m := HFS.out i hlt _ HRI.out
          have HMK := Lib.hid hmk
          have HAT := Lib.hid (HB.out.rs _ (List.mem_of_getElem? HRI.out))
          clear hmk
          go_wp2
          go_loopg [10] m (fun g v w' => ∃ j q : Nat, g + j = m ∧ v = .int .i64 j ∧ w' = w.drewN q)
          case atStart => exact ⟨0, q, rfl, rfl, rfl⟩
          case round =>
            obtain ⟨j, q', hj, rfl, rfl⟩ := hrel
            have HJ := Lib.hid hj
            clear hj
            by_cases hjl : j < m
            · obtain ⟨g, cur, hP, -⟩ := HAT.out.2 (by simp only; omega)
              simp only at hP
              subst hP
              have hcj : w.cell? ⟨g, j, none⟩ = some (.int .u8 (markOf i t)) := HMK.out j hjl g rfl
              have hm2 := markOf_lt i t
              have HMC := Lib.hid (fun w => mark_calls i t (by omega) HT.out w)
              generalize markOf i t = x at *
              have hx8 : IntKind.u8.wrap (x : Int) = x := by have : (x : Int) < 200 := by omega
                                                             rw [show IntKind.u8.wrap (x : Int) = (x : Int) % 256 from rfl]; omega
              go_wp2
              go_quiet (exact (HMC.out _).mono fun _ _ h => ⟨h.1, _, h.2⟩)
              go_wp2
              obtain ⟨g', rfl⟩ : ∃ g', gk = g' + 1 := ⟨gk - 1, by have := HJ.out; omega⟩
    
              go_roundg g'
              case measure => omega
              case rel => exact ⟨j + 1, _, by have := HJ.out; omega, by go_num, rfl⟩
            · go_wp2
              obtain ⟨g', hg'⟩ : ∃ g', ns = g' + (i + 1) := ⟨ns - (i + 1), by omega⟩
              have hg2 := HI.out
              go_roundg g'
              case measure => omega
              case rel => exact ⟨i + 1, _, by omega, by go_num, rfl⟩
        · go_wp2
          go_ret
          exact ⟨rfl, _, rfl⟩
end Go.Proofs.Ytnmhhjgiakijgaa
