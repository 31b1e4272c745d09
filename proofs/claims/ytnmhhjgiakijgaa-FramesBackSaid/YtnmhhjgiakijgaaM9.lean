/- Four bytes of a number; bytes with their sum behind them. -/
import Derived.Test.YtnmhhjgiakijgaaM6
namespace Go.Proofs.Ytnmhhjgiakijgaa
/-- the four bytes of a number, the highest first -/
def be4 (n : Nat) : List Int := [(n : Int) / 16777216 % 256, (n : Int) / 65536 % 256, (n : Int) / 256 % 256, (n : Int) % 256]
theorem be4_ok (n : Nat) : bytesOk (be4 n) := by
  intro x hx
  simp only [be4, List.mem_cons, List.not_mem_nil, or_false] at hx
  omega
theorem be4_lt (n : Nat) (h : n < 4294967296) : be4 n = [(n : Int) / 16777216, (n : Int) / 65536 % 256, (n : Int) / 256 % 256, (n : Int) % 256] := by
  unfold be4
  rw [Int.emod_eq_of_lt (a := (n : Int) / 16777216) (by omega) (by omega)]
def putS (bs : List Int) : List Int := bs ++ be4 (sumL bs)
theorem putS_length (bs : List Int) : (putS bs).length = bs.length + 4 := by simp [putS, be4]
theorem putS_ok {bs : List Int} (h : bytesOk bs) : bytesOk (putS bs) := by
  intro x hx
  rcases List.mem_append.1 hx with h1 | h1
  · exact h x h1
  · exact be4_ok _ x h1
end Go.Proofs.Ytnmhhjgiakijgaa
