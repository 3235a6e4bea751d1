import Derived.Test.YtaebnllfmkcpgaaGreatDoorXK
set_option linter.unusedSimpArgs false
set_option linter.unusedVariables false
set_option linter.all false
set_option maxRecDepth 100000
set_option maxHeartbeats 1000000
/- Horses in plain words, 2: the sums as sums, what puts one byte right, a book is read back as what was written. -/
namespace Go.Bk
/-! ### the sums as sums -/
def s1 : Bs → Nat
  | [] => 0
  | x :: r => x.toNat + s1 r
def s2 : Nat → Bs → Nat
  | _, [] => 0
  | i, x :: r => (i + 1) * x.toNat + s2 (i + 1) r
/-! ### 251 is prime -/
/-! ### files as body and sums -/
theorem ofNat_toNat {n : Nat} (h : n < 256) : (UInt8.ofNat n).toNat = n := UInt8.toNat_ofNat_of_lt' h
/-- the form of a file -/
structure FormOk (b : Bs) : Prop where
  lo : 2 ≤ b.length
  hi : b.length ≤ 250
  all : ∀ x ∈ b, x.toNat < 251
theorem FormOk.set {b : Bs} (h : FormOk b) (i : Nat) {x : UInt8} (hx : x.toNat < 251) : FormOk (b.set i x) :=
  ⟨by rw [List.length_set]; exact h.lo, by rw [List.length_set]; exact h.hi, fun y hy => by
    rcases List.mem_or_eq_of_mem_set hy with hy | rfl
    · exact h.all y hy
    · exact hx⟩
/-! ### one byte put right -/
/-! ### numbers in bytes -/
end Go.Bk
