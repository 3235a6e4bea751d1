import Derived.Test.YtaebnllfmkcpgaaGreatDoorXO
set_option linter.unusedSimpArgs false
set_option linter.unusedVariables false
set_option linter.all false
set_option maxRecDepth 100000
set_option maxHeartbeats 1000000
namespace Go.Proofs.YtaebnllfmkcpgaaGreatDoor
open Go.W Go.Bk

def stC (p : Bs) : List Value := [st p]
end Go.Proofs.YtaebnllfmkcpgaaGreatDoor
namespace Go.Proofs.YtaebnllfmkcpgaaGreatDoor
open Go.W Go.Bk

theorem blank_go {s : Bs} {i : Nat} (h : i < s.length) (hc : gt s i = 32) : (s.drop i).takeWhile (· == 32) = 32 :: (s.drop (i + 1)).takeWhile (· == 32) ∧ (s.drop i).dropWhile (· == 32) = (s.drop (i + 1)).dropWhile (· == 32) := by
  rw [drop_gt h, List.takeWhile_cons, List.dropWhile_cons, hc]; simp
theorem blank_end {s : Bs} {i : Nat} (h : i < s.length → gt s i ≠ 32) : (s.drop i).takeWhile (· == 32) = [] ∧ (s.drop i).dropWhile (· == 32) = s.drop i := by
  rcases Nat.lt_or_ge i s.length with h1 | h1
  · rw [drop_gt h1, List.takeWhile_cons, List.dropWhile_cons]
    have : (gt s i == 32) = false := by rw [beq_eq_false_iff_ne]; exact h h1
    rw [this]; simp
  · rw [List.drop_of_length_le h1]; simp
/-- the blanks are read, so many of them -/
def BlankI (s : Bs) (i : Nat) : Prop := (s.takeWhile (· == 32)).length = i + ((s.drop i).takeWhile (· == 32)).length ∧ s.dropWhile (· == 32) = (s.drop i).dropWhile (· == 32)
theorem BlankI.zero (s : Bs) : BlankI s 0 := ⟨by simp, rfl⟩
theorem BlankI.go {s : Bs} {i : Nat} (h : BlankI s i) (hi : i < s.length) (hc : gt s i = 32) : BlankI s (i + 1) := by
  obtain ⟨h1, h2⟩ := blank_go hi hc
  exact ⟨by rw [h.1, h1]; simp; omega, by rw [h.2, h2]⟩
theorem BlankI.val {s : Bs} {i : Nat} (h : BlankI s i) (hc : i < s.length → gt s i ≠ 32) : valueR s = digR (8 - i) 0 (s.drop i) := by
  obtain ⟨h1, h2⟩ := blank_end hc
  unfold valueR
  rw [h.1, h.2, h1, h2]; rfl
end Go.Proofs.YtaebnllfmkcpgaaGreatDoor
namespace Go.Proofs.YtaebnllfmkcpgaaGreatDoor
open Go.W Go.Bk

end Go.Proofs.YtaebnllfmkcpgaaGreatDoor
namespace Go.Proofs.YtaebnllfmkcpgaaGreatDoor
open Go.W Go.Bk

end Go.Proofs.YtaebnllfmkcpgaaGreatDoor
namespace Go.Proofs.YtaebnllfmkcpgaaGreatDoor
open Go.W Go.Bk

end Go.Proofs.YtaebnllfmkcpgaaGreatDoor
namespace Go.Proofs.YtaebnllfmkcpgaaGreatDoor
open Go.W Go.Bk

attribute [local irreducible] valueR spanR afterR partsR linesR

end Go.Proofs.YtaebnllfmkcpgaaGreatDoor
namespace Go.Proofs.YtaebnllfmkcpgaaGreatDoor
open Go.W Go.Bk
theorem SA25 : StructAt Tryz.prog 25 [.int .i64 0, .int .i64 0, .slice none 0 0, .slice none 0 0, .slice none 0 0] [(0, 1), (1, 1), (2, 1), (3, 1), (4, 1)] := ⟨⟨_, Tryz.zeroValue25, rfl⟩, _, Tryz.underlying25, fun w => by simp [Tryz.sizeOf3, Tryz.sizeOf22, Tryz.sizeOf23]⟩
theorem SA29 : StructAt Tryz.prog 29 [.int .i64 0, .int .i64 0, .int .i64 0, .slice none 0 0, .slice none 0 0] [(0, 1), (1, 1), (2, 1), (3, 1), (4, 1)] := ⟨⟨_, Tryz.zeroValue29, rfl⟩, _, Tryz.underlying29, fun w => by simp [Tryz.sizeOf3, Tryz.sizeOf26, Tryz.sizeOf27]⟩
theorem SA32 : StructAt Tryz.prog 32 [.int .i64 0, .int .i64 0, .int .i64 0, .int .i64 0, .slice none 0 0] [(0, 1), (1, 1), (2, 1), (3, 1), (4, 1)] := ⟨⟨_, Tryz.zeroValue32, rfl⟩, _, Tryz.underlying32, fun w => by simp [Tryz.sizeOf3, Tryz.sizeOf30]⟩
end Go.Proofs.YtaebnllfmkcpgaaGreatDoor
