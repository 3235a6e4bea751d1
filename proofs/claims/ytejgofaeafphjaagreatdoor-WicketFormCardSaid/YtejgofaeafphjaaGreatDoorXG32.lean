import Derived.Test.YtejgofaeafphjaaGreatDoorXG31
import Derived.Test.YtejgofaeafphjaaGreatDoorXG29
import Derived.Test.YtejgofaeafphjaaGreatDoorXG7
set_option linter.all false
set_option maxRecDepth 100000
set_option maxHeartbeats 4000000
attribute [local irreducible] Go.W.WL Go.W.WLF Go.W.WC Go.W.WCF Go.W.WP Go.W.WA Go.W.WQ Go.W.WH Go.W.WHo Go.W.WCn Go.W.Yd Go.W.Qt Go.W.SO Go.Code.wp Go.Code.wpIn
namespace Go.Proofs.YtejgofaeafphjaaGreatDoor
open Go.W Go.Ti
theorem xUp : Builder.Extra Tryz.prog zlt := ⟨⟨by kernel_rfl, by kernel_rfl⟩, Tryz.underlying5, Tryz.isAgg5, Tryz.sizeOf5, Tryz.zeroValue5, by kernel_rfl, by kernel_rfl, by kernel_rfl, by decide⟩
theorem xRp : Builder.Extra Tryz.prog zlr := ⟨⟨by kernel_rfl, by kernel_rfl⟩, Tryz.underlying5, Tryz.isAgg5, Tryz.sizeOf5, Tryz.zeroValue5, by kernel_rfl, by kernel_rfl, by kernel_rfl, by decide⟩
theorem xRe : Builder.Extra Tryz.prog zls := ⟨⟨by kernel_rfl, by kernel_rfl⟩, Tryz.underlying5, Tryz.isAgg5, Tryz.sizeOf5, Tryz.zeroValue5, by kernel_rfl, by kernel_rfl, by kernel_rfl, by decide⟩
theorem zmh (s : Bs) (hs : s.length ≤ 1000) (ha : ∀ b ∈ s, b.toNat < 128) (w : World) : z8 Tryz.prog 49 [st s] w (st (Lib.toUpperA s)) :=
  (Any.strings_ToUpper_ascii zmc xUp ⟨s.toArray⟩ w (by rw [wk]; omega) (fun j b hb => ha b (List.mem_of_getElem? hb))).mono fun e' w' ⟨h1, h2⟩ => ⟨h1, Keep.of_below h2⟩
theorem zm0 (s : Bs) (c : Nat) (hs : s.length ≤ 1000) (hc : c ≤ 1000) (w : World) : z8 Tryz.prog 50 [st s, nt c] w (st (Lib.repeatL s c)) :=
  (Any.strings_Repeat zm8 xRp ⟨s.toArray⟩ c w (by omega) (by rw [wk]; exact Nat.le_trans (Nat.mul_le_mul hs hc) (by decide))).mono fun e' w' ⟨h1, h2⟩ => ⟨h1, Keep.of_below h2⟩
theorem zlG (s sub : Bs) (hs : s.length ≤ 1000) (D : Imm) (hL : LibW D) (w : World) (hH : Holds D w) : z8 Tryz.prog 51 [st s, st sub] w (.bool (Lib.contains s sub)) := by
  obtain ⟨m, hm⟩ := hL.max hH;exact (Any.strings_Contains zm9 ⟨s.toArray⟩ ⟨sub.toArray⟩ m w (by rw [wk]; omega) hm).mono fun e' w' ⟨h1, h2⟩ => ⟨h1, h2 ▸ Keep.refl _ _⟩
theorem zlq (s old new : Bs) (n : Int) (hs : s.length ≤ 1000) (ho : 1 ≤ old.length) (hl : s.length + Lib.countB ⟨s.toArray⟩ ⟨old.toArray⟩ * new.length ≤ 140737488355328) (D : Imm) (hL : LibW D) (w : World) (hH : Holds D w) : z8 Tryz.prog 52 [st s, st old, st new, it n] w (st (Lib.replace s old new n)) := by
  obtain ⟨m, hm⟩ := hL.max hH;exact (Any.strings_Replace zmb xRe ⟨s.toArray⟩ ⟨old.toArray⟩ ⟨new.toArray⟩ n m w (by rw [wk]; omega) hm (by rw [wk]; exact ho) (by rw [wk, wk]; exact hl)).mono fun e' w' ⟨h1, h2⟩ => ⟨h1, Keep.of_below h2⟩
theorem zlX (s sub : Bs) (hs : s.length ≤ 1000) (w : World) : z8 Tryz.prog 53 [st s, st sub] w (it (Lib.lastIndex s sub)) :=
  (Any.strings_LastIndex zma ⟨s.toArray⟩ ⟨sub.toArray⟩ (by rw [wk]; omega) w).mono fun e' w' ⟨h1, h2⟩ => ⟨h1, h2 ▸ Keep.refl _ _⟩
theorem zlD : ∀ i, i < 12 → (gt v7 i).length ≤ 16 ∧ (gt v7 i).all (fun b => decide (b.toNat < 128)) = true := by decide +kernel
theorem zlx : ∀ i, i < 12 → Lib.toUpperA (gt v7 i) = upS (gt v7 i) ∧ Lib.contains (gt v7 i) [32] = decide ((32 : UInt8) ∈ gt v7 i) := by decide +kernel
theorem zlV : ∀ i, i < 12 → (32 : UInt8) ∈ gt v7 i → (∀ q ∈ ([[32, 32], [32, 48], [32, 45], [32, 49, 50, 51, 52, 53, 54]] : List Bs), Lib.replace (gt v7 i) [32] q 1 = rep1 (gt v7 i) q) ∧ 0 ≤ Lib.lastIndex (gt v7 i) [32] ∧ Lib.lastIndex (gt v7 i) [32] ≤ (gt v7 i).length ∧ (gt v7 i).take (Lib.lastIndex (gt v7 i) [32]).toNat = preS (gt v7 i) := by decide +kernel
theorem zme : Lib.repeatL [32, 49] 40 = zlE := by decide +kernel
theorem zlU : ∀ i, i < 12 → Lib.countB ⟨(gt v7 i).toArray⟩ ⟨List.toArray [32]⟩ ≤ 100 := by decide +kernel
end Go.Proofs.YtejgofaeafphjaaGreatDoor
