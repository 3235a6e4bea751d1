import Derived.Test.YtaebnllfmkcpgaaGreatDoorXO
set_option linter.unusedSimpArgs false
set_option linter.unusedVariables false
set_option linter.all false
set_option maxRecDepth 100000
set_option maxHeartbeats 1000000
namespace Go.Proofs.YtaebnllfmkcpgaaGreatDoor
open Go.W Go.Bk

def stC (p : Bs) : List Value := [st p]
theorem stC_len : ∀ s, (stC s).length = 1 := fun _ => rfl
theorem parts_cut {c : UInt8} {s part : Bs} {k : Nat} (h : k < s.length) (hc : gt s k = c) : partsR c part (s.drop k) = part :: partsR c [] (s.drop (k + 1)) := by
  rw [drop_gt h, partsR, if_pos hc]
theorem parts_go {c : UInt8} {s part : Bs} {k : Nat} (h : k < s.length) (hc : gt s k ≠ c) : partsR c part (s.drop k) = partsR c (part ++ [gt s k]) (s.drop (k + 1)) := by
  rw [drop_gt h, partsR, if_neg hc]
theorem mid_one {s : Bs} {k : Nat} (h : k < s.length) : (s.drop k).take (k + 1 - k) = [gt s k] := by
  rw [drop_gt h, show k + 1 - k = 1 by omega]; rfl
theorem parts_pos (c : UInt8) (s acc : Bs) : 0 < (partsR c acc s).length := List.length_pos_iff.2 (partsR_ne c s acc)
theorem parts_le (c : UInt8) : ∀ (s acc : Bs), ∀ p ∈ partsR c acc s, p.length ≤ acc.length + s.length
  | [], acc, p, h => by simp [partsR] at h; simp [h]
  | d :: r, acc, p, h => by
    rw [partsR] at h
    split at h
    · rcases List.mem_cons.1 h with rfl | h
      · simp
      · have := parts_le c r [] p h; simp at this ⊢; omega
    · have := parts_le c r (acc ++ [d]) p h; simp at this ⊢; omega
theorem parts_cnt (c : UInt8) : ∀ (s acc : Bs), (partsR c acc s).length ≤ s.length + 1
  | [], acc => by simp [partsR]
  | d :: r, acc => by
    rw [partsR]; split
    · have := parts_cnt c r []; simp; omega
    · have := parts_cnt c r (acc ++ [d]); simp; omega

theorem parts_g (s : Bs) (c : UInt8) (hs : s.length ≤ 2 ^ 16) (D : Imm) (w : World) (hH : Holds D w) : Makes Tryz.prog 137 [st s, bt c] w D (fun v D' => ∃ a n cp, v = .slice a n cp ∧ SlL D' 1 ((partsR c [] s).map stC) a n ∧ n ≤ cp) := by
  unfold Makes
  refine enter Tryz.func137 rfl 34 Tryz.ntmps137 (zqb rfl) (Inv.start hH) ?_
  refine WC.seq (WC.ofFr [(0, _), (1, _)] ⟨rfl, rfl, trivial⟩ (WC.region ?_))
  refine zya rfl rfl ?_
  refine WL.nil (WP.thenC (WC.seq (WC.ofFr [(4, _), (0, _), (1, _)] ⟨rfl, rfl, rfl, trivial⟩ (WC.region ?_))))
  refine zya rfl rfl ?_
  refine WL.nil (WP.thenC (WC.seq (WC.ofFr [(5, _), (4, _), (0, _), (1, _)] ⟨rfl, rfl, rfl, rfl, trivial⟩ (WC.region ?_))))
  refine zya rfl rfl ?_
  refine WL.nil (WP.thenC (WC.seq (WC.seq (WC.ofFr [(6, _), (5, _), (4, _), (0, _), (1, _)] ⟨rfl, rfl, rfl, rfl, rfl, trivial⟩ (WC.region ?_)))))
  refine zya rfl rfl ?_
  refine WL.nil (WP.thenC (WC.block ?_))
  refine WC.loopT [] (fun y : Nat × List Bs × Bs × Option Ow => [(0, st s), (1, bt c), (5, owV y.2.2.2 y.2.1.length), (6, st y.2.2.1), (7, nt y.1)]) (fun y => owH y.2.2.2 9 (y.2.1.flatMap stC) []) (fun y => y.1 ≤ s.length ∧ partsR c [] s = y.2.1 ++ partsR c y.2.2.1 (s.drop y.1) ∧ owP w y.2.2.2 y.2.1.length 1 ∧ y.2.1.length ≤ y.1 ∧ y.2.2.1.length ≤ y.1) (fun y => s.length - y.1) (0, [], [], none) ⟨Nat.zero_le _, rfl, rfl, Nat.le_refl _, Nat.le_refl _⟩ rfl ⟨rfl, rfl, rfl, rfl, rfl, trivial⟩ ?_
  rintro ⟨k, out, part, o⟩ ⟨hk, hF, ho, hol, hpl⟩
  dsimp only at hk hF ho hol hpl
  refine WC.seq (WC.seq (WC.ofFr [(0, _), (1, _), (5, _), (6, _), (7, _)] ⟨rfl, rfl, rfl, rfl, rfl, trivial⟩ (WC.region ?_)))
  refine zym rfl rfl ?_
  refine zym rfl rfl ?_
  refine WL.yd (Yd.lenStr rfl Tryz.underlying9 rfl) rfl ?_
  refine WL.yd (Yd.lss rfl rfl) rfl ?_
  refine WL.nil (WP.thenC ?_)
  refine WC.cond rfl (fun c11 => ?_) (fun c11 => ?_)
  · try simp only [zq1, zq2, zq3, zq4, zq5, zq6, zq7, zq8] at c11
    have hkl : k < s.length := by omega
    refine WC.skip (WP.thenC (WC.seq (WC.block (WC.seq (WC.ofFr [(0, _), (1, _), (5, _), (6, _), (7, _)] ⟨rfl, rfl, rfl, rfl, rfl, trivial⟩ (WC.region ?_))))))
    refine zym rfl rfl ?_
    refine zym rfl rfl ?_
    refine WL.yd (Yd.indexStr Tryz.underlying9 rfl rfl (by (try dsimp only); omega)) rfl ?_
    refine zym rfl rfl ?_
    refine WL.yd (Yd.eql rfl rfl) rfl ?_
    refine WL.nil (WP.thenC ?_)
    refine WC.cond rfl (fun c18 => ?_) (fun c18 => ?_)
    · try simp only [zq1, zq2, zq3, zq4, zq5, zq6, zq7, zq8] at c18
      have hcc : gt s k = c := UInt8.toNat_inj.1 (by omega)
      refine WC.ofFr [(0, _), (1, _), (5, _), (6, _), (7, _)] ⟨rfl, rfl, rfl, rfl, rfl, trivial⟩ (WC.region ?_)
      refine zym rfl rfl ?_
      refine zym rfl rfl ?_
      refine WL.so (SO.buildSlice1 Tryz.underlying76 Tryz.sizeOf9 Tryz.zeroValue9 rfl rfl rfl (vs := [_]) rfl rfl rfl) rfl ?_
      rintro _ _ _ ⟨b21, hb21, rfl, rfl, rfl⟩
      refine WL.so (SO.appendOw (o := o) (len := out.length) (n := 1) (xs := (out.flatMap stC)) (size := 1) [_] [] [] rfl rfl Tryz.underlying76 Tryz.sizeOf9 Tryz.typeInfo9 Tryz.zeroValue9 rfl rfl rfl rfl ⟨rfl, .inr ⟨_, _, _, rfl, RdN.own (k := 0) (n := 1) rfl rfl⟩⟩ (oneB_spec rfl) ho (flat_len stC_len _) (by omega) (by show (2 * (_ + _) + 1000) * 16 ≤ 2 ^ 48; omega) (by omega)) rfl ?_
      rintro _ _ _ ⟨u1, hu1, rfl, rfl, rfl⟩
      refine zya rfl rfl ?_
      refine zya rfl rfl ?_
      refine WL.nil (WP.blkNormal (WP.thenC (WC.ofFr [(6, _), (5, _), (0, _), (1, _), (7, _)] ⟨rfl, rfl, rfl, rfl, rfl, trivial⟩ (WC.region ?_))))
      refine zym rfl rfl ?_
      refine WL.yd (Yd.add rfl rfl (wr64 ⟨by (try dsimp only); omega, by (try dsimp only); omega⟩)) rfl ?_
      refine zya rfl rfl ?_
      refine WL.nil ?_
      exact WP.againT (k + 1, out ++ [part], [], some u1) ⟨hkl, by dsimp only; rw [hF, parts_cut hkl hcc]; simp, by simpa using hu1, by simp; omega, Nat.zero_le _⟩ (by dsimp only; omega) [] _ rfl (by show _ = _ ++ owH (some u1) _ ((out ++ [part]).flatMap stC) []; rw [List.flatMap_append]; rfl) ⟨rfl, rfl, by show _ = some (owV (some u1) (out ++ [part]).length); rw [List.length_append]; rfl, rfl, rfl, trivial⟩
    · try simp only [zq1, zq2, zq3, zq4, zq5, zq6, zq7, zq8] at c18
      have hcc : gt s k ≠ c := fun e => c18 (by rw [e])
      refine WC.ofFr [(0, _), (1, _), (5, _), (6, _), (7, _)] ⟨rfl, rfl, rfl, rfl, rfl, trivial⟩ (WC.region ?_)
      refine zym rfl rfl ?_
      refine zym rfl rfl ?_
      refine zym rfl rfl ?_
      refine zym rfl rfl ?_
      refine WL.yd (Yd.add rfl rfl (wr64 ⟨by (try dsimp only); omega, by (try dsimp only); omega⟩)) rfl ?_
      refine WL.know 27 (nt (k + 1)) rfl (by simp) ?_
      refine WL.yd (Yd.sliceMidS Tryz.underlying9 rfl rfl rfl (by (try dsimp only); omega) (by (try dsimp only); omega)) rfl ?_
      refine WL.yd (Yd.addS rfl rfl (by (try dsimp only); first | omega | (simp; omega))) rfl ?_
      refine zya rfl rfl ?_
      refine WL.nil (WP.blkNormal (WP.thenC (WC.ofFr [(6, _), (0, _), (1, _), (5, _), (7, _)] ⟨rfl, rfl, rfl, rfl, rfl, trivial⟩ (WC.region ?_))))
      refine zym rfl rfl ?_
      refine WL.yd (Yd.add rfl rfl (wr64 ⟨by (try dsimp only); omega, by (try dsimp only); omega⟩)) rfl ?_
      refine zya rfl rfl ?_
      refine WL.nil ?_
      exact WP.againT (k + 1, out, part ++ [gt s k], o) ⟨hkl, by dsimp only; rw [hF, parts_go hkl hcc], ho, by dsimp only; omega, by simp; omega⟩ (by dsimp only; omega) [] _ rfl rfl ⟨rfl, rfl, rfl, by show some (st _) = some (st _); rw [mid_one hkl], rfl, trivial⟩
  · try simp only [zq1, zq2, zq3, zq4, zq5, zq6, zq7, zq8] at c11
    obtain rfl : k = s.length := by omega
    refine WC.exit ?_
    refine WP.thenExit ?_
    refine WP.thenExit ?_
    refine WP.blkHit ?_
    refine WP.thenC (WC.seq (WC.ofFr [(5, _), (6, _)] ⟨rfl, rfl, trivial⟩ (WC.region ?_)))
    refine zym rfl rfl ?_
    refine zym rfl rfl ?_
    refine WL.so (SO.buildSlice1 Tryz.underlying76 Tryz.sizeOf9 Tryz.zeroValue9 rfl rfl rfl (vs := [_]) rfl rfl rfl) rfl ?_
    rintro _ _ _ ⟨b32, hb32, rfl, rfl, rfl⟩
    refine WL.so (SO.appendOw (o := o) (len := out.length) (n := 1) (xs := (out.flatMap stC)) (size := 1) [_] [] [] rfl rfl Tryz.underlying76 Tryz.sizeOf9 Tryz.typeInfo9 Tryz.zeroValue9 rfl rfl rfl rfl ⟨rfl, .inr ⟨_, _, _, rfl, RdN.own (k := 0) (n := 1) rfl rfl⟩⟩ (oneB_spec rfl) ho (flat_len stC_len _) (by omega) (by show (2 * (_ + _) + 1000) * 16 ≤ 2 ^ 48; omega) (by omega)) rfl ?_
    rintro _ _ _ ⟨u2, hu2, rfl, rfl, rfl⟩
    have hfin : partsR c [] s = out ++ [part] := by rw [hF, List.drop_length]; rfl
    refine WL.freezeOw (f := stC) (m := 1) stC_len [] [] (some u2) 9 (partsR c [] s) rfl (by rw [hfin, List.length_append]; exact hu2) (by show _ = _ ++ owH (some u2) _ ((partsR c [] s).flatMap stC) []; rw [hfin, List.flatMap_append]; rfl) (fun D2 hX2 hS2 => ?_)
    refine zya rfl rfl ?_
    refine WL.nil (WP.thenC (WC.ret ?_))
    refine WP.ret1 rfl rfl Tryz.results137 (RV.tmp rfl) (fun w1 hI => ⟨_, D2, rfl, hI.keep, hI.imm, hX2, owAt (some u2), (partsR c [] s).length, _, by rw [hfin, List.length_append]; rfl, hS2, by rw [hfin, List.length_append]; exact hu2.2.1⟩)

end Go.Proofs.YtaebnllfmkcpgaaGreatDoor
namespace Go.Proofs.YtaebnllfmkcpgaaGreatDoor
open Go.W Go.Bk

theorem lines_no {s : Bs} (h : gt (partsR 10 [] s) ((partsR 10 [] s).length - 1) ≠ []) : linesR s = [] := by
  unfold linesR
  rw [if_neg]
  intro e
  rw [List.getLast?_eq_getElem?] at e
  apply h
  simp [gt, List.getD, e]
theorem lines_yes {s : Bs} (h : gt (partsR 10 [] s) ((partsR 10 [] s).length - 1) = []) : linesR s = (partsR 10 [] s).take ((partsR 10 [] s).length - 1) := by
  have hp := parts_pos 10 s []
  unfold linesR
  rw [if_pos, List.dropLast_eq_take]
  rw [List.getLast?_eq_getElem?, List.getElem?_eq_getElem (by omega)]
  have : gt (partsR 10 [] s) ((partsR 10 [] s).length - 1) = (partsR 10 [] s)[(partsR 10 [] s).length - 1]'(by omega) := by simp [gt, List.getD, show (partsR 10 [] s).length - 1 < (partsR 10 [] s).length by omega]
  rw [← this, h]
theorem linesR_le {s l : Bs} (h : l ∈ linesR s) : l.length ≤ s.length := by
  unfold linesR at h
  split at h
  · have := parts_le 10 s [] l ((List.dropLast_sublist _).subset h); simpa using this
  · cases h
theorem linesR_cnt (s : Bs) : (linesR s).length ≤ s.length + 1 := by
  have := parts_cnt 10 s []
  unfold linesR; split
  · simp; omega
  · simp

theorem rlines_g (s : Bs) (hs : s.length ≤ 2 ^ 16) (D : Imm) (w : World) (hH : Holds D w) : Makes Tryz.prog 132 [st s] w D (fun v D' => ∃ a n cp, v = .slice a n cp ∧ SlL D' 1 ((linesR s).map stC) a n) := by
  unfold Makes
  refine enter Tryz.func132 rfl 18 Tryz.ntmps132 (zqb rfl) (Inv.start hH) ?_
  refine WC.seq (WC.ofFr [(0, _)] ⟨rfl, trivial⟩ (WC.region ?_))
  refine zya rfl rfl ?_
  refine WL.nil (WP.thenC (WC.seq (WC.ofFr [(2, _), (0, _)] ⟨rfl, rfl, trivial⟩ (WC.region ?_))))
  refine zym rfl rfl ?_
  refine WL.so (SO.makes (Enters.func Tryz.call137 rfl) (fun w hI => parts_g s 10 hs D w hI.imm)) rfl ?_
  rintro _ D1 _ ⟨hX1, ⟨a1, n1, c1, rfl, hS1, hc1⟩, rfl⟩
  refine zya rfl rfl ?_
  refine WL.nil (WP.thenC (WC.seq (WC.seq (WC.ofFr [(3, _), (2, _)] ⟨rfl, rfl, trivial⟩ (WC.region ?_)))))
  obtain rfl : n1 = (partsR 10 [] s).length := hS1.len'
  have hp := parts_pos 10 s []
  have hcn := parts_cnt 10 s []
  refine zym rfl rfl ?_
  refine zym rfl rfl ?_
  refine WL.yd (Yd.lenS rfl Tryz.underlying76 rfl) rfl ?_
  refine WL.yd (Yd.sub rfl rfl (wr64 ⟨by (try dsimp only); omega, by (try dsimp only); omega⟩)) rfl ?_
  refine WL.know 9 (nt ((partsR 10 [] s).length - 1)) rfl (by congr 1; omega) ?_
  refine WL.yd (Yd.indexS Tryz.underlying76 Tryz.sizeOf9 rfl rfl (by (try dsimp only); omega) (by (try dsimp only); omega) (by first | exact hS1.addr ((partsR 10 [] s).length - 1) (by omega))) rfl ?_
  refine WL.yd (Yd.load1 Tryz.isAgg9 rfl (by first | exact ((hS1.at ((partsR 10 [] s).length - 1) (by omega)).rd 0 rfl))) rfl ?_
  refine WL.yd (Yd.neS' rfl rfl) rfl ?_
  refine WL.nil (WP.thenC ?_)
  refine WC.cond rfl (fun c12 => ?_) (fun c12 => ?_)
  · try simp only [zq1, zq2, zq3, zq4, zq5, zq6, zq7, zq8] at c12
    refine WC.seq (WC.ofFr [(3, _), (2, _)] ⟨rfl, rfl, trivial⟩ (WC.region ?_))
    refine zya rfl rfl ?_
    refine WL.nil (WP.thenC (WC.ret (WP.thenRet ?_)))
    refine WP.ret1 rfl rfl Tryz.results132 (RV.tmp rfl) (fun w hI => ⟨_, D1, rfl, hI.keep, hI.imm, hX1, none, 0, 0, rfl, by rw [lines_no (by simpa using c12)]; exact SlL.nil _ _⟩)
  · try simp only [zq1, zq2, zq3, zq4, zq5, zq6, zq7, zq8] at c12
    refine WC.skip (WP.thenC (WC.seq (WC.ofFr [(3, _), (2, _)] ⟨rfl, rfl, trivial⟩ (WC.region ?_))))
    refine zym rfl rfl ?_
    refine zym rfl rfl ?_
    refine WL.yd (Yd.lenS rfl Tryz.underlying76 rfl) rfl ?_
    refine WL.yd (Yd.sub rfl rfl (wr64 ⟨by (try dsimp only); omega, by (try dsimp only); omega⟩)) rfl ?_
    refine WL.know 16 (nt ((partsR 10 [] s).length - 1)) rfl (by congr 1; omega) ?_
    refine WL.yd (Yd.sliceTo Tryz.underlying76 Tryz.sizeOf9 rfl rfl (by (try dsimp only); omega)) rfl ?_
    refine zya rfl rfl ?_
    refine WL.nil (WP.thenC (WC.ret ?_))
    refine WP.ret1 rfl rfl Tryz.results132 (RV.tmp rfl) (fun w hI => ⟨_, D1, rfl, hI.keep, hI.imm, hX1, a1, ((partsR 10 [] s).length - 1), c1, rfl, by rw [lines_yes (by simpa using c12), List.map_take]; exact hS1.take (by omega)⟩)

theorem digR_len : ∀ (k : Nat) (n : Int) (s : Bs), (digR k n s).2.length ≤ s.length
  | 0, n, s => Nat.le_refl _
  | k + 1, n, [] => Nat.le_refl _
  | k + 1, n, c :: r => by
    rw [digR]; split
    · have := digR_len k (10 * n + ((c.toNat : Int) - 48)) r; simp; omega
    · exact Nat.le_refl _
theorem valueR_len (s : Bs) : (valueR s).2.length ≤ s.length := by
  unfold valueR
  have h1 := digR_len (8 - (s.takeWhile (· == 32)).length) 0 (s.dropWhile (· == 32))
  have h2 := (List.dropWhile_sublist (· == (32 : UInt8)) (l := s)).length_le
  omega
theorem blank_go {s : Bs} {i : Nat} (h : i < s.length) (hc : gt s i = 32) : (s.drop i).takeWhile (· == 32) = 32 :: (s.drop (i + 1)).takeWhile (· == 32) ∧ (s.drop i).dropWhile (· == 32) = (s.drop (i + 1)).dropWhile (· == 32) := by
  rw [drop_gt h, List.takeWhile_cons, List.dropWhile_cons, hc]; simp
theorem blank_end {s : Bs} {i : Nat} (h : i < s.length → gt s i ≠ 32) : (s.drop i).takeWhile (· == 32) = [] ∧ (s.drop i).dropWhile (· == 32) = s.drop i := by
  rcases Nat.lt_or_ge i s.length with h1 | h1
  · rw [drop_gt h1, List.takeWhile_cons, List.dropWhile_cons]
    have : (gt s i == 32) = false := by rw [beq_eq_false_iff_ne]; exact h h1
    rw [this]; simp
  · rw [List.drop_of_length_le h1]; simp
/-- the blanks are read, so many of them -/
def BlankI (s : Bs) (i : Nat) : Prop := (s.takeWhile (· == 32)).length = i + ((s.drop i).takeWhile (· == 32)).length ∧ s.dropWhile (· == 32) = (s.drop i).dropWhile (· == 32)
theorem BlankI.zero (s : Bs) : BlankI s 0 := ⟨by simp, rfl⟩
theorem BlankI.go {s : Bs} {i : Nat} (h : BlankI s i) (hi : i < s.length) (hc : gt s i = 32) : BlankI s (i + 1) := by
  obtain ⟨h1, h2⟩ := blank_go hi hc
  exact ⟨by rw [h.1, h1]; simp; omega, by rw [h.2, h2]⟩
theorem BlankI.val {s : Bs} {i : Nat} (h : BlankI s i) (hc : i < s.length → gt s i ≠ 32) : valueR s = digR (8 - i) 0 (s.drop i) := by
  obtain ⟨h1, h2⟩ := blank_end hc
  unfold valueR
  rw [h.1, h.2, h1, h2]; rfl
theorem dig_go {s : Bs} {i : Nat} {n : Int} (hi : i < s.length) (h8 : i < 8) (hd : 48 ≤ (gt s i).toNat ∧ (gt s i).toNat ≤ 57) : digR (8 - i) n (s.drop i) = digR (8 - (i + 1)) (10 * n + (((gt s i).toNat : Int) - 48)) (s.drop (i + 1)) := by
  rw [drop_gt hi, show 8 - i = (8 - (i + 1)) + 1 by omega, digR, if_pos (by simp [dig]; exact hd)]
theorem dig_end {s : Bs} {i : Nat} {n : Int} (h : i < s.length → i < 8 → ¬ (48 ≤ (gt s i).toNat ∧ (gt s i).toNat ≤ 57)) : digR (8 - i) n (s.drop i) = (n, s.drop i) := by
  rcases Nat.lt_or_ge i 8 with h8 | h8
  · rcases Nat.lt_or_ge i s.length with h1 | h1
    · rw [drop_gt h1, show 8 - i = (8 - (i + 1)) + 1 by omega, digR, if_neg (by unfold dig; rw [decide_eq_true_eq]; exact h h1 h8)]
    · rw [List.drop_of_length_le h1, show 8 - i = (8 - (i + 1)) + 1 by omega, digR]
  · rw [show 8 - i = 0 by omega, digR]
theorem pow8 {i : Nat} (h : i < 8) : 10 ^ i ≤ 10000000 ∧ 10 ^ (i + 1) = 10 * 10 ^ i := by
  refine ⟨?_, by rw [Nat.pow_succ]; omega⟩
  have : 10 ^ i ≤ 10 ^ 7 := Nat.pow_le_pow_right (by omega) (by omega)
  omega

theorem value_g (s : Bs) (hs : s.length ≤ 2 ^ 16) (w : World) : Gives Tryz.prog 135 [st s] w (.tuple #[it (valueR s).1, st (valueR s).2]) := by
  unfold Gives
  refine enter Tryz.func135 rfl 52 Tryz.ntmps135 (zqb rfl) (Inv.start (D := fun _ => none) (by intro _ _ h; cases h)) ?_
  refine WC.seq (WC.ofFr [(0, _)] ⟨rfl, trivial⟩ (WC.region ?_))
  refine zya rfl rfl ?_
  refine zya rfl rfl ?_
  refine WL.nil (WP.thenC (WC.seq (WC.ofFr [(3, _), (2, _), (0, _)] ⟨rfl, rfl, rfl, trivial⟩ (WC.region ?_))))
  refine zya rfl rfl ?_
  refine zya rfl rfl ?_
  refine WL.nil (WP.thenC (WC.seq (WC.block ?_)))
  refine WC.loopF (fun i : Nat => [(0, st s), (4, nt i), (5, it 0)]) (fun i => i ≤ s.length ∧ BlankI s i) (fun i => s.length - i) 0 ⟨Nat.zero_le _, BlankI.zero s⟩ ⟨rfl, rfl, rfl, trivial⟩ ?_
  rintro i ⟨hi, hB⟩
  refine WC.seq (WC.seq (WC.ofFr [(0, _), (4, _), (5, _)] ⟨rfl, rfl, rfl, trivial⟩ (WC.region ?_)))
  refine zym rfl rfl ?_
  refine zym rfl rfl ?_
  refine WL.yd (Yd.lenStr rfl Tryz.underlying9 rfl) rfl ?_
  refine WL.yd (Yd.lss rfl rfl) rfl ?_
  refine zym rfl rfl ?_
  refine WL.part 10 rfl (fun g10 => ?_) (fun g10 => ?_)
  · try simp only [zq1, zq2, zq3, zq4, zq5, zq6, zq7, zq8] at g10
    have hil : i < s.length := by omega
    have hb8 := (gt s i).toNat_lt
    refine WL.ydg rfl (Yd.move rfl) rfl ?_
    refine WL.ydg rfl (Yd.move rfl) rfl ?_
    refine WL.ydg rfl (Yd.indexStr Tryz.underlying9 rfl rfl (by (try dsimp only); omega)) rfl ?_
    refine WL.ydg rfl (Yd.eql rfl rfl) rfl ?_
    refine WL.yd (Yd.pickT rfl rfl) rfl ?_
    refine WL.nil (WP.thenC ?_)
    refine WC.cond rfl (fun c15 => ?_) (fun c15 => ?_)
    · try simp only [zq1, zq2, zq3, zq4, zq5, zq6, zq7, zq8] at c15
      refine WC.skip (WP.thenC (WC.block (WC.ofFr [(0, _), (4, _), (5, _)] ⟨rfl, rfl, rfl, trivial⟩ (WC.region ?_))))
      refine zym rfl rfl ?_
      refine WL.yd (Yd.add rfl rfl (wr64 ⟨by (try dsimp only); omega, by (try dsimp only); omega⟩)) rfl ?_
      refine zya rfl rfl ?_
      refine WL.nil (WP.blkNormal ?_)
      exact WP.againF (i + 1) ⟨hil, hB.go hil (UInt8.toNat_inj.1 (by have e : ((32 : UInt8).toNat : Int) = 32 := rfl; omega))⟩ (by omega) ⟨rfl, rfl, rfl, trivial⟩ (fun _ h => nomatch h) (fun _ => List.nodup_nil)
    · try simp only [zq1, zq2, zq3, zq4, zq5, zq6, zq7, zq8] at c15
      refine WC.exit ?_
      refine WP.thenExit ?_
      refine WP.thenExit ?_
      refine WP.blkHit ?_
      refine WP.thenC (WC.seq (WC.block ?_))
      have hV : valueR s = digR (8 - i) 0 (s.drop i) := hB.val (fun h1 => by first | (intro e; rw [e] at c15; exact c15 rfl) | omega)
      refine WC.loopF (fun y : Nat × Nat => [(0, st s), (4, nt y.1), (5, nt y.2)]) (fun y => y.1 ≤ s.length ∧ valueR s = digR (8 - y.1) y.2 (s.drop y.1) ∧ y.2 + 1 ≤ 10 ^ y.1) (fun y => s.length - y.1) (i, 0) ⟨hi, hV, Nat.succ_le_of_lt (Nat.pow_pos (by omega))⟩ ⟨rfl, rfl, rfl, trivial⟩ ?_
      rintro ⟨j, n⟩ ⟨hj, hD, hn⟩
      dsimp only at hj hD hn
      refine WC.seq (WC.seq (WC.ofFr [(0, _), (4, _), (5, _)] ⟨rfl, rfl, rfl, trivial⟩ (WC.region ?_)))
      refine zym rfl rfl ?_
      refine zym rfl rfl ?_
      refine WL.yd (Yd.lenStr rfl Tryz.underlying9 rfl) rfl ?_
      refine WL.yd (Yd.lss rfl rfl) rfl ?_
      refine zym rfl rfl ?_
      refine WL.part 22 rfl (fun g22 => ?_) (fun g22 => ?_)
      · try simp only [zq1, zq2, zq3, zq4, zq5, zq6, zq7, zq8] at g22
        have hjl : j < s.length := by omega
        have hb8 := (gt s j).toNat_lt
        refine WL.ydg rfl (Yd.move rfl) rfl ?_
        refine WL.ydg rfl (Yd.lss rfl rfl) rfl ?_
        refine WL.yd (Yd.pickT rfl rfl) rfl ?_
        refine zym rfl rfl ?_
        refine WL.part 26 rfl (fun g26 => ?_) (fun g26 => ?_)
        · try simp only [zq1, zq2, zq3, zq4, zq5, zq6, zq7, zq8] at g26
          have hj8 : j < 8 := by omega
          have hp8 := pow8 hj8
          refine WL.ydg rfl (Yd.move rfl) rfl ?_
          refine WL.ydg rfl (Yd.move rfl) rfl ?_
          refine WL.ydg rfl (Yd.indexStr Tryz.underlying9 rfl rfl (by (try dsimp only); omega)) rfl ?_
          refine WL.ydg rfl (Yd.geq rfl rfl) rfl ?_
          refine WL.yd (Yd.pickT rfl rfl) rfl ?_
          refine zym rfl rfl ?_
          refine WL.part 32 rfl (fun g32 => ?_) (fun g32 => ?_)
          · try simp only [zq1, zq2, zq3, zq4, zq5, zq6, zq7, zq8] at g32
            refine WL.ydg rfl (Yd.move rfl) rfl ?_
            refine WL.ydg rfl (Yd.move rfl) rfl ?_
            refine WL.ydg rfl (Yd.indexStr Tryz.underlying9 rfl rfl (by (try dsimp only); omega)) rfl ?_
            refine WL.ydg rfl (Yd.leq rfl rfl) rfl ?_
            refine WL.yd (Yd.pickT rfl rfl) rfl ?_
            refine WL.nil (WP.thenC ?_)
            refine WC.cond rfl (fun c37 => ?_) (fun c37 => ?_)
            · try simp only [zq1, zq2, zq3, zq4, zq5, zq6, zq7, zq8] at c37
              refine WC.skip (WP.thenC (WC.block (WC.seq (WC.ofFr [(0, _), (4, _), (5, _)] ⟨rfl, rfl, rfl, trivial⟩ (WC.region ?_)))))
              refine zym rfl rfl ?_
              refine WL.yd (Yd.mul rfl rfl (wr64 ⟨by (try dsimp only); omega, by (try dsimp only); omega⟩)) rfl ?_
              refine zym rfl rfl ?_
              refine zym rfl rfl ?_
              refine WL.yd (Yd.indexStr Tryz.underlying9 rfl rfl (by (try dsimp only); omega)) rfl ?_
              refine WL.yd (Yd.sub rfl rfl (wr8 ⟨by (try dsimp only); omega, by (try dsimp only); omega⟩)) rfl ?_
              refine WL.yd (Yd.conv Tryz.underlying5 Tryz.underlying3 rfl (wr64 ⟨by (try dsimp only); omega, by (try dsimp only); omega⟩)) rfl ?_
              refine WL.yd (Yd.add rfl rfl (wr64 ⟨by (try dsimp only); omega, by (try dsimp only); omega⟩)) rfl ?_
              refine zya rfl rfl ?_
              refine WL.nil (WP.thenC (WC.ofFr [(5, _), (0, _), (4, _)] ⟨rfl, rfl, rfl, trivial⟩ (WC.region ?_)))
              refine zym rfl rfl ?_
              refine WL.yd (Yd.add rfl rfl (wr64 ⟨by (try dsimp only); omega, by (try dsimp only); omega⟩)) rfl ?_
              refine zya rfl rfl ?_
              refine WL.nil (WP.blkNormal ?_)
              exact WP.againF (j + 1, 10 * n + ((gt s j).toNat - 48)) ⟨hjl, by dsimp only; rw [hD, dig_go hjl hj8 ⟨by omega, by omega⟩]; congr 1; omega, by dsimp only; omega⟩ (by dsimp only; omega) ⟨rfl, rfl, by show some (it _) = some (nt _); congr 2; dsimp only; omega, trivial⟩ (fun _ h => nomatch h) (fun _ => List.nodup_nil)
            · try simp only [zq1, zq2, zq3, zq4, zq5, zq6, zq7, zq8] at c37
              refine WC.exit ?_
              refine WP.thenExit ?_
              refine WP.thenExit ?_
              refine WP.blkHit ?_
              refine WP.thenC (WC.seq (WC.ofFr [(0, _), (4, _), (5, _)] ⟨rfl, rfl, rfl, trivial⟩ ?_))
              refine WC.tail 5 [0, 1, 2, 3, 4] rfl (by kernel_rfl) (by kernel_rfl)  ?_
              refine WQ.q rfl (Yd.qt (Yd.move rfl)) rfl ?_
              refine WQ.q rfl (Yd.qt (Yd.move rfl)) rfl ?_
              refine WQ.q rfl (Yd.qt (Yd.move rfl)) rfl ?_
              refine WQ.q rfl (Yd.qt (Yd.sliceFromS Tryz.underlying9 rfl rfl (by (try dsimp only); omega))) rfl ?_
              refine WQ.q rfl (Yd.qt (Yd.assign rfl)) rfl ?_
              refine WQ.tail ?_
              refine zya rfl rfl ?_
              refine WL.nil (WP.thenC (WC.ret ?_))
              refine WP.ret2 rfl rfl Tryz.results135 (RV.tmp rfl) (RV.tmp rfl) (fun w hI => ⟨congrArg Ending.returned (by rw [hD, dig_end (fun h1 h2 => by omega)]), hI.keep⟩)
          · try simp only [zq1, zq2, zq3, zq4, zq5, zq6, zq7, zq8] at g32
            refine WL.skip rfl rfl ?_
            refine WL.skip rfl rfl ?_
            refine WL.skip rfl rfl ?_
            refine WL.skip rfl rfl ?_
            refine WL.yd (Yd.pickF rfl rfl) rfl ?_
            refine WL.nil (WP.thenC ?_)
            refine WC.condF rfl ?_
            refine WC.exit ?_
            refine WP.thenExit ?_
            refine WP.thenExit ?_
            refine WP.blkHit ?_
            refine WP.thenC (WC.seq (WC.ofFr [(0, _), (4, _), (5, _)] ⟨rfl, rfl, rfl, trivial⟩ ?_))
            refine WC.tail 5 [0, 1, 2, 3, 4] rfl (by kernel_rfl) (by kernel_rfl)  ?_
            refine WQ.q rfl (Yd.qt (Yd.move rfl)) rfl ?_
            refine WQ.q rfl (Yd.qt (Yd.move rfl)) rfl ?_
            refine WQ.q rfl (Yd.qt (Yd.move rfl)) rfl ?_
            refine WQ.q rfl (Yd.qt (Yd.sliceFromS Tryz.underlying9 rfl rfl (by (try dsimp only); omega))) rfl ?_
            refine WQ.q rfl (Yd.qt (Yd.assign rfl)) rfl ?_
            refine WQ.tail ?_
            refine zya rfl rfl ?_
            refine WL.nil (WP.thenC (WC.ret ?_))
            refine WP.ret2 rfl rfl Tryz.results135 (RV.tmp rfl) (RV.tmp rfl) (fun w hI => ⟨congrArg Ending.returned (by rw [hD, dig_end (fun h1 h2 => by omega)]), hI.keep⟩)
        · try simp only [zq1, zq2, zq3, zq4, zq5, zq6, zq7, zq8] at g26
          refine WL.skip rfl rfl ?_
          refine WL.skip rfl rfl ?_
          refine WL.skip rfl rfl ?_
          refine WL.skip rfl rfl ?_
          refine WL.yd (Yd.pickF rfl rfl) rfl ?_
          refine zym rfl rfl ?_
          refine WL.skip rfl rfl ?_
          refine WL.skip rfl rfl ?_
          refine WL.skip rfl rfl ?_
          refine WL.skip rfl rfl ?_
          refine WL.yd (Yd.pickF rfl rfl) rfl ?_
          refine WL.nil (WP.thenC ?_)
          refine WC.condF rfl ?_
          refine WC.exit ?_
          refine WP.thenExit ?_
          refine WP.thenExit ?_
          refine WP.blkHit ?_
          refine WP.thenC (WC.seq (WC.ofFr [(0, _), (4, _), (5, _)] ⟨rfl, rfl, rfl, trivial⟩ ?_))
          refine WC.tail 5 [0, 1, 2, 3, 4] rfl (by kernel_rfl) (by kernel_rfl)  ?_
          refine WQ.q rfl (Yd.qt (Yd.move rfl)) rfl ?_
          refine WQ.q rfl (Yd.qt (Yd.move rfl)) rfl ?_
          refine WQ.q rfl (Yd.qt (Yd.move rfl)) rfl ?_
          refine WQ.q rfl (Yd.qt (Yd.sliceFromS Tryz.underlying9 rfl rfl (by (try dsimp only); omega))) rfl ?_
          refine WQ.q rfl (Yd.qt (Yd.assign rfl)) rfl ?_
          refine WQ.tail ?_
          refine zya rfl rfl ?_
          refine WL.nil (WP.thenC (WC.ret ?_))
          refine WP.ret2 rfl rfl Tryz.results135 (RV.tmp rfl) (RV.tmp rfl) (fun w hI => ⟨congrArg Ending.returned (by rw [hD, dig_end (fun h1 h2 => by omega)]), hI.keep⟩)
      · try simp only [zq1, zq2, zq3, zq4, zq5, zq6, zq7, zq8] at g22
        refine WL.skip rfl rfl ?_
        refine WL.skip rfl rfl ?_
        refine WL.yd (Yd.pickF rfl rfl) rfl ?_
        refine zym rfl rfl ?_
        refine WL.skip rfl rfl ?_
        refine WL.skip rfl rfl ?_
        refine WL.skip rfl rfl ?_
        refine WL.skip rfl rfl ?_
        refine WL.yd (Yd.pickF rfl rfl) rfl ?_
        refine zym rfl rfl ?_
        refine WL.skip rfl rfl ?_
        refine WL.skip rfl rfl ?_
        refine WL.skip rfl rfl ?_
        refine WL.skip rfl rfl ?_
        refine WL.yd (Yd.pickF rfl rfl) rfl ?_
        refine WL.nil (WP.thenC ?_)
        refine WC.condF rfl ?_
        refine WC.exit ?_
        refine WP.thenExit ?_
        refine WP.thenExit ?_
        refine WP.blkHit ?_
        refine WP.thenC (WC.seq (WC.ofFr [(0, _), (4, _), (5, _)] ⟨rfl, rfl, rfl, trivial⟩ ?_))
        refine WC.tail 5 [0, 1, 2, 3, 4] rfl (by kernel_rfl) (by kernel_rfl)  ?_
        refine WQ.q rfl (Yd.qt (Yd.move rfl)) rfl ?_
        refine WQ.q rfl (Yd.qt (Yd.move rfl)) rfl ?_
        refine WQ.q rfl (Yd.qt (Yd.move rfl)) rfl ?_
        refine WQ.q rfl (Yd.qt (Yd.sliceFromS Tryz.underlying9 rfl rfl (by (try dsimp only); omega))) rfl ?_
        refine WQ.q rfl (Yd.qt (Yd.assign rfl)) rfl ?_
        refine WQ.tail ?_
        refine zya rfl rfl ?_
        refine WL.nil (WP.thenC (WC.ret ?_))
        refine WP.ret2 rfl rfl Tryz.results135 (RV.tmp rfl) (RV.tmp rfl) (fun w hI => ⟨congrArg Ending.returned (by rw [hD, dig_end (fun h1 h2 => by omega)]), hI.keep⟩)
  · try simp only [zq1, zq2, zq3, zq4, zq5, zq6, zq7, zq8] at g10
    refine WL.skip rfl rfl ?_
    refine WL.skip rfl rfl ?_
    refine WL.skip rfl rfl ?_
    refine WL.skip rfl rfl ?_
    refine WL.yd (Yd.pickF rfl rfl) rfl ?_
    refine WL.nil (WP.thenC ?_)
    refine WC.condF rfl ?_
    refine WC.exit ?_
    refine WP.thenExit ?_
    refine WP.thenExit ?_
    refine WP.blkHit ?_
    refine WP.thenC (WC.seq (WC.block ?_))
    have hV : valueR s = digR (8 - i) 0 (s.drop i) := hB.val (fun h1 => by first | (intro e; rw [e] at c15; exact c15 rfl) | omega)
    refine WC.loopF (fun y : Nat × Nat => [(0, st s), (4, nt y.1), (5, nt y.2)]) (fun y => y.1 ≤ s.length ∧ valueR s = digR (8 - y.1) y.2 (s.drop y.1) ∧ y.2 + 1 ≤ 10 ^ y.1) (fun y => s.length - y.1) (i, 0) ⟨hi, hV, Nat.succ_le_of_lt (Nat.pow_pos (by omega))⟩ ⟨rfl, rfl, rfl, trivial⟩ ?_
    rintro ⟨j, n⟩ ⟨hj, hD, hn⟩
    dsimp only at hj hD hn
    refine WC.seq (WC.seq (WC.ofFr [(0, _), (4, _), (5, _)] ⟨rfl, rfl, rfl, trivial⟩ (WC.region ?_)))
    refine zym rfl rfl ?_
    refine zym rfl rfl ?_
    refine WL.yd (Yd.lenStr rfl Tryz.underlying9 rfl) rfl ?_
    refine WL.yd (Yd.lss rfl rfl) rfl ?_
    refine zym rfl rfl ?_
    refine WL.part 22 rfl (fun g22 => ?_) (fun g22 => ?_)
    · try simp only [zq1, zq2, zq3, zq4, zq5, zq6, zq7, zq8] at g22
      have hjl : j < s.length := by omega
      have hb8 := (gt s j).toNat_lt
      refine WL.ydg rfl (Yd.move rfl) rfl ?_
      refine WL.ydg rfl (Yd.lss rfl rfl) rfl ?_
      refine WL.yd (Yd.pickT rfl rfl) rfl ?_
      refine zym rfl rfl ?_
      refine WL.part 26 rfl (fun g26 => ?_) (fun g26 => ?_)
      · try simp only [zq1, zq2, zq3, zq4, zq5, zq6, zq7, zq8] at g26
        have hj8 : j < 8 := by omega
        have hp8 := pow8 hj8
        refine WL.ydg rfl (Yd.move rfl) rfl ?_
        refine WL.ydg rfl (Yd.move rfl) rfl ?_
        refine WL.ydg rfl (Yd.indexStr Tryz.underlying9 rfl rfl (by (try dsimp only); omega)) rfl ?_
        refine WL.ydg rfl (Yd.geq rfl rfl) rfl ?_
        refine WL.yd (Yd.pickT rfl rfl) rfl ?_
        refine zym rfl rfl ?_
        refine WL.part 32 rfl (fun g32 => ?_) (fun g32 => ?_)
        · try simp only [zq1, zq2, zq3, zq4, zq5, zq6, zq7, zq8] at g32
          refine WL.ydg rfl (Yd.move rfl) rfl ?_
          refine WL.ydg rfl (Yd.move rfl) rfl ?_
          refine WL.ydg rfl (Yd.indexStr Tryz.underlying9 rfl rfl (by (try dsimp only); omega)) rfl ?_
          refine WL.ydg rfl (Yd.leq rfl rfl) rfl ?_
          refine WL.yd (Yd.pickT rfl rfl) rfl ?_
          refine WL.nil (WP.thenC ?_)
          refine WC.cond rfl (fun c37 => ?_) (fun c37 => ?_)
          · try simp only [zq1, zq2, zq3, zq4, zq5, zq6, zq7, zq8] at c37
            refine WC.skip (WP.thenC (WC.block (WC.seq (WC.ofFr [(0, _), (4, _), (5, _)] ⟨rfl, rfl, rfl, trivial⟩ (WC.region ?_)))))
            refine zym rfl rfl ?_
            refine WL.yd (Yd.mul rfl rfl (wr64 ⟨by (try dsimp only); omega, by (try dsimp only); omega⟩)) rfl ?_
            refine zym rfl rfl ?_
            refine zym rfl rfl ?_
            refine WL.yd (Yd.indexStr Tryz.underlying9 rfl rfl (by (try dsimp only); omega)) rfl ?_
            refine WL.yd (Yd.sub rfl rfl (wr8 ⟨by (try dsimp only); omega, by (try dsimp only); omega⟩)) rfl ?_
            refine WL.yd (Yd.conv Tryz.underlying5 Tryz.underlying3 rfl (wr64 ⟨by (try dsimp only); omega, by (try dsimp only); omega⟩)) rfl ?_
            refine WL.yd (Yd.add rfl rfl (wr64 ⟨by (try dsimp only); omega, by (try dsimp only); omega⟩)) rfl ?_
            refine zya rfl rfl ?_
            refine WL.nil (WP.thenC (WC.ofFr [(5, _), (0, _), (4, _)] ⟨rfl, rfl, rfl, trivial⟩ (WC.region ?_)))
            refine zym rfl rfl ?_
            refine WL.yd (Yd.add rfl rfl (wr64 ⟨by (try dsimp only); omega, by (try dsimp only); omega⟩)) rfl ?_
            refine zya rfl rfl ?_
            refine WL.nil (WP.blkNormal ?_)
            exact WP.againF (j + 1, 10 * n + ((gt s j).toNat - 48)) ⟨hjl, by dsimp only; rw [hD, dig_go hjl hj8 ⟨by omega, by omega⟩]; congr 1; omega, by dsimp only; omega⟩ (by dsimp only; omega) ⟨rfl, rfl, by show some (it _) = some (nt _); congr 2; dsimp only; omega, trivial⟩ (fun _ h => nomatch h) (fun _ => List.nodup_nil)
          · try simp only [zq1, zq2, zq3, zq4, zq5, zq6, zq7, zq8] at c37
            refine WC.exit ?_
            refine WP.thenExit ?_
            refine WP.thenExit ?_
            refine WP.blkHit ?_
            refine WP.thenC (WC.seq (WC.ofFr [(0, _), (4, _), (5, _)] ⟨rfl, rfl, rfl, trivial⟩ ?_))
            refine WC.tail 5 [0, 1, 2, 3, 4] rfl (by kernel_rfl) (by kernel_rfl)  ?_
            refine WQ.q rfl (Yd.qt (Yd.move rfl)) rfl ?_
            refine WQ.q rfl (Yd.qt (Yd.move rfl)) rfl ?_
            refine WQ.q rfl (Yd.qt (Yd.move rfl)) rfl ?_
            refine WQ.q rfl (Yd.qt (Yd.sliceFromS Tryz.underlying9 rfl rfl (by (try dsimp only); omega))) rfl ?_
            refine WQ.q rfl (Yd.qt (Yd.assign rfl)) rfl ?_
            refine WQ.tail ?_
            refine zya rfl rfl ?_
            refine WL.nil (WP.thenC (WC.ret ?_))
            refine WP.ret2 rfl rfl Tryz.results135 (RV.tmp rfl) (RV.tmp rfl) (fun w hI => ⟨congrArg Ending.returned (by rw [hD, dig_end (fun h1 h2 => by omega)]), hI.keep⟩)
        · try simp only [zq1, zq2, zq3, zq4, zq5, zq6, zq7, zq8] at g32
          refine WL.skip rfl rfl ?_
          refine WL.skip rfl rfl ?_
          refine WL.skip rfl rfl ?_
          refine WL.skip rfl rfl ?_
          refine WL.yd (Yd.pickF rfl rfl) rfl ?_
          refine WL.nil (WP.thenC ?_)
          refine WC.condF rfl ?_
          refine WC.exit ?_
          refine WP.thenExit ?_
          refine WP.thenExit ?_
          refine WP.blkHit ?_
          refine WP.thenC (WC.seq (WC.ofFr [(0, _), (4, _), (5, _)] ⟨rfl, rfl, rfl, trivial⟩ ?_))
          refine WC.tail 5 [0, 1, 2, 3, 4] rfl (by kernel_rfl) (by kernel_rfl)  ?_
          refine WQ.q rfl (Yd.qt (Yd.move rfl)) rfl ?_
          refine WQ.q rfl (Yd.qt (Yd.move rfl)) rfl ?_
          refine WQ.q rfl (Yd.qt (Yd.move rfl)) rfl ?_
          refine WQ.q rfl (Yd.qt (Yd.sliceFromS Tryz.underlying9 rfl rfl (by (try dsimp only); omega))) rfl ?_
          refine WQ.q rfl (Yd.qt (Yd.assign rfl)) rfl ?_
          refine WQ.tail ?_
          refine zya rfl rfl ?_
          refine WL.nil (WP.thenC (WC.ret ?_))
          refine WP.ret2 rfl rfl Tryz.results135 (RV.tmp rfl) (RV.tmp rfl) (fun w hI => ⟨congrArg Ending.returned (by rw [hD, dig_end (fun h1 h2 => by omega)]), hI.keep⟩)
      · try simp only [zq1, zq2, zq3, zq4, zq5, zq6, zq7, zq8] at g26
        refine WL.skip rfl rfl ?_
        refine WL.skip rfl rfl ?_
        refine WL.skip rfl rfl ?_
        refine WL.skip rfl rfl ?_
        refine WL.yd (Yd.pickF rfl rfl) rfl ?_
        refine zym rfl rfl ?_
        refine WL.skip rfl rfl ?_
        refine WL.skip rfl rfl ?_
        refine WL.skip rfl rfl ?_
        refine WL.skip rfl rfl ?_
        refine WL.yd (Yd.pickF rfl rfl) rfl ?_
        refine WL.nil (WP.thenC ?_)
        refine WC.condF rfl ?_
        refine WC.exit ?_
        refine WP.thenExit ?_
        refine WP.thenExit ?_
        refine WP.blkHit ?_
        refine WP.thenC (WC.seq (WC.ofFr [(0, _), (4, _), (5, _)] ⟨rfl, rfl, rfl, trivial⟩ ?_))
        refine WC.tail 5 [0, 1, 2, 3, 4] rfl (by kernel_rfl) (by kernel_rfl)  ?_
        refine WQ.q rfl (Yd.qt (Yd.move rfl)) rfl ?_
        refine WQ.q rfl (Yd.qt (Yd.move rfl)) rfl ?_
        refine WQ.q rfl (Yd.qt (Yd.move rfl)) rfl ?_
        refine WQ.q rfl (Yd.qt (Yd.sliceFromS Tryz.underlying9 rfl rfl (by (try dsimp only); omega))) rfl ?_
        refine WQ.q rfl (Yd.qt (Yd.assign rfl)) rfl ?_
        refine WQ.tail ?_
        refine zya rfl rfl ?_
        refine WL.nil (WP.thenC (WC.ret ?_))
        refine WP.ret2 rfl rfl Tryz.results135 (RV.tmp rfl) (RV.tmp rfl) (fun w hI => ⟨congrArg Ending.returned (by rw [hD, dig_end (fun h1 h2 => by omega)]), hI.keep⟩)
    · try simp only [zq1, zq2, zq3, zq4, zq5, zq6, zq7, zq8] at g22
      refine WL.skip rfl rfl ?_
      refine WL.skip rfl rfl ?_
      refine WL.yd (Yd.pickF rfl rfl) rfl ?_
      refine zym rfl rfl ?_
      refine WL.skip rfl rfl ?_
      refine WL.skip rfl rfl ?_
      refine WL.skip rfl rfl ?_
      refine WL.skip rfl rfl ?_
      refine WL.yd (Yd.pickF rfl rfl) rfl ?_
      refine zym rfl rfl ?_
      refine WL.skip rfl rfl ?_
      refine WL.skip rfl rfl ?_
      refine WL.skip rfl rfl ?_
      refine WL.skip rfl rfl ?_
      refine WL.yd (Yd.pickF rfl rfl) rfl ?_
      refine WL.nil (WP.thenC ?_)
      refine WC.condF rfl ?_
      refine WC.exit ?_
      refine WP.thenExit ?_
      refine WP.thenExit ?_
      refine WP.blkHit ?_
      refine WP.thenC (WC.seq (WC.ofFr [(0, _), (4, _), (5, _)] ⟨rfl, rfl, rfl, trivial⟩ ?_))
      refine WC.tail 5 [0, 1, 2, 3, 4] rfl (by kernel_rfl) (by kernel_rfl)  ?_
      refine WQ.q rfl (Yd.qt (Yd.move rfl)) rfl ?_
      refine WQ.q rfl (Yd.qt (Yd.move rfl)) rfl ?_
      refine WQ.q rfl (Yd.qt (Yd.move rfl)) rfl ?_
      refine WQ.q rfl (Yd.qt (Yd.sliceFromS Tryz.underlying9 rfl rfl (by (try dsimp only); omega))) rfl ?_
      refine WQ.q rfl (Yd.qt (Yd.assign rfl)) rfl ?_
      refine WQ.tail ?_
      refine zya rfl rfl ?_
      refine WL.nil (WP.thenC (WC.ret ?_))
      refine WP.ret2 rfl rfl Tryz.results135 (RV.tmp rfl) (RV.tmp rfl) (fun w hI => ⟨congrArg Ending.returned (by rw [hD, dig_end (fun h1 h2 => by omega)]), hI.keep⟩)

end Go.Proofs.YtaebnllfmkcpgaaGreatDoor
namespace Go.Proofs.YtaebnllfmkcpgaaGreatDoor
open Go.W Go.Bk

theorem after_g (s : Bs) (m : Nat) (hs : s.length ≤ 2 ^ 16) (w : World) : Gives Tryz.prog 133 [st s, nt m] w (.tuple #[it (afterR s m).1, st (afterR s m).2]) := by
  unfold Gives
  refine enter Tryz.func133 rfl 16 Tryz.ntmps133 (zqb rfl) (Inv.start (D := fun _ => none) (by intro _ _ h; cases h)) ?_
  refine WC.seq (WC.ofFr [(0, _), (1, _)] ⟨rfl, rfl, trivial⟩ (WC.region ?_))
  refine zya rfl rfl ?_
  refine zya rfl rfl ?_
  refine WL.nil (WP.thenC (WC.seq (WC.seq (WC.ofFr [(5, _), (4, _), (0, _), (1, _)] ⟨rfl, rfl, rfl, rfl, trivial⟩ (WC.region ?_)))))
  refine zym rfl rfl ?_
  refine WL.yd (Yd.lenStr rfl Tryz.underlying9 rfl) rfl ?_
  refine zym rfl rfl ?_
  refine WL.yd (Yd.lss rfl rfl) rfl ?_
  refine WL.nil (WP.thenC ?_)
  refine WC.cond rfl (fun c9 => ?_) (fun c9 => ?_)
  · try simp only [zq1, zq2, zq3, zq4, zq5, zq6, zq7, zq8] at c9
    refine WC.seq (WC.ofFr [(5, _), (4, _), (0, _), (1, _)] ⟨rfl, rfl, rfl, rfl, trivial⟩ (WC.region ?_))
    refine zya rfl rfl ?_
    refine zya rfl rfl ?_
    refine WL.nil (WP.thenC (WC.ret (WP.thenRet ?_)))
    refine WP.ret2 rfl rfl Tryz.results133 (RV.tmp rfl) (RV.tmp rfl) (fun w hI => ⟨congrArg Ending.returned (by unfold afterR; rw [if_pos (by omega)]), hI.keep⟩)
  · try simp only [zq1, zq2, zq3, zq4, zq5, zq6, zq7, zq8] at c9
    refine WC.skip (WP.thenC (WC.seq (WC.ofFr [(5, _), (4, _), (0, _), (1, _)] ⟨rfl, rfl, rfl, rfl, trivial⟩ (WC.region ?_))))
    refine zym rfl rfl ?_
    refine zym rfl rfl ?_
    refine WL.yd (Yd.sliceFromS Tryz.underlying9 rfl rfl (by omega)) rfl ?_
    refine WL.so (SO.callP Tryz.call135 rfl (fun w hI => value_g (s.drop m) (by simp; omega) _)) rfl ?_
    rintro _ _ _ ⟨rfl, rfl, rfl⟩
    refine WL.yd (Yd.extract rfl rfl) rfl ?_
    refine WL.yd (Yd.extract rfl rfl) rfl ?_
    refine zya rfl rfl ?_
    refine zya rfl rfl ?_
    refine WL.nil (WP.thenC (WC.ret ?_))
    refine WP.ret2 rfl rfl Tryz.results133 (RV.tmp rfl) (RV.tmp rfl) (fun w hI => ⟨congrArg Ending.returned (by unfold afterR; rw [if_neg (by omega)]; rfl), hI.keep⟩)

theorem hasPre_iff {r b : Bs} (h : b.length ≤ r.length) : Lib.hasPrefix r b = true ↔ r.take b.length = b := by
  unfold Lib.hasPrefix
  rw [List.isPrefixOf_iff_prefix]
  constructor
  · rintro ⟨t, rfl⟩; simp
  · intro e; exact ⟨r.drop b.length, (congrArg (· ++ r.drop b.length) e.symm).trans (List.take_append_drop _ _)⟩
theorem hasPre_no {r b : Bs} (h : r.length < b.length) : Lib.hasPrefix r b = false := by
  rw [Bool.eq_false_iff]; intro e
  unfold Lib.hasPrefix at e
  rw [List.isPrefixOf_iff_prefix] at e
  have := e.length_le; omega
theorem spanR_no {s b : Bs} (h : (valueR s).2.length < b.length ∨ (valueR s).2.take b.length ≠ b) : spanR s b = (⟨(valueR s).1, (valueR s).1⟩, (valueR s).2) := by
  unfold spanR
  rw [if_neg]
  intro e
  rcases h with h | h
  · rw [hasPre_no h] at e; cases e
  · rcases Nat.lt_or_ge (valueR s).2.length b.length with h1 | h1
    · rw [hasPre_no h1] at e; cases e
    · exact h ((hasPre_iff h1).1 e)
theorem spanR_yes {s b : Bs} (h : b.length ≤ (valueR s).2.length) (h2 : (valueR s).2.take b.length = b) : spanR s b = (⟨(valueR s).1, (afterR (valueR s).2 b.length).1⟩, (afterR (valueR s).2 b.length).2) := by
  unfold spanR; rw [if_pos ((hasPre_iff h).2 h2)]
theorem afterR_len (s : Bs) (m : Nat) : (afterR s m).2.length ≤ s.length := by
  unfold afterR; split
  · simp
  · have := valueR_len (s.drop m); simp at this ⊢; omega
theorem spanR_len (s b : Bs) : (spanR s b).2.length ≤ s.length := by
  have h1 := valueR_len s
  unfold spanR; split
  · have := afterR_len (valueR s).2 b.length; simp only; omega
  · exact h1
theorem colsR_fuel : ∀ (n : Nat) (s : Bs), s.length ≤ n → ∀ m, s.length ≤ m → colsR n s = colsR m s
  | 0, s, h, m, _ => by
    have : s = [] := List.length_eq_zero_iff.1 (by omega)
    subst this
    cases m with
    | zero => rfl
    | succ m => rw [colsR, colsR, if_neg (by simp)]
  | n + 1, s, h, 0, h' => by
    have : s = [] := List.length_eq_zero_iff.1 (by omega)
    subst this
    rw [colsR, colsR, if_neg (by simp)]
  | n + 1, s, h, m + 1, h' => by
    rw [colsR, colsR]
    split
    · rw [colsR_fuel n (s.drop 6) (by simp; omega) m (by simp; omega)]
    · rfl
theorem cols_go {s : Bs} (h : 6 ≤ s.length) : colsR s.length s = (spanR (s.take 6) [45]).1 :: colsR (s.drop 6).length (s.drop 6) := by
  obtain ⟨n, hn⟩ : ∃ n, s.length = n + 1 := ⟨s.length - 1, by omega⟩
  rw [hn, colsR, if_pos h, colsR_fuel n (s.drop 6) (by simp; omega) (s.drop 6).length (Nat.le_refl _)]
theorem cols_end {s : Bs} (h : s.length < 6) : colsR s.length s = [] := by
  cases hn : s.length with
  | zero => rfl
  | succ n => rw [colsR, if_neg (by omega)]
theorem columnsR_start (s : Bs) : columnsR s = [] ++ colsR (s.drop 5).length (s.drop 5) := by
  unfold columnsR; rw [List.nil_append]; exact colsR_fuel _ _ (by simp) _ (Nat.le_refl _)

theorem spanOf_g (s b : Bs) (hs : s.length ≤ 2 ^ 16) (hb : b.length ≤ 2 ^ 16) (w : World) : Gives Tryz.prog 138 [st s, st b] w (.tuple #[.agg #[it (spanR s b).1.lo, it (spanR s b).1.hi], st (spanR s b).2]) := by
  unfold Gives
  refine enter Tryz.func138 rfl 43 Tryz.ntmps138 (zqb rfl) (Inv.start (D := fun _ => none) (by intro _ _ h; cases h)) ?_
  refine WC.seq (WC.ofFr [(0, _), (1, _)] ⟨rfl, rfl, trivial⟩ (WC.region ?_))
  refine WL.so (SO.alloc Tryz.zeroValue114 rfl) rfl ?_
  rintro _ _ _ ⟨b4, hb4, rfl, rfl, rfl⟩
  refine zya rfl rfl ?_
  refine WL.nil (WP.thenC (WC.seq (WC.ofFr [(5, _), (4, _), (0, _), (1, _)] ⟨rfl, rfl, rfl, rfl, trivial⟩ (WC.region ?_))))
  refine zym rfl rfl ?_
  refine WL.so (SO.callP Tryz.call135 rfl (fun w hI => value_g s hs _)) rfl ?_
  rintro _ _ _ ⟨rfl, rfl, rfl⟩
  refine zym rfl rfl ?_
  refine WL.yd (Yd.extract rfl rfl) rfl ?_
  refine WL.yd (Yd.extract rfl rfl) rfl ?_
  refine zya rfl rfl ?_
  refine zya rfl rfl ?_
  refine WL.nil (WP.thenC (WC.seq (WC.seq (WC.ofFr [(7, _), (6, _), (5, _), (4, _), (1, _)] ⟨rfl, rfl, rfl, rfl, rfl, trivial⟩ (WC.region ?_)))))
  have hvl := valueR_len s
  refine zym rfl rfl ?_
  refine WL.yd (Yd.lenStr rfl Tryz.underlying9 rfl) rfl ?_
  refine zym rfl rfl ?_
  refine WL.yd (Yd.lenStr rfl Tryz.underlying9 rfl) rfl ?_
  refine WL.yd (Yd.lss rfl rfl) rfl ?_
  refine zym rfl rfl ?_
  refine WL.part 20 rfl (fun g20 => ?_) (fun g20 => ?_)
  · try simp only [zq1, zq2, zq3, zq4, zq5, zq6, zq7, zq8] at g20
    refine WL.skip rfl rfl ?_
    refine WL.skip rfl rfl ?_
    refine WL.skip rfl rfl ?_
    refine WL.skip rfl rfl ?_
    refine WL.skip rfl rfl ?_
    refine WL.skip rfl rfl ?_
    refine WL.yd (Yd.pickT rfl rfl) rfl ?_
    refine WL.nil (WP.thenC ?_)
    refine WC.condT rfl ?_
    refine WC.seq (WC.ofFr [(7, _), (6, _), (5, _), (4, _), (1, _)] ⟨rfl, rfl, rfl, rfl, rfl, trivial⟩ (WC.region ?_))
    refine zym rfl rfl ?_
    refine zym rfl rfl ?_
    refine WL.yd (Yd.build SA114 rfl (cs := [_, _]) rfl) rfl ?_
    refine zym rfl rfl ?_
    refine WL.so (SO.store 0 rfl Tryz.sizeOf114 rfl rfl rfl rfl (zqb rfl) (oneB_spec rfl)) rfl ?_
    rintro _ _ _ ⟨rfl, rfl, rfl⟩
    refine zya rfl rfl ?_
    refine WL.nil (WP.thenC (WC.ret (WP.thenRet ?_)))
    refine WP.ret2 rfl rfl Tryz.results138 (RV.cellN Tryz.isAgg114 Tryz.sizeOf114 rfl (vs := [_, _]) rfl (by first | exact rn0 (n := 2) rfl rfl)) (RV.tmp rfl) (fun w hI => ⟨congrArg Ending.returned (by rw [spanR_no (by first | exact .inl (by omega) | exact .inr (by simpa using c27))] <;> rfl), hI.keep⟩)
  · try simp only [zq1, zq2, zq3, zq4, zq5, zq6, zq7, zq8] at g20
    refine WL.ydg rfl (Yd.move rfl) rfl ?_
    refine WL.ydg rfl (Yd.move rfl) rfl ?_
    refine WL.ydg rfl (Yd.lenStr rfl Tryz.underlying9 rfl) rfl ?_
    refine WL.ydg rfl (Yd.sliceToS Tryz.underlying9 rfl rfl (by omega)) rfl ?_
    refine WL.ydg rfl (Yd.move rfl) rfl ?_
    refine WL.ydg rfl (Yd.neS' rfl rfl) rfl ?_
    refine WL.yd (Yd.pickF rfl rfl) rfl ?_
    refine WL.nil (WP.thenC ?_)
    refine WC.cond rfl (fun c27 => ?_) (fun c27 => ?_)
    · try simp only [zq1, zq2, zq3, zq4, zq5, zq6, zq7, zq8] at c27
      refine WC.seq (WC.ofFr [(7, _), (6, _), (5, _), (4, _), (1, _)] ⟨rfl, rfl, rfl, rfl, rfl, trivial⟩ (WC.region ?_))
      refine zym rfl rfl ?_
      refine zym rfl rfl ?_
      refine WL.yd (Yd.build SA114 rfl (cs := [_, _]) rfl) rfl ?_
      refine zym rfl rfl ?_
      refine WL.so (SO.store 0 rfl Tryz.sizeOf114 rfl rfl rfl rfl (zqb rfl) (oneB_spec rfl)) rfl ?_
      rintro _ _ _ ⟨rfl, rfl, rfl⟩
      refine zya rfl rfl ?_
      refine WL.nil (WP.thenC (WC.ret (WP.thenRet ?_)))
      refine WP.ret2 rfl rfl Tryz.results138 (RV.cellN Tryz.isAgg114 Tryz.sizeOf114 rfl (vs := [_, _]) rfl (by first | exact rn0 (n := 2) rfl rfl)) (RV.tmp rfl) (fun w hI => ⟨congrArg Ending.returned (by rw [spanR_no (by first | exact .inl (by omega) | exact .inr (by simpa using c27))] <;> rfl), hI.keep⟩)
    · try simp only [zq1, zq2, zq3, zq4, zq5, zq6, zq7, zq8] at c27
      refine WC.skip (WP.thenC (WC.seq (WC.ofFr [(7, _), (6, _), (5, _), (4, _), (1, _)] ⟨rfl, rfl, rfl, rfl, rfl, trivial⟩ (WC.region ?_))))
      refine zym rfl rfl ?_
      refine zym rfl rfl ?_
      refine WL.yd (Yd.lenStr rfl Tryz.underlying9 rfl) rfl ?_
      refine WL.so (SO.callP Tryz.call133 rfl (fun w hI => after_g (valueR s).2 b.length (by omega) _)) rfl ?_
      rintro _ _ _ ⟨rfl, rfl, rfl⟩
      refine zym rfl rfl ?_
      refine WL.yd (Yd.extract rfl rfl) rfl ?_
      refine WL.yd (Yd.extract rfl rfl) rfl ?_
      refine zya rfl rfl ?_
      refine zya rfl rfl ?_
      refine WL.nil (WP.thenC (WC.seq (WC.ofFr [(9, _), (8, _), (6, _), (5, _), (4, _)] ⟨rfl, rfl, rfl, rfl, rfl, trivial⟩ (WC.region ?_))))
      refine zym rfl rfl ?_
      refine zym rfl rfl ?_
      refine WL.yd (Yd.build SA114 rfl (cs := [_, _]) rfl) rfl ?_
      refine zym rfl rfl ?_
      refine WL.so (SO.store 0 rfl Tryz.sizeOf114 rfl rfl rfl rfl (zqb rfl) (oneB_spec rfl)) rfl ?_
      rintro _ _ _ ⟨rfl, rfl, rfl⟩
      refine zya rfl rfl ?_
      refine WL.nil (WP.thenC (WC.ret ?_))
      refine WP.ret2 rfl rfl Tryz.results138 (RV.cellN Tryz.isAgg114 Tryz.sizeOf114 rfl (vs := [_, _]) rfl (by first | exact rn0 (n := 2) rfl rfl)) (RV.tmp rfl) (fun w hI => ⟨congrArg Ending.returned (by rw [spanR_yes (by omega) (by simpa using c27)] <;> rfl), hI.keep⟩)

theorem rcolumns_g (s : Bs) (hs : s.length ≤ 2 ^ 16) (D : Imm) (w : World) (hH : Holds D w) : Makes Tryz.prog 134 [st s] w D (fun v D' => ∃ a n c, v = .slice a n c ∧ SlL D' 2 ((columnsR s).map spC) a n ∧ n ≤ 2 ^ 20) := by
  unfold Makes
  refine enter Tryz.func134 rfl 28 Tryz.ntmps134 (zqb rfl) (Inv.start hH) ?_
  refine WC.seq (WC.ofFr [(0, _)] ⟨rfl, trivial⟩ (WC.region ?_))
  refine zya rfl rfl ?_
  refine WL.nil (WP.thenC (WC.seq (WC.ofFr [(2, _), (0, _)] ⟨rfl, rfl, trivial⟩ (WC.region ?_))))
  refine zya rfl rfl ?_
  refine WL.nil (WP.thenC (WC.seq (WC.seq (WC.ofFr [(3, _), (2, _), (0, _)] ⟨rfl, rfl, rfl, trivial⟩ (WC.region ?_)))))
  refine zya rfl rfl ?_
  refine WL.nil (WP.thenC (WC.block ?_))
  refine WC.loopT [] (fun y : Nat × List Sp × Option Ow => [(0, st s), (3, owV y.2.2 y.2.1.length), (4, nt y.1)]) (fun y => owH y.2.2 114 (y.2.1.flatMap spC) []) (fun y => y.1 ≤ s.length + 5 ∧ columnsR s = y.2.1 ++ colsR (s.drop y.1).length (s.drop y.1) ∧ owP w y.2.2 y.2.1.length 2 ∧ y.2.1.length ≤ y.1) (fun y => s.length + 11 - y.1) (5, [], none) ⟨by dsimp only; omega, columnsR_start s, rfl, Nat.zero_le _⟩ rfl ⟨rfl, rfl, rfl, trivial⟩ ?_
  rintro ⟨i, out, o⟩ ⟨hi, hF, ho, hol⟩
  dsimp only at hi hF ho hol
  refine WC.seq (WC.seq (WC.ofFr [(0, _), (3, _), (4, _)] ⟨rfl, rfl, rfl, trivial⟩ (WC.region ?_)))
  refine zym rfl rfl ?_
  refine WL.yd (Yd.add rfl rfl (wr64 ⟨by (try dsimp only); omega, by (try dsimp only); omega⟩)) rfl ?_
  refine zym rfl rfl ?_
  refine WL.yd (Yd.lenStr rfl Tryz.underlying9 rfl) rfl ?_
  refine WL.yd (Yd.leq rfl rfl) rfl ?_
  refine WL.nil (WP.thenC ?_)
  refine WC.cond rfl (fun c11 => ?_) (fun c11 => ?_)
  · try simp only [zq1, zq2, zq3, zq4, zq5, zq6, zq7, zq8] at c11
    have hil : i + 6 ≤ s.length := by omega
    refine WC.skip (WP.thenC (WC.seq (WC.block (WC.seq (WC.ofFr [(0, _), (3, _), (4, _)] ⟨rfl, rfl, rfl, trivial⟩ (WC.region ?_))))))
    refine zym rfl rfl ?_
    refine zym rfl rfl ?_
    refine zym rfl rfl ?_
    refine WL.yd (Yd.add rfl rfl (wr64 ⟨by (try dsimp only); omega, by (try dsimp only); omega⟩)) rfl ?_
    refine WL.know 18 (nt (i + 6)) rfl (by simp) ?_
    refine WL.yd (Yd.sliceMidS Tryz.underlying9 rfl rfl rfl (by (try dsimp only); omega) (by (try dsimp only); omega)) rfl ?_
    refine WL.so (SO.callP Tryz.call138 rfl (fun w hI => spanOf_g ((s.drop i).take (i + 6 - i)) [45] (by simp; omega) (by decide) _)) rfl ?_
    rintro _ _ _ ⟨rfl, rfl, rfl⟩
    refine zym rfl rfl ?_
    refine WL.yd (Yd.extract rfl rfl) rfl ?_
    refine WL.yd (Yd.extract rfl rfl) rfl ?_
    refine WL.so (SO.alloc Tryz.zeroValue114 rfl) rfl ?_
    rintro _ _ _ ⟨b5, hb5, rfl, rfl, rfl⟩
    refine WL.so (SO.store 0 rfl Tryz.sizeOf114 rfl rfl rfl rfl (zqb rfl) (oneB_spec rfl)) rfl ?_
    rintro _ _ _ ⟨rfl, rfl, rfl⟩
    refine zya rfl rfl ?_
    refine WL.nil (WP.thenC (WC.ofFr [(5, _), (0, _), (3, _), (4, _)] ⟨rfl, rfl, rfl, rfl, trivial⟩ (WC.region ?_)))
    refine zym rfl rfl ?_
    refine WL.yd (Yd.loadN Tryz.isAgg114 Tryz.sizeOf114 rfl (vs := [_, _]) rfl (by first | exact rn0 (n := 2) rfl rfl)) rfl ?_
    refine WL.so (SO.buildSlice Tryz.underlying22 Tryz.sizeOf114 Tryz.zeroValue114 rfl rfl rfl rfl (cs := [_, _]) rfl) rfl ?_
    rintro _ _ _ ⟨b25, hb25, rfl, rfl, rfl⟩
    refine WL.so (SO.appendOw (o := o) (len := out.length) (n := 1) (xs := (out.flatMap spC)) (size := 2) [_] [_] [] rfl rfl Tryz.underlying22 Tryz.sizeOf114 Tryz.typeInfo114 Tryz.zeroValue114 rfl rfl rfl rfl ⟨rfl, .inr ⟨_, _, _, rfl, RdN.own (k := 0) (n := 2) rfl rfl⟩⟩ (oneB_spec rfl) ho (flat_len spC_len _) (by omega) (by show (2 * (_ + _) + 1000) * 16 ≤ 2 ^ 48; omega) (by omega)) rfl ?_
    rintro _ _ _ ⟨u1, hu1, rfl, rfl, rfl⟩
    refine zya rfl rfl ?_
    refine WL.nil (WP.blkNormal (WP.thenC (WC.ofFr [(3, _), (0, _), (4, _)] ⟨rfl, rfl, rfl, trivial⟩ (WC.region ?_))))
    refine zym rfl rfl ?_
    refine WL.yd (Yd.add rfl rfl (wr64 ⟨by (try dsimp only); omega, by (try dsimp only); omega⟩)) rfl ?_
    refine zya rfl rfl ?_
    refine WL.nil ?_
    exact WP.againT (i + 6, out ++ [(spanR ((s.drop i).take 6) [45]).1], some u1) ⟨by dsimp only; omega, by dsimp only; rw [hF, cols_go (by simp; omega), List.drop_drop]; simp, by simpa using hu1, by simp; omega⟩ (by dsimp only; omega) [_] _ rfl (by show _ = _ ++ owH (some u1) _ ((out ++ [(spanR ((s.drop i).take 6) [45]).1]).flatMap spC) []; rw [List.flatMap_append]; rw [show i + 6 - i = 6 by omega]; rfl) ⟨rfl, by show _ = some (owV (some u1) (out ++ [(spanR ((s.drop i).take 6) [45]).1]).length); rw [List.length_append]; rfl, rfl, trivial⟩
  · try simp only [zq1, zq2, zq3, zq4, zq5, zq6, zq7, zq8] at c11
    refine WC.exit ?_
    refine WP.thenExit ?_
    refine WP.thenExit ?_
    refine WP.blkHit ?_
    refine WP.thenC (WC.seq (WC.ofFr [(3, _)] ⟨rfl, trivial⟩ (WC.region ?_)))
    have hfin : columnsR s = out := by rw [hF, cols_end (by simp; omega)]; simp
    refine WL.freezeOw (f := spC) (m := 2) spC_len [] [] o 114 out rfl ho rfl (fun D2 hX2 hS2 => ?_)
    refine zym rfl rfl ?_
    refine zya rfl rfl ?_
    refine WL.nil (WP.thenC (WC.ret ?_))
    refine WP.ret1 rfl rfl Tryz.results134 (RV.tmp rfl) (fun w1 hI => ⟨_, D2, rfl, hI.keep, hI.imm, hX2, owAt o, out.length, _, owV_owL (owL_of ho), hfin ▸ hS2, by omega⟩)

end Go.Proofs.YtaebnllfmkcpgaaGreatDoor
namespace Go.Proofs.YtaebnllfmkcpgaaGreatDoor
open Go.W Go.Bk

theorem foldI_app {X : Type} {take : X → Nat → Bs → X} : ∀ (a b : List Bs) (x : X) (k : Nat), foldI take x k (a ++ b) = foldI take (foldI take x k a) (k + a.length) b
  | [], b, x, k => by simp [foldI]
  | l :: a, b, x, k => by
    rw [List.cons_append, foldI, foldI, foldI_app a b _ (k + 1), List.length_cons]
    congr 1; omega
theorem foldI_step {X : Type} {take : X → Nat → Bs → X} {z x : X} {ls : List Bs} {k : Nat} (hk : k < ls.length) (h : foldI take z 0 (ls.take k) = x) : foldI take z 0 (ls.take (k + 1)) = take x k (gt ls k) := by
  have e : gt ls k = ls[k] := by simp [gt, List.getD, hk]
  rw [List.take_succ_eq_append_getElem hk, foldI_app, h, ← e, List.length_take, Nat.min_eq_left (by omega), Nat.zero_add]
  rfl
theorem rsurf_g (s : Bs) (hs : s.length ≤ 2 ^ 16 - 1) (D : Imm) (w : World) (hH : Holds D w) : Makes Tryz.prog 76 [st s] w D (fun v D' => ∃ m, v = surfV (surfR s) m ∧ SurfR D' (surfR s) m) := by
  unfold Makes
  refine enter Tryz.func76 rfl 82 Tryz.ntmps76 (zqb rfl) (Inv.start hH) ?_
  refine WC.seq (WC.ofFr [(0, _)] ⟨rfl, trivial⟩ (WC.region ?_))
  refine WL.so (SO.alloc Tryz.zeroValue25 rfl) rfl ?_
  rintro _ _ _ ⟨b2, hb2, rfl, rfl, rfl⟩
  refine WL.nil (WP.thenC (WC.seq (WC.ofFr [(2, _), (0, _)] ⟨rfl, rfl, trivial⟩ (WC.region ?_))))
  refine WL.so (SO.alloc Tryz.zeroValue25 rfl) rfl ?_
  rintro _ _ _ ⟨b3, hb3, rfl, rfl, rfl⟩
  refine WL.nil (WP.thenC (WC.seq (WC.ofFr [(3, _), (2, _), (0, _)] ⟨rfl, rfl, rfl, trivial⟩ (WC.region ?_))))
  refine zym rfl rfl ?_
  refine WL.so (SO.makes (Enters.func Tryz.call132 rfl) (fun w hI => rlines_g s (by omega) D w hI.imm)) rfl ?_
  rintro _ D1 _ ⟨hX1, ⟨a1, n1, c1, rfl, hS1⟩, rfl⟩
  refine zya rfl rfl ?_
  refine WL.nil (WP.thenC (WC.seq (WC.seq (WC.ofFr [(4, _), (3, _), (2, _)] ⟨rfl, rfl, rfl, trivial⟩ (WC.region ?_)))))
  refine zya rfl rfl ?_
  refine WL.nil (WP.thenC (WC.block ?_))
  obtain rfl : n1 = (linesR s).length := hS1.len'
  have hcn := linesR_cnt s
  refine WC.loop (fun y : Nat × Surf × Sl × Sl × Option Ow × Imm => [(2, pt b2), (3, pt b3), (4, .slice a1 (linesR s).length c1), (5, nt y.1)]) (fun y => (b3, .cells (surfTV y.2.1 y.2.2.1 y.2.2.2.1 y.2.2.2.2.1).toArray 25 (0, 0)) :: owH y.2.2.2.2.1 136 (y.2.1.huts.flatMap hutC) [(b2, .cells (surfTV surfZ ⟨none, 0, 0⟩ ⟨none, 0, 0⟩ none).toArray 25 (0, 0))]) (fun y => y.2.2.2.2.2) (fun y => y.1 ≤ (linesR s).length ∧ foldI surfRt surfZ 0 ((linesR s).take y.1) = y.2.1 ∧ SlL y.2.2.2.2.2 2 (y.2.1.water.map spC) y.2.2.1.a y.2.2.1.n ∧ SlL y.2.2.2.2.2 2 (y.2.1.waves.map spC) y.2.2.2.1.a y.2.2.2.1.n ∧ owP w y.2.2.2.2.1 y.2.1.huts.length 3 ∧ y.2.2.1.n ≤ 2 ^ 30 ∧ y.2.2.2.1.n ≤ 2 ^ 30 ∧ y.2.1.huts.length ≤ y.1 ∧ DExt w D1 y.2.2.2.2.2) (fun y => (linesR s).length - y.1) (0, surfZ, ⟨none, 0, 0⟩, ⟨none, 0, 0⟩, none, D1) ⟨Nat.zero_le _, rfl, SlL.nil _ _, SlL.nil _ _, rfl, Nat.zero_le _, Nat.zero_le _, Nat.zero_le _, DExt.refl _ _⟩ (fun a w' hA => ⟨hA.f.weaken (subB_get ⟨rfl, rfl, rfl, rfl, trivial⟩), hA.i⟩) ?_
  rintro ⟨k, x, W, V, o, D2⟩ ⟨hk, hx, hW, hV, ho, hWn, hVn, hhn, hXD⟩
  dsimp only at hk hx hW hV ho hWn hVn hhn hXD
  have hSl := hS1.ext hXD
  refine WC.seq (WC.seq (WC.ofFr [(2, _), (3, _), (4, _), (5, _)] ⟨rfl, rfl, rfl, rfl, trivial⟩ (WC.region ?_)))
  refine zym rfl rfl ?_
  refine zym rfl rfl ?_
  refine WL.yd (Yd.lenS rfl Tryz.underlying76 rfl) rfl ?_
  refine WL.yd (Yd.lss rfl rfl) rfl ?_
  refine WL.nil (WP.thenC ?_)
  refine WC.cond rfl (fun c15 => ?_) (fun c15 => ?_)
  · try simp only [zq1, zq2, zq3, zq4, zq5, zq6, zq7, zq8] at c15
    have hkl : k < (linesR s).length := by omega
    have hll := linesR_le (gtB_mem hkl)
    refine WC.skip (WP.thenC (WC.seq (WC.block (WC.seq (WC.seq (WC.ofFr [(2, _), (3, _), (4, _), (5, _)] ⟨rfl, rfl, rfl, rfl, trivial⟩ (WC.region ?_)))))))
    refine zym rfl rfl ?_
    refine WL.yd (Yd.eql rfl rfl) rfl ?_
    refine WL.nil (WP.thenC ?_)
    refine WC.cond rfl (fun c19 => ?_) (fun c19 => ?_)
    · try simp only [zq1, zq2, zq3, zq4, zq5, zq6, zq7, zq8] at c19
      refine WC.seq (WC.ofFr [(2, _), (3, _), (4, _), (5, _)] ⟨rfl, rfl, rfl, rfl, trivial⟩ (WC.region ?_))
      refine zym rfl rfl ?_
      refine zym rfl rfl ?_
      refine WL.yd (Yd.indexS Tryz.underlying76 Tryz.sizeOf9 rfl rfl (by (try dsimp only); omega) (by (try dsimp only); omega) (by first | exact hSl.addr k (by omega))) rfl ?_
      refine WL.yd (Yd.load1 Tryz.isAgg9 rfl (by first | exact ro0 rfl rfl | exact ro1 rfl rfl | exact ro2 rfl rfl | exact (hSl.at k (by omega)).rd 0 rfl)) rfl ?_
      refine WL.so (SO.callP Tryz.call133 rfl (fun w hI => after_g (gt (linesR s) k) 5 (by omega) _)) rfl ?_
      rintro _ _ _ ⟨rfl, rfl, rfl⟩
      refine zym rfl rfl ?_
      refine WL.yd (Yd.extract rfl rfl) rfl ?_
      refine WL.yd (Yd.extract rfl rfl) rfl ?_
      refine zya rfl rfl ?_
      refine zya rfl rfl ?_
      refine WL.nil (WP.thenC (WC.seq (WC.ofFr [(7, _), (6, _), (2, _), (3, _), (4, _), (5, _)] ⟨rfl, rfl, rfl, rfl, rfl, rfl, trivial⟩ (WC.region ?_))))
      refine zym rfl rfl ?_
      refine WL.yd (Yd.fieldAddr FA25_0 rfl) rfl ?_
      refine WL.so (SO.store 0 rfl Tryz.sizeOf3 rfl rfl rfl rfl (zqb rfl) (oneB_spec rfl)) rfl ?_
      rintro _ _ _ ⟨rfl, rfl, rfl⟩
      refine WL.nil (WP.thenC (WC.ofFr [(7, _), (2, _), (3, _), (4, _), (5, _)] ⟨rfl, rfl, rfl, rfl, rfl, trivial⟩ (WC.region ?_)))
      refine zym rfl rfl ?_
      refine WL.so (SO.callP Tryz.call133 rfl (fun w hI => after_g (afterR (gt (linesR s) k) 5).2 1 (by have := afterR_len (gt (linesR s) k) 5; omega) _)) rfl ?_
      rintro _ _ _ ⟨rfl, rfl, rfl⟩
      refine zym rfl rfl ?_
      refine WL.yd (Yd.extract rfl rfl) rfl ?_
      refine WL.yd (Yd.extract rfl rfl) rfl ?_
      refine WL.yd (Yd.fieldAddr FA25_1 rfl) rfl ?_
      refine WL.so (SO.store 0 rfl Tryz.sizeOf3 rfl rfl rfl rfl (zqb rfl) (oneB_spec rfl)) rfl ?_
      rintro _ _ _ ⟨rfl, rfl, rfl⟩
      refine WL.nil (WP.thenC (WC.seq (WC.seq (WC.ofFr [(2, _), (3, _), (4, _), (5, _)] ⟨rfl, rfl, rfl, rfl, trivial⟩ (WC.region ?_)))))
      refine zym rfl rfl ?_
      refine WL.yd (Yd.eql rfl rfl) rfl ?_
      refine WL.know 37 (.bool false) rfl (congrArg Value.bool (decide_eq_false (by dsimp only; omega))) ?_
      refine WL.nil (WP.thenC ?_)
      refine WC.condF rfl ?_
      refine WC.skip (WP.thenC (WC.seq (WC.seq (WC.ofFr [(2, _), (3, _), (4, _), (5, _)] ⟨rfl, rfl, rfl, rfl, trivial⟩ (WC.region ?_)))))
      refine zym rfl rfl ?_
      refine WL.yd (Yd.eql rfl rfl) rfl ?_
      refine WL.know 45 (.bool false) rfl (congrArg Value.bool (decide_eq_false (by dsimp only; omega))) ?_
      refine WL.nil (WP.thenC ?_)
      refine WC.condF rfl ?_
      refine WC.skip (WP.thenC (WC.seq (WC.ofFr [(2, _), (3, _), (4, _), (5, _)] ⟨rfl, rfl, rfl, rfl, trivial⟩ (WC.region ?_))))
      refine zym rfl rfl ?_
      refine WL.yd (Yd.gtr rfl rfl) rfl ?_
      refine WL.know 53 (.bool false) rfl (congrArg Value.bool (decide_eq_false (by dsimp only; omega))) ?_
      refine WL.nil (WP.thenC ?_)
      refine WC.condF rfl ?_
      refine WC.skip (WP.blkNormal (WP.thenC (WC.ofFr [(2, _), (3, _), (4, _), (5, _)] ⟨rfl, rfl, rfl, rfl, trivial⟩ (WC.region ?_))))
      refine zym rfl rfl ?_
      refine WL.yd (Yd.add rfl rfl (wr64 ⟨by (try dsimp only); omega, by (try dsimp only); omega⟩)) rfl ?_
      refine zya rfl rfl ?_
      refine WL.nil ?_
      have hk0 : k = 0 := by omega
      exact WP.againI (k + 1, { x with rows := (afterR (gt (linesR s) k) 5).1, step := (afterR (afterR (gt (linesR s) k) 5).2 1).1 }, W, V, o, D2) ⟨hkl, by dsimp only; rw [foldI_step hkl hx]; subst hk0; rfl, hW, hV, ho, hWn, hVn, by dsimp only; omega, hXD⟩ (by dsimp only; omega) ⟨rfl, rfl, rfl, rfl, trivial⟩ rfl rfl
    · try simp only [zq1, zq2, zq3, zq4, zq5, zq6, zq7, zq8] at c19
      refine WC.skip (WP.thenC (WC.seq (WC.seq (WC.ofFr [(2, _), (3, _), (4, _), (5, _)] ⟨rfl, rfl, rfl, rfl, trivial⟩ (WC.region ?_)))))
      refine zym rfl rfl ?_
      refine WL.yd (Yd.eql rfl rfl) rfl ?_
      refine WL.nil (WP.thenC ?_)
      refine WC.cond rfl (fun c37 => ?_) (fun c37 => ?_)
      · try simp only [zq1, zq2, zq3, zq4, zq5, zq6, zq7, zq8] at c37
        refine WC.ofFr [(2, _), (3, _), (4, _), (5, _)] ⟨rfl, rfl, rfl, rfl, trivial⟩ (WC.region ?_)
        refine zym rfl rfl ?_
        refine zym rfl rfl ?_
        refine WL.yd (Yd.indexS Tryz.underlying76 Tryz.sizeOf9 rfl rfl (by (try dsimp only); omega) (by (try dsimp only); omega) (by first | exact hSl.addr k (by omega))) rfl ?_
        refine WL.yd (Yd.load1 Tryz.isAgg9 rfl (by first | exact ro0 rfl rfl | exact ro1 rfl rfl | exact ro2 rfl rfl | exact (hSl.at k (by omega)).rd 0 rfl)) rfl ?_
        refine WL.so (SO.makes (Enters.func Tryz.call134 rfl) (fun w hI => rcolumns_g (gt (linesR s) k) (by omega) D2 w hI.imm)) rfl ?_
        rintro _ D3 _ ⟨hX5, ⟨a5, n5, c5, rfl, hS5, hn5⟩, rfl⟩
        refine WL.yd (Yd.fieldAddr FA25_2 rfl) rfl ?_
        refine WL.so (SO.store 0 rfl Tryz.sizeOf22 rfl rfl rfl rfl (zqb rfl) (oneB_spec rfl)) rfl ?_
        rintro _ _ _ ⟨rfl, rfl, rfl⟩
        refine WL.nil (WP.thenC (WC.seq (WC.seq (WC.ofFr [(2, _), (3, _), (4, _), (5, _)] ⟨rfl, rfl, rfl, rfl, trivial⟩ (WC.region ?_)))))
        refine zym rfl rfl ?_
        refine WL.yd (Yd.eql rfl rfl) rfl ?_
        refine WL.know 45 (.bool false) rfl (congrArg Value.bool (decide_eq_false (by dsimp only; omega))) ?_
        refine WL.nil (WP.thenC ?_)
        refine WC.condF rfl ?_
        refine WC.skip (WP.thenC (WC.seq (WC.ofFr [(2, _), (3, _), (4, _), (5, _)] ⟨rfl, rfl, rfl, rfl, trivial⟩ (WC.region ?_))))
        refine zym rfl rfl ?_
        refine WL.yd (Yd.gtr rfl rfl) rfl ?_
        refine WL.know 53 (.bool false) rfl (congrArg Value.bool (decide_eq_false (by dsimp only; omega))) ?_
        refine WL.nil (WP.thenC ?_)
        refine WC.condF rfl ?_
        refine WC.skip (WP.blkNormal (WP.thenC (WC.ofFr [(2, _), (3, _), (4, _), (5, _)] ⟨rfl, rfl, rfl, rfl, trivial⟩ (WC.region ?_))))
        refine zym rfl rfl ?_
        refine WL.yd (Yd.add rfl rfl (wr64 ⟨by (try dsimp only); omega, by (try dsimp only); omega⟩)) rfl ?_
        refine zya rfl rfl ?_
        refine WL.nil ?_
        have hk0 : k = 1 := by omega
        exact WP.againI (k + 1, { x with water := columnsR (gt (linesR s) k) }, ⟨a5, n5, c5⟩, V, o, D3) ⟨hkl, by dsimp only; rw [foldI_step hkl hx]; subst hk0; rfl, hS5, hV.ext hX5, ho, by dsimp only; omega, hVn, by dsimp only; omega, (hXD.trans hX5 (Nat.le_refl _))⟩ (by dsimp only; omega) ⟨rfl, rfl, rfl, rfl, trivial⟩ rfl rfl
      · try simp only [zq1, zq2, zq3, zq4, zq5, zq6, zq7, zq8] at c37
        refine WC.skip (WP.thenC (WC.seq (WC.seq (WC.ofFr [(2, _), (3, _), (4, _), (5, _)] ⟨rfl, rfl, rfl, rfl, trivial⟩ (WC.region ?_)))))
        refine zym rfl rfl ?_
        refine WL.yd (Yd.eql rfl rfl) rfl ?_
        refine WL.nil (WP.thenC ?_)
        refine WC.cond rfl (fun c45 => ?_) (fun c45 => ?_)
        · try simp only [zq1, zq2, zq3, zq4, zq5, zq6, zq7, zq8] at c45
          refine WC.ofFr [(2, _), (3, _), (4, _), (5, _)] ⟨rfl, rfl, rfl, rfl, trivial⟩ (WC.region ?_)
          refine zym rfl rfl ?_
          refine zym rfl rfl ?_
          refine WL.yd (Yd.indexS Tryz.underlying76 Tryz.sizeOf9 rfl rfl (by (try dsimp only); omega) (by (try dsimp only); omega) (by first | exact hSl.addr k (by omega))) rfl ?_
          refine WL.yd (Yd.load1 Tryz.isAgg9 rfl (by first | exact ro0 rfl rfl | exact ro1 rfl rfl | exact ro2 rfl rfl | exact (hSl.at k (by omega)).rd 0 rfl)) rfl ?_
          refine WL.so (SO.makes (Enters.func Tryz.call134 rfl) (fun w hI => rcolumns_g (gt (linesR s) k) (by omega) D2 w hI.imm)) rfl ?_
          rintro _ D3 _ ⟨hX5, ⟨a5, n5, c5, rfl, hS5, hn5⟩, rfl⟩
          refine WL.yd (Yd.fieldAddr FA25_3 rfl) rfl ?_
          refine WL.so (SO.store 0 rfl Tryz.sizeOf22 rfl rfl rfl rfl (zqb rfl) (oneB_spec rfl)) rfl ?_
          rintro _ _ _ ⟨rfl, rfl, rfl⟩
          refine WL.nil (WP.thenC (WC.seq (WC.ofFr [(2, _), (3, _), (4, _), (5, _)] ⟨rfl, rfl, rfl, rfl, trivial⟩ (WC.region ?_))))
          refine zym rfl rfl ?_
          refine WL.yd (Yd.gtr rfl rfl) rfl ?_
          refine WL.know 53 (.bool false) rfl (congrArg Value.bool (decide_eq_false (by dsimp only; omega))) ?_
          refine WL.nil (WP.thenC ?_)
          refine WC.condF rfl ?_
          refine WC.skip (WP.blkNormal (WP.thenC (WC.ofFr [(2, _), (3, _), (4, _), (5, _)] ⟨rfl, rfl, rfl, rfl, trivial⟩ (WC.region ?_))))
          refine zym rfl rfl ?_
          refine WL.yd (Yd.add rfl rfl (wr64 ⟨by (try dsimp only); omega, by (try dsimp only); omega⟩)) rfl ?_
          refine zya rfl rfl ?_
          refine WL.nil ?_
          have hk0 : k = 2 := by omega
          exact WP.againI (k + 1, { x with waves := columnsR (gt (linesR s) k) }, W, ⟨a5, n5, c5⟩, o, D3) ⟨hkl, by dsimp only; rw [foldI_step hkl hx]; subst hk0; rfl, hW.ext hX5, hS5, ho, hWn, by dsimp only; omega, by dsimp only; omega, (hXD.trans hX5 (Nat.le_refl _))⟩ (by dsimp only; omega) ⟨rfl, rfl, rfl, rfl, trivial⟩ rfl rfl
        · try simp only [zq1, zq2, zq3, zq4, zq5, zq6, zq7, zq8] at c45
          refine WC.skip (WP.thenC (WC.seq (WC.ofFr [(2, _), (3, _), (4, _), (5, _)] ⟨rfl, rfl, rfl, rfl, trivial⟩ (WC.region ?_))))
          refine zym rfl rfl ?_
          refine WL.yd (Yd.gtr rfl rfl) rfl ?_
          refine WL.know 53 (.bool true) rfl (congrArg Value.bool (decide_eq_true (by dsimp only; omega))) ?_
          refine WL.nil (WP.thenC ?_)
          refine WC.condT rfl ?_
          refine WC.seq (WC.ofFr [(2, _), (3, _), (4, _), (5, _)] ⟨rfl, rfl, rfl, rfl, trivial⟩ (WC.region ?_))
          refine WL.so (SO.alloc Tryz.zeroValue136 rfl) rfl ?_
          rintro _ _ _ ⟨b8, hb8, rfl, rfl, rfl⟩
          refine WL.nil (WP.thenC (WC.seq (WC.ofFr [(8, _), (2, _), (3, _), (4, _), (5, _)] ⟨rfl, rfl, rfl, rfl, rfl, trivial⟩ (WC.region ?_))))
          refine zya rfl rfl ?_
          refine WL.nil (WP.thenC (WC.seq (WC.ofFr [(9, _), (8, _), (2, _), (3, _), (4, _), (5, _)] ⟨rfl, rfl, rfl, rfl, rfl, rfl, trivial⟩ (WC.region ?_))))
          refine zym rfl rfl ?_
          refine zym rfl rfl ?_
          refine WL.yd (Yd.indexS Tryz.underlying76 Tryz.sizeOf9 rfl rfl (by (try dsimp only); omega) (by (try dsimp only); omega) (by first | exact hSl.addr k (by omega))) rfl ?_
          refine WL.yd (Yd.load1 Tryz.isAgg9 rfl (by first | exact ro0 rfl rfl | exact ro1 rfl rfl | exact ro2 rfl rfl | exact ro3 rfl rfl | exact (hSl.at k (by omega)).rd 0 rfl)) rfl ?_
          refine WL.so (SO.callP Tryz.call133 rfl (fun w hI => after_g (gt (linesR s) k) 3 (by omega) _)) rfl ?_
          rintro _ _ _ ⟨rfl, rfl, rfl⟩
          refine zym rfl rfl ?_
          refine WL.yd (Yd.extract rfl rfl) rfl ?_
          refine WL.yd (Yd.extract rfl rfl) rfl ?_
          refine WL.yd (Yd.fieldAddr FA136_0 rfl) rfl ?_
          refine WL.so (SO.store 0 rfl Tryz.sizeOf3 rfl rfl rfl rfl (zqb rfl) (oneB_spec rfl)) rfl ?_
          rintro _ _ _ ⟨rfl, rfl, rfl⟩
          refine zya rfl rfl ?_
          refine WL.nil (WP.thenC (WC.seq (WC.ofFr [(9, _), (8, _), (2, _), (3, _), (4, _), (5, _)] ⟨rfl, rfl, rfl, rfl, rfl, rfl, trivial⟩ (WC.region ?_))))
          refine zym rfl rfl ?_
          refine WL.so (SO.callP Tryz.call135 rfl (fun w hI => value_g (afterR (gt (linesR s) k) 3).2 (by have := afterR_len (gt (linesR s) k) 3; omega) _)) rfl ?_
          rintro _ _ _ ⟨rfl, rfl, rfl⟩
          refine zym rfl rfl ?_
          refine WL.yd (Yd.extract rfl rfl) rfl ?_
          refine WL.yd (Yd.extract rfl rfl) rfl ?_
          refine WL.yd (Yd.fieldAddr FA136_1 rfl) rfl ?_
          refine WL.so (SO.store 0 rfl Tryz.sizeOf3 rfl rfl rfl rfl (zqb rfl) (oneB_spec rfl)) rfl ?_
          rintro _ _ _ ⟨rfl, rfl, rfl⟩
          refine zya rfl rfl ?_
          refine WL.nil (WP.thenC (WC.seq (WC.ofFr [(9, _), (8, _), (2, _), (3, _), (4, _), (5, _)] ⟨rfl, rfl, rfl, rfl, rfl, rfl, trivial⟩ (WC.region ?_))))
          refine zym rfl rfl ?_
          refine WL.so (SO.callP Tryz.call135 rfl (fun w hI => value_g (valueR (afterR (gt (linesR s) k) 3).2).2 (by have := afterR_len (gt (linesR s) k) 3; have := valueR_len (afterR (gt (linesR s) k) 3).2; omega) _)) rfl ?_
          rintro _ _ _ ⟨rfl, rfl, rfl⟩
          refine zym rfl rfl ?_
          refine WL.yd (Yd.extract rfl rfl) rfl ?_
          refine WL.yd (Yd.extract rfl rfl) rfl ?_
          refine WL.yd (Yd.fieldAddr FA136_2 rfl) rfl ?_
          refine WL.so (SO.store 0 rfl Tryz.sizeOf3 rfl rfl rfl rfl (zqb rfl) (oneB_spec rfl)) rfl ?_
          rintro _ _ _ ⟨rfl, rfl, rfl⟩
          refine WL.nil (WP.thenC (WC.ofFr [(8, _), (2, _), (3, _), (4, _), (5, _)] ⟨rfl, rfl, rfl, rfl, rfl, trivial⟩ (WC.region ?_)))
          refine WL.yd (Yd.fieldAddr FA25_4 rfl) rfl ?_
          refine WL.yd (Yd.load1 Tryz.isAgg23 rfl (by first | exact ro0 rfl rfl | exact ro1 rfl rfl | exact ro2 rfl rfl | exact ro3 rfl rfl | exact (hSl.at k (by omega)).rd 0 rfl)) rfl ?_
          refine WL.yd (Yd.loadN Tryz.isAgg136 Tryz.sizeOf136 rfl (vs := [_, _, _]) rfl (by first | exact rn0 (n := 3) rfl rfl | exact rn1 (n := 3) rfl rfl | exact rn2 (n := 3) rfl rfl | exact rn3 (n := 3) rfl rfl)) rfl ?_
          refine WL.so (SO.buildSlice Tryz.underlying23 Tryz.sizeOf136 Tryz.zeroValue136 rfl rfl rfl rfl (cs := [_, _, _]) rfl) rfl ?_
          rintro _ _ _ ⟨b78, hb78, rfl, rfl, rfl⟩
          refine WL.so (SO.appendOw (o := o) (len := x.huts.length) (n := 1) (xs := (x.huts.flatMap hutC)) (size := 3) [_] [_, _] [_] rfl rfl Tryz.underlying23 Tryz.sizeOf136 Tryz.typeInfo136 Tryz.zeroValue136 rfl rfl rfl rfl ⟨rfl, .inr ⟨_, _, _, rfl, RdN.own (k := 0) (n := 3) rfl rfl⟩⟩ (oneB_spec rfl) ho (flat_len hutC_len _) (by omega) (by show (2 * (_ + _) + 1000) * 24 ≤ 2 ^ 48; omega) (by omega)) rfl ?_
          rintro _ _ _ ⟨u1, hu1, rfl, rfl, rfl⟩
          refine WL.yd (Yd.fieldAddr FA25_4 rfl) rfl ?_
          refine WL.so (SO.store 1 rfl Tryz.sizeOf23 rfl rfl rfl rfl (zqb rfl) (oneB_spec rfl)) rfl ?_
          rintro _ _ _ ⟨rfl, rfl, rfl⟩
          refine WL.nil (WP.blkNormal (WP.thenC (WC.ofFr [(2, _), (3, _), (4, _), (5, _)] ⟨rfl, rfl, rfl, rfl, trivial⟩ (WC.region ?_))))
          refine zym rfl rfl ?_
          refine WL.yd (Yd.add rfl rfl (wr64 ⟨by (try dsimp only); omega, by (try dsimp only); omega⟩)) rfl ?_
          refine zya rfl rfl ?_
          refine WL.nil ?_
          obtain ⟨j, hj⟩ : ∃ j, k = j + 3 := ⟨k - 3, by omega⟩
          refine WP.drop 1 ?_
          exact WP.againI (k + 1, { x with huts := x.huts ++ [⟨(afterR (gt (linesR s) k) 3).1, (valueR (afterR (gt (linesR s) k) 3).2).1, (valueR (valueR (afterR (gt (linesR s) k) 3).2).2).1⟩] }, W, V, some u1, D2) ⟨hkl, by dsimp only; rw [foldI_step hkl hx, hj]; rfl, hW, hV, by simpa using hu1, hWn, hVn, by simp; omega, hXD⟩ (by dsimp only; omega) ⟨rfl, rfl, rfl, rfl, trivial⟩ (by show _ = (b3, Obj.cells (List.toArray [it x.rows, it x.step, slV W, slV V, owV (some u1) (x.huts ++ [_]).length]) _ _) :: owH (some u1) _ ((x.huts ++ [_]).flatMap hutC) _; rw [List.flatMap_append, List.length_append]; rfl) rfl
  · try simp only [zq1, zq2, zq3, zq4, zq5, zq6, zq7, zq8] at c15
    obtain rfl : k = (linesR s).length := by omega
    refine WC.exit ?_
    refine WP.thenExit ?_
    refine WP.thenExit ?_
    refine WP.blkHit ?_
    refine WP.thenC (WC.seq (WC.ofFr [(2, _), (3, _)] ⟨rfl, rfl, trivial⟩ (WC.region ?_)))
    rw [List.take_length] at hx
    refine WL.freezeOw (f := hutC) (m := 3) hutC_len [_] [_] o 136 x.huts rfl ho rfl (fun D3 hX3 hS3 => ?_)
    rw [surfTV_eq ho]
    have hR : SurfR D3 x ⟨W, V, ⟨owAt o, x.huts.length, owCp o x.huts.length⟩⟩ := ⟨hW.ext hX3, hV.ext hX3, hS3, by show W.n ≤ _; omega, by show V.n ≤ _; omega, by show x.huts.length ≤ _; omega⟩
    refine WL.yd (Yd.loadN Tryz.isAgg25 Tryz.sizeOf25 rfl (vs := [_, _, _, _, _]) rfl (by first | exact rn0 (n := 5) rfl rfl | exact rn1 (n := 5) rfl rfl)) rfl ?_
    refine WL.so (SO.store 1 rfl Tryz.sizeOf25 rfl rfl rfl rfl (zqb rfl) (oneB_spec rfl)) rfl ?_
    rintro _ _ _ ⟨rfl, rfl, rfl⟩
    refine WL.nil (WP.thenC (WC.ret ?_))
    refine WP.ret1 rfl rfl Tryz.results76 (RV.cellN Tryz.isAgg25 Tryz.sizeOf25 rfl (vs := [_, _, _, _, _]) rfl (by first | exact rn0 (n := 5) rfl rfl | exact rn1 (n := 5) rfl rfl)) (fun w1 hI => ⟨_, D3, rfl, hI.keep, hI.imm, (hX1.trans hXD (Nat.le_refl _)).trans hX3 (Nat.le_refl _), ⟨W, V, ⟨owAt o, x.huts.length, owCp o x.huts.length⟩⟩, by rw [show surfR s = x from hx] <;> rfl, by rw [show surfR s = x from hx]; exact hR⟩)

end Go.Proofs.YtaebnllfmkcpgaaGreatDoor
namespace Go.Proofs.YtaebnllfmkcpgaaGreatDoor
open Go.W Go.Bk

theorem flagR_no {s : Bs} (h : (linesR s).length ≠ 3) : flagR s = flagZ := by
  unfold flagR
  split
  · rename_i e; rw [e] at h; exact absurd rfl h
  · rfl
theorem len_three {α : Type} : ∀ {l : List α}, l.length = 3 → ∃ a b c, l = [a, b, c]
  | [a, b, c], _ => ⟨a, b, c, rfl⟩
theorem flagR_yes {s la lb lc : Bs} (h : linesR s = [la, lb, lc]) : flagR s = ⟨(afterR la 4).1, (afterR (afterR la 4).2 1).1, (afterR (afterR (afterR la 4).2 1).2 1).1, (partsR 32 [] lb).tail.map hourR, (partsR 32 [] lc).tail.map fseenR⟩ := by
  unfold flagR; rw [h]
/-- what the marks up to j say -/
def tI (e : Bs) (j : Nat) : Int := if j ≤ 1 then 0 else if j = 2 then (if e = [63] then 1 else 0) else thunR e
theorem tI_go {e : Bs} {j : Nat} (h : 1 ≤ j ∧ j ≤ 2) : tI e (j + 1) = if e = markT j then (j : Int) else tI e j := by
  obtain ⟨h1, h2⟩ := h
  have : j = 1 ∨ j = 2 := by omega
  rcases this with rfl | rfl
  · rfl
  · show thunR e = if e = [33] then 2 else if e = [63] then 1 else 0
    rfl
theorem tail_gt {l : List Bs} {k : Nat} : gt l.tail k = gt l (k + 1) := by
  cases l with
  | nil => simp [gt]
  | cons x l => rfl
theorem map_take_succ {α β : Type} [Inhabited α] {f : α → β} {l : List α} {k : Nat} (h : k < l.length) : (l.take (k + 1)).map f = (l.take k).map f ++ [f (gt l k)] := by
  rw [take_gt h, List.map_append]; rfl

theorem rflag_g (s : Bs) (hs : s.length ≤ 2 ^ 16 - 1) (D : Imm) (w : World) (hH : Holds D w) : Makes Tryz.prog 78 [st s] w D (fun v D' => ∃ m, v = flagV (flagR s) m ∧ FlagR D' (flagR s) m) := by
  unfold Makes
  refine enter Tryz.func78 rfl 105 Tryz.ntmps78 (zqb rfl) (Inv.start hH) ?_
  refine WC.seq (WC.ofFr [(0, _)] ⟨rfl, trivial⟩ (WC.region ?_))
  refine WL.so (SO.alloc Tryz.zeroValue29 rfl) rfl ?_
  rintro _ _ _ ⟨b2, hb2, rfl, rfl, rfl⟩
  refine WL.nil (WP.thenC (WC.seq (WC.ofFr [(2, _), (0, _)] ⟨rfl, rfl, trivial⟩ (WC.region ?_))))
  refine WL.so (SO.alloc Tryz.zeroValue29 rfl) rfl ?_
  rintro _ _ _ ⟨b3, hb3, rfl, rfl, rfl⟩
  refine WL.nil (WP.thenC (WC.seq (WC.ofFr [(3, _), (2, _), (0, _)] ⟨rfl, rfl, rfl, trivial⟩ (WC.region ?_))))
  refine zym rfl rfl ?_
  refine WL.so (SO.makes (Enters.func Tryz.call132 rfl) (fun w hI => rlines_g s (by omega) D w hI.imm)) rfl ?_
  rintro _ D1 _ ⟨hX1, ⟨a1, n1, c1, rfl, hS1⟩, rfl⟩
  obtain rfl : n1 = (linesR s).length := hS1.len'
  have hcn := linesR_cnt s
  refine zya rfl rfl ?_
  refine WL.nil (WP.thenC (WC.seq (WC.seq (WC.ofFr [(4, _), (3, _), (2, _)] ⟨rfl, rfl, rfl, trivial⟩ (WC.region ?_)))))
  refine zym rfl rfl ?_
  refine WL.yd (Yd.lenS rfl Tryz.underlying76 rfl) rfl ?_
  refine WL.yd (Yd.neq rfl rfl) rfl ?_
  refine WL.nil (WP.thenC ?_)
  refine WC.cond rfl (fun c19 => ?_) (fun c19 => ?_)
  · try simp only [zq1, zq2, zq3, zq4, zq5, zq6, zq7, zq8] at c19
    refine WC.seq (WC.ofFr [(4, _), (3, _), (2, _)] ⟨rfl, rfl, rfl, trivial⟩ (WC.region ?_))
    refine WL.yd (Yd.loadN Tryz.isAgg29 Tryz.sizeOf29 rfl (vs := [_, _, _, _, _]) rfl (by first | exact rn0 (n := 5) rfl rfl | exact rn1 (n := 5) rfl rfl)) rfl ?_
    refine WL.so (SO.store 1 rfl Tryz.sizeOf29 rfl rfl rfl rfl (zqb rfl) (oneB_spec rfl)) rfl ?_
    rintro _ _ _ ⟨rfl, rfl, rfl⟩
    refine WL.nil (WP.thenC (WC.ret (WP.thenRet ?_)))
    refine WP.ret1 rfl rfl Tryz.results78 (RV.cellN Tryz.isAgg29 Tryz.sizeOf29 rfl (vs := [_, _, _, _, _]) rfl (by first | exact rn0 (n := 5) rfl rfl | exact rn1 (n := 5) rfl rfl)) (fun w1 hI => ⟨_, D1, rfl, hI.keep, hI.imm, hX1, ⟨⟨none, 0, 0⟩, ⟨none, 0, 0⟩⟩, by rw [flagR_no (by omega)]; rfl, by rw [flagR_no (by omega)]; exact ⟨SlL.nil _ _, SlL.nil _ _, Nat.zero_le _, Nat.zero_le _⟩⟩)
  · try simp only [zq1, zq2, zq3, zq4, zq5, zq6, zq7, zq8] at c19
    refine WC.skip (WP.thenC (WC.seq (WC.ofFr [(4, _), (3, _), (2, _)] ⟨rfl, rfl, rfl, trivial⟩ (WC.region ?_))))
    obtain ⟨la, lb, lc, hl3⟩ := len_three (l := linesR s) (by omega)
    have hlb : ∀ x ∈ [la, lb, lc], x.length ≤ s.length := fun x hx => linesR_le (hl3 ▸ hx)
    have hla1 := hlb la (by simp)
    have hla2 := hlb lb (by simp)
    have hla3 := hlb lc (by simp)
    have hlen3 : (linesR s).length = 3 := by omega
    rw [hlen3] at hS1 ⊢
    rw [hl3] at hS1
    refine zya rfl rfl ?_
    refine WL.nil (WP.thenC (WC.seq (WC.ofFr [(5, _), (4, _), (3, _), (2, _)] ⟨rfl, rfl, rfl, rfl, trivial⟩ (WC.region ?_))))
    refine zym rfl rfl ?_
    refine WL.yd (Yd.indexS Tryz.underlying76 Tryz.sizeOf9 rfl rfl (by (try dsimp only); omega) (by (try dsimp only); omega) (by first | exact hS1.addr 0 (by decide))) rfl ?_
    refine WL.yd (Yd.load1 Tryz.isAgg9 rfl (by first | exact ro0 rfl rfl | exact ro1 rfl rfl | exact (hS1.at 0 (by decide)).rd 0 (v := st la) rfl)) rfl ?_
    refine WL.so (SO.callP Tryz.call133 rfl (fun w hI => after_g la 4 (by omega) _)) rfl ?_
    rintro _ _ _ ⟨rfl, rfl, rfl⟩
    refine zym rfl rfl ?_
    refine WL.yd (Yd.extract rfl rfl) rfl ?_
    refine WL.yd (Yd.extract rfl rfl) rfl ?_
    refine WL.yd (Yd.fieldAddr FA29_0 rfl) rfl ?_
    refine WL.so (SO.store 0 rfl Tryz.sizeOf3 rfl rfl rfl rfl (zqb rfl) (oneB_spec rfl)) rfl ?_
    rintro _ _ _ ⟨rfl, rfl, rfl⟩
    refine zya rfl rfl ?_
    refine WL.nil (WP.thenC (WC.seq (WC.ofFr [(5, _), (4, _), (3, _), (2, _)] ⟨rfl, rfl, rfl, rfl, trivial⟩ (WC.region ?_))))
    refine zym rfl rfl ?_
    refine WL.so (SO.callP Tryz.call133 rfl (fun w hI => after_g (afterR la 4).2 1 (by have := afterR_len la 4; omega) _)) rfl ?_
    rintro _ _ _ ⟨rfl, rfl, rfl⟩
    refine zym rfl rfl ?_
    refine WL.yd (Yd.extract rfl rfl) rfl ?_
    refine WL.yd (Yd.extract rfl rfl) rfl ?_
    refine WL.yd (Yd.fieldAddr FA29_1 rfl) rfl ?_
    refine WL.so (SO.store 0 rfl Tryz.sizeOf3 rfl rfl rfl rfl (zqb rfl) (oneB_spec rfl)) rfl ?_
    rintro _ _ _ ⟨rfl, rfl, rfl⟩
    refine zya rfl rfl ?_
    refine WL.nil (WP.thenC (WC.seq (WC.ofFr [(5, _), (4, _), (3, _), (2, _)] ⟨rfl, rfl, rfl, rfl, trivial⟩ (WC.region ?_))))
    refine zym rfl rfl ?_
    refine WL.so (SO.callP Tryz.call133 rfl (fun w hI => after_g (afterR (afterR la 4).2 1).2 1 (by have := afterR_len la 4; have := afterR_len (afterR la 4).2 1; omega) _)) rfl ?_
    rintro _ _ _ ⟨rfl, rfl, rfl⟩
    refine zym rfl rfl ?_
    refine WL.yd (Yd.extract rfl rfl) rfl ?_
    refine WL.yd (Yd.extract rfl rfl) rfl ?_
    refine WL.yd (Yd.fieldAddr FA29_2 rfl) rfl ?_
    refine WL.so (SO.store 0 rfl Tryz.sizeOf3 rfl rfl rfl rfl (zqb rfl) (oneB_spec rfl)) rfl ?_
    rintro _ _ _ ⟨rfl, rfl, rfl⟩
    refine WL.nil (WP.thenC (WC.seq (WC.ofFr [(4, _), (3, _), (2, _)] ⟨rfl, rfl, rfl, trivial⟩ (WC.region ?_))))
    refine zym rfl rfl ?_
    refine WL.yd (Yd.indexS Tryz.underlying76 Tryz.sizeOf9 rfl rfl (by (try dsimp only); omega) (by (try dsimp only); omega) (by first | exact hS1.addr 1 (by decide))) rfl ?_
    refine WL.yd (Yd.load1 Tryz.isAgg9 rfl (by first | exact ro0 rfl rfl | exact ro1 rfl rfl | exact (hS1.at 1 (by decide)).rd 0 (v := st lb) rfl)) rfl ?_
    refine WL.so (SO.makes (Enters.func Tryz.call137 rfl) (fun w hI => parts_g lb 32 (by omega) D1 w hI.imm)) rfl ?_
    rintro _ D2 _ ⟨hX2, ⟨a2, n2, c2, rfl, hS2, hc2⟩, rfl⟩
    obtain rfl : n2 = (partsR 32 [] lb).length := hS2.len'
    have hpp2 := parts_pos 32 lb []
    have hpc2 := parts_cnt 32 lb []
    refine zya rfl rfl ?_
    refine WL.nil (WP.thenC (WC.seq (WC.seq (WC.ofFr [(6, _), (4, _), (3, _), (2, _)] ⟨rfl, rfl, rfl, rfl, trivial⟩ (WC.region ?_)))))
    refine zya rfl rfl ?_
    refine WL.nil (WP.thenC (WC.block ?_))
    refine WC.loopT [] (fun y : Nat × Option Ow => [(2, pt b2), (3, pt b3), (4, .slice a1 3 c1), (6, .slice a2 (partsR 32 [] lb).length c2), (7, nt (y.1 + 1))]) (fun y => (b3, .cells (List.toArray [it (afterR la 4).1, it (afterR (afterR la 4).2 1).1, it (afterR (afterR (afterR la 4).2 1).2 1).1, owV y.2 (((partsR 32 [] lb).tail.take y.1).map hourR).length, .slice none 0 0]) 29 (0, 0)) :: owH y.2 138 ((((partsR 32 [] lb).tail.take y.1).map hourR).flatMap hourC) [(b2, .cells (List.toArray [it 0, it 0, it 0, .slice none 0 0, .slice none 0 0]) 29 (0, 0))]) (fun y => y.1 ≤ (partsR 32 [] lb).tail.length ∧ owP w y.2 (((partsR 32 [] lb).tail.take y.1).map hourR).length 3) (fun y => (partsR 32 [] lb).tail.length - y.1) (0, none) ⟨Nat.zero_le _, rfl⟩ rfl ⟨rfl, rfl, rfl, rfl, rfl, trivial⟩ ?_
    rintro ⟨k, o1⟩ ⟨hk, ho1⟩
    dsimp only at hk ho1
    have htl : (partsR 32 [] lb).tail.length = (partsR 32 [] lb).length - 1 := by simp
    have hml : (((partsR 32 [] lb).tail.take k).map hourR).length ≤ k := by rw [List.length_map, List.length_take]; omega
    refine WC.seq (WC.seq (WC.ofFr [(2, _), (3, _), (4, _), (6, _), (7, _)] ⟨rfl, rfl, rfl, rfl, rfl, trivial⟩ (WC.region ?_)))
    refine zym rfl rfl ?_
    refine zym rfl rfl ?_
    refine WL.yd (Yd.lenS rfl Tryz.underlying76 rfl) rfl ?_
    refine WL.yd (Yd.lss rfl rfl) rfl ?_
    refine WL.nil (WP.thenC ?_)
    refine WC.cond rfl (fun c48 => ?_) (fun c48 => ?_)
    · try simp only [zq1, zq2, zq3, zq4, zq5, zq6, zq7, zq8] at c48
      have hkl : k + 1 < (partsR 32 [] lb).length := by omega
      have hpl := parts_le 32 lb [] _ (gtB_mem hkl)
      rw [List.length_nil] at hpl
      refine WC.skip (WP.thenC (WC.seq (WC.block (WC.seq (WC.ofFr [(2, _), (3, _), (4, _), (6, _), (7, _)] ⟨rfl, rfl, rfl, rfl, rfl, trivial⟩ (WC.region ?_))))))
      refine zym rfl rfl ?_
      refine zym rfl rfl ?_
      refine WL.yd (Yd.indexS Tryz.underlying76 Tryz.sizeOf9 rfl rfl (by (try dsimp only); omega) (by (try dsimp only); omega) (by first | exact hS2.addr (k + 1) (by omega))) rfl ?_
      refine WL.yd (Yd.load1 Tryz.isAgg9 rfl (by first | exact ro0 rfl rfl | exact ro1 rfl rfl | exact ro2 rfl rfl | exact (hS2.at (k + 1) (by omega)).rd 0 rfl)) rfl ?_
      refine WL.so (SO.callP Tryz.call138 rfl (fun w hI => spanOf_g (gt (partsR 32 [] lb) (k + 1)) [46, 46] (by omega) (by decide) _)) rfl ?_
      rintro _ _ _ ⟨rfl, rfl, rfl⟩
      refine zym rfl rfl ?_
      refine WL.yd (Yd.extract rfl rfl) rfl ?_
      refine WL.yd (Yd.extract rfl rfl) rfl ?_
      refine WL.so (SO.alloc Tryz.zeroValue114 rfl) rfl ?_
      rintro _ _ _ ⟨b8, hb8, rfl, rfl, rfl⟩
      refine WL.so (SO.store 0 rfl Tryz.sizeOf114 rfl rfl rfl rfl (zqb rfl) (oneB_spec rfl)) rfl ?_
      rintro _ _ _ ⟨rfl, rfl, rfl⟩
      refine zya rfl rfl ?_
      refine WL.nil (WP.thenC (WC.seq (WC.ofFr [(9, _), (8, _), (2, _), (3, _), (4, _), (6, _), (7, _)] ⟨rfl, rfl, rfl, rfl, rfl, rfl, rfl, trivial⟩ (WC.region ?_))))
      refine WL.yd (Yd.loadN Tryz.isAgg114 Tryz.sizeOf114 rfl (vs := [_, _]) rfl (by first | exact rn0 (n := 2) rfl rfl | exact rn1 (n := 2) rfl rfl | exact rn2 (n := 2) rfl rfl | exact rn3 (n := 2) rfl rfl)) rfl ?_
      refine WL.yd (Yd.build SA138 rfl (cs := [_, _, _]) rfl) rfl ?_
      refine WL.so (SO.alloc Tryz.zeroValue138 rfl) rfl ?_
      rintro _ _ _ ⟨b10, hb10, rfl, rfl, rfl⟩
      refine WL.so (SO.store 0 rfl Tryz.sizeOf138 rfl rfl rfl rfl (zqb rfl) (oneB_spec rfl)) rfl ?_
      rintro _ _ _ ⟨rfl, rfl, rfl⟩
      refine WL.nil (WP.thenC (WC.seq (WC.seq (WC.ofFr [(10, _), (9, _), (2, _), (3, _), (4, _), (6, _), (7, _)] ⟨rfl, rfl, rfl, rfl, rfl, rfl, rfl, trivial⟩ (WC.region ?_)))))
      refine zya rfl rfl ?_
      refine WL.nil (WP.thenC (WC.block ?_))
      refine WC.loopT [] (fun j : Nat => [(2, pt b2), (3, pt b3), (4, .slice a1 3 c1), (6, .slice a2 (partsR 32 [] lb).length c2), (7, nt (k + 1)), (9, st (spanR (gt (partsR 32 [] lb) (k + 1)) [46, 46]).2), (10, pt b10), (11, nt j)]) (fun j => (b10, .cells (List.toArray [it (spanR (gt (partsR 32 [] lb) (k + 1)) [46, 46]).1.lo, it (spanR (gt (partsR 32 [] lb) (k + 1)) [46, 46]).1.hi, it (tI (spanR (gt (partsR 32 [] lb) (k + 1)) [46, 46]).2 j)]) 138 (0, 0)) :: (b8, _) :: (b3, .cells (List.toArray [it (afterR la 4).1, it (afterR (afterR la 4).2 1).1, it (afterR (afterR (afterR la 4).2 1).2 1).1, owV o1 (((partsR 32 [] lb).tail.take k).map hourR).length, .slice none 0 0]) 29 (0, 0)) :: owH o1 138 ((((partsR 32 [] lb).tail.take k).map hourR).flatMap hourC) [(b2, .cells (List.toArray [it 0, it 0, it 0, .slice none 0 0, .slice none 0 0]) 29 (0, 0))]) (fun j => 1 ≤ j ∧ j ≤ 3) (fun j => 3 - j) 1 ⟨Nat.le_refl _, by decide⟩ rfl ⟨rfl, rfl, rfl, rfl, rfl, rfl, rfl, rfl, trivial⟩ ?_
      rintro j ⟨hj1, hj3⟩
      refine WC.seq (WC.seq (WC.ofFr [(2, _), (3, _), (4, _), (6, _), (7, _), (9, _), (10, _), (11, _)] ⟨rfl, rfl, rfl, rfl, rfl, rfl, rfl, rfl, trivial⟩ (WC.region ?_)))
      refine zym rfl rfl ?_
      refine WL.yd (Yd.leq rfl rfl) rfl ?_
      refine WL.nil (WP.thenC ?_)
      refine WC.cond rfl (fun c62 => ?_) (fun c62 => ?_)
      · try simp only [zq1, zq2, zq3, zq4, zq5, zq6, zq7, zq8] at c62
        refine WC.skip (WP.thenC (WC.seq (WC.block (WC.seq (WC.ofFr [(2, _), (3, _), (4, _), (6, _), (7, _), (9, _), (10, _), (11, _)] ⟨rfl, rfl, rfl, rfl, rfl, rfl, rfl, rfl, trivial⟩ (WC.region ?_))))))
        refine zym rfl rfl ?_
        refine zym rfl rfl ?_
        refine WL.so (SO.callP Tryz.call113 rfl (fun w hI => rmark_g _ _)) rfl ?_
        rintro _ _ _ ⟨rfl, rfl, rfl⟩
        refine WL.yd (Yd.eqS' rfl rfl) rfl ?_
        refine WL.nil (WP.thenC ?_)
        refine WC.cond rfl (fun c68 => ?_) (fun c68 => ?_)
        · try simp only [zq1, zq2, zq3, zq4, zq5, zq6, zq7, zq8] at c68
          refine WC.ofFr [(2, _), (3, _), (4, _), (6, _), (7, _), (9, _), (10, _), (11, _)] ⟨rfl, rfl, rfl, rfl, rfl, rfl, rfl, rfl, trivial⟩ (WC.region ?_)
          refine zym rfl rfl ?_
          refine WL.yd (Yd.fieldAddr FA138_1 rfl) rfl ?_
          skip
          refine WL.so (SO.store 0 rfl Tryz.sizeOf3 rfl rfl rfl rfl (zqb rfl) (oneB_spec rfl)) rfl ?_
          rintro _ _ _ ⟨rfl, rfl, rfl⟩
          refine WL.nil (WP.blkNormal (WP.thenC (WC.ofFr [(2, _), (3, _), (4, _), (6, _), (7, _), (9, _), (10, _), (11, _)] ⟨rfl, rfl, rfl, rfl, rfl, rfl, rfl, rfl, trivial⟩ (WC.region ?_))))
          refine zym rfl rfl ?_
          refine WL.yd (Yd.add rfl rfl (wr64 ⟨by (try dsimp only); omega, by (try dsimp only); omega⟩)) rfl ?_
          refine zya rfl rfl ?_
          refine WL.nil ?_
          exact WP.againT (j + 1) ⟨by omega, by omega⟩ (by omega) [] _ rfl (by (try dsimp only); rw [tI_go ⟨hj1, by omega⟩, if_pos c68]; rfl) ⟨rfl, rfl, rfl, rfl, rfl, rfl, rfl, rfl, trivial⟩
        · try simp only [zq1, zq2, zq3, zq4, zq5, zq6, zq7, zq8] at c68
          refine WC.skip (WP.blkNormal (WP.thenC (WC.ofFr [(2, _), (3, _), (4, _), (6, _), (7, _), (9, _), (10, _), (11, _)] ⟨rfl, rfl, rfl, rfl, rfl, rfl, rfl, rfl, trivial⟩ (WC.region ?_))))
          refine zym rfl rfl ?_
          refine WL.yd (Yd.add rfl rfl (wr64 ⟨by (try dsimp only); omega, by (try dsimp only); omega⟩)) rfl ?_
          refine zya rfl rfl ?_
          refine WL.nil ?_
          exact WP.againT (j + 1) ⟨by omega, by omega⟩ (by omega) [] _ rfl (by (try dsimp only); rw [tI_go ⟨hj1, by omega⟩, if_neg c68]; rfl) ⟨rfl, rfl, rfl, rfl, rfl, rfl, rfl, rfl, trivial⟩
      · try simp only [zq1, zq2, zq3, zq4, zq5, zq6, zq7, zq8] at c62
        refine WC.exit ?_
        refine WP.thenExit ?_
        refine WP.thenExit ?_
        refine WP.blkHit ?_
        refine WP.thenC (WC.ofFr [(2, _), (3, _), (4, _), (6, _), (7, _), (10, _)] ⟨rfl, rfl, rfl, rfl, rfl, rfl, trivial⟩ (WC.region ?_))
        refine WL.yd (Yd.fieldAddr FA29_3 rfl) rfl ?_
        refine WL.yd (Yd.load1 Tryz.isAgg26 rfl (by first | exact ro0 rfl rfl | exact ro1 rfl rfl | exact ro2 rfl rfl | exact ro3 rfl rfl | exact ro4 rfl rfl | exact (hS3.at (k + 1) (by omega)).rd 0 rfl)) rfl ?_
        refine WL.yd (Yd.loadN Tryz.isAgg138 Tryz.sizeOf138 rfl (vs := [_, _, _]) rfl (by first | exact rn0 (n := 3) rfl rfl | exact rn1 (n := 3) rfl rfl | exact rn2 (n := 3) rfl rfl | exact rn3 (n := 3) rfl rfl | exact rn4 (n := 3) rfl rfl)) rfl ?_
        refine WL.so (SO.buildSlice Tryz.underlying26 Tryz.sizeOf138 Tryz.zeroValue138 rfl rfl rfl rfl (cs := [_, _, _]) rfl) rfl ?_
        rintro _ _ _ ⟨b74, hb74, rfl, rfl, rfl⟩
        refine WL.so (SO.appendOw (o := o1) (len := (((partsR 32 [] lb).tail.take k).map hourR).length) (n := 1) (xs := ((((partsR 32 [] lb).tail.take k).map hourR).flatMap hourC)) (size := 3) [_] [_, _, _] [_] rfl rfl Tryz.underlying26 Tryz.sizeOf138 Tryz.typeInfo138 Tryz.zeroValue138 rfl rfl rfl rfl ⟨rfl, .inr ⟨_, _, _, rfl, RdN.own (k := 0) (n := 3) rfl rfl⟩⟩ (oneB_spec rfl) ho1 (flat_len hourC_len _) (by omega) (by show (2 * (_ + _) + 1000) * 24 ≤ 2 ^ 48; omega) (by omega)) rfl ?_
        rintro _ _ _ ⟨u1, hu1, rfl, rfl, rfl⟩
        refine WL.yd (Yd.fieldAddr FA29_3 rfl) rfl ?_
        refine WL.so (SO.store 2 rfl Tryz.sizeOf26 rfl rfl rfl rfl (zqb rfl) (oneB_spec rfl)) rfl ?_
        rintro _ _ _ ⟨rfl, rfl, rfl⟩
        refine WL.nil (WP.blkNormal (WP.thenC (WC.ofFr [(2, _), (3, _), (4, _), (6, _), (7, _)] ⟨rfl, rfl, rfl, rfl, rfl, trivial⟩ (WC.region ?_))))
        refine zym rfl rfl ?_
        refine WL.yd (Yd.add rfl rfl (wr64 ⟨by (try dsimp only); omega, by (try dsimp only); omega⟩)) rfl ?_
        refine zya rfl rfl ?_
        refine WL.nil ?_
        rw [show tI (spanR (gt (partsR 32 [] lb) (k + 1)) [46, 46]).2 j = thunR (spanR (gt (partsR 32 [] lb) (k + 1)) [46, 46]).2 by rw [show j = 3 by omega]; rfl] at *
        exact WP.againT (k + 1, some u1) ⟨by dsimp only; omega, by dsimp only; rw [map_take_succ (show k < (partsR 32 [] lb).tail.length by omega), List.length_append]; exact hu1⟩ (by dsimp only; omega) [_, _] _ rfl (by show _ = (b3, .cells (List.toArray [it (afterR la 4).1, it (afterR (afterR la 4).2 1).1, it (afterR (afterR (afterR la 4).2 1).2 1).1, owV (some u1) (((partsR 32 [] lb).tail.take (k + 1)).map hourR).length, .slice none 0 0]) 29 (0, 0)) :: owH (some u1) _ ((((partsR 32 [] lb).tail.take (k + 1)).map hourR).flatMap hourC) _; rw [map_take_succ (show k < (partsR 32 [] lb).tail.length by omega), List.length_append, List.flatMap_append, tail_gt]; rfl) ⟨rfl, rfl, rfl, rfl, rfl, trivial⟩
    · try simp only [zq1, zq2, zq3, zq4, zq5, zq6, zq7, zq8] at c48
      obtain rfl : k = (partsR 32 [] lb).tail.length := by omega
      refine WC.exit ?_
      refine WP.thenExit ?_
      refine WP.thenExit ?_
      refine WP.blkHit ?_
      refine WP.thenC (WC.seq (WC.ofFr [(2, _), (3, _), (4, _), (6, _)] ⟨rfl, rfl, rfl, rfl, trivial⟩ (WC.region ?_)))
      refine WL.freezeOw (f := hourC) (m := 3) hourC_len [_] [_] o1 138 (((partsR 32 [] lb).tail.take (partsR 32 [] lb).tail.length).map hourR) rfl ho1 rfl (fun D3 hX7 hS5 => ?_)
      rw [owV_owL (owL_of ho1)]
      refine zym rfl rfl ?_
      refine WL.yd (Yd.indexS Tryz.underlying76 Tryz.sizeOf9 rfl rfl (by (try dsimp only); omega) (by (try dsimp only); omega) (by first | exact hS1.addr 2 (by decide))) rfl ?_
      refine WL.yd (Yd.load1 Tryz.isAgg9 rfl (by first | exact ro0 rfl rfl | exact ro1 rfl rfl | exact ((hS1.ext (hX2.trans hX7 (Nat.le_refl _))).at 2 (by decide)).rd 0 (v := st lc) rfl)) rfl ?_
      refine WL.so (SO.makes (Enters.func Tryz.call137 rfl) (fun w hI => parts_g lc 32 (by omega) D3 w hI.imm)) rfl ?_
      rintro _ D4 _ ⟨hX3, ⟨a3, n3, c3, rfl, hS3, hc3⟩, rfl⟩
      obtain rfl : n3 = (partsR 32 [] lc).length := hS3.len'
      have hpp3 := parts_pos 32 lc []
      have hpc3 := parts_cnt 32 lc []
      refine zya rfl rfl ?_
      refine WL.nil (WP.thenC (WC.seq (WC.seq (WC.ofFr [(6, _), (2, _), (3, _)] ⟨rfl, rfl, rfl, trivial⟩ (WC.region ?_)))))
      refine zya rfl rfl ?_
      refine WL.nil (WP.thenC (WC.block ?_))
      refine WC.loopT [] (fun y : Nat × Option Ow => [(2, pt b2), (3, pt b3), (6, .slice a3 (partsR 32 [] lc).length c3), (12, nt (y.1 + 1))]) (fun y => (b3, .cells (List.toArray [it (afterR la 4).1, it (afterR (afterR la 4).2 1).1, it (afterR (afterR (afterR la 4).2 1).2 1).1, .slice (owAt o1) (((partsR 32 [] lb).tail.take (partsR 32 [] lb).tail.length).map hourR).length (owCp o1 (((partsR 32 [] lb).tail.take (partsR 32 [] lb).tail.length).map hourR).length), owV y.2 (((partsR 32 [] lc).tail.take y.1).map fseenR).length]) 29 (0, 0)) :: owH y.2 141 ((((partsR 32 [] lc).tail.take y.1).map fseenR).flatMap seenC) [(b2, .cells (List.toArray [it 0, it 0, it 0, .slice none 0 0, .slice none 0 0]) 29 (0, 0))]) (fun y => y.1 ≤ (partsR 32 [] lc).tail.length ∧ owP w y.2 (((partsR 32 [] lc).tail.take y.1).map fseenR).length 2) (fun y => (partsR 32 [] lc).tail.length - y.1) (0, none) ⟨Nat.zero_le _, rfl⟩ rfl ⟨rfl, rfl, rfl, rfl, trivial⟩ ?_
      rintro ⟨k, o2⟩ ⟨hk, ho2⟩
      dsimp only at hk ho2
      have htl3 : (partsR 32 [] lc).tail.length = (partsR 32 [] lc).length - 1 := by simp
      have hml : (((partsR 32 [] lc).tail.take k).map fseenR).length ≤ k := by rw [List.length_map, List.length_take]; omega
      refine WC.seq (WC.seq (WC.ofFr [(2, _), (3, _), (6, _), (12, _)] ⟨rfl, rfl, rfl, rfl, trivial⟩ (WC.region ?_)))
      refine zym rfl rfl ?_
      refine zym rfl rfl ?_
      refine WL.yd (Yd.lenS rfl Tryz.underlying76 rfl) rfl ?_
      refine WL.yd (Yd.lss rfl rfl) rfl ?_
      refine WL.nil (WP.thenC ?_)
      refine WC.cond rfl (fun c84 => ?_) (fun c84 => ?_)
      · try simp only [zq1, zq2, zq3, zq4, zq5, zq6, zq7, zq8] at c84
        have hkl : k + 1 < (partsR 32 [] lc).length := by omega
        have hpl := parts_le 32 lc [] _ (gtB_mem hkl)
        rw [List.length_nil] at hpl
        refine WC.skip (WP.thenC (WC.seq (WC.block (WC.seq (WC.ofFr [(2, _), (3, _), (6, _), (12, _)] ⟨rfl, rfl, rfl, rfl, trivial⟩ (WC.region ?_))))))
        refine zym rfl rfl ?_
        refine zym rfl rfl ?_
        refine WL.yd (Yd.indexS Tryz.underlying76 Tryz.sizeOf9 rfl rfl (by (try dsimp only); omega) (by (try dsimp only); omega) (by first | exact hS3.addr (k + 1) (by omega))) rfl ?_
        refine WL.yd (Yd.load1 Tryz.isAgg9 rfl (by first | exact ro0 rfl rfl | exact ro1 rfl rfl | exact ro2 rfl rfl | exact (hS3.at (k + 1) (by omega)).rd 0 rfl)) rfl ?_
        refine WL.so (SO.callP Tryz.call135 rfl (fun w hI => value_g (gt (partsR 32 [] lc) (k + 1)) (by omega) _)) rfl ?_
        rintro _ _ _ ⟨rfl, rfl, rfl⟩
        refine zym rfl rfl ?_
        refine WL.yd (Yd.extract rfl rfl) rfl ?_
        refine WL.yd (Yd.extract rfl rfl) rfl ?_
        refine zya rfl rfl ?_
        refine zya rfl rfl ?_
        refine WL.nil (WP.thenC (WC.ofFr [(14, _), (13, _), (2, _), (3, _), (6, _), (12, _)] ⟨rfl, rfl, rfl, rfl, rfl, rfl, trivial⟩ (WC.region ?_)))
        refine WL.yd (Yd.fieldAddr FA29_4 rfl) rfl ?_
        refine WL.yd (Yd.load1 Tryz.isAgg27 rfl (by first | exact ro0 rfl rfl | exact ro1 rfl rfl | exact ro2 rfl rfl | exact (hS3.at (k + 1) (by omega)).rd 0 rfl)) rfl ?_
        refine zym rfl rfl ?_
        refine zym rfl rfl ?_
        refine WL.yd (Yd.eqS' rfl rfl) rfl ?_
        refine WL.yd (Yd.build SA141 rfl (cs := [_, _]) rfl) rfl ?_
        refine WL.so (SO.buildSlice Tryz.underlying27 Tryz.sizeOf141 Tryz.zeroValue141 rfl rfl rfl rfl (cs := [_, _]) rfl) rfl ?_
        rintro _ _ _ ⟨b101, hb101, rfl, rfl, rfl⟩
        refine WL.so (SO.appendOw (o := o2) (len := (((partsR 32 [] lc).tail.take k).map fseenR).length) (n := 1) (xs := ((((partsR 32 [] lc).tail.take k).map fseenR).flatMap seenC)) (size := 2) [_] [_] [_] rfl rfl Tryz.underlying27 Tryz.sizeOf141 Tryz.typeInfo141 Tryz.zeroValue141 rfl rfl rfl rfl ⟨rfl, .inr ⟨_, _, _, rfl, RdN.own (k := 0) (n := 2) rfl rfl⟩⟩ (oneB_spec rfl) ho2 (flat_len seenC_len _) (by omega) (by show (2 * (_ + _) + 1000) * 16 ≤ 2 ^ 48; omega) (by omega)) rfl ?_
        rintro _ _ _ ⟨u2, hu2, rfl, rfl, rfl⟩
        refine WL.yd (Yd.fieldAddr FA29_4 rfl) rfl ?_
        refine WL.so (SO.store 0 rfl Tryz.sizeOf27 rfl rfl rfl rfl (zqb rfl) (oneB_spec rfl)) rfl ?_
        rintro _ _ _ ⟨rfl, rfl, rfl⟩
        refine WL.nil (WP.blkNormal (WP.thenC (WC.ofFr [(2, _), (3, _), (6, _), (12, _)] ⟨rfl, rfl, rfl, rfl, trivial⟩ (WC.region ?_))))
        refine zym rfl rfl ?_
        refine WL.yd (Yd.add rfl rfl (wr64 ⟨by (try dsimp only); omega, by (try dsimp only); omega⟩)) rfl ?_
        refine zya rfl rfl ?_
        refine WL.nil ?_
        exact WP.againT (k + 1, some u2) ⟨by dsimp only; omega, by dsimp only; rw [map_take_succ (show k < (partsR 32 [] lc).tail.length by omega), List.length_append]; exact hu2⟩ (by dsimp only; omega) [] _ rfl (by show _ = (b3, .cells (List.toArray [it (afterR la 4).1, it (afterR (afterR la 4).2 1).1, it (afterR (afterR (afterR la 4).2 1).2 1).1, _, owV (some u2) (((partsR 32 [] lc).tail.take (k + 1)).map fseenR).length]) 29 (0, 0)) :: owH (some u2) _ ((((partsR 32 [] lc).tail.take (k + 1)).map fseenR).flatMap seenC) _; rw [map_take_succ (show k < (partsR 32 [] lc).tail.length by omega), List.length_append, List.flatMap_append, tail_gt]; rfl) ⟨rfl, rfl, rfl, rfl, trivial⟩
      · try simp only [zq1, zq2, zq3, zq4, zq5, zq6, zq7, zq8] at c84
        obtain rfl : k = (partsR 32 [] lc).tail.length := by omega
        refine WC.exit ?_
        refine WP.thenExit ?_
        refine WP.thenExit ?_
        refine WP.blkHit ?_
        refine WP.thenC (WC.seq (WC.ofFr [(2, _), (3, _)] ⟨rfl, rfl, trivial⟩ (WC.region ?_)))
        refine WL.freezeOw (f := seenC) (m := 2) seenC_len [_] [_] o2 141 (((partsR 32 [] lc).tail.take (partsR 32 [] lc).tail.length).map fseenR) rfl ho2 rfl (fun D5 hX5 hS6 => ?_)
        rw [owV_owL (owL_of ho2)]
        refine WL.yd (Yd.loadN Tryz.isAgg29 Tryz.sizeOf29 rfl (vs := [_, _, _, _, _]) rfl (by first | exact rn0 (n := 5) rfl rfl | exact rn1 (n := 5) rfl rfl)) rfl ?_
        refine WL.so (SO.store 1 rfl Tryz.sizeOf29 rfl rfl rfl rfl (zqb rfl) (oneB_spec rfl)) rfl ?_
        rintro _ _ _ ⟨rfl, rfl, rfl⟩
        refine WL.nil (WP.thenC (WC.ret ?_))
        refine WP.ret1 rfl rfl Tryz.results78 (RV.cellN Tryz.isAgg29 Tryz.sizeOf29 rfl (vs := [_, _, _, _, _]) rfl (by first | exact rn0 (n := 5) rfl rfl | exact rn1 (n := 5) rfl rfl)) (fun w1 hI => ⟨_, D5, rfl, hI.keep, hI.imm, (((hX1.trans hX2 (Nat.le_refl _)).trans hX7 (Nat.le_refl _)).trans hX3 (Nat.le_refl _)).trans hX5 (Nat.le_refl _), ⟨⟨owAt o1, (((partsR 32 [] lb).tail.take (partsR 32 [] lb).tail.length).map hourR).length, owCp o1 (((partsR 32 [] lb).tail.take (partsR 32 [] lb).tail.length).map hourR).length⟩, ⟨owAt o2, (((partsR 32 [] lc).tail.take (partsR 32 [] lc).tail.length).map fseenR).length, owCp o2 (((partsR 32 [] lc).tail.take (partsR 32 [] lc).tail.length).map fseenR).length⟩⟩, by rw [flagR_yes hl3] <;> rfl, by rw [flagR_yes hl3]; exact ⟨by have h9 := hS5.ext (hX3.trans hX5 (Nat.le_refl _)); rw [List.take_length] at h9 ⊢; exact h9, by have h9 := hS6; simp only [List.take_length] at h9 ⊢; exact h9, by show List.length _ ≤ _; rw [List.take_length, List.length_map]; omega, by show List.length _ ≤ _; rw [List.take_length, List.length_map]; omega⟩⟩)

end Go.Proofs.YtaebnllfmkcpgaaGreatDoor
namespace Go.Proofs.YtaebnllfmkcpgaaGreatDoor
open Go.W Go.Bk

theorem bseenR_a {p : Bs} (h : (valueR p).2 = []) : bseenR p = ⟨(valueR p).1, ⟨0, 0⟩, ⟨0, 0⟩⟩ := by
  unfold bseenR; rw [if_pos h]; rfl
theorem bseenR_b {p : Bs} (h : (valueR p).2 ≠ []) (h2 : (spanR ((valueR p).2.drop 1) [46, 46]).2 = []) : bseenR p = ⟨(valueR p).1, (spanR ((valueR p).2.drop 1) [46, 46]).1, ⟨0, 0⟩⟩ := by
  unfold bseenR; simp only; rw [if_neg h, if_pos h2]
theorem bseenR_c {p : Bs} (h : (valueR p).2 ≠ []) (h2 : (spanR ((valueR p).2.drop 1) [46, 46]).2 ≠ []) : bseenR p = ⟨(valueR p).1, (spanR ((valueR p).2.drop 1) [46, 46]).1, (spanR ((spanR ((valueR p).2.drop 1) [46, 46]).2.drop 1) [46, 46]).1⟩ := by
  unfold bseenR; simp only; rw [if_neg h, if_neg h2]
theorem len_ne {l : Bs} (h : 0 < l.length) : l ≠ [] := fun e => by subst e; simp at h
theorem len_nil {l : Bs} (h : ¬ 0 < l.length) : l = [] := List.length_eq_zero_iff.1 (by omega)
attribute [local irreducible] valueR spanR afterR partsR linesR

set_option maxRecDepth 100000 in
set_option maxHeartbeats 4000000 in
theorem rboats_g (s : Bs) (hs : s.length ≤ 2 ^ 16 - 1) (D : Imm) (w : World) (hH : Holds D w) : Makes Tryz.prog 80 [st s] w D (fun v D' => ∃ m, v = boatsV (boatsR s) m ∧ BoatsR D' (boatsR s) m) := by
  unfold Makes
  refine enter Tryz.func80 rfl 102 Tryz.ntmps80 (zqb rfl) (Inv.start hH) ?_
  refine WC.seq (WC.ofFr [(0, _)] ⟨rfl, trivial⟩ (WC.region ?_))
  refine WL.so (SO.alloc Tryz.zeroValue32 rfl) rfl ?_
  rintro _ _ _ ⟨b2, hb2, rfl, rfl, rfl⟩
  refine WL.nil (WP.thenC (WC.seq (WC.ofFr [(2, _), (0, _)] ⟨rfl, rfl, trivial⟩ (WC.region ?_))))
  refine WL.so (SO.alloc Tryz.zeroValue32 rfl) rfl ?_
  rintro _ _ _ ⟨b3, hb3, rfl, rfl, rfl⟩
  refine WL.nil (WP.thenC (WC.seq (WC.ofFr [(3, _), (2, _), (0, _)] ⟨rfl, rfl, rfl, trivial⟩ (WC.region ?_))))
  refine zym rfl rfl ?_
  refine WL.so (SO.makes (Enters.func Tryz.call132 rfl) (fun w hI => rlines_g s (by omega) D w hI.imm)) rfl ?_
  rintro _ D1 _ ⟨hX1, ⟨a1, n1, c1, rfl, hS1⟩, rfl⟩
  refine zya rfl rfl ?_
  refine WL.nil (WP.thenC (WC.seq (WC.seq (WC.ofFr [(4, _), (3, _), (2, _)] ⟨rfl, rfl, rfl, trivial⟩ (WC.region ?_)))))
  refine zya rfl rfl ?_
  refine WL.nil (WP.thenC (WC.block ?_))
  obtain rfl : n1 = (linesR s).length := hS1.len'
  have hcn := linesR_cnt s
  refine WC.loop (fun y : Nat × Boats × List Sl × Option Ow × Imm => [(2, pt b2), (3, pt b3), (4, .slice a1 (linesR s).length c1), (5, nt y.1)]) (fun y => (b3, .cells (boatsTV y.2.1 y.2.2.2.1).toArray 32 (0, 0)) :: owH y.2.2.2.1 79 (y.2.2.1.flatMap slC) [(b2, .cells (boatsTV boatsZ none).toArray 32 (0, 0))]) (fun y => y.2.2.2.2) (fun y => y.1 ≤ (linesR s).length ∧ foldI boatsRt boatsZ 0 ((linesR s).take y.1) = y.2.1 ∧ y.2.2.1.length = y.2.1.seen.length ∧ (∀ i, i < y.2.1.seen.length → SlL y.2.2.2.2 5 ((gt y.2.1.seen i).map bsC) (gt y.2.2.1 i).a (gt y.2.2.1 i).n ∧ (gt y.2.2.1 i).n ≤ 2 ^ 30) ∧ owP w y.2.2.2.1 y.2.1.seen.length 1 ∧ y.2.1.seen.length ≤ y.1 ∧ DExt w D1 y.2.2.2.2) (fun y => (linesR s).length - y.1) (0, boatsZ, [], none, D1) ⟨Nat.zero_le _, rfl, rfl, fun i hi => absurd hi (Nat.not_lt_zero i), rfl, Nat.zero_le _, DExt.refl _ _⟩ (fun a w' hA => ⟨hA.f.weaken (subB_get ⟨rfl, rfl, rfl, rfl, trivial⟩), hA.i⟩) ?_
  rintro ⟨k, x, M, o, D2⟩ ⟨hk, hx, hM, hr, ho, hsn, hXD⟩
  dsimp only at hk hx hM hr ho hsn hXD
  have hSl := hS1.ext hXD
  refine WC.seq (WC.seq (WC.ofFr [(2, _), (3, _), (4, _), (5, _)] ⟨rfl, rfl, rfl, rfl, trivial⟩ (WC.region ?_)))
  refine zym rfl rfl ?_
  refine zym rfl rfl ?_
  refine WL.yd (Yd.lenS rfl Tryz.underlying76 rfl) rfl ?_
  refine WL.yd (Yd.lss rfl rfl) rfl ?_
  refine WL.nil (WP.thenC ?_)
  refine WC.cond rfl (fun c18 => ?_) (fun c18 => ?_)
  · try simp only [zq1, zq2, zq3, zq4, zq5, zq6, zq7, zq8] at c18
    have hkl : k < (linesR s).length := by omega
    have hll := linesR_le (gtB_mem hkl)
    refine WC.skip (WP.thenC (WC.seq (WC.block (WC.seq (WC.seq (WC.ofFr [(2, _), (3, _), (4, _), (5, _)] ⟨rfl, rfl, rfl, rfl, trivial⟩ (WC.region ?_)))))))
    refine zym rfl rfl ?_
    refine WL.yd (Yd.eql rfl rfl) rfl ?_
    refine WL.nil (WP.thenC ?_)
    refine WC.cond rfl (fun c22 => ?_) (fun c22 => ?_)
    · try simp only [zq1, zq2, zq3, zq4, zq5, zq6, zq7, zq8] at c22
      refine WC.seq (WC.ofFr [(2, _), (3, _), (4, _), (5, _)] ⟨rfl, rfl, rfl, rfl, trivial⟩ (WC.region ?_))
      refine zya rfl rfl ?_
      refine WL.nil (WP.thenC (WC.seq (WC.ofFr [(6, _), (2, _), (3, _), (4, _), (5, _)] ⟨rfl, rfl, rfl, rfl, rfl, trivial⟩ (WC.region ?_))))
      refine zym rfl rfl ?_
      refine zym rfl rfl ?_
      refine WL.yd (Yd.indexS Tryz.underlying76 Tryz.sizeOf9 rfl rfl (by (try dsimp only); omega) (by (try dsimp only); omega) (by first | exact hSl.addr k (by omega))) rfl ?_
      refine WL.yd (Yd.load1 Tryz.isAgg9 rfl (by first | exact ro0 rfl rfl | exact ro1 rfl rfl | exact ro2 rfl rfl | exact (hSl.at k (by omega)).rd 0 rfl)) rfl ?_
      refine WL.so (SO.callP Tryz.call133 rfl (fun w hI => after_g (gt (linesR s) k) 5 (by omega) _)) rfl ?_
      rintro _ _ _ ⟨rfl, rfl, rfl⟩
      refine zym rfl rfl ?_
      refine WL.yd (Yd.extract rfl rfl) rfl ?_
      refine WL.yd (Yd.extract rfl rfl) rfl ?_
      refine WL.yd (Yd.fieldAddr FA32_0 rfl) rfl ?_
      refine WL.so (SO.store 0 rfl Tryz.sizeOf3 rfl rfl rfl rfl (zqb rfl) (oneB_spec rfl)) rfl ?_
      rintro _ _ _ ⟨rfl, rfl, rfl⟩
      refine zya rfl rfl ?_
      refine WL.nil (WP.thenC (WC.seq (WC.ofFr [(6, _), (2, _), (3, _), (4, _), (5, _)] ⟨rfl, rfl, rfl, rfl, rfl, trivial⟩ (WC.region ?_))))
      refine zym rfl rfl ?_
      refine WL.so (SO.callP Tryz.call133 rfl (fun w hI => after_g (afterR (gt (linesR s) k) 5).2 1 (by have := afterR_len (gt (linesR s) k) 5; omega) _)) rfl ?_
      rintro _ _ _ ⟨rfl, rfl, rfl⟩
      refine zym rfl rfl ?_
      refine WL.yd (Yd.extract rfl rfl) rfl ?_
      refine WL.yd (Yd.extract rfl rfl) rfl ?_
      refine WL.yd (Yd.fieldAddr FA32_1 rfl) rfl ?_
      refine WL.so (SO.store 0 rfl Tryz.sizeOf3 rfl rfl rfl rfl (zqb rfl) (oneB_spec rfl)) rfl ?_
      rintro _ _ _ ⟨rfl, rfl, rfl⟩
      refine zya rfl rfl ?_
      refine WL.nil (WP.thenC (WC.seq (WC.ofFr [(6, _), (2, _), (3, _), (4, _), (5, _)] ⟨rfl, rfl, rfl, rfl, rfl, trivial⟩ (WC.region ?_))))
      refine zym rfl rfl ?_
      refine WL.so (SO.callP Tryz.call133 rfl (fun w hI => after_g (afterR (afterR (gt (linesR s) k) 5).2 1).2 2 (by have := afterR_len (gt (linesR s) k) 5; have := afterR_len (afterR (gt (linesR s) k) 5).2 1; omega) _)) rfl ?_
      rintro _ _ _ ⟨rfl, rfl, rfl⟩
      refine zym rfl rfl ?_
      refine WL.yd (Yd.extract rfl rfl) rfl ?_
      refine WL.yd (Yd.extract rfl rfl) rfl ?_
      refine WL.yd (Yd.fieldAddr FA32_2 rfl) rfl ?_
      refine WL.so (SO.store 0 rfl Tryz.sizeOf3 rfl rfl rfl rfl (zqb rfl) (oneB_spec rfl)) rfl ?_
      rintro _ _ _ ⟨rfl, rfl, rfl⟩
      refine zya rfl rfl ?_
      refine WL.nil (WP.thenC (WC.seq (WC.ofFr [(6, _), (2, _), (3, _), (4, _), (5, _)] ⟨rfl, rfl, rfl, rfl, rfl, trivial⟩ (WC.region ?_))))
      refine zym rfl rfl ?_
      refine WL.so (SO.callP Tryz.call133 rfl (fun w hI => after_g (afterR (afterR (afterR (gt (linesR s) k) 5).2 1).2 2).2 2 (by have := afterR_len (gt (linesR s) k) 5; have := afterR_len (afterR (gt (linesR s) k) 5).2 1; have := afterR_len (afterR (afterR (gt (linesR s) k) 5).2 1).2 2; omega) _)) rfl ?_
      rintro _ _ _ ⟨rfl, rfl, rfl⟩
      refine zym rfl rfl ?_
      refine WL.yd (Yd.extract rfl rfl) rfl ?_
      refine WL.yd (Yd.extract rfl rfl) rfl ?_
      refine WL.yd (Yd.fieldAddr FA32_3 rfl) rfl ?_
      refine WL.so (SO.store 0 rfl Tryz.sizeOf3 rfl rfl rfl rfl (zqb rfl) (oneB_spec rfl)) rfl ?_
      rintro _ _ _ ⟨rfl, rfl, rfl⟩
      refine WL.nil (WP.thenC ?_)
      refine WC.exit ?_
      refine WP.thenExit ?_
      refine WP.blkHit ?_
      refine WP.thenC (WC.ofFr [(2, _), (3, _), (4, _), (5, _)] ⟨rfl, rfl, rfl, rfl, trivial⟩ (WC.region ?_))
      refine zym rfl rfl ?_
      refine WL.yd (Yd.add rfl rfl (wr64 ⟨by (try dsimp only); omega, by (try dsimp only); omega⟩)) rfl ?_
      refine zya rfl rfl ?_
      refine WL.nil ?_
      have hk0 : k = 0 := by omega
      exact WP.againI (k + 1, { x with wide := (afterR (gt (linesR s) k) 5).1, deep := (afterR (afterR (gt (linesR s) k) 5).2 1).1, speed := (afterR (afterR (afterR (gt (linesR s) k) 5).2 1).2 2).1, last := (afterR (afterR (afterR (afterR (gt (linesR s) k) 5).2 1).2 2).2 2).1 }, M, o, D2) ⟨hkl, by dsimp only; rw [foldI_step hkl hx]; subst hk0; rfl, hM, hr, ho, by dsimp only; omega, hXD⟩ (by dsimp only; omega) ⟨rfl, rfl, rfl, rfl, trivial⟩ rfl rfl
    · try simp only [zq1, zq2, zq3, zq4, zq5, zq6, zq7, zq8] at c22
      refine WC.skip (WP.thenC (WC.seq (WC.ofFr [(2, _), (3, _), (4, _), (5, _)] ⟨rfl, rfl, rfl, rfl, trivial⟩ (WC.region ?_))))
      refine zya rfl rfl ?_
      refine WL.nil (WP.thenC (WC.seq (WC.ofFr [(7, _), (2, _), (3, _), (4, _), (5, _)] ⟨rfl, rfl, rfl, rfl, rfl, trivial⟩ (WC.region ?_))))
      refine zym rfl rfl ?_
      refine zym rfl rfl ?_
      refine WL.yd (Yd.indexS Tryz.underlying76 Tryz.sizeOf9 rfl rfl (by (try dsimp only); omega) (by (try dsimp only); omega) (by first | exact hSl.addr k (by omega))) rfl ?_
      refine WL.yd (Yd.load1 Tryz.isAgg9 rfl (by first | exact ro0 rfl rfl | exact ro1 rfl rfl | exact ro2 rfl rfl | exact (hSl.at k (by omega)).rd 0 rfl)) rfl ?_
      refine WL.so (SO.makes (Enters.func Tryz.call137 rfl) (fun w hI => parts_g (gt (linesR s) k) 32 (by omega) D2 w hI.imm)) rfl ?_
      rintro _ D3 _ ⟨hX6, ⟨a6, n6, c6, rfl, hS6, hc6⟩, rfl⟩
      obtain rfl : n6 = (partsR 32 [] (gt (linesR s) k)).length := hS6.len'
      have hpp := parts_pos 32 (gt (linesR s) k) []
      have hpc := parts_cnt 32 (gt (linesR s) k) []
      have htl : (partsR 32 [] (gt (linesR s) k)).tail.length = (partsR 32 [] (gt (linesR s) k)).length - 1 := by simp
      refine zya rfl rfl ?_
      refine WL.nil (WP.thenC (WC.seq (WC.seq (WC.ofFr [(8, _), (7, _), (2, _), (3, _), (4, _), (5, _)] ⟨rfl, rfl, rfl, rfl, rfl, rfl, trivial⟩ (WC.region ?_)))))
      refine zya rfl rfl ?_
      refine WL.nil (WP.thenC (WC.block ?_))
      refine WC.loopT [] (fun y : Nat × Option Ow => [(2, pt b2), (3, pt b3), (4, .slice a1 (linesR s).length c1), (5, nt k), (7, owV y.2 (((partsR 32 [] (gt (linesR s) k)).tail.take y.1).map bseenR).length), (8, .slice a6 (partsR 32 [] (gt (linesR s) k)).length c6), (9, nt (y.1 + 1))]) (fun y => owH y.2 143 ((((partsR 32 [] (gt (linesR s) k)).tail.take y.1).map bseenR).flatMap bsC) ((b3, .cells (boatsTV x o).toArray 32 (0, 0)) :: owH o 79 (M.flatMap slC) [(b2, .cells (boatsTV boatsZ none).toArray 32 (0, 0))])) (fun y => y.1 ≤ (partsR 32 [] (gt (linesR s) k)).tail.length ∧ owP w y.2 (((partsR 32 [] (gt (linesR s) k)).tail.take y.1).map bseenR).length 5) (fun y => (partsR 32 [] (gt (linesR s) k)).tail.length - y.1) (0, none) ⟨Nat.zero_le _, rfl⟩ rfl ⟨rfl, rfl, rfl, rfl, rfl, rfl, rfl, trivial⟩ ?_
      rintro ⟨j, oi⟩ ⟨hj, hoi⟩
      dsimp only at hj hoi
      have hml : (((partsR 32 [] (gt (linesR s) k)).tail.take j).map bseenR).length ≤ j := by rw [List.length_map, List.length_take]; omega
      refine WC.seq (WC.seq (WC.ofFr [(2, _), (3, _), (4, _), (5, _), (7, _), (8, _), (9, _)] ⟨rfl, rfl, rfl, rfl, rfl, rfl, rfl, trivial⟩ (WC.region ?_)))
      refine zym rfl rfl ?_
      refine zym rfl rfl ?_
      refine WL.yd (Yd.lenS rfl Tryz.underlying76 rfl) rfl ?_
      refine WL.yd (Yd.lss rfl rfl) rfl ?_
      refine WL.nil (WP.thenC ?_)
      refine WC.cond rfl (fun c58 => ?_) (fun c58 => ?_)
      · try simp only [zq1, zq2, zq3, zq4, zq5, zq6, zq7, zq8] at c58
        have hjl : j + 1 < (partsR 32 [] (gt (linesR s) k)).length := by omega
        have hpl := parts_le 32 (gt (linesR s) k) [] _ (gtB_mem hjl)
        rw [List.length_nil] at hpl
        have hvl := valueR_len (gt (partsR 32 [] (gt (linesR s) k)) (j + 1))
        refine WC.skip (WP.thenC (WC.seq (WC.block (WC.seq (WC.ofFr [(2, _), (3, _), (4, _), (5, _), (7, _), (8, _), (9, _)] ⟨rfl, rfl, rfl, rfl, rfl, rfl, rfl, trivial⟩ (WC.region ?_))))))
        refine zym rfl rfl ?_
        refine zym rfl rfl ?_
        refine WL.yd (Yd.indexS Tryz.underlying76 Tryz.sizeOf9 rfl rfl (by (try dsimp only); omega) (by (try dsimp only); omega) (by first | exact hS6.addr (j + 1) (by omega))) rfl ?_
        refine WL.yd (Yd.load1 Tryz.isAgg9 rfl (by first | exact ro0 rfl rfl | exact ro1 rfl rfl | exact ro2 rfl rfl | exact ro3 rfl rfl | exact (hS6.at (j + 1) (by omega)).rd 0 rfl)) rfl ?_
        refine WL.so (SO.callP Tryz.call135 rfl (fun w hI => value_g (gt (partsR 32 [] (gt (linesR s) k)) (j + 1)) (by omega) _)) rfl ?_
        rintro _ _ _ ⟨rfl, rfl, rfl⟩
        refine zym rfl rfl ?_
        refine WL.yd (Yd.extract rfl rfl) rfl ?_
        refine WL.yd (Yd.extract rfl rfl) rfl ?_
        refine zya rfl rfl ?_
        refine zya rfl rfl ?_
        refine WL.nil (WP.thenC (WC.seq (WC.ofFr [(11, _), (10, _), (2, _), (3, _), (4, _), (5, _), (7, _), (8, _), (9, _)] ⟨rfl, rfl, rfl, rfl, rfl, rfl, rfl, rfl, rfl, trivial⟩ (WC.region ?_))))
        refine zym rfl rfl ?_
        refine WL.yd (Yd.build SA143 rfl (cs := [_, _, _, _, _]) rfl) rfl ?_
        refine WL.so (SO.alloc Tryz.zeroValue143 rfl) rfl ?_
        rintro _ _ _ ⟨b12, hb12, rfl, rfl, rfl⟩
        refine WL.so (SO.store 0 rfl Tryz.sizeOf143 rfl rfl rfl rfl (zqb rfl) (oneB_spec rfl)) rfl ?_
        rintro _ _ _ ⟨rfl, rfl, rfl⟩
        refine WL.nil (WP.thenC (WC.seq (WC.seq (WC.ofFr [(12, _), (11, _), (2, _), (3, _), (4, _), (5, _), (7, _), (8, _), (9, _)] ⟨rfl, rfl, rfl, rfl, rfl, rfl, rfl, rfl, rfl, trivial⟩ (WC.region ?_)))))
        refine zym rfl rfl ?_
        refine WL.yd (Yd.lenStr rfl Tryz.underlying9 rfl) rfl ?_
        refine WL.yd (Yd.gtr rfl rfl) rfl ?_
        refine WL.nil (WP.thenC ?_)
        refine WC.cond rfl (fun c73 => ?_) (fun c73 => ?_)
        · try simp only [zq1, zq2, zq3, zq4, zq5, zq6, zq7, zq8] at c73
          refine WC.ofFr [(12, _), (11, _), (2, _), (3, _), (4, _), (5, _), (7, _), (8, _), (9, _)] ⟨rfl, rfl, rfl, rfl, rfl, rfl, rfl, rfl, rfl, trivial⟩ (WC.region ?_)
          refine zym rfl rfl ?_
          refine WL.yd (Yd.sliceFromS (i := 1) Tryz.underlying9 rfl rfl (by (try dsimp only); omega)) rfl ?_
          refine WL.so (SO.callP Tryz.call138 rfl (fun w hI => spanOf_g ((valueR (gt (partsR 32 [] (gt (linesR s) k)) (j + 1))).2.drop 1) [46, 46] (by rw [List.length_drop]; omega) (by decide) _)) rfl ?_
          rintro _ _ _ ⟨rfl, rfl, rfl⟩
          refine zym rfl rfl ?_
          refine WL.yd (Yd.extract rfl rfl) rfl ?_
          refine WL.yd (Yd.extract rfl rfl) rfl ?_
          refine WL.yd (Yd.fieldAddr FA143_1 rfl) rfl ?_
          refine WL.so (SO.store 0 rfl Tryz.sizeOf114 rfl rfl rfl rfl (zqb rfl) (oneB_spec rfl)) rfl ?_
          rintro _ _ _ ⟨rfl, rfl, rfl⟩
          refine zya rfl rfl ?_
          refine WL.nil (WP.thenC (WC.seq (WC.seq (WC.ofFr [(11, _), (12, _), (2, _), (3, _), (4, _), (5, _), (7, _), (8, _), (9, _)] ⟨rfl, rfl, rfl, rfl, rfl, rfl, rfl, rfl, rfl, trivial⟩ (WC.region ?_)))))
          refine zym rfl rfl ?_
          refine WL.yd (Yd.lenStr rfl Tryz.underlying9 rfl) rfl ?_
          refine WL.yd (Yd.gtr rfl rfl) rfl ?_
          refine WL.nil (WP.thenC ?_)
          refine WC.cond rfl (fun c83 => ?_) (fun c83 => ?_)
          · try simp only [zq1, zq2, zq3, zq4, zq5, zq6, zq7, zq8] at c83
            refine WC.ofFr [(11, _), (12, _), (2, _), (3, _), (4, _), (5, _), (7, _), (8, _), (9, _)] ⟨rfl, rfl, rfl, rfl, rfl, rfl, rfl, rfl, rfl, trivial⟩ (WC.region ?_)
            refine zym rfl rfl ?_
            refine WL.yd (Yd.sliceFromS (i := 1) Tryz.underlying9 rfl rfl (by (try dsimp only); omega)) rfl ?_
            refine WL.so (SO.callP Tryz.call138 rfl (fun w hI => spanOf_g ((spanR ((valueR (gt (partsR 32 [] (gt (linesR s) k)) (j + 1))).2.drop 1) [46, 46]).2.drop 1) [46, 46] (by have := spanR_len ((valueR (gt (partsR 32 [] (gt (linesR s) k)) (j + 1))).2.drop 1) [46, 46]; rw [List.length_drop] at this ⊢; omega) (by decide) _)) rfl ?_
            rintro _ _ _ ⟨rfl, rfl, rfl⟩
            refine zym rfl rfl ?_
            refine WL.yd (Yd.extract rfl rfl) rfl ?_
            refine WL.yd (Yd.extract rfl rfl) rfl ?_
            refine WL.yd (Yd.fieldAddr FA143_2 rfl) rfl ?_
            refine WL.so (SO.store 0 rfl Tryz.sizeOf114 rfl rfl rfl rfl (zqb rfl) (oneB_spec rfl)) rfl ?_
            rintro _ _ _ ⟨rfl, rfl, rfl⟩
            refine WL.nil (WP.thenC (WC.ofFr [(12, _), (2, _), (3, _), (4, _), (5, _), (7, _), (8, _), (9, _)] ⟨rfl, rfl, rfl, rfl, rfl, rfl, rfl, rfl, trivial⟩ (WC.region ?_)))
            refine zym rfl rfl ?_
            refine WL.yd (Yd.loadN Tryz.isAgg143 Tryz.sizeOf143 rfl (vs := [_, _, _, _, _]) rfl (by first | exact rn0 (n := 5) rfl rfl | exact rn1 (n := 5) rfl rfl | exact rn2 (n := 5) rfl rfl | exact rn3 (n := 5) rfl rfl | exact rn4 (n := 5) rfl rfl)) rfl ?_
            refine WL.so (SO.buildSlice Tryz.underlying79 Tryz.sizeOf143 Tryz.zeroValue143 rfl rfl rfl rfl (cs := [_, _, _, _, _]) rfl) rfl ?_
            rintro _ _ _ ⟨b93, hb93, rfl, rfl, rfl⟩
            refine WL.so (SO.appendOw (o := oi) (len := (((partsR 32 [] (gt (linesR s) k)).tail.take j).map bseenR).length) (n := 1) (xs := ((((partsR 32 [] (gt (linesR s) k)).tail.take j).map bseenR).flatMap bsC)) (size := 5) [_] [_] _ rfl rfl Tryz.underlying79 Tryz.sizeOf143 Tryz.typeInfo143 Tryz.zeroValue143 rfl rfl rfl rfl ⟨rfl, .inr ⟨_, _, _, rfl, RdN.own (k := 0) (n := 5) rfl rfl⟩⟩ (oneB_spec rfl) hoi (flat_len bsC_len _) (by omega) (by show (2 * (_ + _) + 1000) * 40 ≤ 2 ^ 48; omega) (by omega)) rfl ?_
            rintro _ _ _ ⟨u1, hu1, rfl, rfl, rfl⟩
            refine zya rfl rfl ?_
            refine WL.nil (WP.blkNormal (WP.thenC (WC.ofFr [(7, _), (2, _), (3, _), (4, _), (5, _), (8, _), (9, _)] ⟨rfl, rfl, rfl, rfl, rfl, rfl, rfl, trivial⟩ (WC.region ?_))))
            refine zym rfl rfl ?_
            refine WL.yd (Yd.add rfl rfl (wr64 ⟨by (try dsimp only); omega, by (try dsimp only); omega⟩)) rfl ?_
            refine zya rfl rfl ?_
            refine WL.nil ?_
            exact WP.againT (j + 1, some u1) ⟨by dsimp only; omega, by dsimp only; rw [map_take_succ (show j < (partsR 32 [] (gt (linesR s) k)).tail.length by omega), List.length_append]; exact hu1⟩ (by dsimp only; omega) [_] _ rfl (by show _ = owH (some u1) _ ((((partsR 32 [] (gt (linesR s) k)).tail.take (j + 1)).map bseenR).flatMap bsC) _; rw [map_take_succ (show j < (partsR 32 [] (gt (linesR s) k)).tail.length by omega), List.flatMap_append, tail_gt, bseenR_c (p := (gt (partsR 32 [] (gt (linesR s) k)) (j + 1))) (len_ne (by omega)) (len_ne (by omega))]; rfl) ⟨rfl, rfl, rfl, rfl, by show _ = some (owV (some u1) (((partsR 32 [] (gt (linesR s) k)).tail.take (j + 1)).map bseenR).length); rw [map_take_succ (show j < (partsR 32 [] (gt (linesR s) k)).tail.length by omega), List.length_append]; rfl, rfl, rfl, trivial⟩
          · try simp only [zq1, zq2, zq3, zq4, zq5, zq6, zq7, zq8] at c83
            refine WC.skip (WP.thenC (WC.ofFr [(12, _), (2, _), (3, _), (4, _), (5, _), (7, _), (8, _), (9, _)] ⟨rfl, rfl, rfl, rfl, rfl, rfl, rfl, rfl, trivial⟩ (WC.region ?_)))
            refine zym rfl rfl ?_
            refine WL.yd (Yd.loadN Tryz.isAgg143 Tryz.sizeOf143 rfl (vs := [_, _, _, _, _]) rfl (by first | exact rn0 (n := 5) rfl rfl | exact rn1 (n := 5) rfl rfl | exact rn2 (n := 5) rfl rfl | exact rn3 (n := 5) rfl rfl | exact rn4 (n := 5) rfl rfl)) rfl ?_
            refine WL.so (SO.buildSlice Tryz.underlying79 Tryz.sizeOf143 Tryz.zeroValue143 rfl rfl rfl rfl (cs := [_, _, _, _, _]) rfl) rfl ?_
            rintro _ _ _ ⟨b93, hb93, rfl, rfl, rfl⟩
            refine WL.so (SO.appendOw (o := oi) (len := (((partsR 32 [] (gt (linesR s) k)).tail.take j).map bseenR).length) (n := 1) (xs := ((((partsR 32 [] (gt (linesR s) k)).tail.take j).map bseenR).flatMap bsC)) (size := 5) [_] [_] _ rfl rfl Tryz.underlying79 Tryz.sizeOf143 Tryz.typeInfo143 Tryz.zeroValue143 rfl rfl rfl rfl ⟨rfl, .inr ⟨_, _, _, rfl, RdN.own (k := 0) (n := 5) rfl rfl⟩⟩ (oneB_spec rfl) hoi (flat_len bsC_len _) (by omega) (by show (2 * (_ + _) + 1000) * 40 ≤ 2 ^ 48; omega) (by omega)) rfl ?_
            rintro _ _ _ ⟨u1, hu1, rfl, rfl, rfl⟩
            refine zya rfl rfl ?_
            refine WL.nil (WP.blkNormal (WP.thenC (WC.ofFr [(7, _), (2, _), (3, _), (4, _), (5, _), (8, _), (9, _)] ⟨rfl, rfl, rfl, rfl, rfl, rfl, rfl, trivial⟩ (WC.region ?_))))
            refine zym rfl rfl ?_
            refine WL.yd (Yd.add rfl rfl (wr64 ⟨by (try dsimp only); omega, by (try dsimp only); omega⟩)) rfl ?_
            refine zya rfl rfl ?_
            refine WL.nil ?_
            exact WP.againT (j + 1, some u1) ⟨by dsimp only; omega, by dsimp only; rw [map_take_succ (show j < (partsR 32 [] (gt (linesR s) k)).tail.length by omega), List.length_append]; exact hu1⟩ (by dsimp only; omega) [_] _ rfl (by show _ = owH (some u1) _ ((((partsR 32 [] (gt (linesR s) k)).tail.take (j + 1)).map bseenR).flatMap bsC) _; rw [map_take_succ (show j < (partsR 32 [] (gt (linesR s) k)).tail.length by omega), List.flatMap_append, tail_gt, bseenR_b (p := (gt (partsR 32 [] (gt (linesR s) k)) (j + 1))) (len_ne (by omega)) (len_nil (by omega))]; rfl) ⟨rfl, rfl, rfl, rfl, by show _ = some (owV (some u1) (((partsR 32 [] (gt (linesR s) k)).tail.take (j + 1)).map bseenR).length); rw [map_take_succ (show j < (partsR 32 [] (gt (linesR s) k)).tail.length by omega), List.length_append]; rfl, rfl, rfl, trivial⟩
        · try simp only [zq1, zq2, zq3, zq4, zq5, zq6, zq7, zq8] at c73
          refine WC.skip (WP.thenC (WC.seq (WC.seq (WC.ofFr [(12, _), (11, _), (2, _), (3, _), (4, _), (5, _), (7, _), (8, _), (9, _)] ⟨rfl, rfl, rfl, rfl, rfl, rfl, rfl, rfl, rfl, trivial⟩ (WC.region ?_)))))
          refine zym rfl rfl ?_
          refine WL.yd (Yd.lenStr rfl Tryz.underlying9 rfl) rfl ?_
          refine WL.yd (Yd.gtr rfl rfl) rfl ?_
          refine WL.know 83 (.bool false) rfl (congrArg Value.bool (decide_eq_false (by (try dsimp only); omega))) ?_
          refine WL.nil (WP.thenC ?_)
          refine WC.condF rfl ?_
          refine WC.skip (WP.thenC (WC.ofFr [(12, _), (2, _), (3, _), (4, _), (5, _), (7, _), (8, _), (9, _)] ⟨rfl, rfl, rfl, rfl, rfl, rfl, rfl, rfl, trivial⟩ (WC.region ?_)))
          refine zym rfl rfl ?_
          refine WL.yd (Yd.loadN Tryz.isAgg143 Tryz.sizeOf143 rfl (vs := [_, _, _, _, _]) rfl (by first | exact rn0 (n := 5) rfl rfl | exact rn1 (n := 5) rfl rfl | exact rn2 (n := 5) rfl rfl | exact rn3 (n := 5) rfl rfl | exact rn4 (n := 5) rfl rfl)) rfl ?_
          refine WL.so (SO.buildSlice Tryz.underlying79 Tryz.sizeOf143 Tryz.zeroValue143 rfl rfl rfl rfl (cs := [_, _, _, _, _]) rfl) rfl ?_
          rintro _ _ _ ⟨b93, hb93, rfl, rfl, rfl⟩
          refine WL.so (SO.appendOw (o := oi) (len := (((partsR 32 [] (gt (linesR s) k)).tail.take j).map bseenR).length) (n := 1) (xs := ((((partsR 32 [] (gt (linesR s) k)).tail.take j).map bseenR).flatMap bsC)) (size := 5) [_] [_] _ rfl rfl Tryz.underlying79 Tryz.sizeOf143 Tryz.typeInfo143 Tryz.zeroValue143 rfl rfl rfl rfl ⟨rfl, .inr ⟨_, _, _, rfl, RdN.own (k := 0) (n := 5) rfl rfl⟩⟩ (oneB_spec rfl) hoi (flat_len bsC_len _) (by omega) (by show (2 * (_ + _) + 1000) * 40 ≤ 2 ^ 48; omega) (by omega)) rfl ?_
          rintro _ _ _ ⟨u1, hu1, rfl, rfl, rfl⟩
          refine zya rfl rfl ?_
          refine WL.nil (WP.blkNormal (WP.thenC (WC.ofFr [(7, _), (2, _), (3, _), (4, _), (5, _), (8, _), (9, _)] ⟨rfl, rfl, rfl, rfl, rfl, rfl, rfl, trivial⟩ (WC.region ?_))))
          refine zym rfl rfl ?_
          refine WL.yd (Yd.add rfl rfl (wr64 ⟨by (try dsimp only); omega, by (try dsimp only); omega⟩)) rfl ?_
          refine zya rfl rfl ?_
          refine WL.nil ?_
          exact WP.againT (j + 1, some u1) ⟨by dsimp only; omega, by dsimp only; rw [map_take_succ (show j < (partsR 32 [] (gt (linesR s) k)).tail.length by omega), List.length_append]; exact hu1⟩ (by dsimp only; omega) [_] _ rfl (by show _ = owH (some u1) _ ((((partsR 32 [] (gt (linesR s) k)).tail.take (j + 1)).map bseenR).flatMap bsC) _; rw [map_take_succ (show j < (partsR 32 [] (gt (linesR s) k)).tail.length by omega), List.flatMap_append, tail_gt, bseenR_a (p := (gt (partsR 32 [] (gt (linesR s) k)) (j + 1))) (len_nil (by omega))]; rfl) ⟨rfl, rfl, rfl, rfl, by show _ = some (owV (some u1) (((partsR 32 [] (gt (linesR s) k)).tail.take (j + 1)).map bseenR).length); rw [map_take_succ (show j < (partsR 32 [] (gt (linesR s) k)).tail.length by omega), List.length_append]; rfl, rfl, rfl, trivial⟩
      · try simp only [zq1, zq2, zq3, zq4, zq5, zq6, zq7, zq8] at c58
        obtain rfl : j = (partsR 32 [] (gt (linesR s) k)).tail.length := by omega
        refine WC.exit ?_
        refine WP.thenExit ?_
        refine WP.thenExit ?_
        refine WP.blkHit ?_
        refine WP.thenC (WC.ofFr [(2, _), (3, _), (4, _), (5, _), (7, _)] ⟨rfl, rfl, rfl, rfl, rfl, trivial⟩ (WC.region ?_))
        refine WL.freezeOw (f := bsC) (m := 5) bsC_len [] _ oi 143 (((partsR 32 [] (gt (linesR s) k)).tail.take (partsR 32 [] (gt (linesR s) k)).tail.length).map bseenR) rfl hoi rfl (fun D4 hX7 hS7 => ?_)
        rw [owV_owL (owL_of hoi)]
        refine WL.yd (Yd.fieldAddr FA32_4 rfl) rfl ?_
        refine WL.yd (Yd.load1 Tryz.isAgg30 rfl (by first | exact ro0 rfl rfl | exact ro1 rfl rfl | exact ro2 rfl rfl | exact (hS6.at (j + 1) (by omega)).rd 0 rfl)) rfl ?_
        refine zym rfl rfl ?_
        refine WL.so (SO.buildSlice1 Tryz.underlying30 Tryz.sizeOf79 Tryz.zeroValue79 rfl rfl rfl (vs := [_]) rfl rfl rfl) rfl ?_
        rintro _ _ _ ⟨b98, hb98, rfl, rfl, rfl⟩
        refine WL.so (SO.appendOw (o := o) (len := x.seen.length) (n := 1) (xs := (M.flatMap slC)) (size := 1) [_] [_] [_] rfl rfl Tryz.underlying30 Tryz.sizeOf79 Tryz.typeInfo79 Tryz.zeroValue79 rfl rfl rfl rfl ⟨rfl, .inr ⟨_, _, _, rfl, RdN.own (k := 0) (n := 1) rfl rfl⟩⟩ (oneB_spec rfl) ho (by rw [flat_len slC_len, hM]) (by omega) (by show (2 * (_ + _) + 1000) * 24 ≤ 2 ^ 48; omega) (by omega)) rfl ?_
        rintro _ _ _ ⟨u2, hu2, rfl, rfl, rfl⟩
        refine WL.yd (Yd.fieldAddr FA32_4 rfl) rfl ?_
        refine WL.so (SO.store 0 rfl Tryz.sizeOf30 rfl rfl rfl rfl (zqb rfl) (oneB_spec rfl)) rfl ?_
        rintro _ _ _ ⟨rfl, rfl, rfl⟩
        refine WL.nil (WP.blkNormal (WP.thenC (WC.ofFr [(2, _), (3, _), (4, _), (5, _)] ⟨rfl, rfl, rfl, rfl, trivial⟩ (WC.region ?_))))
        refine zym rfl rfl ?_
        refine WL.yd (Yd.add rfl rfl (wr64 ⟨by (try dsimp only); omega, by (try dsimp only); omega⟩)) rfl ?_
        refine zya rfl rfl ?_
        refine WL.nil ?_
        obtain ⟨i, hi0⟩ : ∃ i, k = i + 1 := ⟨k - 1, by omega⟩
        exact WP.againI (k + 1, { x with seen := x.seen ++ [(partsR 32 [] (gt (linesR s) k)).tail.map bseenR] }, M ++ [(⟨owAt oi, (((partsR 32 [] (gt (linesR s) k)).tail.take (partsR 32 [] (gt (linesR s) k)).tail.length).map bseenR).length, owCp oi (((partsR 32 [] (gt (linesR s) k)).tail.take (partsR 32 [] (gt (linesR s) k)).tail.length).map bseenR).length⟩ : Sl)], some u2, D4) ⟨hkl, by dsimp only; rw [foldI_step hkl hx, hi0]; rfl, by simp [hM], row_snoc hM (fun i hi => ⟨(hr i hi).1.ext (hX6.trans hX7 (Nat.le_refl _)), (hr i hi).2⟩) (by have h9 := hS7; simp only [List.take_length] at h9 ⊢; exact h9) (by show List.length _ ≤ _; rw [List.take_length, List.length_map]; omega), by simpa using hu2, by simp; omega, hXD.trans (hX6.trans hX7 (Nat.le_refl _)) (Nat.le_refl _)⟩ (by dsimp only; omega) ⟨rfl, rfl, rfl, rfl, trivial⟩ (by show _ = (b3, Obj.cells (List.toArray [it x.wide, it x.deep, it x.speed, it x.last, owV (some u2) (x.seen ++ [_]).length]) _ _) :: owH (some u2) _ ((M ++ [(⟨owAt oi, (((partsR 32 [] (gt (linesR s) k)).tail.take (partsR 32 [] (gt (linesR s) k)).tail.length).map bseenR).length, owCp oi (((partsR 32 [] (gt (linesR s) k)).tail.take (partsR 32 [] (gt (linesR s) k)).tail.length).map bseenR).length⟩ : Sl)]).flatMap slC) _; rw [List.flatMap_append, List.length_append]; rfl) rfl
  · try simp only [zq1, zq2, zq3, zq4, zq5, zq6, zq7, zq8] at c18
    obtain rfl : k = (linesR s).length := by omega
    refine WC.exit ?_
    refine WP.thenExit ?_
    refine WP.thenExit ?_
    refine WP.blkHit ?_
    refine WP.thenC (WC.seq (WC.ofFr [(2, _), (3, _)] ⟨rfl, rfl, trivial⟩ (WC.region ?_)))
    rw [List.take_length] at hx
    refine WL.freezeOw (f := slC) (m := 1) slC_len [_] [_] o 79 M rfl (hM.symm ▸ ho) rfl (fun D5 hX8 hS8 => ?_)
    rw [boatsTV_eq ho]
    rw [hM] at hS8
    have hR : BoatsR D5 x ⟨⟨owAt o, x.seen.length, owCp o x.seen.length⟩, M⟩ := ⟨hS8, hM, fun i hi => (hr i hi).1.ext hX8, by show x.seen.length ≤ _; omega, fun i hi => Nat.le_trans (hr i hi).2 (zqb rfl)⟩
    refine WL.yd (Yd.loadN Tryz.isAgg32 Tryz.sizeOf32 rfl (vs := [_, _, _, _, _]) rfl (by first | exact rn0 (n := 5) rfl rfl | exact rn1 (n := 5) rfl rfl)) rfl ?_
    refine WL.so (SO.store 1 rfl Tryz.sizeOf32 rfl rfl rfl rfl (zqb rfl) (oneB_spec rfl)) rfl ?_
    rintro _ _ _ ⟨rfl, rfl, rfl⟩
    refine WL.nil (WP.thenC (WC.ret ?_))
    refine WP.ret1 rfl rfl Tryz.results80 (RV.cellN Tryz.isAgg32 Tryz.sizeOf32 rfl (vs := [_, _, _, _, _]) rfl (by first | exact rn0 (n := 5) rfl rfl | exact rn1 (n := 5) rfl rfl)) (fun w1 hI => ⟨_, D5, rfl, hI.keep, hI.imm, (hX1.trans hXD (Nat.le_refl _)).trans hX8 (Nat.le_refl _), ⟨⟨owAt o, x.seen.length, owCp o x.seen.length⟩, M⟩, by rw [show boatsR s = x from hx] <;> rfl, by rw [show boatsR s = x from hx]; exact hR⟩)

end Go.Proofs.YtaebnllfmkcpgaaGreatDoor
namespace Go.Proofs.YtaebnllfmkcpgaaGreatDoor
open Go.W Go.Bk
theorem SA25 : StructAt Tryz.prog 25 [.int .i64 0, .int .i64 0, .slice none 0 0, .slice none 0 0, .slice none 0 0] [(0, 1), (1, 1), (2, 1), (3, 1), (4, 1)] := ⟨⟨_, Tryz.zeroValue25, rfl⟩, _, Tryz.underlying25, fun w => by simp [Tryz.sizeOf3, Tryz.sizeOf22, Tryz.sizeOf23]⟩
theorem SA29 : StructAt Tryz.prog 29 [.int .i64 0, .int .i64 0, .int .i64 0, .slice none 0 0, .slice none 0 0] [(0, 1), (1, 1), (2, 1), (3, 1), (4, 1)] := ⟨⟨_, Tryz.zeroValue29, rfl⟩, _, Tryz.underlying29, fun w => by simp [Tryz.sizeOf3, Tryz.sizeOf26, Tryz.sizeOf27]⟩
theorem SA32 : StructAt Tryz.prog 32 [.int .i64 0, .int .i64 0, .int .i64 0, .int .i64 0, .slice none 0 0] [(0, 1), (1, 1), (2, 1), (3, 1), (4, 1)] := ⟨⟨_, Tryz.zeroValue32, rfl⟩, _, Tryz.underlying32, fun w => by simp [Tryz.sizeOf3, Tryz.sizeOf30]⟩
theorem readR_long {X : Type} {z : X} {f : Bs → X} {is : X → Bool} {put : X → Bs} {s : Bs} (h : 1200 < s.length) : readR z f is put s = (z, 3) := if_pos h
theorem readR_no {X : Type} {z : X} {f : Bs → X} {is : X → Bool} {put : X → Bs} {s : Bs} (h : s.length ≤ 1200) (h2 : is (f s) = true → put (f s) ≠ s) : readR z f is put s = (z, 8) := by
  unfold readR; rw [if_neg (by omega), if_neg (fun h => h2 h.1 h.2)]
theorem readR_yes {X : Type} {z : X} {f : Bs → X} {is : X → Bool} {put : X → Bs} {s : Bs} (h : s.length ≤ 1200) (h2 : is (f s) = true) (h3 : put (f s) = s) : readR z f is put s = (f s, 0) := by
  unfold readR; rw [if_neg (by omega), if_pos ⟨h2, h3⟩]

theorem rReadSurf_g (s : Bs) (hs : s.length ≤ 2 ^ 20) (D : Imm) (hL : LibD D) (w : World) (hH : Holds D w) : Makes Tryz.prog 35 [st s] w D (fun v D' => ∃ x m c, readR surfZ surfR surfB putSurf s = (x, c) ∧ v = .tuple #[surfV x m, it c] ∧ SurfR D' x m) := by
  unfold Makes
  refine enter Tryz.func35 rfl 22 Tryz.ntmps35 (zqb rfl) (Inv.start hH) ?_
  refine WC.seq (WC.ofFr [(0, _)] ⟨rfl, trivial⟩ (WC.region ?_))
  refine WL.so (SO.alloc Tryz.zeroValue25 rfl) rfl ?_
  rintro _ _ _ ⟨b2, hb2, rfl, rfl, rfl⟩
  refine zya rfl rfl ?_
  refine WL.nil (WP.thenC (WC.seq (WC.seq (WC.ofFr [(3, _), (2, _), (0, _)] ⟨rfl, rfl, rfl, trivial⟩ (WC.region ?_)))))
  refine zym rfl rfl ?_
  refine WL.yd (Yd.lenStr rfl Tryz.underlying9 rfl) rfl ?_
  refine WL.yd (Yd.gtr rfl rfl) rfl ?_
  refine WL.nil (WP.thenC ?_)
  refine WC.cond rfl (fun c7 => ?_) (fun c7 => ?_)
  · try simp only [zq1, zq2, zq3, zq4, zq5, zq6, zq7, zq8] at c7
    refine WC.seq (WC.ofFr [(3, _), (2, _), (0, _)] ⟨rfl, rfl, rfl, trivial⟩ (WC.region ?_))
    refine WL.yd (Yd.build SA25 rfl (cs := [_, _, _, _, _]) rfl) rfl ?_
    refine WL.so (SO.store 0 rfl Tryz.sizeOf25 rfl rfl rfl rfl (zqb rfl) (oneB_spec rfl)) rfl ?_
    rintro _ _ _ ⟨rfl, rfl, rfl⟩
    refine zya rfl rfl ?_
    refine WL.nil (WP.thenC (WC.ret (WP.thenRet ?_)))
    refine WP.ret2 rfl rfl Tryz.results35 (RV.cellN Tryz.isAgg25 Tryz.sizeOf25 rfl (vs := [_, _, _, _, _]) rfl (by first | exact rn0 (n := 5) rfl rfl)) (RV.tmp rfl) (fun w hI => ⟨_, D, rfl, hI.keep, hI.imm, DExt.refl _ _, surfZ, ⟨⟨none, 0, 0⟩, ⟨none, 0, 0⟩, ⟨none, 0, 0⟩⟩, 3, readR_long (by omega), rfl, ⟨SlL.nil _ _, SlL.nil _ _, SlL.nil _ _, Nat.zero_le _, Nat.zero_le _, Nat.zero_le _⟩⟩)
  · try simp only [zq1, zq2, zq3, zq4, zq5, zq6, zq7, zq8] at c7
    have hlen : s.length ≤ 1200 := by omega
    refine WC.skip (WP.thenC (WC.seq (WC.ofFr [(3, _), (2, _), (0, _)] ⟨rfl, rfl, rfl, trivial⟩ (WC.region ?_))))
    refine zym rfl rfl ?_
    refine WL.so (SO.makes (Enters.func Tryz.call76 rfl) (fun w hI => rsurf_g s (by omega) D w hI.imm)) rfl ?_
    rintro _ D2 _ ⟨hX2, ⟨m, rfl, hR⟩, rfl⟩
    refine WL.so (SO.alloc Tryz.zeroValue25 rfl) rfl ?_
    rintro _ _ _ ⟨b4, hb4, rfl, rfl, rfl⟩
    refine WL.so (SO.store 0 rfl Tryz.sizeOf25 rfl rfl rfl rfl (zqb rfl) (oneB_spec rfl)) rfl ?_
    rintro _ _ _ ⟨rfl, rfl, rfl⟩
    refine WL.nil (WP.thenC (WC.seq (WC.seq (WC.ofFr [(4, _), (3, _), (2, _), (0, _)] ⟨rfl, rfl, rfl, rfl, trivial⟩ (WC.region ?_)))))
    refine WL.yd (Yd.loadN Tryz.isAgg25 Tryz.sizeOf25 rfl (vs := [_, _, _, _, _]) rfl (RdN.own (k := 0) (n := 5) rfl rfl)) rfl ?_
    refine WL.so (SO.callP Tryz.call40 rfl (fun w hI => rvSurf_g (surfR s) m D2 hR _ hI.imm)) rfl ?_
    rintro _ _ _ ⟨rfl, rfl, rfl⟩
    refine WL.yd (Yd.not rfl) rfl ?_
    refine zym rfl rfl ?_
    refine WL.part 14 rfl (fun g14 => ?_) (fun g14 => ?_)
    · try simp only [zq1, zq2, zq3, zq4, zq5, zq6, zq7, zq8] at g14
      refine WL.skip rfl rfl ?_
      refine WL.skip rfl rfl ?_
      refine WL.skip rfl rfl ?_
      refine WL.skip rfl rfl ?_
      refine WL.yd (Yd.pickT rfl rfl) rfl ?_
      refine WL.nil (WP.thenC ?_)
      refine WC.condT rfl ?_
      refine WC.seq (WC.ofFr [(4, _), (3, _), (2, _)] ⟨rfl, rfl, rfl, trivial⟩ (WC.region ?_))
      refine WL.yd (Yd.build SA25 rfl (cs := [_, _, _, _, _]) rfl) rfl ?_
      refine WL.so (SO.store 1 rfl Tryz.sizeOf25 rfl rfl rfl rfl (zqb rfl) (oneB_spec rfl)) rfl ?_
      rintro _ _ _ ⟨rfl, rfl, rfl⟩
      refine zya rfl rfl ?_
      refine WL.nil (WP.thenC (WC.ret (WP.thenRet ?_)))
      refine WP.ret2 rfl rfl Tryz.results35 (RV.cellN Tryz.isAgg25 Tryz.sizeOf25 rfl (vs := [_, _, _, _, _]) rfl (by first | exact rn0 (n := 5) rfl rfl | exact rn1 (n := 5) rfl rfl)) (RV.tmp rfl) (fun w hI => ⟨_, D2, rfl, hI.keep, hI.imm, hX2, surfZ, ⟨⟨none, 0, 0⟩, ⟨none, 0, 0⟩, ⟨none, 0, 0⟩⟩, 8, readR_no hlen (fun e => by rw [g14] at e; cases e), rfl, ⟨SlL.nil _ _, SlL.nil _ _, SlL.nil _ _, Nat.zero_le _, Nat.zero_le _, Nat.zero_le _⟩⟩)
    · try simp only [zq1, zq2, zq3, zq4, zq5, zq6, zq7, zq8] at g14
      refine WL.ydg rfl (Yd.loadN Tryz.isAgg25 Tryz.sizeOf25 rfl (vs := [_, _, _, _, _]) rfl (RdN.own (k := 0) (n := 5) rfl rfl)) rfl ?_
      refine WL.sog rfl (SO.callP Tryz.call54 rfl (fun w hI => rSurf_g (surfR s) m (SurfN.of (surfB_iff.1 (by simpa using g14))) D2 (hL.ext hX2) hR _ hI.imm)) rfl ?_
      rintro _ _ _ ⟨rfl, rfl, rfl⟩
      refine WL.ydg rfl (Yd.move rfl) rfl ?_
      refine WL.ydg rfl (Yd.neS' rfl rfl) rfl ?_
      refine WL.yd (Yd.pickF rfl rfl) rfl ?_
      refine WL.nil (WP.thenC ?_)
      refine WC.cond rfl (fun c19 => ?_) (fun c19 => ?_)
      · try simp only [zq1, zq2, zq3, zq4, zq5, zq6, zq7, zq8] at c19
        refine WC.seq (WC.ofFr [(4, _), (3, _), (2, _)] ⟨rfl, rfl, rfl, trivial⟩ (WC.region ?_))
        refine WL.yd (Yd.build SA25 rfl (cs := [_, _, _, _, _]) rfl) rfl ?_
        refine WL.so (SO.store 1 rfl Tryz.sizeOf25 rfl rfl rfl rfl (zqb rfl) (oneB_spec rfl)) rfl ?_
        rintro _ _ _ ⟨rfl, rfl, rfl⟩
        refine zya rfl rfl ?_
        refine WL.nil (WP.thenC (WC.ret (WP.thenRet ?_)))
        refine WP.ret2 rfl rfl Tryz.results35 (RV.cellN Tryz.isAgg25 Tryz.sizeOf25 rfl (vs := [_, _, _, _, _]) rfl (by first | exact rn0 (n := 5) rfl rfl | exact rn1 (n := 5) rfl rfl)) (RV.tmp rfl) (fun w hI => ⟨_, D2, rfl, hI.keep, hI.imm, hX2, surfZ, ⟨⟨none, 0, 0⟩, ⟨none, 0, 0⟩, ⟨none, 0, 0⟩⟩, 8, readR_no hlen (fun _ => by simpa using c19), rfl, ⟨SlL.nil _ _, SlL.nil _ _, SlL.nil _ _, Nat.zero_le _, Nat.zero_le _, Nat.zero_le _⟩⟩)
      · try simp only [zq1, zq2, zq3, zq4, zq5, zq6, zq7, zq8] at c19
        refine WC.skip (WP.thenC (WC.seq (WC.ofFr [(4, _), (3, _), (2, _)] ⟨rfl, rfl, rfl, trivial⟩ (WC.region ?_))))
        refine WL.yd (Yd.loadN Tryz.isAgg25 Tryz.sizeOf25 rfl (vs := [_, _, _, _, _]) rfl (RdN.own (k := 0) (n := 5) rfl rfl)) rfl ?_
        refine WL.so (SO.store 1 rfl Tryz.sizeOf25 rfl rfl rfl rfl (zqb rfl) (oneB_spec rfl)) rfl ?_
        rintro _ _ _ ⟨rfl, rfl, rfl⟩
        refine zya rfl rfl ?_
        refine WL.nil (WP.thenC (WC.ret ?_))
        refine WP.ret2 rfl rfl Tryz.results35 (RV.cellN Tryz.isAgg25 Tryz.sizeOf25 rfl (vs := [_, _, _, _, _]) rfl (by first | exact rn0 (n := 5) rfl rfl | exact rn1 (n := 5) rfl rfl)) (RV.tmp rfl) (fun w hI => ⟨_, D2, rfl, hI.keep, hI.imm, hX2, surfR s, m, 0, readR_yes hlen (by simpa using g14) (by simpa using c19), rfl, hR⟩)

theorem rReadFlag_g (s : Bs) (hs : s.length ≤ 2 ^ 20) (D : Imm) (hL : LibD D) (w : World) (hH : Holds D w) : Makes Tryz.prog 37 [st s] w D (fun v D' => ∃ x m c, readR flagZ flagR flagB putFlag s = (x, c) ∧ v = .tuple #[flagV x m, it c] ∧ FlagR D' x m) := by
  unfold Makes
  refine enter Tryz.func37 rfl 22 Tryz.ntmps37 (zqb rfl) (Inv.start hH) ?_
  refine WC.seq (WC.ofFr [(0, _)] ⟨rfl, trivial⟩ (WC.region ?_))
  refine WL.so (SO.alloc Tryz.zeroValue29 rfl) rfl ?_
  rintro _ _ _ ⟨b2, hb2, rfl, rfl, rfl⟩
  refine zya rfl rfl ?_
  refine WL.nil (WP.thenC (WC.seq (WC.seq (WC.ofFr [(3, _), (2, _), (0, _)] ⟨rfl, rfl, rfl, trivial⟩ (WC.region ?_)))))
  refine zym rfl rfl ?_
  refine WL.yd (Yd.lenStr rfl Tryz.underlying9 rfl) rfl ?_
  refine WL.yd (Yd.gtr rfl rfl) rfl ?_
  refine WL.nil (WP.thenC ?_)
  refine WC.cond rfl (fun c7 => ?_) (fun c7 => ?_)
  · try simp only [zq1, zq2, zq3, zq4, zq5, zq6, zq7, zq8] at c7
    refine WC.seq (WC.ofFr [(3, _), (2, _), (0, _)] ⟨rfl, rfl, rfl, trivial⟩ (WC.region ?_))
    refine WL.yd (Yd.build SA29 rfl (cs := [_, _, _, _, _]) rfl) rfl ?_
    refine WL.so (SO.store 0 rfl Tryz.sizeOf29 rfl rfl rfl rfl (zqb rfl) (oneB_spec rfl)) rfl ?_
    rintro _ _ _ ⟨rfl, rfl, rfl⟩
    refine zya rfl rfl ?_
    refine WL.nil (WP.thenC (WC.ret (WP.thenRet ?_)))
    refine WP.ret2 rfl rfl Tryz.results37 (RV.cellN Tryz.isAgg29 Tryz.sizeOf29 rfl (vs := [_, _, _, _, _]) rfl (by first | exact rn0 (n := 5) rfl rfl)) (RV.tmp rfl) (fun w hI => ⟨_, D, rfl, hI.keep, hI.imm, DExt.refl _ _, flagZ, ⟨⟨none, 0, 0⟩, ⟨none, 0, 0⟩⟩, 3, readR_long (by omega), rfl, ⟨SlL.nil _ _, SlL.nil _ _, Nat.zero_le _, Nat.zero_le _⟩⟩)
  · try simp only [zq1, zq2, zq3, zq4, zq5, zq6, zq7, zq8] at c7
    have hlen : s.length ≤ 1200 := by omega
    refine WC.skip (WP.thenC (WC.seq (WC.ofFr [(3, _), (2, _), (0, _)] ⟨rfl, rfl, rfl, trivial⟩ (WC.region ?_))))
    refine zym rfl rfl ?_
    refine WL.so (SO.makes (Enters.func Tryz.call78 rfl) (fun w hI => rflag_g s (by omega) D w hI.imm)) rfl ?_
    rintro _ D2 _ ⟨hX2, ⟨m, rfl, hR⟩, rfl⟩
    refine WL.so (SO.alloc Tryz.zeroValue29 rfl) rfl ?_
    rintro _ _ _ ⟨b4, hb4, rfl, rfl, rfl⟩
    refine WL.so (SO.store 0 rfl Tryz.sizeOf29 rfl rfl rfl rfl (zqb rfl) (oneB_spec rfl)) rfl ?_
    rintro _ _ _ ⟨rfl, rfl, rfl⟩
    refine WL.nil (WP.thenC (WC.seq (WC.seq (WC.ofFr [(4, _), (3, _), (2, _), (0, _)] ⟨rfl, rfl, rfl, rfl, trivial⟩ (WC.region ?_)))))
    refine WL.yd (Yd.loadN Tryz.isAgg29 Tryz.sizeOf29 rfl (vs := [_, _, _, _, _]) rfl (RdN.own (k := 0) (n := 5) rfl rfl)) rfl ?_
    refine WL.so (SO.callP Tryz.call41 rfl (fun w hI => rvFlag_g (flagR s) m D2 hR _ hI.imm)) rfl ?_
    rintro _ _ _ ⟨rfl, rfl, rfl⟩
    refine WL.yd (Yd.not rfl) rfl ?_
    refine zym rfl rfl ?_
    refine WL.part 14 rfl (fun g14 => ?_) (fun g14 => ?_)
    · try simp only [zq1, zq2, zq3, zq4, zq5, zq6, zq7, zq8] at g14
      refine WL.skip rfl rfl ?_
      refine WL.skip rfl rfl ?_
      refine WL.skip rfl rfl ?_
      refine WL.skip rfl rfl ?_
      refine WL.yd (Yd.pickT rfl rfl) rfl ?_
      refine WL.nil (WP.thenC ?_)
      refine WC.condT rfl ?_
      refine WC.seq (WC.ofFr [(4, _), (3, _), (2, _)] ⟨rfl, rfl, rfl, trivial⟩ (WC.region ?_))
      refine WL.yd (Yd.build SA29 rfl (cs := [_, _, _, _, _]) rfl) rfl ?_
      refine WL.so (SO.store 1 rfl Tryz.sizeOf29 rfl rfl rfl rfl (zqb rfl) (oneB_spec rfl)) rfl ?_
      rintro _ _ _ ⟨rfl, rfl, rfl⟩
      refine zya rfl rfl ?_
      refine WL.nil (WP.thenC (WC.ret (WP.thenRet ?_)))
      refine WP.ret2 rfl rfl Tryz.results37 (RV.cellN Tryz.isAgg29 Tryz.sizeOf29 rfl (vs := [_, _, _, _, _]) rfl (by first | exact rn0 (n := 5) rfl rfl | exact rn1 (n := 5) rfl rfl)) (RV.tmp rfl) (fun w hI => ⟨_, D2, rfl, hI.keep, hI.imm, hX2, flagZ, ⟨⟨none, 0, 0⟩, ⟨none, 0, 0⟩⟩, 8, readR_no hlen (fun e => by rw [g14] at e; cases e), rfl, ⟨SlL.nil _ _, SlL.nil _ _, Nat.zero_le _, Nat.zero_le _⟩⟩)
    · try simp only [zq1, zq2, zq3, zq4, zq5, zq6, zq7, zq8] at g14
      refine WL.ydg rfl (Yd.loadN Tryz.isAgg29 Tryz.sizeOf29 rfl (vs := [_, _, _, _, _]) rfl (RdN.own (k := 0) (n := 5) rfl rfl)) rfl ?_
      refine WL.sog rfl (SO.callP Tryz.call57 rfl (fun w hI => rFlag_g (flagR s) m (FlagN.of (flagB_iff.1 (by simpa using g14))) D2 (hL.ext hX2) hR _ hI.imm)) rfl ?_
      rintro _ _ _ ⟨rfl, rfl, rfl⟩
      refine WL.ydg rfl (Yd.move rfl) rfl ?_
      refine WL.ydg rfl (Yd.neS' rfl rfl) rfl ?_
      refine WL.yd (Yd.pickF rfl rfl) rfl ?_
      refine WL.nil (WP.thenC ?_)
      refine WC.cond rfl (fun c19 => ?_) (fun c19 => ?_)
      · try simp only [zq1, zq2, zq3, zq4, zq5, zq6, zq7, zq8] at c19
        refine WC.seq (WC.ofFr [(4, _), (3, _), (2, _)] ⟨rfl, rfl, rfl, trivial⟩ (WC.region ?_))
        refine WL.yd (Yd.build SA29 rfl (cs := [_, _, _, _, _]) rfl) rfl ?_
        refine WL.so (SO.store 1 rfl Tryz.sizeOf29 rfl rfl rfl rfl (zqb rfl) (oneB_spec rfl)) rfl ?_
        rintro _ _ _ ⟨rfl, rfl, rfl⟩
        refine zya rfl rfl ?_
        refine WL.nil (WP.thenC (WC.ret (WP.thenRet ?_)))
        refine WP.ret2 rfl rfl Tryz.results37 (RV.cellN Tryz.isAgg29 Tryz.sizeOf29 rfl (vs := [_, _, _, _, _]) rfl (by first | exact rn0 (n := 5) rfl rfl | exact rn1 (n := 5) rfl rfl)) (RV.tmp rfl) (fun w hI => ⟨_, D2, rfl, hI.keep, hI.imm, hX2, flagZ, ⟨⟨none, 0, 0⟩, ⟨none, 0, 0⟩⟩, 8, readR_no hlen (fun _ => by simpa using c19), rfl, ⟨SlL.nil _ _, SlL.nil _ _, Nat.zero_le _, Nat.zero_le _⟩⟩)
      · try simp only [zq1, zq2, zq3, zq4, zq5, zq6, zq7, zq8] at c19
        refine WC.skip (WP.thenC (WC.seq (WC.ofFr [(4, _), (3, _), (2, _)] ⟨rfl, rfl, rfl, trivial⟩ (WC.region ?_))))
        refine WL.yd (Yd.loadN Tryz.isAgg29 Tryz.sizeOf29 rfl (vs := [_, _, _, _, _]) rfl (RdN.own (k := 0) (n := 5) rfl rfl)) rfl ?_
        refine WL.so (SO.store 1 rfl Tryz.sizeOf29 rfl rfl rfl rfl (zqb rfl) (oneB_spec rfl)) rfl ?_
        rintro _ _ _ ⟨rfl, rfl, rfl⟩
        refine zya rfl rfl ?_
        refine WL.nil (WP.thenC (WC.ret ?_))
        refine WP.ret2 rfl rfl Tryz.results37 (RV.cellN Tryz.isAgg29 Tryz.sizeOf29 rfl (vs := [_, _, _, _, _]) rfl (by first | exact rn0 (n := 5) rfl rfl | exact rn1 (n := 5) rfl rfl)) (RV.tmp rfl) (fun w hI => ⟨_, D2, rfl, hI.keep, hI.imm, hX2, flagR s, m, 0, readR_yes hlen (by simpa using g14) (by simpa using c19), rfl, hR⟩)

theorem rReadBoats_g (s : Bs) (hs : s.length ≤ 2 ^ 20) (D : Imm) (hL : LibD D) (w : World) (hH : Holds D w) : Makes Tryz.prog 39 [st s] w D (fun v D' => ∃ x m c, readR boatsZ boatsR boatsB putBoats s = (x, c) ∧ v = .tuple #[boatsV x m, it c] ∧ BoatsR D' x m) := by
  unfold Makes
  refine enter Tryz.func39 rfl 22 Tryz.ntmps39 (zqb rfl) (Inv.start hH) ?_
  refine WC.seq (WC.ofFr [(0, _)] ⟨rfl, trivial⟩ (WC.region ?_))
  refine WL.so (SO.alloc Tryz.zeroValue32 rfl) rfl ?_
  rintro _ _ _ ⟨b2, hb2, rfl, rfl, rfl⟩
  refine zya rfl rfl ?_
  refine WL.nil (WP.thenC (WC.seq (WC.seq (WC.ofFr [(3, _), (2, _), (0, _)] ⟨rfl, rfl, rfl, trivial⟩ (WC.region ?_)))))
  refine zym rfl rfl ?_
  refine WL.yd (Yd.lenStr rfl Tryz.underlying9 rfl) rfl ?_
  refine WL.yd (Yd.gtr rfl rfl) rfl ?_
  refine WL.nil (WP.thenC ?_)
  refine WC.cond rfl (fun c7 => ?_) (fun c7 => ?_)
  · try simp only [zq1, zq2, zq3, zq4, zq5, zq6, zq7, zq8] at c7
    refine WC.seq (WC.ofFr [(3, _), (2, _), (0, _)] ⟨rfl, rfl, rfl, trivial⟩ (WC.region ?_))
    refine WL.yd (Yd.build SA32 rfl (cs := [_, _, _, _, _]) rfl) rfl ?_
    refine WL.so (SO.store 0 rfl Tryz.sizeOf32 rfl rfl rfl rfl (zqb rfl) (oneB_spec rfl)) rfl ?_
    rintro _ _ _ ⟨rfl, rfl, rfl⟩
    refine zya rfl rfl ?_
    refine WL.nil (WP.thenC (WC.ret (WP.thenRet ?_)))
    refine WP.ret2 rfl rfl Tryz.results39 (RV.cellN Tryz.isAgg32 Tryz.sizeOf32 rfl (vs := [_, _, _, _, _]) rfl (by first | exact rn0 (n := 5) rfl rfl)) (RV.tmp rfl) (fun w hI => ⟨_, D, rfl, hI.keep, hI.imm, DExt.refl _ _, boatsZ, ⟨⟨none, 0, 0⟩, []⟩, 3, readR_long (by omega), rfl, ⟨SlL.nil _ _, rfl, fun i hi => absurd hi (Nat.not_lt_zero i), Nat.zero_le _, fun i hi => absurd hi (Nat.not_lt_zero i)⟩⟩)
  · try simp only [zq1, zq2, zq3, zq4, zq5, zq6, zq7, zq8] at c7
    have hlen : s.length ≤ 1200 := by omega
    refine WC.skip (WP.thenC (WC.seq (WC.ofFr [(3, _), (2, _), (0, _)] ⟨rfl, rfl, rfl, trivial⟩ (WC.region ?_))))
    refine zym rfl rfl ?_
    refine WL.so (SO.makes (Enters.func Tryz.call80 rfl) (fun w hI => rboats_g s (by omega) D w hI.imm)) rfl ?_
    rintro _ D2 _ ⟨hX2, ⟨m, rfl, hR⟩, rfl⟩
    refine WL.so (SO.alloc Tryz.zeroValue32 rfl) rfl ?_
    rintro _ _ _ ⟨b4, hb4, rfl, rfl, rfl⟩
    refine WL.so (SO.store 0 rfl Tryz.sizeOf32 rfl rfl rfl rfl (zqb rfl) (oneB_spec rfl)) rfl ?_
    rintro _ _ _ ⟨rfl, rfl, rfl⟩
    refine WL.nil (WP.thenC (WC.seq (WC.seq (WC.ofFr [(4, _), (3, _), (2, _), (0, _)] ⟨rfl, rfl, rfl, rfl, trivial⟩ (WC.region ?_)))))
    refine WL.yd (Yd.loadN Tryz.isAgg32 Tryz.sizeOf32 rfl (vs := [_, _, _, _, _]) rfl (RdN.own (k := 0) (n := 5) rfl rfl)) rfl ?_
    refine WL.so (SO.callP Tryz.call42 rfl (fun w hI => rvBoats_g (boatsR s) m D2 hR _ hI.imm)) rfl ?_
    rintro _ _ _ ⟨rfl, rfl, rfl⟩
    refine WL.yd (Yd.not rfl) rfl ?_
    refine zym rfl rfl ?_
    refine WL.part 14 rfl (fun g14 => ?_) (fun g14 => ?_)
    · try simp only [zq1, zq2, zq3, zq4, zq5, zq6, zq7, zq8] at g14
      refine WL.skip rfl rfl ?_
      refine WL.skip rfl rfl ?_
      refine WL.skip rfl rfl ?_
      refine WL.skip rfl rfl ?_
      refine WL.yd (Yd.pickT rfl rfl) rfl ?_
      refine WL.nil (WP.thenC ?_)
      refine WC.condT rfl ?_
      refine WC.seq (WC.ofFr [(4, _), (3, _), (2, _)] ⟨rfl, rfl, rfl, trivial⟩ (WC.region ?_))
      refine WL.yd (Yd.build SA32 rfl (cs := [_, _, _, _, _]) rfl) rfl ?_
      refine WL.so (SO.store 1 rfl Tryz.sizeOf32 rfl rfl rfl rfl (zqb rfl) (oneB_spec rfl)) rfl ?_
      rintro _ _ _ ⟨rfl, rfl, rfl⟩
      refine zya rfl rfl ?_
      refine WL.nil (WP.thenC (WC.ret (WP.thenRet ?_)))
      refine WP.ret2 rfl rfl Tryz.results39 (RV.cellN Tryz.isAgg32 Tryz.sizeOf32 rfl (vs := [_, _, _, _, _]) rfl (by first | exact rn0 (n := 5) rfl rfl | exact rn1 (n := 5) rfl rfl)) (RV.tmp rfl) (fun w hI => ⟨_, D2, rfl, hI.keep, hI.imm, hX2, boatsZ, ⟨⟨none, 0, 0⟩, []⟩, 8, readR_no hlen (fun e => by rw [g14] at e; cases e), rfl, ⟨SlL.nil _ _, rfl, fun i hi => absurd hi (Nat.not_lt_zero i), Nat.zero_le _, fun i hi => absurd hi (Nat.not_lt_zero i)⟩⟩)
    · try simp only [zq1, zq2, zq3, zq4, zq5, zq6, zq7, zq8] at g14
      refine WL.ydg rfl (Yd.loadN Tryz.isAgg32 Tryz.sizeOf32 rfl (vs := [_, _, _, _, _]) rfl (RdN.own (k := 0) (n := 5) rfl rfl)) rfl ?_
      refine WL.sog rfl (SO.callP Tryz.call60 rfl (fun w hI => rBoats_g (boatsR s) m (BoatsN.of (boatsB_iff.1 (by simpa using g14))) D2 (hL.ext hX2) hR _ hI.imm)) rfl ?_
      rintro _ _ _ ⟨rfl, rfl, rfl⟩
      refine WL.ydg rfl (Yd.move rfl) rfl ?_
      refine WL.ydg rfl (Yd.neS' rfl rfl) rfl ?_
      refine WL.yd (Yd.pickF rfl rfl) rfl ?_
      refine WL.nil (WP.thenC ?_)
      refine WC.cond rfl (fun c19 => ?_) (fun c19 => ?_)
      · try simp only [zq1, zq2, zq3, zq4, zq5, zq6, zq7, zq8] at c19
        refine WC.seq (WC.ofFr [(4, _), (3, _), (2, _)] ⟨rfl, rfl, rfl, trivial⟩ (WC.region ?_))
        refine WL.yd (Yd.build SA32 rfl (cs := [_, _, _, _, _]) rfl) rfl ?_
        refine WL.so (SO.store 1 rfl Tryz.sizeOf32 rfl rfl rfl rfl (zqb rfl) (oneB_spec rfl)) rfl ?_
        rintro _ _ _ ⟨rfl, rfl, rfl⟩
        refine zya rfl rfl ?_
        refine WL.nil (WP.thenC (WC.ret (WP.thenRet ?_)))
        refine WP.ret2 rfl rfl Tryz.results39 (RV.cellN Tryz.isAgg32 Tryz.sizeOf32 rfl (vs := [_, _, _, _, _]) rfl (by first | exact rn0 (n := 5) rfl rfl | exact rn1 (n := 5) rfl rfl)) (RV.tmp rfl) (fun w hI => ⟨_, D2, rfl, hI.keep, hI.imm, hX2, boatsZ, ⟨⟨none, 0, 0⟩, []⟩, 8, readR_no hlen (fun _ => by simpa using c19), rfl, ⟨SlL.nil _ _, rfl, fun i hi => absurd hi (Nat.not_lt_zero i), Nat.zero_le _, fun i hi => absurd hi (Nat.not_lt_zero i)⟩⟩)
      · try simp only [zq1, zq2, zq3, zq4, zq5, zq6, zq7, zq8] at c19
        refine WC.skip (WP.thenC (WC.seq (WC.ofFr [(4, _), (3, _), (2, _)] ⟨rfl, rfl, rfl, trivial⟩ (WC.region ?_))))
        refine WL.yd (Yd.loadN Tryz.isAgg32 Tryz.sizeOf32 rfl (vs := [_, _, _, _, _]) rfl (RdN.own (k := 0) (n := 5) rfl rfl)) rfl ?_
        refine WL.so (SO.store 1 rfl Tryz.sizeOf32 rfl rfl rfl rfl (zqb rfl) (oneB_spec rfl)) rfl ?_
        rintro _ _ _ ⟨rfl, rfl, rfl⟩
        refine zya rfl rfl ?_
        refine WL.nil (WP.thenC (WC.ret ?_))
        refine WP.ret2 rfl rfl Tryz.results39 (RV.cellN Tryz.isAgg32 Tryz.sizeOf32 rfl (vs := [_, _, _, _, _]) rfl (by first | exact rn0 (n := 5) rfl rfl | exact rn1 (n := 5) rfl rfl)) (RV.tmp rfl) (fun w hI => ⟨_, D2, rfl, hI.keep, hI.imm, hX2, boatsR s, m, 0, readR_yes hlen (by simpa using g14) (by simpa using c19), rfl, hR⟩)

end Go.Proofs.YtaebnllfmkcpgaaGreatDoor
