import Derived.Test.YtaebnllfmkcpgaaGreatDoorXG
set_option linter.unusedSimpArgs false
set_option linter.unusedVariables false
set_option linter.all false
set_option maxRecDepth 100000
set_option maxHeartbeats 1000000
namespace Go.Proofs.YtaebnllfmkcpgaaGreatDoor
open Go.W Go.Bk

theorem btN {n : Nat} (h : n < 256) : bt (UInt8.ofNat n) = .int .u8 (n : Int) := by
  show Value.int .u8 _ = _
  rw [UInt8.toNat_ofNat_of_lt' h]
theorem digL_len (n : Nat) : 1 ≤ (digL n).length ∧ (digL n).length ≤ 2 := by unfold digL; split <;> simp

theorem digits_g (n : Nat) (hn : n ≤ 200) (D : Imm) (w : World) (hH : Holds D w) (w0 : World) (h0 : w0.heap.size ≤ w.heap.size) : News Tryz.prog 122 [nt n] w D (fun v D' h' => D = D' ∧ ∃ o : Ow, v = owV (some o) (digL n).length ∧ h' = owH (some o) 5 ((digL n).flatMap btC) [] ∧ owP w0 (some o) (digL n).length 1) := by
  unfold News
  refine enter Tryz.func122 rfl 24 Tryz.ntmps122 (zqb rfl) (Inv.start hH) ?_
  refine WC.seq (WC.ofFr [(0, _)] ⟨rfl, trivial⟩ (WC.region ?_))
  refine zya rfl rfl ?_
  refine WL.nil (WP.thenC (WC.seq (WC.ofFr [(2, _), (0, _)] ⟨rfl, rfl, trivial⟩ (WC.region ?_))))
  refine zym rfl rfl ?_
  refine WL.yd (Yd.rem rfl rfl (by (try dsimp only); omega) (by (try dsimp only); omega)) rfl ?_
  refine WL.yd (Yd.add rfl rfl (wr64 ⟨by (try dsimp only); omega, by (try dsimp only); omega⟩)) rfl ?_
  refine WL.yd (Yd.conv Tryz.underlying3 Tryz.underlying5 rfl (wr8 ⟨by (try dsimp only); omega, by (try dsimp only); omega⟩)) rfl ?_
  refine WL.know 7 (bt (UInt8.ofNat (n % 125 + 125))) rfl (by rw [btN (by omega)]; simp) ?_
  refine WL.so (SO.buildSlice1 Tryz.underlying43 Tryz.sizeOf5 Tryz.zeroValue5 rfl rfl rfl (vs := [_]) rfl rfl rfl) rfl ?_
  rintro _ _ _ ⟨b8, hb8, rfl, rfl, rfl⟩
  refine zya rfl rfl ?_
  refine WL.nil (WP.thenC (WC.seq (WC.seq (WC.ofFr [(3, _), (2, _), (0, _)] ⟨rfl, rfl, rfl, trivial⟩ (WC.region ?_)))))
  refine zym rfl rfl ?_
  refine WL.yd (Yd.quo rfl rfl (by (try dsimp only); omega) (by (try dsimp only); omega) (wr64 ⟨by (try dsimp only); omega, by (try dsimp only); omega⟩)) rfl ?_
  refine zya rfl rfl ?_
  refine WL.nil (WP.thenC (WC.block ?_))
  refine WC.loopT [] (fun y : Nat × Bs × Ow => [(0, nt y.1), (3, owV (some y.2.2) y.2.1.length)]) (fun y => owH (some y.2.2) 5 (y.2.1.flatMap btC) []) (fun y => ((y.1 = n / 125 ∧ y.2.1 = [UInt8.ofNat (n % 125 + 125)]) ∨ (y.1 = 0 ∧ 125 ≤ n ∧ y.2.1 = [UInt8.ofNat (n % 125 + 125), UInt8.ofNat (n / 125)])) ∧ owP w (some y.2.2) y.2.1.length 1) (fun y => y.1) (n / 125, [UInt8.ofNat (n % 125 + 125)], ⟨b8, 1, []⟩) ⟨.inl ⟨rfl, rfl⟩, hb8, Nat.le_refl _, rfl⟩ rfl ⟨rfl, rfl, trivial⟩ ?_
  rintro ⟨m, l, o⟩ ⟨hm, ho⟩
  dsimp only at hm ho
  refine WC.seq (WC.seq (WC.ofFr [(0, _), (3, _)] ⟨rfl, rfl, trivial⟩ (WC.region ?_)))
  refine zym rfl rfl ?_
  refine WL.yd (Yd.gtr rfl rfl) rfl ?_
  refine WL.nil (WP.thenC ?_)
  refine WC.cond rfl (fun c12 => ?_) (fun c12 => ?_)
  · try simp only [zq1, zq2, zq3, zq4, zq5, zq6, zq7, zq8] at c12
    have hm0 : 0 < m := by omega
    refine WC.skip (WP.thenC (WC.seq (WC.block (WC.ofFr [(0, _), (3, _)] ⟨rfl, rfl, trivial⟩ (WC.region ?_)))))
    refine zym rfl rfl ?_
    refine zym rfl rfl ?_
    refine WL.yd (Yd.rem rfl rfl (by (try dsimp only); omega) (by (try dsimp only); omega)) rfl ?_
    refine WL.yd (Yd.conv Tryz.underlying3 Tryz.underlying5 rfl (wr8 ⟨by (try dsimp only); omega, by (try dsimp only); omega⟩)) rfl ?_
    obtain ⟨rfl, rfl, h125⟩ : m = n / 125 ∧ l = [UInt8.ofNat (n % 125 + 125)] ∧ 125 ≤ n := by rcases hm with h | h; exact ⟨h.1, h.2, by omega⟩; omega
    refine WL.know 18 (bt (UInt8.ofNat (n / 125))) rfl (by rw [btN (by omega)]; simp; omega) ?_
    refine WL.so (SO.buildSlice1 Tryz.underlying43 Tryz.sizeOf5 Tryz.zeroValue5 rfl rfl rfl (vs := [_]) rfl rfl rfl) rfl ?_
    rintro _ _ _ ⟨b19, hb19, rfl, rfl, rfl⟩
    refine WL.so (SO.appendOw (o := some o) (len := 1) (n := 1) (xs := ([UInt8.ofNat (n % 125 + 125)].flatMap btC)) (size := 1) [_] [] [] rfl rfl Tryz.underlying43 Tryz.sizeOf5 Tryz.typeInfo5 Tryz.zeroValue5 rfl rfl rfl rfl ⟨rfl, .inr ⟨_, _, _, rfl, RdN.own (k := 0) (n := 1) rfl rfl⟩⟩ (oneB_spec rfl) ho rfl (by omega) (by show (2 * (_ + _) + 1000) * 1 ≤ 2 ^ 48; omega) (by omega)) rfl ?_
    rintro _ _ _ ⟨u1, hu1, rfl, rfl, rfl⟩
    refine zya rfl rfl ?_
    refine WL.nil (WP.blkNormal (WP.thenC (WC.ofFr [(3, _), (0, _)] ⟨rfl, rfl, trivial⟩ (WC.region ?_))))
    refine zym rfl rfl ?_
    refine WL.yd (Yd.quo rfl rfl (by (try dsimp only); omega) (by (try dsimp only); omega) (wr64 ⟨by (try dsimp only); omega, by (try dsimp only); omega⟩)) rfl ?_
    refine zya rfl rfl ?_
    refine WL.nil ?_
    exact WP.againT (0, [UInt8.ofNat (n % 125 + 125), UInt8.ofNat (n / 125)], u1) ⟨.inr ⟨rfl, h125, rfl⟩, by simpa using hu1⟩ (by dsimp only; omega) [] _ rfl rfl ⟨(by show some (it _) = some (nt 0); congr 2; omega), rfl, trivial⟩
  · try simp only [zq1, zq2, zq3, zq4, zq5, zq6, zq7, zq8] at c12
    refine WC.exit ?_
    refine WP.thenExit ?_
    refine WP.thenExit ?_
    refine WP.blkHit ?_
    refine WP.thenC (WC.seq ?_)
    obtain ⟨hm0, hm2⟩ : m = 0 ∧ ((n < 125 ∧ l = [UInt8.ofNat (n % 125 + 125)]) ∨ (125 ≤ n ∧ l = [UInt8.ofNat (n % 125 + 125), UInt8.ofNat (n / 125)])) := ⟨by omega, by rcases hm with h | h; exact .inl ⟨by omega, h.2⟩; exact .inr h.2⟩
    subst hm0
    rcases hm2 with ⟨hn1, rfl⟩ | ⟨hn1, rfl⟩
    · have hdl : digL n = [UInt8.ofNat (n % 125 + 125)] := by unfold digL; rw [if_pos hn1]; simp [Nat.mod_eq_of_lt hn1]
      refine WC.ofFr [(3, _)] ⟨rfl, trivial⟩ (WC.region ?_)
      refine zym rfl rfl ?_
      refine WL.so (SO.altersF (own := []) (hpc := [_]) (S1 := [o.b]) rfl (fun _ h => h) (fun _ h => h) (Enters.func Tryz.call155 rfl) (fun w1 hI => rev1_g o.b o.cap (UInt8.ofNat (n % 125 + 125)) o.rest D w1 hI)) rfl ?_
      rintro _ _ _ ⟨_, hX9, ⟨rfl, rfl⟩, rfl⟩
      refine WL.nil (WP.thenC (WC.seq (WC.ofFr [(3, _)] ⟨rfl, trivial⟩ (WC.region ?_))))
      refine zym rfl rfl ?_
      refine zya rfl rfl ?_
      refine WL.nil (WP.thenC (WC.ret ?_))
      refine WP.ret1 rfl rfl Tryz.results122 (RV.tmp rfl) (fun w1 hI => ⟨_, D, _, rfl, DExt.refl _ _, hI, rfl, o, by rw [hdl] <;> rfl, by rw [hdl] <;> rfl, by rw [hdl]; exact ⟨Nat.le_trans h0 ho.1, ho.2⟩⟩)
    · have hdl : digL n = [UInt8.ofNat (n / 125), UInt8.ofNat (n % 125 + 125)] := by unfold digL; rw [if_neg (by omega)]
      refine WC.ofFr [(3, _)] ⟨rfl, trivial⟩ (WC.region ?_)
      refine zym rfl rfl ?_
      refine WL.so (SO.altersF (own := []) (hpc := [_]) (S1 := [o.b]) rfl (fun _ h => h) (fun _ h => h) (Enters.func Tryz.call155 rfl) (fun w1 hI => rev2_g o.b o.cap (UInt8.ofNat (n % 125 + 125)) (UInt8.ofNat (n / 125)) o.rest D w1 hI)) rfl ?_
      rintro _ _ _ ⟨_, hX9, ⟨rfl, rfl⟩, rfl⟩
      refine WL.nil (WP.thenC (WC.seq (WC.ofFr [(3, _)] ⟨rfl, trivial⟩ (WC.region ?_))))
      refine zym rfl rfl ?_
      refine zya rfl rfl ?_
      refine WL.nil (WP.thenC (WC.ret ?_))
      refine WP.ret1 rfl rfl Tryz.results122 (RV.tmp rfl) (fun w1 hI => ⟨_, D, _, rfl, DExt.refl _ _, hI, rfl, o, by rw [hdl] <;> rfl, by rw [hdl] <;> rfl, by rw [hdl]; exact ⟨Nat.le_trans h0 ho.1, ho.2⟩⟩)

end Go.Proofs.YtaebnllfmkcpgaaGreatDoor
namespace Go.Proofs.YtaebnllfmkcpgaaGreatDoor
open Go.W Go.Bk
theorem FA107_0 : FieldAt Tryz.prog 107 0 0 := FieldAt.mk (t := 3) (off := 0) Tryz.underlying107 rfl Tryz.sizeOf3 (by decide)
theorem FA107_1 : FieldAt Tryz.prog 107 1 1 := FieldAt.mk (t := 3) (off := 1) Tryz.underlying107 rfl Tryz.sizeOf3 (by decide)
theorem FA120_0 : FieldAt Tryz.prog 120 0 0 := FieldAt.mk (t := 107) (off := 0) Tryz.underlying120 rfl Tryz.sizeOf107 (by decide)
theorem FA122_0 : FieldAt Tryz.prog 122 0 0 := FieldAt.mk (t := 120) (off := 0) Tryz.underlying122 rfl Tryz.sizeOf120 (by decide)
theorem sadd_g (b p q pl n : Nat) (t : TypeId) (hp : p < 251) (hq : q < 251) (hpl : pl ≤ 2 ^ 20) (hn : n ≤ 600) (D : Imm) (w : World) (hI : Inv D [(b, .cells (List.toArray [nt p, nt q]) t (0, 0))] [b] w w) : Alters Tryz.prog 229 [pt b, nt pl, nt n] w D [b] (fun _ D' h' => D = D' ∧ h' = [(b, .cells (List.toArray [nt ((p + n) % 251), nt ((q + pl % 251 * n) % 251)]) t (0, 0))]) := by
  unfold Alters
  refine enter Tryz.func229 rfl 33 Tryz.ntmps229 (zqb rfl) hI ?_
  refine WC.seq (WC.ofFr [(0, _), (1, _), (2, _)] ⟨rfl, rfl, rfl, trivial⟩ (WC.region ?_))
  refine zym rfl rfl ?_
  refine zym rfl rfl ?_
  refine WL.yd (Yd.nilCheck rfl) rfl ?_
  refine WL.yd (Yd.fieldAddr FA120_0 rfl) rfl ?_
  refine WL.yd (Yd.fieldAddr FA107_0 rfl) rfl ?_
  refine WL.yd (Yd.load1 Tryz.isAgg3 rfl (by first | exact ro0 rfl rfl)) rfl ?_
  refine zym rfl rfl ?_
  refine WL.yd (Yd.add rfl rfl (wr64 ⟨by first | omega | (rw [h7]; omega), by first | omega | (rw [h7]; omega)⟩)) rfl ?_
  refine WL.yd (Yd.rem rfl rfl (by first | omega | (rw [h7]; omega)) (by first | omega | (rw [h7]; omega))) rfl ?_
  refine WL.know 14 (nt ((p + n) % 251)) rfl (by simp) ?_
  refine WL.yd (Yd.nilCheck rfl) rfl ?_
  refine WL.yd (Yd.fieldAddr FA120_0 rfl) rfl ?_
  refine WL.yd (Yd.fieldAddr FA107_0 rfl) rfl ?_
  refine WL.so (SO.store 0 rfl Tryz.sizeOf3 rfl rfl rfl rfl (zqb rfl) (oneB_spec rfl)) rfl ?_
  rintro _ _ _ ⟨rfl, rfl, rfl⟩
  refine WL.nil (WP.thenC (WC.ofFr [(0, _), (1, _), (2, _)] ⟨rfl, rfl, rfl, trivial⟩ (WC.region ?_)))
  refine zym rfl rfl ?_
  refine zym rfl rfl ?_
  refine WL.yd (Yd.nilCheck rfl) rfl ?_
  refine WL.yd (Yd.fieldAddr FA120_0 rfl) rfl ?_
  refine WL.yd (Yd.fieldAddr FA107_1 rfl) rfl ?_
  refine WL.yd (Yd.load1 Tryz.isAgg3 rfl (by first | exact ro0 rfl rfl)) rfl ?_
  refine zym rfl rfl ?_
  have h9 : pl % 251 * n ≤ 250 * 600 := Nat.mul_le_mul (by omega) hn
  have h7 : ((pl : Int) % 251) * (n : Int) = ((pl % 251 * n : Nat) : Int) := by simp
  refine WL.yd (Yd.rem rfl rfl (by first | omega | (rw [h7]; omega)) (by first | omega | (rw [h7]; omega))) rfl ?_
  refine zym rfl rfl ?_
  refine WL.yd (Yd.mul rfl rfl (wr64 ⟨by first | omega | (rw [h7]; omega), by first | omega | (rw [h7]; omega)⟩)) rfl ?_
  refine WL.yd (Yd.add rfl rfl (wr64 ⟨by first | omega | (rw [h7]; omega), by first | omega | (rw [h7]; omega)⟩)) rfl ?_
  refine WL.yd (Yd.rem rfl rfl (by first | omega | (rw [h7]; omega)) (by first | omega | (rw [h7]; omega))) rfl ?_
  refine WL.know 29 (nt ((q + pl % 251 * n) % 251)) rfl (by simp) ?_
  refine WL.yd (Yd.nilCheck rfl) rfl ?_
  refine WL.yd (Yd.fieldAddr FA120_0 rfl) rfl ?_
  refine WL.yd (Yd.fieldAddr FA107_1 rfl) rfl ?_
  refine WL.so (SO.store 0 rfl Tryz.sizeOf3 rfl rfl rfl rfl (zqb rfl) (oneB_spec rfl)) rfl ?_
  rintro _ _ _ ⟨rfl, rfl, rfl⟩
  refine WL.nil ?_
  refine WP.ret0 rfl rfl Tryz.results229  (fun w1 hI => ⟨_, D, _, rfl, DExt.refl _ _, hI, (fun _ h => h), rfl, rfl⟩)

theorem tadd_g (b p q pl n : Nat) (t : TypeId) (hp : p < 251) (hq : q < 251) (hpl : pl ≤ 2 ^ 20) (hn : n ≤ 600) (D : Imm) (w : World) (hI : Inv D [(b, .cells (List.toArray [nt p, nt q]) t (0, 0))] [b] w w) : Alters Tryz.prog 228 [pt b, nt pl, nt n] w D [b] (fun _ D' h' => D = D' ∧ h' = [(b, .cells (List.toArray [nt ((p + (251 - n % 251)) % 251), nt ((q + pl % 251 * (251 - n % 251)) % 251)]) t (0, 0))]) := by
  unfold Alters
  refine enter Tryz.func228 rfl 14 Tryz.ntmps228 (zqb rfl) hI ?_
  refine WC.ofFr [(0, _), (1, _), (2, _)] ⟨rfl, rfl, rfl, trivial⟩ (WC.region ?_)
  refine zym rfl rfl ?_
  refine WL.yd (Yd.nilCheck rfl) rfl ?_
  refine WL.yd (Yd.fieldAddr FA122_0 rfl) rfl ?_
  refine zym rfl rfl ?_
  refine zym rfl rfl ?_
  refine WL.yd (Yd.rem rfl rfl (by omega) (by omega)) rfl ?_
  refine WL.yd (Yd.sub rfl rfl (wr64 ⟨by omega, by omega⟩)) rfl ?_
  refine WL.know 12 (nt (251 - n % 251)) rfl (by congr 1; omega) ?_
  refine WL.so (SO.altersF (own := []) (hpc := [_]) (S1 := [b]) rfl (fun _ h => h) (fun _ h => h) (Enters.func Tryz.call229 rfl) (fun w1 hI => sadd_g b p q pl (251 - n % 251) t hp hq hpl (by omega) D w1 hI)) rfl ?_
  rintro _ _ _ ⟨_, hX9, ⟨rfl, rfl⟩, rfl⟩
  refine WL.nil ?_
  refine WP.ret0 rfl rfl Tryz.results228  (fun w1 hI => ⟨_, D, _, rfl, DExt.refl _ _, hI, (fun _ h => h), rfl, rfl⟩)

theorem sumF_lt : ∀ (l : Bs) (i p q : Nat), p < 251 → q < 251 → (sumF i p q l).1 < 251 ∧ (sumF i p q l).2 < 251
  | [], _, _, _, h1, h2 => ⟨h1, h2⟩
  | x :: r, i, p, q, h1, h2 => sumF_lt r (i + 1) _ _ (Nat.mod_lt _ (by omega)) (Nat.mod_lt _ (by omega))
theorem takF_lt : ∀ (l : Bs) (i p q : Nat), p < 251 → q < 251 → (takF i p q l).1 < 251 ∧ (takF i p q l).2 < 251
  | [], _, _, _, h1, h2 => ⟨h1, h2⟩
  | x :: r, i, p, q, h1, h2 => takF_lt r (i + 1) _ _ (Nat.mod_lt _ (by omega)) (Nat.mod_lt _ (by omega))
theorem drop_gt {α : Type} [Inhabited α] {l : List α} {k : Nat} (h : k < l.length) : l.drop k = gt l k :: l.drop (k + 1) := by
  rw [List.drop_eq_getElem_cons h]; simp [gt, List.getD, h]

theorem feedS_g (l : Bs) (a : Option Addr) (n c : Nat) (D : Imm) (hS : SlL D 1 (l.map btC) a n) (hn : n ≤ 2 ^ 19) (b p q : Nat) (hp : p < 251) (hq : q < 251) (w : World) (hI : Inv D [(b, .cells (List.toArray [nt p, nt q]) 120 (0, 0))] [b] w w) : Alters Tryz.prog 71 [.iface 187 (pt b), .slice a n c] w D [b] (fun _ D' h' => D = D' ∧ h' = [(b, .cells (List.toArray [nt (sumF 0 p q l).1, nt (sumF 0 p q l).2]) 120 (0, 0))]) := by
  unfold Alters
  obtain rfl : n = l.length := hS.len'
  refine enter Tryz.func71 rfl 20 Tryz.ntmps71 (zqb rfl) hI ?_
  refine WC.seq (WC.ofFr [(0, _), (1, _)] ⟨rfl, rfl, trivial⟩ (WC.region ?_))
  refine zym rfl rfl ?_
  refine WL.yd (Yd.lenS rfl Tryz.underlying43 rfl) rfl ?_
  refine zym rfl rfl ?_
  refine WL.nil (WP.thenC (WC.block ?_))
  refine WC.loopT [] (fun y : Nat × Nat × Nat => [(0, .iface 187 (pt b)), (6, .slice a l.length c), (7, nt l.length), (8, nt y.1)]) (fun y => [(b, .cells (List.toArray [nt y.2.1, nt y.2.2]) 120 (0, 0))]) (fun y => y.1 ≤ l.length ∧ y.2.1 < 251 ∧ y.2.2 < 251 ∧ sumF y.1 y.2.1 y.2.2 (l.drop y.1) = sumF 0 p q l) (fun y => l.length - y.1) (0, p, q) ⟨Nat.zero_le _, hp, hq, rfl⟩ rfl ⟨rfl, rfl, rfl, rfl, trivial⟩ ?_
  rintro ⟨k, p1, q1⟩ ⟨hk, hp1, hq1, hF⟩
  dsimp only at hk hp1 hq1 hF
  refine WC.seq (WC.ofFr [(0, _), (6, _), (7, _), (8, _)] ⟨rfl, rfl, rfl, rfl, trivial⟩ (WC.region ?_))
  refine WL.yd (Yd.lss rfl rfl) rfl ?_
  refine WL.nil (WP.thenC (WC.seq ?_))
  refine WC.cond rfl (fun c9 => ?_) (fun c9 => ?_)
  · try simp only [zq1, zq2, zq3, zq4, zq5, zq6, zq7, zq8] at c9
    have hkl : k < l.length := by omega
    have hb8 := (gt l k).toNat_lt
    refine WC.skip (WP.thenC (WC.seq (WC.block (WC.seq (WC.ofFr [(0, _), (6, _), (7, _), (8, _)] ⟨rfl, rfl, rfl, rfl, trivial⟩ (WC.region ?_))))))
    refine zym rfl rfl ?_
    refine WL.yd (Yd.indexS Tryz.underlying43 Tryz.sizeOf5 rfl rfl (by (try dsimp only); omega) (by (try dsimp only); omega) (by first | exact hS.addr k (by omega))) rfl ?_
    refine WL.yd (Yd.load1 Tryz.isAgg5 rfl (by first | exact ro0 rfl rfl | exact (hS.at k (by omega)).rd 0 rfl)) rfl ?_
    refine zya rfl rfl ?_
    refine zya rfl rfl ?_
    refine WL.nil (WP.thenC (WC.ofFr [(5, _), (4, _), (0, _), (6, _), (7, _), (8, _)] ⟨rfl, rfl, rfl, rfl, rfl, rfl, trivial⟩ (WC.region ?_)))
    refine zym rfl rfl ?_
    refine zym rfl rfl ?_
    refine WL.yd (Yd.add rfl rfl (wr64 ⟨by (try dsimp only); omega, by (try dsimp only); omega⟩)) rfl ?_
    refine zym rfl rfl ?_
    refine WL.yd (Yd.conv Tryz.underlying5 Tryz.underlying3 rfl (wr64 ⟨by omega, by omega⟩)) rfl ?_
    refine WL.so (SO.altersF (own := []) (hpc := [_]) (S1 := [b]) rfl (fun _ h => h) (fun _ h => h) (Enters.meth Tryz.call229 (fun w => by kernel_rfl) rfl rfl) (fun w1 hI => sadd_g b p1 q1 (k + 1) (gt l k).toNat _ hp1 hq1 (by omega) (by omega) D w1 hI)) rfl ?_
    rintro _ _ _ ⟨_, hX9, ⟨rfl, rfl⟩, rfl⟩
    refine WL.nil (WP.blkNormal (WP.thenC (WC.ofFr [(0, _), (6, _), (7, _), (8, _)] ⟨rfl, rfl, rfl, rfl, trivial⟩ (WC.region ?_))))
    refine WL.yd (Yd.add rfl rfl (wr64 ⟨by (try dsimp only); omega, by (try dsimp only); omega⟩)) rfl ?_
    refine zym rfl rfl ?_
    refine WL.nil ?_
    exact WP.againT (k + 1, ((p1 + (gt l k).toNat) % 251), ((q1 + (k + 1) % 251 * (gt l k).toNat) % 251)) ⟨hkl, Nat.mod_lt _ (by omega), Nat.mod_lt _ (by omega), by rw [drop_gt hkl] at hF; exact hF⟩ (by dsimp only; omega) [] _ rfl rfl ⟨rfl, rfl, rfl, rfl, trivial⟩
  · try simp only [zq1, zq2, zq3, zq4, zq5, zq6, zq7, zq8] at c9
    obtain rfl : k = l.length := by omega
    refine WC.exit ?_
    refine WP.thenExit ?_
    refine WP.thenExit ?_
    refine WP.blkHit ?_
    refine WP.ret0 rfl rfl Tryz.results71  (fun w1 hI => ⟨_, D, _, rfl, DExt.refl _ _, hI, (fun _ h => h), rfl, by rw [List.drop_length] at hF; rw [← hF]; rfl⟩)

theorem feedT_g (l : Bs) (a : Option Addr) (n c : Nat) (D : Imm) (hS : SlL D 1 (l.map btC) a n) (hn : n ≤ 2 ^ 19) (b p q : Nat) (hp : p < 251) (hq : q < 251) (w : World) (hI : Inv D [(b, .cells (List.toArray [nt p, nt q]) 122 (0, 0))] [b] w w) : Alters Tryz.prog 71 [.iface 124 (pt b), .slice a n c] w D [b] (fun _ D' h' => D = D' ∧ h' = [(b, .cells (List.toArray [nt (takF 0 p q l).1, nt (takF 0 p q l).2]) 122 (0, 0))]) := by
  unfold Alters
  obtain rfl : n = l.length := hS.len'
  refine enter Tryz.func71 rfl 20 Tryz.ntmps71 (zqb rfl) hI ?_
  refine WC.seq (WC.ofFr [(0, _), (1, _)] ⟨rfl, rfl, trivial⟩ (WC.region ?_))
  refine zym rfl rfl ?_
  refine WL.yd (Yd.lenS rfl Tryz.underlying43 rfl) rfl ?_
  refine zym rfl rfl ?_
  refine WL.nil (WP.thenC (WC.block ?_))
  refine WC.loopT [] (fun y : Nat × Nat × Nat => [(0, .iface 124 (pt b)), (6, .slice a l.length c), (7, nt l.length), (8, nt y.1)]) (fun y => [(b, .cells (List.toArray [nt y.2.1, nt y.2.2]) 122 (0, 0))]) (fun y => y.1 ≤ l.length ∧ y.2.1 < 251 ∧ y.2.2 < 251 ∧ takF y.1 y.2.1 y.2.2 (l.drop y.1) = takF 0 p q l) (fun y => l.length - y.1) (0, p, q) ⟨Nat.zero_le _, hp, hq, rfl⟩ rfl ⟨rfl, rfl, rfl, rfl, trivial⟩ ?_
  rintro ⟨k, p1, q1⟩ ⟨hk, hp1, hq1, hF⟩
  dsimp only at hk hp1 hq1 hF
  refine WC.seq (WC.ofFr [(0, _), (6, _), (7, _), (8, _)] ⟨rfl, rfl, rfl, rfl, trivial⟩ (WC.region ?_))
  refine WL.yd (Yd.lss rfl rfl) rfl ?_
  refine WL.nil (WP.thenC (WC.seq ?_))
  refine WC.cond rfl (fun c9 => ?_) (fun c9 => ?_)
  · try simp only [zq1, zq2, zq3, zq4, zq5, zq6, zq7, zq8] at c9
    have hkl : k < l.length := by omega
    have hb8 := (gt l k).toNat_lt
    refine WC.skip (WP.thenC (WC.seq (WC.block (WC.seq (WC.ofFr [(0, _), (6, _), (7, _), (8, _)] ⟨rfl, rfl, rfl, rfl, trivial⟩ (WC.region ?_))))))
    refine zym rfl rfl ?_
    refine WL.yd (Yd.indexS Tryz.underlying43 Tryz.sizeOf5 rfl rfl (by (try dsimp only); omega) (by (try dsimp only); omega) (by first | exact hS.addr k (by omega))) rfl ?_
    refine WL.yd (Yd.load1 Tryz.isAgg5 rfl (by first | exact ro0 rfl rfl | exact (hS.at k (by omega)).rd 0 rfl)) rfl ?_
    refine zya rfl rfl ?_
    refine zya rfl rfl ?_
    refine WL.nil (WP.thenC (WC.ofFr [(5, _), (4, _), (0, _), (6, _), (7, _), (8, _)] ⟨rfl, rfl, rfl, rfl, rfl, rfl, trivial⟩ (WC.region ?_)))
    refine zym rfl rfl ?_
    refine zym rfl rfl ?_
    refine WL.yd (Yd.add rfl rfl (wr64 ⟨by (try dsimp only); omega, by (try dsimp only); omega⟩)) rfl ?_
    refine zym rfl rfl ?_
    refine WL.yd (Yd.conv Tryz.underlying5 Tryz.underlying3 rfl (wr64 ⟨by omega, by omega⟩)) rfl ?_
    refine WL.so (SO.altersF (own := []) (hpc := [_]) (S1 := [b]) rfl (fun _ h => h) (fun _ h => h) (Enters.meth Tryz.call228 (fun w => by kernel_rfl) rfl rfl) (fun w1 hI => tadd_g b p1 q1 (k + 1) (gt l k).toNat _ hp1 hq1 (by omega) (by omega) D w1 hI)) rfl ?_
    rintro _ _ _ ⟨_, hX9, ⟨rfl, rfl⟩, rfl⟩
    refine WL.nil (WP.blkNormal (WP.thenC (WC.ofFr [(0, _), (6, _), (7, _), (8, _)] ⟨rfl, rfl, rfl, rfl, trivial⟩ (WC.region ?_))))
    refine WL.yd (Yd.add rfl rfl (wr64 ⟨by (try dsimp only); omega, by (try dsimp only); omega⟩)) rfl ?_
    refine zym rfl rfl ?_
    refine WL.nil ?_
    exact WP.againT (k + 1, ((p1 + (251 - (gt l k).toNat % 251)) % 251), ((q1 + (k + 1) % 251 * (251 - (gt l k).toNat % 251)) % 251)) ⟨hkl, Nat.mod_lt _ (by omega), Nat.mod_lt _ (by omega), by rw [drop_gt hkl] at hF; exact hF⟩ (by dsimp only; omega) [] _ rfl rfl ⟨rfl, rfl, rfl, rfl, trivial⟩
  · try simp only [zq1, zq2, zq3, zq4, zq5, zq6, zq7, zq8] at c9
    obtain rfl : k = l.length := by omega
    refine WC.exit ?_
    refine WP.thenExit ?_
    refine WP.thenExit ?_
    refine WP.blkHit ?_
    refine WP.ret0 rfl rfl Tryz.results71  (fun w1 hI => ⟨_, D, _, rfl, DExt.refl _ _, hI, (fun _ h => h), rfl, by rw [List.drop_length] at hF; rw [← hF]; rfl⟩)

theorem sumsOf_g (l : Bs) (a : Option Addr) (n c : Nat) (D : Imm) (hS : SlL D 1 (l.map btC) a n) (hn : n ≤ 2 ^ 19) (w : World) (hH : Holds D w) : Gives Tryz.prog 66 [.slice a n c] w (.agg #[nt (sumsL l).1, nt (sumsL l).2]) := by
  unfold Gives
  refine enter Tryz.func66 rfl 9 Tryz.ntmps66 (zqb rfl) (Inv.start hH) ?_
  refine WC.seq (WC.ofFr [(0, _)] ⟨rfl, trivial⟩ (WC.region ?_))
  refine WL.so (SO.alloc Tryz.zeroValue107 rfl) rfl ?_
  rintro _ _ _ ⟨b2, hb2, rfl, rfl, rfl⟩
  refine WL.nil (WP.thenC (WC.seq (WC.ofFr [(2, _), (0, _)] ⟨rfl, rfl, trivial⟩ (WC.region ?_))))
  refine WL.so (SO.alloc Tryz.zeroValue120 rfl) rfl ?_
  rintro _ _ _ ⟨b3, hb3, rfl, rfl, rfl⟩
  refine WL.nil (WP.thenC (WC.seq (WC.ofFr [(3, _), (2, _), (0, _)] ⟨rfl, rfl, rfl, trivial⟩ (WC.region ?_))))
  refine WL.yd (Yd.iface Tryz.underlying187 (by intro _ h; cases h) rfl) rfl ?_
  refine zym rfl rfl ?_
  refine WL.so (SO.altersF (own := [_]) (hpc := [_]) (S1 := [b3]) rfl (fun _ h => h) (fun _ h => h) (Enters.func Tryz.call71 rfl) (fun w1 hI => feedS_g l a n c D hS hn b3 0 0 (by decide) (by decide) w1 hI)) rfl ?_
  rintro _ _ _ ⟨_, hX9, ⟨rfl, rfl⟩, rfl⟩
  refine WL.nil (WP.thenC (WC.seq (WC.ofFr [(3, _), (2, _)] ⟨rfl, rfl, trivial⟩ (WC.region ?_))))
  refine WL.yd (Yd.fieldAddr FA120_0 rfl) rfl ?_
  refine WL.yd (Yd.loadN Tryz.isAgg107 Tryz.sizeOf107 rfl (vs := [_, _]) rfl (by first | exact rn0 (n := 2) rfl rfl | exact rn1 (n := 2) rfl rfl)) rfl ?_
  refine WL.so (SO.store 1 rfl Tryz.sizeOf107 rfl rfl rfl rfl (zqb rfl) (oneB_spec rfl)) rfl ?_
  rintro _ _ _ ⟨rfl, rfl, rfl⟩
  refine WL.nil (WP.thenC (WC.ret ?_))
  refine WP.ret1 rfl rfl Tryz.results66 (RV.cellN Tryz.isAgg107 Tryz.sizeOf107 rfl (vs := [_, _]) rfl (by first | exact rn0 (n := 2) rfl rfl | exact rn1 (n := 2) rfl rfl)) (fun w hI => ⟨rfl, hI.keep⟩)

end Go.Proofs.YtaebnllfmkcpgaaGreatDoor
namespace Go.Proofs.YtaebnllfmkcpgaaGreatDoor
open Go.W Go.Bk

theorem RdN.app {D : Imm} {hp : Hp} {k b : Nat} {ys rest : List Value} {e : TypeId} {fz : Nat × Nat} (hk : hp[k]? = some (b, .cells (ys ++ rest).toArray e fz)) : RdN D hp b 0 ys := fun j v hj =>
  Rd.own hk (by rw [Nat.zero_add, List.getElem?_append_left (List.getElem?_eq_some_iff.1 hj).1]; exact hj)
theorem btC_one (l : Bs) : ∀ v ∈ l.flatMap btC, v.oneCell' = true := fun v hv => by
  obtain ⟨b, _, hb⟩ := List.mem_flatMap.1 hv
  simp only [btC, List.mem_singleton] at hb
  rw [hb]; rfl
def hC (h : Hors) (k : Nat) : Bs := (digL h.pace.toNat ++ digL h.moves.length) ++ (h.moves.take k).flatMap fun m => (moveN m).flatMap digL
def hCj (h : Hors) (k j : Nat) : Bs := hC h k ++ ((moveN (gt h.moves k)).take j).flatMap digL
theorem hC_zero (h : Hors) : hC h 0 = digL h.pace.toNat ++ digL h.moves.length := by simp [hC]
theorem hC_fin (h : Hors) : hC h h.moves.length = contentL h := by simp [hC, contentL]
theorem bookL_len (h : Hors) : (bookL h).length = (contentL h).length + 2 := by simp [bookL, sealL]
theorem hCj_zero (h : Hors) (k : Nat) : hCj h k 0 = hC h k := by simp [hCj]
theorem hCj_succ {h : Hors} {k j : Nat} (hj : j < 4) : hCj h k (j + 1) = hCj h k j ++ digL (gt (moveN (gt h.moves k)) j) := by
  unfold hCj; rw [fm_succ (f := digL) (l := moveN (gt h.moves k)) hj]; simp
theorem hCj_fin {h : Hors} {k : Nat} (hk : k < h.moves.length) : hCj h k 4 = hC h (k + 1) := by
  unfold hCj hC
  rw [fm_succ (f := fun m => (moveN m).flatMap digL) hk, List.take_of_length_le (l := moveN (gt h.moves k)) (Nat.le_refl 4)]; simp
theorem moveN_len (m : Mv) : ((moveN m).flatMap digL).length ≤ 8 := by
  have h1 := fm_len (l := moveN m) (f := digL) (c := 2) fun n _ => (digL_len n).2
  exact h1
theorem hC_len {h : Hors} (ok : HorsOk h) (k : Nat) : (hC h k).length ≤ 60 := by
  have h1 := fm_le (f := fun m => (moveN m).flatMap digL) (c := 8) (fun m _ => moveN_len m) ok.n k
  have := (digL_len h.pace.toNat).2; have := (digL_len h.moves.length).2
  simp only [hC, List.length_append]; omega
theorem hCj_len {h : Hors} (ok : HorsOk h) (k j : Nat) : (hCj h k j).length ≤ 68 := by
  have h1 := hC_len ok k
  have h2 := fm_le (f := digL) (c := 2) (fun n _ => (digL_len n).2) (l := moveN (gt h.moves k)) (m := 4) (Nat.le_refl 4) j
  simp only [hCj, List.length_append]; omega
theorem moveN_cells {m : Mv} (h : (0 ≤ m.at_ ∧ m.at_ ≤ 200) ∧ (0 ≤ m.place ∧ m.place ≤ 30) ∧ 1 ≤ m.long.lo ∧ m.long.lo ≤ m.long.hi ∧ m.long.hi ≤ 20) : [it m.at_, it m.place, it m.long.lo, it (m.long.hi - m.long.lo)] = (moveN m).flatMap ntC ++ [] := by
  have e : ∀ {z : Int}, 0 ≤ z → it z = nt z.toNat := fun {z} hz => by congr 1; omega
  rw [e h.1.1, e h.2.1.1, e (z := m.long.lo) (by omega), e (z := m.long.hi - m.long.lo) (by omega)]
  rfl
theorem moveN_le {m : Mv} (h : (0 ≤ m.at_ ∧ m.at_ ≤ 200) ∧ (0 ≤ m.place ∧ m.place ≤ 30) ∧ 1 ≤ m.long.lo ∧ m.long.lo ≤ m.long.hi ∧ m.long.hi ≤ 20) {j : Nat} (hj : j < 4) : gt (moveN m) j ≤ 200 := by
  match j, hj with
  | 0, _ => show m.at_.toNat ≤ 200; omega
  | 1, _ => show m.place.toNat ≤ 200; omega
  | 2, _ => show m.long.lo.toNat ≤ 200; omega
  | 3, _ => show (m.long.hi - m.long.lo).toNat ≤ 200; omega

theorem book_g (h : Hors) (m : Sl) (ok : HorsOk h) (D : Imm) (hR : HorsR D h m) (w : World) (hH : Holds D w) : Makes Tryz.prog 63 [horsV h m] w D (fun v D' => ∃ a n c, v = .slice a n c ∧ SlL D' 1 ((bookL h).map btC) a n ∧ n ≤ c) := by
  unfold Makes
  obtain ⟨ma, mn, mc⟩ := m
  obtain rfl : mn = h.moves.length := hR.r.len'
  have hRm : SlL D 4 (h.moves.map mvC) ma h.moves.length := hR.r
  have nm : h.moves.length ≤ 9223372036854775807 := hR.n
  refine enter Tryz.func63 rfl 61 Tryz.ntmps63 (zqb rfl) (Inv.start hH) ?_
  refine WC.seq (WC.ofFr [(0, _)] ⟨rfl, trivial⟩ (WC.region ?_))
  refine WL.so (SO.box rfl rfl) rfl ?_
  rintro _ _ _ ⟨b1, hb1, rfl, rfl, rfl⟩
  refine zya rfl rfl ?_
  refine WL.nil (WP.thenC (WC.seq (WC.ofFr [(2, _), (1, _)] ⟨rfl, rfl, trivial⟩ ?_)))
  refine WC.draw [(0, true), (1, true), (3, true), (4, true), (5, true), (2, false), (6, false), (7, false), (8, true)] (by kernel_rfl) (by kernel_rfl) (QuietPanic.then QuietPanic.body) ?_
  refine WA.yd rfl (Yd.fieldAddr FA35_0 rfl) rfl ?_
  refine WA.yd rfl (Yd.load1 Tryz.isAgg3 rfl (Rd.own (k := 0) rfl rfl)) rfl ?_
  refine WA.yd rfl (Yd.fieldAddr FA35_1 rfl) rfl ?_
  refine WA.yd rfl (Yd.load1 Tryz.isAgg33 rfl (Rd.own (k := 0) rfl rfl)) rfl ?_
  refine WA.yd rfl (Yd.lenS rfl Tryz.underlying33 rfl) rfl ?_
  have hpc := ok.pace
  refine WA.know 10 (nt h.pace.toNat) rfl (by congr 1; omega) ?_
  refine WA.so rfl (SO.newsF (Enters.func Tryz.call122 rfl) (fun w1 hI => digits_g h.pace.toNat (by omega) _ w1 hI.imm w hI.keep.size)) rfl ?_
  rintro _ _ _ ⟨_, hX0, ⟨rfl, o1, rfl, rfl, ho1⟩, rfl⟩
  refine ⟨fun _ hI => hI.drop 1, ?_⟩
  refine WA.so rfl (SO.newsF (Enters.func Tryz.call122 rfl) (fun w1 hI => digits_g h.moves.length (by have := ok.n; omega) _ w1 hI.imm w hI.keep.size)) rfl ?_
  rintro _ _ _ ⟨_, hX0, ⟨rfl, o2, rfl, rfl, ho2⟩, rfl⟩
  refine ⟨fun _ hI => hI.drop 2, ?_⟩
  have hd1 := digL_len h.pace.toNat
  have hd2 := digL_len h.moves.length
  refine WA.so rfl (SO.appendOw (o := some o1) (len := (digL h.pace.toNat).length) (n := (digL h.moves.length).length) (xs := ((digL h.pace.toNat).flatMap btC)) (size := 1) [_] [] [_] rfl rfl Tryz.underlying43 Tryz.sizeOf5 Tryz.typeInfo5 Tryz.zeroValue5 rfl rfl rfl rfl ⟨flat_len btC_len _, .inr ⟨_, _, _, rfl, RdN.app (k := 0) rfl⟩⟩ (btC_one _) ho1 (flat_len btC_len _) (by omega) (by show (2 * (_ + _) + 1000) * 1 ≤ 2 ^ 48; omega) (by omega)) rfl ?_
  rintro _ _ _ ⟨u1, hu1, rfl, rfl, rfl⟩
  refine ⟨fun _ hI => hI.drop 1, ?_⟩
  refine WA.yd rfl (Yd.assign rfl) rfl ?_
  refine WA.nil (WP.thenC (WC.seq (WC.seq (WC.ofFr [(3, _), (2, _), (1, _)] ⟨rfl, rfl, rfl, trivial⟩ (WC.region ?_)))))
  refine WL.yd (Yd.fieldAddr FA35_1 rfl) rfl ?_
  refine WL.yd (Yd.load1 Tryz.isAgg33 rfl (Rd.own (k := 1) rfl rfl)) rfl ?_
  refine WL.yd (Yd.lenS rfl Tryz.underlying33 rfl) rfl ?_
  refine zym rfl rfl ?_
  refine WL.nil (WP.thenC (WC.block ?_))
  refine WC.loopT [] (fun y : Nat × Ow => [(1, pt b1), (3, owV (some y.2) (hC h y.1).length), (18, .slice ma h.moves.length mc), (19, nt h.moves.length), (20, nt y.1)]) (fun y => owH (some y.2) 5 ((hC h y.1).flatMap btC) [(b1, .cells (List.toArray [it h.pace, .slice ma h.moves.length mc]) 35 (0, 0))]) (fun y => y.1 ≤ h.moves.length ∧ owP w (some y.2) (hC h y.1).length 1) (fun y => h.moves.length - y.1) (0, u1) ⟨Nat.zero_le _, by dsimp only; rw [hC_zero, List.length_append]; exact hu1⟩ (by show _ = _ ++ owH (some u1) _ ((hC h 0).flatMap btC) _; rw [hC_zero, List.flatMap_append] <;> rfl) ⟨rfl, by show _ = some (owV (some u1) (hC h 0).length); rw [hC_zero, List.length_append] <;> rfl, rfl, rfl, rfl, trivial⟩ ?_
  rintro ⟨k, o⟩ ⟨hk, ho⟩
  dsimp only at hk ho
  have hlk := hC_len ok k
  refine WC.seq (WC.ofFr [(1, _), (3, _), (18, _), (19, _), (20, _)] ⟨rfl, rfl, rfl, rfl, rfl, trivial⟩ (WC.region ?_))
  refine WL.yd (Yd.lss rfl rfl) rfl ?_
  refine WL.nil (WP.thenC (WC.seq ?_))
  refine WC.cond rfl (fun c21 => ?_) (fun c21 => ?_)
  · try simp only [zq1, zq2, zq3, zq4, zq5, zq6, zq7, zq8] at c21
    have hkl : k < h.moves.length := by omega
    have hm := ok.moves _ (gtB_mem hkl)
    refine WC.skip (WP.thenC (WC.seq (WC.block (WC.seq (WC.ofFr [(1, _), (3, _), (18, _), (19, _), (20, _)] ⟨rfl, rfl, rfl, rfl, rfl, trivial⟩ (WC.region ?_))))))
    refine WL.yd (Yd.indexS Tryz.underlying33 Tryz.sizeOf116 rfl rfl (by (try dsimp only); omega) (by (try dsimp only); omega) (by first | exact hRm.addr k (by omega))) rfl ?_
    refine WL.yd (Yd.loadN Tryz.isAgg116 Tryz.sizeOf116 rfl (vs := [_, _, _, _]) rfl ((hRm.at k (by omega)).rdn 0 4 rfl)) rfl ?_
    refine WL.so (SO.alloc Tryz.zeroValue116 rfl) rfl ?_
    rintro _ _ _ ⟨b5, hb5, rfl, rfl, rfl⟩
    refine WL.so (SO.store 0 rfl Tryz.sizeOf116 rfl rfl rfl rfl (zqb rfl) (oneB_spec rfl)) rfl ?_
    rintro _ _ _ ⟨rfl, rfl, rfl⟩
    refine WL.nil (WP.thenC (WC.seq (WC.ofFr [(5, _), (1, _), (3, _), (18, _), (19, _), (20, _)] ⟨rfl, rfl, rfl, rfl, rfl, rfl, trivial⟩ (WC.region ?_))))
    refine WL.yd (Yd.fieldAddr FA116_0 rfl) rfl ?_
    refine WL.yd (Yd.load1 Tryz.isAgg3 rfl (Rd.own (k := 0) rfl rfl)) rfl ?_
    refine WL.yd (Yd.fieldAddr FA116_1 rfl) rfl ?_
    refine WL.yd (Yd.load1 Tryz.isAgg3 rfl (Rd.own (k := 0) rfl rfl)) rfl ?_
    refine WL.yd (Yd.fieldAddr FA116_2 rfl) rfl ?_
    refine WL.yd (Yd.fieldAddr FA114_0 rfl) rfl ?_
    refine WL.yd (Yd.load1 Tryz.isAgg3 rfl (Rd.own (k := 0) rfl rfl)) rfl ?_
    refine WL.yd (Yd.fieldAddr FA116_2 rfl) rfl ?_
    refine WL.yd (Yd.fieldAddr FA114_1 rfl) rfl ?_
    refine WL.yd (Yd.load1 Tryz.isAgg3 rfl (Rd.own (k := 0) rfl rfl)) rfl ?_
    refine WL.yd (Yd.fieldAddr FA116_2 rfl) rfl ?_
    refine WL.yd (Yd.fieldAddr FA114_0 rfl) rfl ?_
    refine WL.yd (Yd.load1 Tryz.isAgg3 rfl (Rd.own (k := 0) rfl rfl)) rfl ?_
    refine WL.yd (Yd.sub rfl rfl (wr64 ⟨by (try dsimp only); omega, by (try dsimp only); omega⟩)) rfl ?_
    refine WL.so (SO.buildSlice1 Tryz.underlying111 Tryz.sizeOf3 Tryz.zeroValue3 rfl rfl rfl (vs := [_, _, _, _]) rfl rfl rfl) rfl ?_
    rintro _ _ _ ⟨b38, hb38, rfl, rfl, rfl⟩
    refine WL.yd (Yd.lenS rfl Tryz.underlying111 rfl) rfl ?_
    refine zym rfl rfl ?_
    refine WL.nil (WP.thenC (WC.block ?_))
    refine WC.hpEq (congrArg (fun cs : List Value => ((b38, Obj.cells (List.toArray cs) 3 (0, 0)) :: _ : Hp)) (moveN_cells hm)) ?_
    refine WC.loopT [_, _] (fun y : Nat × Ow => [(1, pt b1), (3, owV (some y.2) (hCj h k y.1).length), (18, .slice ma h.moves.length mc), (19, nt h.moves.length), (20, nt k), (38, .slice (some ⟨b38, 0, none⟩) 4 4), (39, nt 4), (40, nt y.1)]) (fun y => owH (some y.2) 5 ((hCj h k y.1).flatMap btC) [(b1, .cells (List.toArray [it h.pace, .slice ma h.moves.length mc]) 35 (0, 0))]) (fun y => y.1 ≤ 4 ∧ owP w (some y.2) (hCj h k y.1).length 1) (fun y => 4 - y.1) (0, o) ⟨Nat.zero_le _, by dsimp only; rw [hCj_zero]; exact ho⟩ (by show _ = _ ++ owH (some o) _ ((hCj h k 0).flatMap btC) _; rw [hCj_zero]; rfl) ⟨rfl, by show _ = some (owV (some o) (hCj h k 0).length); rw [hCj_zero] <;> rfl, rfl, rfl, rfl, rfl, rfl, rfl, trivial⟩ ?_
    rintro ⟨j, o⟩ ⟨hj, ho⟩
    dsimp only at hj ho
    have hlj := hCj_len ok k j
    refine WC.seq (WC.ofFr [(1, _), (3, _), (18, _), (19, _), (20, _), (38, _), (39, _), (40, _)] ⟨rfl, rfl, rfl, rfl, rfl, rfl, rfl, rfl, trivial⟩ (WC.region ?_))
    refine WL.yd (Yd.lss rfl rfl) rfl ?_
    refine WL.nil (WP.thenC (WC.seq ?_))
    refine WC.cond rfl (fun c41 => ?_) (fun c41 => ?_)
    · try simp only [zq1, zq2, zq3, zq4, zq5, zq6, zq7, zq8] at c41
      have hj4 : j < 4 := by omega
      refine WC.skip (WP.thenC (WC.seq (WC.block (WC.seq (WC.ofFr [(1, _), (3, _), (18, _), (19, _), (20, _), (38, _), (39, _), (40, _)] ⟨rfl, rfl, rfl, rfl, rfl, rfl, rfl, rfl, trivial⟩ (WC.region ?_))))))
      refine WL.yd (Yd.indexS Tryz.underlying111 Tryz.sizeOf3 rfl rfl (by (try dsimp only); omega) (by (try dsimp only); omega) (by first | exact rfl)) rfl ?_
      refine WL.yd (Yd.load1 Tryz.isAgg3 rfl (Rd.flat ntC_len (k := 0) (i := j) (j := 0) (l := moveN (gt h.moves k)) (rest := []) rfl hj4 (by decide) rfl)) rfl ?_
      refine zya rfl rfl ?_
      refine WL.nil (WP.thenC (WC.ofFr [(7, _), (1, _), (3, _), (18, _), (19, _), (20, _), (38, _), (39, _), (40, _)] ⟨rfl, rfl, rfl, rfl, rfl, rfl, rfl, rfl, rfl, trivial⟩ (WC.region ?_)))
      refine zym rfl rfl ?_
      refine zym rfl rfl ?_
      refine WL.so (SO.newsF (Enters.func Tryz.call122 rfl) (fun w1 hI => digits_g (gt (moveN (gt h.moves k)) j) (moveN_le hm hj4) _ w1 hI.imm w hI.keep.size)) rfl ?_
      rintro _ _ _ ⟨_, hX0, ⟨rfl, o2, rfl, rfl, ho2⟩, rfl⟩
      have hd2 := digL_len (gt (moveN (gt h.moves k)) j)
      refine WL.so (SO.appendOw (o := some o) (len := (hCj h k j).length) (n := (digL (gt (moveN (gt h.moves k)) j)).length) (xs := ((hCj h k j).flatMap btC)) (size := 1) [_] [_, _] [_] rfl rfl Tryz.underlying43 Tryz.sizeOf5 Tryz.typeInfo5 Tryz.zeroValue5 rfl rfl rfl rfl ⟨flat_len btC_len _, .inr ⟨_, _, _, rfl, RdN.app (k := 0) rfl⟩⟩ (btC_one _) ho (flat_len btC_len _) (by omega) (by show (2 * (_ + _) + 1000) * 1 ≤ 2 ^ 48; omega) (by omega)) rfl ?_
      rintro _ _ _ ⟨u2, hu2, rfl, rfl, rfl⟩
      refine zya rfl rfl ?_
      refine WL.nil (WP.blkNormal (WP.thenC (WC.ofFr [(3, _), (1, _), (18, _), (19, _), (20, _), (38, _), (39, _), (40, _)] ⟨rfl, rfl, rfl, rfl, rfl, rfl, rfl, rfl, trivial⟩ (WC.region ?_))))
      refine WL.yd (Yd.add rfl rfl (wr64 ⟨by (try dsimp only); omega, by (try dsimp only); omega⟩)) rfl ?_
      refine zym rfl rfl ?_
      refine WL.nil ?_
      exact WP.againT (j + 1, u2) ⟨hj4, by dsimp only; rw [hCj_succ hj4, List.length_append]; exact hu2⟩ (by dsimp only; omega) [] _ rfl (by show _ = _ ++ owH (some u2) _ ((hCj h k (j + 1)).flatMap btC) _; rw [hCj_succ hj4, List.flatMap_append]; rfl) ⟨rfl, by show _ = some (owV (some u2) (hCj h k (j + 1)).length); rw [hCj_succ hj4, List.length_append] <;> rfl, rfl, rfl, rfl, rfl, rfl, rfl, trivial⟩
    · try simp only [zq1, zq2, zq3, zq4, zq5, zq6, zq7, zq8] at c41
      obtain rfl : j = 4 := by omega
      refine WC.exit ?_
      refine WP.thenExit ?_
      refine WP.thenExit ?_
      refine WP.blkHit ?_
      refine WP.blkNormal (WP.thenC (WC.ofFr [(1, _), (3, _), (18, _), (19, _), (20, _)] ⟨rfl, rfl, rfl, rfl, rfl, trivial⟩ (WC.region ?_)))
      refine WL.yd (Yd.add rfl rfl (wr64 ⟨by (try dsimp only); omega, by (try dsimp only); omega⟩)) rfl ?_
      refine zym rfl rfl ?_
      refine WL.nil ?_
      exact WP.againT (k + 1, o) ⟨hkl, by dsimp only; rw [← hCj_fin hkl]; exact ho⟩ (by dsimp only; omega) [_, _] _ rfl (by show _ = _ ++ owH (some o) _ ((hC h (k + 1)).flatMap btC) _; rw [← hCj_fin hkl]; rfl) ⟨rfl, by show _ = some (owV (some o) (hC h (k + 1)).length); rw [← hCj_fin hkl] <;> rfl, rfl, rfl, rfl, trivial⟩
  · try simp only [zq1, zq2, zq3, zq4, zq5, zq6, zq7, zq8] at c21
    obtain rfl : k = h.moves.length := by omega
    rw [hC_fin] at ho hlk ⊢
    refine WC.exit ?_
    refine WP.thenExit ?_
    refine WP.thenExit ?_
    refine WP.blkHit ?_
    refine WP.thenC (WC.seq (WC.ofFr [(3, _)] ⟨rfl, trivial⟩ (WC.region ?_)))
    refine zym rfl rfl ?_
    refine WL.so (SO.callP Tryz.call66 rfl (fun w hI => sumsOf_g (contentL h) _ _ _ _ (SlL.ofBlock (l := contentL h) (f := btC) (m := 1) btC_len (Imm.add_self _ _ _)) (by omega) _ (hI.freezeK 0 rfl).2.imm)) rfl ?_
    rintro _ _ _ ⟨rfl, rfl, rfl⟩
    refine WL.so (SO.alloc Tryz.zeroValue107 rfl) rfl ?_
    rintro _ _ _ ⟨b8, hb8, rfl, rfl, rfl⟩
    refine WL.so (SO.store 0 rfl Tryz.sizeOf107 rfl rfl rfl rfl (zqb rfl) (oneB_spec rfl)) rfl ?_
    rintro _ _ _ ⟨rfl, rfl, rfl⟩
    refine WL.nil (WP.thenC (WC.seq (WC.ofFr [(8, _), (3, _)] ⟨rfl, rfl, trivial⟩ (WC.region ?_))))
    have hsl := sumF_lt (contentL h) 0 0 0 (by decide) (by decide)
    have hs1 : (sumsL (contentL h)).1 < 251 := hsl.1
    have hs2 : (sumsL (contentL h)).2 < 251 := hsl.2
    refine zym rfl rfl ?_
    refine WL.yd (Yd.fieldAddr FA107_0 rfl) rfl ?_
    refine WL.yd (Yd.load1 Tryz.isAgg3 rfl (Rd.own (k := 0) rfl rfl)) rfl ?_
    refine WL.yd (Yd.conv Tryz.underlying3 Tryz.underlying5 rfl (wr8 ⟨by (try dsimp only); omega, by (try dsimp only); omega⟩)) rfl ?_
    refine WL.know 55 (bt (UInt8.ofNat (sumsL (contentL h)).1)) rfl (btN (by omega)).symm ?_
    refine WL.yd (Yd.fieldAddr FA107_1 rfl) rfl ?_
    refine WL.yd (Yd.load1 Tryz.isAgg3 rfl (Rd.own (k := 0) rfl rfl)) rfl ?_
    refine WL.yd (Yd.conv Tryz.underlying3 Tryz.underlying5 rfl (wr8 ⟨by (try dsimp only); omega, by (try dsimp only); omega⟩)) rfl ?_
    refine WL.know 58 (bt (UInt8.ofNat (sumsL (contentL h)).2)) rfl (btN (by omega)).symm ?_
    refine WL.so (SO.buildSlice1 Tryz.underlying43 Tryz.sizeOf5 Tryz.zeroValue5 rfl rfl rfl (vs := [_, _]) rfl rfl rfl) rfl ?_
    rintro _ _ _ ⟨b59, hb59, rfl, rfl, rfl⟩
    refine WL.so (SO.appendOw (o := some o) (len := (contentL h).length) (n := 2) (xs := ((contentL h).flatMap btC)) (size := 1) [_] [_] [_] rfl rfl Tryz.underlying43 Tryz.sizeOf5 Tryz.typeInfo5 Tryz.zeroValue5 rfl rfl rfl rfl ⟨rfl, .inr ⟨_, _, _, rfl, RdN.own (k := 0) (n := 2) rfl rfl⟩⟩ (oneB_spec rfl) ho (flat_len btC_len _) (by omega) (by show (2 * (_ + _) + 1000) * 1 ≤ 2 ^ 48; omega) (by omega)) rfl ?_
    rintro _ _ _ ⟨u3, hu3, rfl, rfl, rfl⟩
    refine WL.freezeOw (f := btC) (m := 1) btC_len [_] [_] (some u3) 5 (bookL h) rfl (by show owP w _ (contentL h ++ [_, _]).length 1; rw [List.length_append]; exact hu3) (by show _ = _ ++ owH (some u3) _ ((contentL h ++ [_, _]).flatMap btC) _; rw [List.flatMap_append]; rfl) (fun D2 hX2 hS2 => ?_)
    refine zya rfl rfl ?_
    refine WL.nil (WP.thenC (WC.ret ?_))
    refine WP.ret1 rfl rfl Tryz.results63 (RV.tmp rfl) (fun w1 hI => ⟨_, D2, rfl, hI.keep, hI.imm, hX2, _, _, _, rfl, bookL_len h ▸ hS2, hu3.2.1⟩)

end Go.Proofs.YtaebnllfmkcpgaaGreatDoor
namespace Go.Proofs.YtaebnllfmkcpgaaGreatDoor
open Go.W Go.Bk
theorem SA107 : StructAt Tryz.prog 107 [.int .i64 0, .int .i64 0] [(0, 1), (1, 1)] := ⟨⟨_, Tryz.zeroValue107, rfl⟩, _, Tryz.underlying107, fun w => by simp [Tryz.sizeOf3]⟩
def big (x : UInt8) : Bool := decide (251 ≤ x.toNat)
def idxB (l : Bs) : Int := if l.any big = true then (l.findIdx big : Int) else -1
theorem idxB_hit {l : Bs} {k : Nat} (hk : k < l.length) (h : (l.take k).any big = false) (hb : big (gt l k) = true) : idxB l = (k : Int) := by
  have e : gt l k = l[k] := by simp [gt, List.getD, hk]
  have h1 : l.any big = true := List.any_eq_true.2 ⟨gt l k, gtB_mem hk, hb⟩
  have h2 : l.findIdx big = k := (List.findIdx_eq hk).2 ⟨e ▸ hb, fun j hj => by
    have := List.any_eq_false.1 h l[j] (by rw [List.mem_take_iff_getElem]; exact ⟨j, by omega, rfl⟩)
    simpa using this⟩
  unfold idxB; rw [if_pos h1, h2]
theorem any_succ {l : Bs} {p : UInt8 → Bool} {k : Nat} (hk : k < l.length) : (l.take (k + 1)).any p = ((l.take k).any p || p (gt l k)) := by
  have e : gt l k = l[k] := by simp [gt, List.getD, hk]
  rw [List.take_succ_eq_append_getElem hk, List.any_append, e]; simp
theorem idxB_any (l : Bs) : decide (0 ≤ idxB l) = l.any big := by
  unfold idxB; split
  · rename_i h; rw [h]; simp
  · rename_i h; rw [Bool.not_eq_true] at h; rw [h]; rfl

theorem big_g (x : UInt8) (w : World) : Gives Tryz.prog 125 [bt x] w (.bool (big x)) := by
  unfold Gives
  refine enter Tryz.func125 rfl 5 Tryz.ntmps125 (zqb rfl) (Inv.start (D := fun _ => none) (by intro _ _ h; cases h)) ?_
  refine WC.seq (WC.ofFr [(0, _)] ⟨rfl, trivial⟩ (WC.region ?_))
  refine zya rfl rfl ?_
  refine WL.nil (WP.thenC (WC.seq (WC.ofFr [(2, _), (0, _)] ⟨rfl, rfl, trivial⟩ (WC.region ?_))))
  refine zym rfl rfl ?_
  refine WL.yd (Yd.geq rfl rfl) rfl ?_
  refine zya rfl rfl ?_
  refine WL.nil (WP.thenC (WC.ret ?_))
  refine WP.ret1 rfl rfl Tryz.results125 (RV.tmp rfl) (fun w hI => ⟨ret_bool (by unfold big; rw [Bool.eq_iff_iff]; simp; omega), hI.keep⟩)

theorem idxF_g (l : Bs) (a : Option Addr) (n c : Nat) (D : Imm) (hS : SlL D 1 (l.map btC) a n) (hn : n ≤ 2 ^ 40) (w : World) (hH : Holds D w) : Gives Tryz.prog 157 [.slice a n c, .func (.func 125) #[] #[]] w (it (idxB l)) := by
  unfold Gives
  obtain rfl : n = l.length := hS.len'
  refine enter Tryz.func157 rfl 19 Tryz.ntmps157 (zqb rfl) (Inv.start hH) ?_
  refine WC.seq (WC.ofFr [(0, _), (1, _)] ⟨rfl, rfl, trivial⟩ (WC.region ?_))
  refine zya rfl rfl ?_
  refine WL.nil (WP.thenC (WC.seq (WC.seq (WC.ofFr [(4, _), (0, _), (1, _)] ⟨rfl, rfl, rfl, trivial⟩ (WC.region ?_)))))
  refine zym rfl rfl ?_
  refine WL.yd (Yd.lenS rfl Tryz.underlying43 rfl) rfl ?_
  refine zym rfl rfl ?_
  refine WL.nil (WP.thenC (WC.block ?_))
  refine WC.loopF (fun k : Nat => [(0, .slice a l.length c), (1, .func (.func 125) #[] #[]), (6, .slice a l.length c), (7, nt l.length), (8, nt k)]) (fun k => k ≤ l.length ∧ (l.take k).any big = false) (fun k => l.length - k) 0 ⟨Nat.zero_le _, rfl⟩ ⟨rfl, rfl, rfl, rfl, rfl, trivial⟩ ?_
  rintro k ⟨hk, hany⟩
  refine WC.seq (WC.ofFr [(0, _), (1, _), (6, _), (7, _), (8, _)] ⟨rfl, rfl, rfl, rfl, rfl, trivial⟩ (WC.region ?_))
  refine WL.yd (Yd.lss rfl rfl) rfl ?_
  refine WL.nil (WP.thenC (WC.seq ?_))
  refine WC.cond rfl (fun c9 => ?_) (fun c9 => ?_)
  · try simp only [zq1, zq2, zq3, zq4, zq5, zq6, zq7, zq8] at c9
    have hkl : k < l.length := by omega
    refine WC.skip (WP.thenC (WC.seq (WC.block (WC.seq (WC.ofFr [(0, _), (1, _), (6, _), (7, _), (8, _)] ⟨rfl, rfl, rfl, rfl, rfl, trivial⟩ (WC.region ?_))))))
    refine zym rfl rfl ?_
    refine zya rfl rfl ?_
    refine WL.nil (WP.thenC (WC.seq (WC.ofFr [(5, _), (0, _), (1, _), (6, _), (7, _), (8, _)] ⟨rfl, rfl, rfl, rfl, rfl, rfl, trivial⟩ (WC.region ?_))))
    refine zym rfl rfl ?_
    refine zym rfl rfl ?_
    refine zym rfl rfl ?_
    refine WL.yd (Yd.indexS Tryz.underlying43 Tryz.sizeOf5 rfl rfl (by omega) (by omega) (by first | exact hS.addr k (by omega))) rfl ?_
    refine WL.yd (Yd.load1 Tryz.isAgg5 rfl ((hS.at k (by omega)).rd 0 rfl)) rfl ?_
    refine WL.so (SO.call (Enters.val Tryz.call125 rfl rfl) (fun w hI => big_g (gt l k) _)) rfl ?_
    rintro _ _ _ ⟨rfl, rfl, rfl⟩
    refine WL.nil (WP.thenC ?_)
    refine WC.cond rfl (fun c16 => ?_) (fun c16 => ?_)
    · try simp only [zq1, zq2, zq3, zq4, zq5, zq6, zq7, zq8] at c16
      refine WC.seq (WC.ofFr [(5, _), (0, _), (1, _), (6, _), (7, _), (8, _)] ⟨rfl, rfl, rfl, rfl, rfl, rfl, trivial⟩ (WC.region ?_))
      refine zym rfl rfl ?_
      refine zya rfl rfl ?_
      refine WL.nil (WP.thenC (WC.ret (WP.blkRet (WP.thenRet (WP.thenRet (WP.blkRet (WP.thenRet ?_)))))))
      refine WP.ret1 rfl rfl Tryz.results157 (RV.tmp rfl) (fun w hI => ⟨by rw [idxB_hit hkl hany c16], hI.keep⟩)
    · try simp only [zq1, zq2, zq3, zq4, zq5, zq6, zq7, zq8] at c16
      refine WC.skip (WP.blkNormal (WP.thenC (WC.ofFr [(0, _), (1, _), (6, _), (7, _), (8, _)] ⟨rfl, rfl, rfl, rfl, rfl, trivial⟩ (WC.region ?_))))
      refine WL.yd (Yd.add rfl rfl (wr64 ⟨by omega, by omega⟩)) rfl ?_
      refine zym rfl rfl ?_
      refine WL.nil ?_
      exact WP.againF (k + 1) ⟨hkl, by rw [any_succ hkl, hany, c16]; rfl⟩ (by omega) ⟨rfl, rfl, rfl, rfl, rfl, trivial⟩ (fun _ h => nomatch h) (fun _ => List.nodup_nil)
  · try simp only [zq1, zq2, zq3, zq4, zq5, zq6, zq7, zq8] at c9
    obtain rfl : k = l.length := by omega
    rw [List.take_length] at hany
    refine WC.exit ?_
    refine WP.thenExit ?_
    refine WP.thenExit ?_
    refine WP.blkHit ?_
    refine WP.thenC (WC.seq (WC.ofFr [] trivial (WC.region ?_)))
    refine zya rfl rfl ?_
    refine WL.nil (WP.thenC (WC.ret ?_))
    refine WP.ret1 rfl rfl Tryz.results157 (RV.tmp rfl) (fun w hI => ⟨by unfold idxB; rw [if_neg (by rw [hany]; simp)], hI.keep⟩)

theorem conF_g (l : Bs) (a : Option Addr) (n c : Nat) (D : Imm) (hS : SlL D 1 (l.map btC) a n) (hn : n ≤ 2 ^ 40) (w : World) (hH : Holds D w) : Gives Tryz.prog 124 [.slice a n c, .func (.func 125) #[] #[]] w (.bool (l.any big)) := by
  unfold Gives
  refine enter Tryz.func124 rfl 9 Tryz.ntmps124 (zqb rfl) (Inv.start hH) ?_
  refine WC.seq (WC.ofFr [(0, _), (1, _)] ⟨rfl, rfl, trivial⟩ (WC.region ?_))
  refine zya rfl rfl ?_
  refine WL.nil (WP.thenC (WC.seq (WC.ofFr [(4, _), (0, _), (1, _)] ⟨rfl, rfl, rfl, trivial⟩ (WC.region ?_))))
  refine zym rfl rfl ?_
  refine zym rfl rfl ?_
  refine WL.so (SO.callP Tryz.call157 rfl (fun w hI => idxF_g l a n c D hS hn _ hI.imm)) rfl ?_
  rintro _ _ _ ⟨rfl, rfl, rfl⟩
  refine WL.yd (Yd.geq rfl rfl) rfl ?_
  refine zya rfl rfl ?_
  refine WL.nil (WP.thenC (WC.ret ?_))
  refine WP.ret1 rfl rfl Tryz.results124 (RV.tmp rfl) (fun w hI => ⟨ret_bool (by first | exact idxB_any l | (rw [← idxB_any l]; rfl)), hI.keep⟩)

theorem openE_long {l : Bs} (h : 250 < l.length) : openE l = 3 := by unfold openE; rw [if_pos h]
theorem openE_ok {l : Bs} (h : l.length ≤ 250) (h2 : 2 ≤ l.length) (h3 : l.any big = false) : openE l = 0 := by
  unfold openE; rw [if_neg (by omega), if_pos ⟨h2, h3⟩]
theorem openE_form {l : Bs} (h : l.length ≤ 250) (h2 : 2 ≤ l.length → l.any big = true) : openE l = 8 := by
  unfold openE
  rw [if_neg (by omega), if_neg]
  rintro ⟨h3, h4⟩
  have : l.any big = false := h4
  rw [h2 h3] at this; cases this
theorem openE_zero {l : Bs} (h : openE l = 0) : l.length ≤ 250 ∧ 2 ≤ l.length ∧ l.any big = false := by
  unfold openE at h
  split at h
  · cases h
  · split at h
    · rename_i h1 h2; exact ⟨by omega, h2⟩
    · cases h
theorem body_sl {D : Imm} {l : Bs} {a : Option Addr} {n : Nat} (hS : SlL D 1 (l.map btC) a n) : SlL D 1 ((bodyL l).map btC) a (n - 2) := by
  have := hS.take (k := n - 2) (by omega)
  unfold bodyL
  rw [List.map_take, ← hS.len']; exact this

theorem open_ok (l : Bs) (a : Option Addr) (n c : Nat) (D : Imm) (hS : SlL D 1 (l.map btC) a n) (hn : n ≤ 2 ^ 40) (hc : n ≤ c) (h0 : openE l = 0) (w : World) (hH : Holds D w) : Gives Tryz.prog 65 [.slice a n c] w (.tuple #[.slice a (n - 2) c, .agg #[nt (tailN l).1, nt (tailN l).2]]) := by
  unfold Gives
  obtain rfl : n = l.length := hS.len'
  have ho := openE_zero h0
  refine enter Tryz.func65 rfl 36 Tryz.ntmps65 (zqb rfl) (Inv.start hH) ?_
  refine WC.seq (WC.ofFr [(0, _)] ⟨rfl, trivial⟩ (WC.region ?_))
  refine zya rfl rfl ?_
  refine WL.so (SO.alloc Tryz.zeroValue107 rfl) rfl ?_
  rintro _ _ _ ⟨b3, hb3, rfl, rfl, rfl⟩
  refine WL.nil (WP.thenC (WC.seq (WC.ofFr [(3, _), (2, _), (0, _)] ⟨rfl, rfl, rfl, trivial⟩ (WC.region ?_))))
  refine zym rfl rfl ?_
  refine WL.yd (Yd.lenS rfl Tryz.underlying43 rfl) rfl ?_
  refine WL.yd (Yd.leq rfl rfl) rfl ?_
  refine WL.know 7 (.bool true) rfl (congrArg Value.bool (decide_eq_true (by omega))) ?_
  refine WL.so (SO.call (Enters.func Tryz.call61 rfl) (fun w hI => must_ok _ _)) rfl ?_
  rintro _ _ _ ⟨rfl, rfl, rfl⟩
  refine WL.nil (WP.thenC (WC.seq (WC.ofFr [(3, _), (2, _), (0, _)] ⟨rfl, rfl, rfl, trivial⟩ (WC.region ?_))))
  refine zym rfl rfl ?_
  refine WL.yd (Yd.lenS rfl Tryz.underlying43 rfl) rfl ?_
  refine WL.yd (Yd.geq rfl rfl) rfl ?_
  refine WL.know 11 (.bool true) rfl (congrArg Value.bool (decide_eq_true (by omega))) ?_
  refine zym rfl rfl ?_
  refine WL.ydg rfl (Yd.move rfl) rfl ?_
  refine WL.sog rfl (SO.callP Tryz.call124 rfl (fun w hI => conF_g l a l.length c D hS hn _ hI.imm)) rfl ?_
  rintro _ _ _ ⟨rfl, rfl, rfl⟩
  refine WL.ydg rfl (Yd.not rfl) rfl ?_
  refine WL.know 15 (.bool true) rfl (by rw [ho.2.2]; rfl) ?_
  refine WL.yd (Yd.pickT rfl rfl) rfl ?_
  refine WL.so (SO.call (Enters.func Tryz.call61 rfl) (fun w hI => must_ok _ _)) rfl ?_
  rintro _ _ _ ⟨rfl, rfl, rfl⟩
  refine WL.nil (WP.thenC (WC.seq (WC.ofFr [(3, _), (2, _), (0, _)] ⟨rfl, rfl, rfl, trivial⟩ (WC.region ?_))))
  refine zym rfl rfl ?_
  refine WL.yd (Yd.lenS rfl Tryz.underlying43 rfl) rfl ?_
  refine WL.yd (Yd.sub rfl rfl (wr64 ⟨by omega, by omega⟩)) rfl ?_
  refine WL.know 20 (nt (l.length - 2)) rfl (by congr 1; omega) ?_
  refine zya rfl rfl ?_
  refine WL.nil (WP.thenC (WC.seq (WC.ofFr [(4, _), (3, _), (2, _), (0, _)] ⟨rfl, rfl, rfl, rfl, trivial⟩ ?_)))
  refine WC.drawO [] [(0, true), (1, true), (2, true), (3, true), (4, true), (5, true), (6, true), (7, true), (8, true), (9, true), (10, true), (11, true), (12, true), (13, true), (14, true), (15, true), (16, false)] (by kernel_rfl) (by kernel_rfl) (QuietPanic.then QuietPanic.body) (fun _ hI => Inv.nil hI) ?_
  have hb1 := (gt l (l.length - 2)).toNat_lt
  have hb2 := (gt l (l.length - 1)).toNat_lt
  refine WA.yd rfl (Yd.move rfl) rfl ?_
  refine WA.yd rfl (Yd.move rfl) rfl ?_
  refine WA.yd rfl (Yd.sliceTo Tryz.underlying43 Tryz.sizeOf5 rfl rfl (by omega)) rfl ?_
  refine WA.yd rfl (Yd.move rfl) rfl ?_
  refine WA.yd rfl (Yd.move rfl) rfl ?_
  refine WA.yd rfl (Yd.indexS Tryz.underlying43 Tryz.sizeOf5 rfl rfl (by omega) (by omega) (by first | exact hS.addr (l.length - 2) (by omega) | exact hS.addr (l.length - 1) (by omega))) rfl ?_
  refine WA.yd rfl (Yd.load1 Tryz.isAgg5 rfl (by first | exact ((hS.at (l.length - 2) (by omega)).rd 0 rfl) | exact ((hS.at (l.length - 1) (by omega)).rd 0 rfl))) rfl ?_
  refine WA.yd rfl (Yd.conv Tryz.underlying5 Tryz.underlying3 rfl (wr64 ⟨by omega, by omega⟩)) rfl ?_
  refine WA.yd rfl (Yd.move rfl) rfl ?_
  refine WA.yd rfl (Yd.move rfl) rfl ?_
  refine WA.yd rfl (Yd.add rfl rfl (wr64 ⟨by omega, by omega⟩)) rfl ?_
  refine WA.know 31 (nt (l.length - 1)) rfl (by congr 1; omega) ?_
  refine WA.yd rfl (Yd.indexS Tryz.underlying43 Tryz.sizeOf5 rfl rfl (by omega) (by omega) (by first | exact hS.addr (l.length - 2) (by omega) | exact hS.addr (l.length - 1) (by omega))) rfl ?_
  refine WA.yd rfl (Yd.load1 Tryz.isAgg5 rfl (by first | exact ((hS.at (l.length - 2) (by omega)).rd 0 rfl) | exact ((hS.at (l.length - 1) (by omega)).rd 0 rfl))) rfl ?_
  refine WA.yd rfl (Yd.conv Tryz.underlying5 Tryz.underlying3 rfl (wr64 ⟨by omega, by omega⟩)) rfl ?_
  refine WA.yd rfl (Yd.build SA107 rfl (cs := [_, _]) rfl) rfl ?_
  refine WA.yd rfl (Yd.assign rfl) rfl ?_
  refine WA.so rfl (SO.store 0 rfl Tryz.sizeOf107 rfl rfl rfl rfl (zqb rfl) (oneB_spec rfl)) rfl ?_
  rintro _ _ _ ⟨rfl, rfl, rfl⟩
  refine ⟨fun _ hI => Inv.nil hI, ?_⟩
  refine WA.nil (WP.thenC (WC.ret ?_))
  refine WP.ret2 rfl rfl Tryz.results65 (RV.tmp rfl) (RV.cellN Tryz.isAgg107 Tryz.sizeOf107 rfl (vs := [_, _]) rfl (by first | exact rn0 (n := 2) rfl rfl)) (fun w hI => ⟨rfl, hI.keep⟩)

theorem open_no (l : Bs) (a : Option Addr) (n c : Nat) (D : Imm) (hS : SlL D 1 (l.map btC) a n) (hn : n ≤ 2 ^ 40) (hc : n ≤ c) (h0 : openE l ≠ 0) (w : World) (hH : Holds D w) : Fails Tryz.prog 65 [.slice a n c] w (stopB (openE l)) := by
  unfold Fails
  obtain rfl : n = l.length := hS.len'
  refine enter Tryz.func65 rfl 36 Tryz.ntmps65 (zqb rfl) (Inv.start hH) ?_
  refine WC.seq (WC.ofFr [(0, _)] ⟨rfl, trivial⟩ (WC.region ?_))
  refine zya rfl rfl ?_
  refine WL.so (SO.alloc Tryz.zeroValue107 rfl) rfl ?_
  rintro _ _ _ ⟨b3, hb3, rfl, rfl, rfl⟩
  refine WL.nil (WP.thenC (WC.seq (WC.ofFr [(3, _), (2, _), (0, _)] ⟨rfl, rfl, rfl, trivial⟩ (WC.region ?_))))
  refine zym rfl rfl ?_
  refine WL.yd (Yd.lenS rfl Tryz.underlying43 rfl) rfl ?_
  refine WL.yd (Yd.leq rfl rfl) rfl ?_
  refine WL.part 7 rfl (fun g7 => ?_) (fun g7 => ?_)
  · try simp only [zq1, zq2, zq3, zq4, zq5, zq6, zq7, zq8] at g7
    refine WL.so (SO.call (Enters.func Tryz.call61 rfl) (fun w hI => must_ok _ _)) rfl ?_
    rintro _ _ _ ⟨rfl, rfl, rfl⟩
    refine WL.nil (WP.thenC (WC.seq (WC.ofFr [(3, _), (2, _), (0, _)] ⟨rfl, rfl, rfl, trivial⟩ (WC.region ?_))))
    refine zym rfl rfl ?_
    refine WL.yd (Yd.lenS rfl Tryz.underlying43 rfl) rfl ?_
    refine WL.yd (Yd.geq rfl rfl) rfl ?_
    refine zym rfl rfl ?_
    refine WL.part 12 rfl (fun g12 => ?_) (fun g12 => ?_)
    · try simp only [zq1, zq2, zq3, zq4, zq5, zq6, zq7, zq8] at g12
      refine WL.ydg rfl (Yd.move rfl) rfl ?_
      refine WL.sog rfl (SO.callP Tryz.call124 rfl (fun w hI => conF_g l a l.length c D hS hn _ hI.imm)) rfl ?_
      rintro _ _ _ ⟨rfl, rfl, rfl⟩
      refine WL.ydg rfl (Yd.not rfl) rfl ?_
      refine WL.yd (Yd.pickT rfl rfl) rfl ?_
      refine WL.part 16 rfl (fun g16 => ?_) (fun g16 => ?_)
      · try simp only [zq1, zq2, zq3, zq4, zq5, zq6, zq7, zq8] at g16
        exact absurd (openE_ok (l := l) (by omega) (by omega) (by simpa using g16)) h0
        skip
      · try simp only [zq1, zq2, zq3, zq4, zq5, zq6, zq7, zq8] at g16
        refine WL.no (SO.fail (Enters.func Tryz.call61 rfl) (fun w hI => must_no _ _) ?_)
        refine WP.thenPanic ?_
        refine WP.panicBody rfl (fun w hI => ⟨by rw [openE_form (l := l) (by omega) (fun h => by first | (simpa using g16) | omega)], hI.keep⟩)
    · try simp only [zq1, zq2, zq3, zq4, zq5, zq6, zq7, zq8] at g12
      refine WL.skip rfl rfl ?_
      refine WL.skip rfl rfl ?_
      refine WL.skip rfl rfl ?_
      refine WL.yd (Yd.pickF rfl rfl) rfl ?_
      refine WL.no (SO.fail (Enters.func Tryz.call61 rfl) (fun w hI => must_no _ _) ?_)
      refine WP.thenPanic ?_
      refine WP.panicBody rfl (fun w hI => ⟨by rw [openE_form (l := l) (by omega) (fun h => by first | (simpa using g16) | omega)], hI.keep⟩)
  · try simp only [zq1, zq2, zq3, zq4, zq5, zq6, zq7, zq8] at g7
    refine WL.no (SO.fail (Enters.func Tryz.call61 rfl) (fun w hI => must_no _ _) ?_)
    refine WP.thenPanic ?_
    refine WP.panicBody rfl (fun w hI => ⟨by rw [openE_long (by omega)], hI.keep⟩)

end Go.Proofs.YtaebnllfmkcpgaaGreatDoor
namespace Go.Proofs.YtaebnllfmkcpgaaGreatDoor
open Go.W Go.Bk

theorem val_g (x : UInt8) (w : World) : Gives Tryz.prog 126 [bt x] w (nt (x.toNat % 125)) := by
  unfold Gives
  refine enter Tryz.func126 rfl 6 Tryz.ntmps126 (zqb rfl) (Inv.start (D := fun _ => none) (by intro _ _ h; cases h)) ?_
  refine WC.seq (WC.ofFr [(0, _)] ⟨rfl, trivial⟩ (WC.region ?_))
  refine zya rfl rfl ?_
  refine WL.nil (WP.thenC (WC.seq (WC.ofFr [(2, _), (0, _)] ⟨rfl, rfl, trivial⟩ (WC.region ?_))))
  refine zym rfl rfl ?_
  refine WL.yd (Yd.conv Tryz.underlying190 Tryz.underlying3 rfl (wr64 ⟨by omega, by have := x.toNat_lt; omega⟩)) rfl ?_
  refine WL.yd (Yd.rem rfl rfl (by first | omega | (have := x.toNat_lt; omega)) (by first | omega | (have := x.toNat_lt; omega))) rfl ?_
  refine zya rfl rfl ?_
  refine WL.nil (WP.thenC (WC.ret ?_))
  refine WP.ret1 rfl rfl Tryz.results126 (RV.tmp rfl) (fun w hI => ⟨by rfl, hI.keep⟩)

theorem last_g (x : UInt8) (w : World) : Gives Tryz.prog 127 [bt x] w (.bool (decide (125 ≤ x.toNat))) := by
  unfold Gives
  refine enter Tryz.func127 rfl 5 Tryz.ntmps127 (zqb rfl) (Inv.start (D := fun _ => none) (by intro _ _ h; cases h)) ?_
  refine WC.seq (WC.ofFr [(0, _)] ⟨rfl, trivial⟩ (WC.region ?_))
  refine zya rfl rfl ?_
  refine WL.nil (WP.thenC (WC.seq (WC.ofFr [(2, _), (0, _)] ⟨rfl, rfl, trivial⟩ (WC.region ?_))))
  refine zym rfl rfl ?_
  refine WL.yd (Yd.geq rfl rfl) rfl ?_
  refine zya rfl rfl ?_
  refine WL.nil (WP.thenC (WC.ret ?_))
  refine WP.ret1 rfl rfl Tryz.results127 (RV.tmp rfl) (fun w hI => ⟨ret_bool (by rw [Bool.eq_iff_iff]; simp; omega), hI.keep⟩)

theorem numbers_g (l : Bs) (a : Option Addr) (n c : Nat) (D : Imm) (hS : SlL D 1 (l.map btC) a n) (hn : n ≤ 2 ^ 19) (w : World) (hH : Holds D w) : Try2 67 [.slice a n c] w D (numsP 0 0 [] l) (fun out v D' => ∃ a n c, v = .slice a n c ∧ SlL D' 1 (out.map ntC) a n ∧ out.length ≤ l.length) := by
  unfold Try2
  obtain rfl : n = l.length := hS.len'
  refine enter Tryz.func67 rfl 42 Tryz.ntmps67 (zqb rfl) (Inv.start hH) ?_
  refine WC.seq (WC.ofFr [(0, _)] ⟨rfl, trivial⟩ (WC.region ?_))
  refine zya rfl rfl ?_
  refine WL.nil (WP.thenC ?_)
  refine WC.scope ?_
  refine WC.seq (WC.ofFr [(2, _), (0, _)] ⟨rfl, rfl, trivial⟩ (WC.region ?_))
  refine zya rfl rfl ?_
  refine zya rfl rfl ?_
  refine WL.nil (WP.thenC (WC.seq (WC.ofFr [(4, _), (3, _), (2, _), (0, _)] ⟨rfl, rfl, rfl, rfl, trivial⟩ (WC.region ?_))))
  refine zya rfl rfl ?_
  refine WL.nil (WP.thenC (WC.seq ?_))
  refine WC.label ?_
  refine WP.thenC (WC.seq (WC.seq (WC.ofFr [(5, _), (4, _), (3, _), (2, _), (0, _)] ⟨rfl, rfl, rfl, rfl, rfl, trivial⟩ (WC.region ?_))))
  refine zym rfl rfl ?_
  refine WL.yd (Yd.lenS rfl Tryz.underlying43 rfl) rfl ?_
  refine zym rfl rfl ?_
  refine WL.nil (WP.thenC (WC.block ?_))
  refine WC.loopT [] (fun y : Nat × Nat × Nat × List Nat × Option Ow => [(2, owV y.2.2.2.2 y.2.2.2.1.length), (3, nt y.2.1), (4, nt y.2.2.1), (5, .func (.func 126) #[] #[]), (10, .slice a l.length c), (11, nt l.length), (12, nt y.1)]) (fun y => owH y.2.2.2.2 3 (y.2.2.2.1.flatMap ntC) []) (fun y => y.1 ≤ l.length ∧ y.2.2.1 ≤ 3 ∧ (y.2.2.1 = 0 → y.2.1 = 0) ∧ (y.2.2.1 ≤ 1 → y.2.1 ≤ 124) ∧ (y.2.2.1 ≤ 2 → y.2.1 ≤ 15624) ∧ y.2.1 ≤ 1953124 ∧ numsP y.2.1 y.2.2.1 y.2.2.2.1 (l.drop y.1) = numsP 0 0 [] l ∧ owP w y.2.2.2.2 y.2.2.2.1.length 1 ∧ y.2.2.2.1.length ≤ y.1) (fun y => l.length - y.1) (0, 0, 0, [], none) ⟨Nat.zero_le _, Nat.zero_le _, fun _ => rfl, fun _ => Nat.zero_le _, fun _ => Nat.zero_le _, Nat.zero_le _, rfl, rfl, Nat.le_refl _⟩ rfl ⟨rfl, rfl, rfl, rfl, rfl, rfl, rfl, trivial⟩ ?_
  rintro ⟨k, n1, many, out, o⟩ ⟨hk, hm3, hm0, hm1, hm2, hm4, hF, ho, hok⟩
  dsimp only at hk hm3 hm0 hm1 hm2 hm4 hF ho hok
  refine WC.seq (WC.ofFr [(2, _), (3, _), (4, _), (5, _), (10, _), (11, _), (12, _)] ⟨rfl, rfl, rfl, rfl, rfl, rfl, rfl, trivial⟩ (WC.region ?_))
  refine WL.yd (Yd.lss rfl rfl) rfl ?_
  refine WL.nil (WP.thenC (WC.seq ?_))
  refine WC.cond rfl (fun c13 => ?_) (fun c13 => ?_)
  · try simp only [zq1, zq2, zq3, zq4, zq5, zq6, zq7, zq8] at c13
    have hkl : k < l.length := by omega
    have hb8 := (gt l k).toNat_lt
    refine WC.skip (WP.thenC (WC.seq (WC.block (WC.seq (WC.ofFr [(2, _), (3, _), (4, _), (5, _), (10, _), (11, _), (12, _)] ⟨rfl, rfl, rfl, rfl, rfl, rfl, rfl, trivial⟩ (WC.region ?_))))))
    refine WL.yd (Yd.indexS Tryz.underlying43 Tryz.sizeOf5 rfl rfl (by (try dsimp only); omega) (by (try dsimp only); omega) (by first | exact hS.addr k (by omega))) rfl ?_
    refine WL.yd (Yd.load1 Tryz.isAgg5 rfl ((hS.at k (by omega)).rd 0 rfl)) rfl ?_
    refine zya rfl rfl ?_
    refine WL.nil (WP.thenC (WC.seq (WC.ofFr [(7, _), (2, _), (3, _), (4, _), (5, _), (10, _), (11, _), (12, _)] ⟨rfl, rfl, rfl, rfl, rfl, rfl, rfl, rfl, trivial⟩ (WC.region ?_))))
    refine zym rfl rfl ?_
    refine zya rfl rfl ?_
    refine WL.nil (WP.thenC (WC.seq (WC.ofFr [(8, _), (2, _), (3, _), (4, _), (5, _), (10, _), (11, _), (12, _)] ⟨rfl, rfl, rfl, rfl, rfl, rfl, rfl, rfl, trivial⟩ (WC.region ?_))))
    refine zym rfl rfl ?_
    refine WL.yd (Yd.func rfl rfl) rfl ?_
    refine zya rfl rfl ?_
    refine WL.nil (WP.thenC (WC.seq (WC.ofFr [(9, _), (8, _), (2, _), (3, _), (4, _), (5, _), (10, _), (11, _), (12, _)] ⟨rfl, rfl, rfl, rfl, rfl, rfl, rfl, rfl, rfl, trivial⟩ (WC.region ?_))))
    refine zym rfl rfl ?_
    refine WL.yd (Yd.lss rfl rfl) rfl ?_
    refine WL.part 20 rfl (fun g20 => ?_) (fun g20 => ?_)
    · try simp only [zq1, zq2, zq3, zq4, zq5, zq6, zq7, zq8] at g20
      refine WL.so (SO.call (Enters.func Tryz.call61 rfl) (fun w hI => must_ok _ _)) rfl ?_
      rintro _ _ _ ⟨rfl, rfl, rfl⟩
      refine WL.nil (WP.thenC (WC.seq (WC.ofFr [(9, _), (8, _), (2, _), (3, _), (4, _), (5, _), (10, _), (11, _), (12, _)] ⟨rfl, rfl, rfl, rfl, rfl, rfl, rfl, rfl, rfl, trivial⟩ (WC.region ?_))))
      refine zym rfl rfl ?_
      refine WL.yd (Yd.mul rfl rfl (wr64 ⟨by (try dsimp only); omega, by (try dsimp only); omega⟩)) rfl ?_
      refine zym rfl rfl ?_
      refine zym rfl rfl ?_
      refine WL.so (SO.call (Enters.val Tryz.call126 rfl rfl) (fun w hI => val_g (gt l k) _)) rfl ?_
      rintro _ _ _ ⟨rfl, rfl, rfl⟩
      refine WL.yd (Yd.add rfl rfl (wr64 ⟨by (try dsimp only); omega, by (try dsimp only); omega⟩)) rfl ?_
      refine WL.know 27 (nt (125 * n1 + (gt l k).toNat % 125)) rfl (by congr 1) ?_
      refine zym rfl rfl ?_
      refine WL.yd (Yd.add rfl rfl (wr64 ⟨by (try dsimp only); omega, by (try dsimp only); omega⟩)) rfl ?_
      refine zya rfl rfl ?_
      refine zya rfl rfl ?_
      refine WL.nil (WP.thenC (WC.seq (WC.seq (WC.ofFr [(4, _), (3, _), (9, _), (2, _), (5, _), (10, _), (11, _), (12, _)] ⟨rfl, rfl, rfl, rfl, rfl, rfl, rfl, rfl, trivial⟩ (WC.region ?_)))))
      refine zym rfl rfl ?_
      refine WL.so (SO.call (Enters.val Tryz.call127 rfl rfl) (fun w hI => last_g (gt l k) _)) rfl ?_
      rintro _ _ _ ⟨rfl, rfl, rfl⟩
      refine WL.yd (Yd.not rfl) rfl ?_
      refine WL.nil (WP.thenC ?_)
      refine WC.cond rfl (fun c32 => ?_) (fun c32 => ?_)
      · try simp only [zq1, zq2, zq3, zq4, zq5, zq6, zq7, zq8] at c32
        refine WC.exit ?_
        refine WP.thenExit ?_
        refine WP.blkHit ?_
        refine WP.thenC (WC.ofFr [(4, _), (3, _), (2, _), (5, _), (10, _), (11, _), (12, _)] ⟨rfl, rfl, rfl, rfl, rfl, rfl, rfl, trivial⟩ (WC.region ?_))
        refine WL.yd (Yd.add rfl rfl (wr64 ⟨by (try dsimp only); omega, by (try dsimp only); omega⟩)) rfl ?_
        refine zym rfl rfl ?_
        refine WL.nil ?_
        exact WP.againT (k + 1, (125 * n1 + (gt l k).toNat % 125), many + 1, out, o) ⟨hkl, by dsimp only; omega, fun h => by dsimp only at h ⊢; omega, fun h => by dsimp only at h ⊢; omega, fun h => by dsimp only at h ⊢; omega, by dsimp only; omega, by rw [drop_gt hkl, numsP, if_pos (by omega), if_neg (by omega)] at hF; exact hF, ho, by dsimp only; omega⟩ (by dsimp only; omega) [] _ rfl rfl ⟨rfl, rfl, rfl, rfl, rfl, rfl, rfl, trivial⟩
      · try simp only [zq1, zq2, zq3, zq4, zq5, zq6, zq7, zq8] at c32
        refine WC.skip (WP.thenC (WC.seq (WC.ofFr [(4, _), (3, _), (2, _), (5, _), (10, _), (11, _), (12, _)] ⟨rfl, rfl, rfl, rfl, rfl, rfl, rfl, trivial⟩ (WC.region ?_))))
        refine zym rfl rfl ?_
        refine zym rfl rfl ?_
        refine WL.so (SO.buildSlice1 Tryz.underlying111 Tryz.sizeOf3 Tryz.zeroValue3 rfl rfl rfl (vs := [_]) rfl rfl rfl) rfl ?_
        rintro _ _ _ ⟨b35, hb35, rfl, rfl, rfl⟩
        refine WL.so (SO.appendOw (o := o) (len := out.length) (n := 1) (xs := (out.flatMap ntC)) (size := 1) [_] [] [] rfl rfl Tryz.underlying111 Tryz.sizeOf3 Tryz.typeInfo3 Tryz.zeroValue3 rfl rfl rfl rfl ⟨rfl, .inr ⟨_, _, _, rfl, RdN.own (k := 0) (n := 1) rfl rfl⟩⟩ (oneB_spec rfl) ho (flat_len ntC_len _) (by omega) (by show (2 * (_ + _) + 1000) * 8 ≤ 2 ^ 48; omega) (by omega)) rfl ?_
        rintro _ _ _ ⟨u1, hu1, rfl, rfl, rfl⟩
        refine zya rfl rfl ?_
        refine WL.nil (WP.thenC (WC.ofFr [(2, _), (4, _), (3, _), (5, _), (10, _), (11, _), (12, _)] ⟨rfl, rfl, rfl, rfl, rfl, rfl, rfl, trivial⟩ (WC.region ?_)))
        refine zya rfl rfl ?_
        refine zya rfl rfl ?_
        refine WL.nil (WP.blkNormal (WP.thenC (WC.ofFr [(4, _), (3, _), (2, _), (5, _), (10, _), (11, _), (12, _)] ⟨rfl, rfl, rfl, rfl, rfl, rfl, rfl, trivial⟩ (WC.region ?_))))
        refine WL.yd (Yd.add rfl rfl (wr64 ⟨by (try dsimp only); omega, by (try dsimp only); omega⟩)) rfl ?_
        refine zym rfl rfl ?_
        refine WL.nil ?_
        exact WP.againT (k + 1, 0, 0, out ++ [(125 * n1 + (gt l k).toNat % 125)], some u1) ⟨hkl, by dsimp only; omega, fun _ => rfl, fun _ => Nat.zero_le _, fun _ => Nat.zero_le _, Nat.zero_le _, by rw [drop_gt hkl, numsP, if_pos (by omega), if_pos (by omega)] at hF; exact hF, by simpa using hu1, by simp; omega⟩ (by dsimp only; omega) [] _ rfl (by show _ = _ ++ owH (some u1) _ ((out ++ [_]).flatMap ntC) []; rw [List.flatMap_append]; rfl) ⟨by show _ = some (owV (some u1) (out ++ [_]).length); rw [List.length_append]; rfl, rfl, rfl, rfl, rfl, rfl, rfl, trivial⟩
    · try simp only [zq1, zq2, zq3, zq4, zq5, zq6, zq7, zq8] at g20
      refine WL.no (SO.fail (Enters.func Tryz.call61 rfl) (fun w hI => must_no _ _) ?_)
      refine WP.thenPanic ?_
      refine WP.blkPanic ?_
      refine WP.thenPanic ?_
      refine WP.thenPanic ?_
      refine WP.blkPanic ?_
      refine WP.thenPanic ?_
      refine WP.scPanic ?_
      refine WP.panicBody rfl (fun w hI => .inr ⟨by rw [drop_gt hkl, numsP, if_neg (by omega)] at hF; exact hF.symm, rfl, hI.keep⟩)
  · try simp only [zq1, zq2, zq3, zq4, zq5, zq6, zq7, zq8] at c13
    obtain rfl : k = l.length := by omega
    refine WC.exit ?_
    refine WP.thenExit ?_
    refine WP.thenExit ?_
    refine WP.blkHit ?_
    refine WP.thenC (WC.seq (WC.ofFr [(2, _), (4, _)] ⟨rfl, rfl, trivial⟩ (WC.region ?_)))
    refine zym rfl rfl ?_
    refine WL.yd (Yd.eql rfl rfl) rfl ?_
    refine WL.part 39 rfl (fun g39 => ?_) (fun g39 => ?_)
    · try simp only [zq1, zq2, zq3, zq4, zq5, zq6, zq7, zq8] at g39
      refine WL.so (SO.call (Enters.func Tryz.call61 rfl) (fun w hI => must_ok _ _)) rfl ?_
      rintro _ _ _ ⟨rfl, rfl, rfl⟩
      refine WL.nil (WP.thenC (WC.seq (WC.ofFr [(2, _)] ⟨rfl, trivial⟩ (WC.region ?_))))
      have hfin : numsP 0 0 [] l = some out := by rw [List.drop_length, numsP, if_pos (by omega)] at hF; exact hF.symm
      refine WL.freezeOw (f := ntC) (m := 1) ntC_len [] [] o 3 out rfl ho rfl (fun D2 hX2 hS2 => ?_)
      refine zym rfl rfl ?_
      refine zya rfl rfl ?_
      refine WL.nil (WP.thenC (WC.ret ?_))
      refine WP.scRet ?_
      refine WP.ret1 rfl rfl Tryz.results67 (RV.tmp rfl) (fun w1 hI => .inl ⟨out, _, D2, hfin, rfl, hI.keep, hI.imm, hX2, owAt o, _, _, owV_owL (owL_of ho), hS2, hok⟩)
    · try simp only [zq1, zq2, zq3, zq4, zq5, zq6, zq7, zq8] at g39
      refine WL.no (SO.fail (Enters.func Tryz.call61 rfl) (fun w hI => must_no _ _) ?_)
      refine WP.thenPanic ?_
      refine WP.scPanic ?_
      refine WP.panicBody rfl (fun w hI => .inr ⟨by rw [List.drop_length, numsP, if_neg (by omega)] at hF; exact hF.symm, rfl, hI.keep⟩)

theorem quoN_hit {a b k : Nat} (hk : k < 251) (h : ∀ j, j < k → j * b % 251 ≠ a) (hh : k * b % 251 = a) : quoN a b = k := by
  have : (List.range 251).find? (fun q => q * b % 251 == a) = some k := by
    rw [List.find?_range_eq_some]
    exact ⟨by simpa using hh, List.mem_range.2 hk, fun j hj => by simpa using h j hj⟩
  unfold quoN; rw [this]; rfl
theorem quoN_none {a b : Nat} (h : ∀ j, j < 251 → j * b % 251 ≠ a) : quoN a b = 0 := by
  have : (List.range 251).find? (fun q => q * b % 251 == a) = none := by
    rw [List.find?_range_eq_none]
    intro j hj; simpa using h j hj
  unfold quoN; rw [this]; rfl

theorem quo_g (a b : Nat) (ha : a < 251) (hb : b < 251) (w : World) : Gives Tryz.prog 72 [nt a, nt b] w (nt (quoN a b)) := by
  unfold Gives
  refine enter Tryz.func72 rfl 17 Tryz.ntmps72 (zqb rfl) (Inv.start (D := fun _ => none) (by intro _ _ h; cases h)) ?_
  refine WC.seq (WC.ofFr [(0, _), (1, _)] ⟨rfl, rfl, trivial⟩ (WC.region ?_))
  refine zya rfl rfl ?_
  refine WL.nil (WP.thenC (WC.seq (WC.seq (WC.ofFr [(4, _), (0, _), (1, _)] ⟨rfl, rfl, rfl, trivial⟩ (WC.region ?_)))))
  refine zym rfl rfl ?_
  refine WL.nil (WP.thenC (WC.block ?_))
  refine WC.loopF (fun k : Nat => [(0, nt a), (1, nt b), (6, nt k)]) (fun k => k ≤ 251 ∧ ∀ j, j < k → j * b % 251 ≠ a) (fun k => 251 - k) 0 ⟨Nat.zero_le _, fun _ h => absurd h (Nat.not_lt_zero _)⟩ ⟨rfl, rfl, rfl, trivial⟩ ?_
  rintro k ⟨hk, hF⟩
  refine WC.seq (WC.ofFr [(0, _), (1, _), (6, _)] ⟨rfl, rfl, rfl, trivial⟩ (WC.region ?_))
  refine WL.yd (Yd.lss rfl rfl) rfl ?_
  refine WL.nil (WP.thenC (WC.seq ?_))
  refine WC.cond rfl (fun c7 => ?_) (fun c7 => ?_)
  · try simp only [zq1, zq2, zq3, zq4, zq5, zq6, zq7, zq8] at c7
    have hkl : k < 251 := by omega
    refine WC.skip (WP.thenC (WC.seq (WC.block (WC.seq (WC.ofFr [(0, _), (1, _), (6, _)] ⟨rfl, rfl, rfl, trivial⟩ (WC.region ?_))))))
    refine zym rfl rfl ?_
    refine zya rfl rfl ?_
    refine WL.nil (WP.thenC (WC.seq (WC.ofFr [(5, _), (0, _), (1, _), (6, _)] ⟨rfl, rfl, rfl, rfl, trivial⟩ (WC.region ?_))))
    refine zym rfl rfl ?_
    refine zym rfl rfl ?_
    have hkb : k * b ≤ 250 * 250 := Nat.mul_le_mul (by omega) (by omega)
    have hkz : (k : Int) * (b : Int) = ((k * b : Nat) : Int) := by simp
    refine WL.yd (Yd.mul rfl rfl (wr64 ⟨by (try dsimp only); omega, by (try dsimp only); omega⟩)) rfl ?_
    refine WL.know 11 (nt (k * b)) rfl (by congr 1) ?_
    refine WL.yd (Yd.rem rfl rfl (by (try dsimp only); omega) (by (try dsimp only); omega)) rfl ?_
    refine zym rfl rfl ?_
    refine WL.yd (Yd.eql rfl rfl) rfl ?_
    refine WL.nil (WP.thenC ?_)
    refine WC.cond rfl (fun c14 => ?_) (fun c14 => ?_)
    · try simp only [zq1, zq2, zq3, zq4, zq5, zq6, zq7, zq8] at c14
      refine WC.seq (WC.ofFr [(5, _), (0, _), (1, _), (6, _)] ⟨rfl, rfl, rfl, rfl, trivial⟩ (WC.region ?_))
      refine zym rfl rfl ?_
      refine zya rfl rfl ?_
      refine WL.nil (WP.thenC (WC.ret (WP.blkRet (WP.thenRet (WP.thenRet (WP.blkRet (WP.thenRet ?_)))))))
      refine WP.ret1 rfl rfl Tryz.results72 (RV.tmp rfl) (fun w hI => ⟨by rw [quoN_hit hkl hF (by omega)], hI.keep⟩)
    · try simp only [zq1, zq2, zq3, zq4, zq5, zq6, zq7, zq8] at c14
      refine WC.skip (WP.blkNormal (WP.thenC (WC.ofFr [(0, _), (1, _), (6, _)] ⟨rfl, rfl, rfl, trivial⟩ (WC.region ?_))))
      refine WL.yd (Yd.add rfl rfl (wr64 ⟨by (try dsimp only); omega, by (try dsimp only); omega⟩)) rfl ?_
      refine zym rfl rfl ?_
      refine WL.nil ?_
      exact WP.againF (k + 1) ⟨by omega, fun j hj => by rcases Nat.lt_or_ge j k with h | h; exact hF j h; obtain rfl : j = k := (by omega); omega⟩ (by omega) ⟨rfl, rfl, rfl, trivial⟩ (fun _ h => nomatch h) (fun _ => List.nodup_nil)
  · try simp only [zq1, zq2, zq3, zq4, zq5, zq6, zq7, zq8] at c7
    obtain rfl : k = 251 := by omega
    refine WC.exit ?_
    refine WP.thenExit ?_
    refine WP.thenExit ?_
    refine WP.blkHit ?_
    refine WP.thenC (WC.seq (WC.ofFr [] trivial (WC.region ?_)))
    refine zya rfl rfl ?_
    refine WL.nil (WP.thenC (WC.ret ?_))
    refine WP.ret1 rfl rfl Tryz.results72 (RV.tmp rfl) (fun w hI => ⟨by rw [quoN_none hF]; rfl, hI.keep⟩)

theorem eq_of_takes {l1 l2 : Bs} (h : l1.length = l2.length) (h2 : l1.take l1.length = l2.take l1.length) : l1 = l2 := by
  rw [List.take_length, List.take_of_length_le (by omega)] at h2; exact h2
theorem take_eq_succ {l1 l2 : Bs} {k : Nat} (h1 : k < l1.length) (h2 : k < l2.length) (h : l1.take k = l2.take k) (hg : gt l1 k = gt l2 k) : l1.take (k + 1) = l2.take (k + 1) := by
  have e1 : gt l1 k = l1[k] := by simp [gt, List.getD, h1]
  have e2 : gt l2 k = l2[k] := by simp [gt, List.getD, h2]
  rw [List.take_succ_eq_append_getElem h1, List.take_succ_eq_append_getElem h2, h, ← e1, ← e2, hg]

theorem equal_g (l1 l2 : Bs) (a1 a2 : Option Addr) (n1 n2 c1 c2 : Nat) (D : Imm) (hS1 : SlL D 1 (l1.map btC) a1 n1) (hS2 : SlL D 1 (l2.map btC) a2 n2) (hn : n1 ≤ 2 ^ 40) (w : World) (hH : Holds D w) : Gives Tryz.prog 68 [.slice a1 n1 c1, .slice a2 n2 c2] w (.bool (decide (l1 = l2))) := by
  unfold Gives
  obtain rfl : n1 = l1.length := hS1.len'
  obtain rfl : n2 = l2.length := hS2.len'
  refine enter Tryz.func68 rfl 26 Tryz.ntmps68 (zqb rfl) (Inv.start hH) ?_
  refine WC.seq (WC.ofFr [(0, _), (1, _)] ⟨rfl, rfl, trivial⟩ (WC.region ?_))
  refine zya rfl rfl ?_
  refine WL.nil (WP.thenC (WC.seq (WC.seq (WC.ofFr [(4, _), (0, _), (1, _)] ⟨rfl, rfl, rfl, trivial⟩ (WC.region ?_)))))
  refine zym rfl rfl ?_
  refine WL.yd (Yd.lenS rfl Tryz.underlying43 rfl) rfl ?_
  refine zym rfl rfl ?_
  refine WL.yd (Yd.lenS rfl Tryz.underlying43 rfl) rfl ?_
  refine WL.yd (Yd.neq rfl rfl) rfl ?_
  refine WL.nil (WP.thenC ?_)
  refine WC.cond rfl (fun c10 => ?_) (fun c10 => ?_)
  · try simp only [zq1, zq2, zq3, zq4, zq5, zq6, zq7, zq8] at c10
    refine WC.seq (WC.ofFr [(4, _), (0, _), (1, _)] ⟨rfl, rfl, rfl, trivial⟩ (WC.region ?_))
    refine zya rfl rfl ?_
    refine WL.nil (WP.thenC (WC.ret (WP.thenRet ?_)))
    refine WP.ret1 rfl rfl Tryz.results68 (RV.tmp rfl) (fun w hI => ⟨ret_bool (decide_eq_false (fun e => by subst e; simp at c10)).symm, hI.keep⟩)
  · try simp only [zq1, zq2, zq3, zq4, zq5, zq6, zq7, zq8] at c10
    have hll : l1.length = l2.length := by omega
    refine WC.skip (WP.thenC (WC.seq (WC.seq (WC.ofFr [(4, _), (0, _), (1, _)] ⟨rfl, rfl, rfl, trivial⟩ (WC.region ?_)))))
    refine zym rfl rfl ?_
    refine WL.yd (Yd.lenS rfl Tryz.underlying43 rfl) rfl ?_
    refine zym rfl rfl ?_
    refine WL.nil (WP.thenC (WC.block ?_))
    refine WC.loopF (fun k : Nat => [(0, .slice a1 l1.length c1), (1, .slice a2 l2.length c2), (11, .slice a1 l1.length c1), (12, nt l1.length), (13, nt k)]) (fun k => k ≤ l1.length ∧ l1.take k = l2.take k) (fun k => l1.length - k) 0 ⟨Nat.zero_le _, rfl⟩ ⟨rfl, rfl, rfl, rfl, rfl, trivial⟩ ?_
    rintro k ⟨hk, hF⟩
    refine WC.seq (WC.ofFr [(0, _), (1, _), (11, _), (12, _), (13, _)] ⟨rfl, rfl, rfl, rfl, rfl, trivial⟩ (WC.region ?_))
    refine WL.yd (Yd.lss rfl rfl) rfl ?_
    refine WL.nil (WP.thenC (WC.seq ?_))
    refine WC.cond rfl (fun c14 => ?_) (fun c14 => ?_)
    · try simp only [zq1, zq2, zq3, zq4, zq5, zq6, zq7, zq8] at c14
      have hkl : k < l1.length := by omega
      refine WC.skip (WP.thenC (WC.seq (WC.block (WC.seq (WC.ofFr [(0, _), (1, _), (11, _), (12, _), (13, _)] ⟨rfl, rfl, rfl, rfl, rfl, trivial⟩ (WC.region ?_))))))
      refine zym rfl rfl ?_
      refine zya rfl rfl ?_
      refine WL.nil (WP.thenC (WC.seq (WC.ofFr [(5, _), (0, _), (1, _), (11, _), (12, _), (13, _)] ⟨rfl, rfl, rfl, rfl, rfl, rfl, trivial⟩ ?_)))
      refine WC.tail 8 [0, 1, 2, 3, 4, 5, 6, 7] rfl (by kernel_rfl) (by kernel_rfl)  ?_
      refine WQ.q rfl (Yd.qt (Yd.move rfl)) rfl ?_
      refine WQ.q rfl (Yd.qt (Yd.move rfl)) rfl ?_
      refine WQ.q rfl (Yd.qt (Yd.indexS Tryz.underlying43 Tryz.sizeOf5 rfl rfl (by omega) (by omega) (by first | exact hS1.addr k (by omega) | exact hS2.addr k (by omega)))) rfl ?_
      refine WQ.q rfl (Yd.qt (Yd.load1 Tryz.isAgg5 rfl (by first | exact ((hS1.at k (by omega)).rd 0 rfl) | exact ((hS2.at k (by omega)).rd 0 rfl)))) rfl ?_
      refine WQ.q rfl (Yd.qt (Yd.move rfl)) rfl ?_
      refine WQ.q rfl (Yd.qt (Yd.move rfl)) rfl ?_
      refine WQ.q rfl (Yd.qt (Yd.indexS Tryz.underlying43 Tryz.sizeOf5 rfl rfl (by omega) (by omega) (by first | exact hS1.addr k (by omega) | exact hS2.addr k (by omega)))) rfl ?_
      refine WQ.q rfl (Yd.qt (Yd.load1 Tryz.isAgg5 rfl (by first | exact ((hS1.at k (by omega)).rd 0 rfl) | exact ((hS2.at k (by omega)).rd 0 rfl)))) rfl ?_
      refine WQ.tail ?_
      refine WL.yd (Yd.neq rfl rfl) rfl ?_
      refine WL.nil (WP.thenC ?_)
      refine WC.cond rfl (fun c24 => ?_) (fun c24 => ?_)
      · try simp only [zq1, zq2, zq3, zq4, zq5, zq6, zq7, zq8] at c24
        refine WC.seq (WC.ofFr [(0, _), (1, _), (11, _), (12, _), (13, _)] ⟨rfl, rfl, rfl, rfl, rfl, trivial⟩ (WC.region ?_))
        refine zya rfl rfl ?_
        refine WL.nil (WP.thenC (WC.ret (WP.blkRet (WP.thenRet (WP.thenRet (WP.blkRet (WP.thenRet ?_)))))))
        refine WP.ret1 rfl rfl Tryz.results68 (RV.tmp rfl) (fun w hI => ⟨ret_bool (decide_eq_false (fun e => by subst e; simp at c24)).symm, hI.keep⟩)
      · try simp only [zq1, zq2, zq3, zq4, zq5, zq6, zq7, zq8] at c24
        refine WC.skip (WP.blkNormal (WP.thenC (WC.ofFr [(0, _), (1, _), (11, _), (12, _), (13, _)] ⟨rfl, rfl, rfl, rfl, rfl, trivial⟩ (WC.region ?_))))
        refine WL.yd (Yd.add rfl rfl (wr64 ⟨by omega, by omega⟩)) rfl ?_
        refine zym rfl rfl ?_
        refine WL.nil ?_
        exact WP.againF (k + 1) ⟨hkl, take_eq_succ hkl (by omega) hF (UInt8.toNat_inj.1 (by omega))⟩ (by omega) ⟨rfl, rfl, rfl, rfl, rfl, trivial⟩ (fun _ h => nomatch h) (fun _ => List.nodup_nil)
    · try simp only [zq1, zq2, zq3, zq4, zq5, zq6, zq7, zq8] at c14
      obtain rfl : k = l1.length := by omega
      refine WC.exit ?_
      refine WP.thenExit ?_
      refine WP.thenExit ?_
      refine WP.blkHit ?_
      refine WP.thenC (WC.seq (WC.ofFr [] trivial (WC.region ?_)))
      refine zya rfl rfl ?_
      refine WL.nil (WP.thenC (WC.ret ?_))
      refine WP.ret1 rfl rfl Tryz.results68 (RV.tmp rfl) (fun w hI => ⟨ret_bool (decide_eq_true (eq_of_takes hll hF)).symm, hI.keep⟩)

end Go.Proofs.YtaebnllfmkcpgaaGreatDoor
namespace Go.Proofs.YtaebnllfmkcpgaaGreatDoor
open Go.W Go.Bk

theorem eqSums (a b c d : Nat) : ∀ w, (Op.equalIn 10000 107 (.agg #[nt a, nt b]) (.agg #[nt c, nt d])).run Tryz.prog w = .ok (decide ((a, b) = (c, d))) w := by
  intro w
  have h1 : (Op.equalIn 10000 107 (.agg #[nt a, nt b]) (.agg #[nt c, nt d])).run Tryz.prog w = .ok (a == c && b == d) w := by
    simp [go_sem, Op.eqFields]
    by_cases h : a = c
    · subst h
      by_cases h' : b = d
      · subst h'; simp
      · rw [if_pos rfl, if_neg (by omega)]; simp [h']
    · rw [if_neg (by omega)]; simp [h]
  have h2 : (a == c && b == d) = decide ((a, b) = (c, d)) := by
    rw [Bool.eq_iff_iff]; simp only [Bool.and_eq_true, beq_iff_eq, decide_eq_true_eq, Prod.mk.injEq]
  rw [h1, h2]
theorem wrH_yes {h : Hors} (e : horsB h = true) : wrH h = (bookL h, 0) := if_pos e
theorem wrH_no {h : Hors} (e : horsB h = false) : wrH h = ([], 1) := if_neg (by simp [e])

theorem WriteHorses_g (h : Hors) (m : Sl) (D : Imm) (hR : HorsR D h m) (w : World) (hH : Holds D w) : Makes Tryz.prog 20 [horsV h m] w D (fun v D' => ∃ a n c, v = .tuple #[.slice a n c, it (wrH h).2] ∧ SlL D' 1 ((wrH h).1.map btC) a n ∧ n ≤ c) := by
  unfold Makes
  refine enterD Tryz.func20 rfl 9 Tryz.ntmps20 (zqb rfl) (Inv.start hH) ?_
  refine WC.seq (WC.ofFr [(0, _)] ⟨rfl, trivial⟩ (WC.region ?_))
  refine WL.so (SO.box rfl rfl) rfl ?_
  rintro _ _ _ ⟨b1, hb1, rfl, rfl, rfl⟩
  refine zya rfl rfl ?_
  refine WL.so (SO.alloc Tryz.zeroValue38 rfl) rfl ?_
  rintro _ _ _ ⟨b3, hb3, rfl, rfl, rfl⟩
  refine WL.nil (WP.thenC (WC.seq (WC.ofFr [(3, _), (2, _), (1, _)] ⟨rfl, rfl, rfl, trivial⟩ (WC.region ?_))))
  refine WL.deferA rfl ?_
  refine WL.nil (WP.thenC (WC.seq (WC.ofFr [(3, _), (2, _), (1, _)] ⟨rfl, rfl, rfl, trivial⟩ (WC.region ?_))))
  refine WL.yd (Yd.loadN Tryz.isAgg35 Tryz.sizeOf35 rfl (vs := [_, _]) rfl (RdN.own (k := 1) (n := 2) rfl rfl)) rfl ?_
  refine WL.so (SO.callP Tryz.call62 rfl (fun w hI => isHors_g h m D _ hR hI.imm)) rfl ?_
  rintro _ _ _ ⟨rfl, rfl, rfl⟩
  refine WL.part 5 rfl (fun g5 => ?_) (fun g5 => ?_)
  · try simp only [zq1, zq2, zq3, zq4, zq5, zq6, zq7, zq8] at g5
    refine WL.so (SO.call (Enters.func Tryz.call61 rfl) (fun w hI => must_ok _ _)) rfl ?_
    rintro _ _ _ ⟨rfl, rfl, rfl⟩
    refine WL.nil (WP.thenC (WC.seq (WC.ofFr [(3, _), (2, _), (1, _)] ⟨rfl, rfl, rfl, trivial⟩ (WC.region ?_))))
    refine WL.yd (Yd.loadN Tryz.isAgg35 Tryz.sizeOf35 rfl (vs := [_, _]) rfl (RdN.own (k := 1) (n := 2) rfl rfl)) rfl ?_
    refine WL.so (SO.makes (Enters.func Tryz.call63 rfl) (fun w hI => book_g h m (horsB_iff.1 g5) D hR w hI.imm)) rfl ?_
    rintro _ D2 _ ⟨hX2, ⟨a2, n2, c2, rfl, hS2, hc2⟩, rfl⟩
    refine zya rfl rfl ?_
    refine WL.so (SO.store 0 rfl Tryz.sizeOf38 rfl rfl rfl rfl (zqb rfl) (oneB_spec rfl)) rfl ?_
    rintro _ _ _ ⟨rfl, rfl, rfl⟩
    refine WL.nil (WP.thenC (WC.ret ?_))
    refine WP.endDA [_, _] [_, _] rfl rfl Tryz.call51 (fun w hI => answer_idle b3 w) Tryz.results20 ⟨(RV.tmp rfl), (RV.cell1 Tryz.isAgg38 rfl (by first | exact ro0 rfl rfl | exact ro1 rfl rfl)), trivial⟩ (fun w hI => ⟨_, D2, rfl, hI.keep, hI.imm, hX2, a2, n2, c2, by rw [wrH_yes g5]; rfl, by rw [wrH_yes g5]; exact hS2, hc2⟩)
  · try simp only [zq1, zq2, zq3, zq4, zq5, zq6, zq7, zq8] at g5
    refine WL.no (SO.fail (Enters.func Tryz.call61 rfl) (fun w hI => must_no _ _) ?_)
    refine WP.thenPanic ?_
    refine WP.panicDA (k := 0) [_, _] [_, _] rfl Tryz.call51 rfl (fun w hI => answer_catch b3 _ 0 _ w (hI.own _ _ (List.mem_of_getElem? (i := 0) rfl))) Tryz.results20 ⟨(RV.tmp rfl), (RV.cell1 Tryz.isAgg38 rfl (by first | exact ro0 rfl rfl | exact ro1 rfl rfl)), trivial⟩ (fun w hI => ⟨_, D, rfl, hI.keep, hI.imm, DExt.refl _ _, none, 0, 0, by rw [wrH_no g5]; rfl, by rw [wrH_no g5]; exact SlL.nil _ _, Nat.le_refl _⟩)

end Go.Proofs.YtaebnllfmkcpgaaGreatDoor
