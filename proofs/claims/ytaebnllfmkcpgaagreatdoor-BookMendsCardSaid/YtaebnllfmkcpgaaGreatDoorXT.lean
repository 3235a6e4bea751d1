import Derived.Test.YtaebnllfmkcpgaaGreatDoorXR
set_option linter.unusedSimpArgs false
set_option linter.unusedVariables false
set_option linter.all false
set_option maxRecDepth 100000
set_option maxHeartbeats 1000000
namespace Go.Proofs.YtaebnllfmkcpgaaGreatDoor
open Go.W Go.Bk

def rightB (b : Bs) : Bool := decide (sealL (bodyL b) = b)
/-- what the reference's search gives -/
def MendSpec (b : Bs) (r : Bs × Int) : Prop :=
  (openE b ≠ 0 ∧ r = ([], openE b)) ∨ (openE b = 0 ∧ rightB b = true ∧ r = ([], 4)) ∨ (openE b = 0 ∧ rightB b = false ∧ ∃ i x, i < b.length ∧ x < 251 ∧ rightB (b.set i (UInt8.ofNat x)) = true ∧ r = (b.set i (UInt8.ofNat x), 0)) ∨
  (openE b = 0 ∧ rightB b = false ∧ (∀ i x, i < b.length → x < 251 → rightB (b.set i (UInt8.ofNat x)) = false) ∧ r = ([], 11))

theorem rMend_g (l : Bs) (a : Option Addr) (n c : Nat) (D : Imm) (hS : SlL D 1 (l.map btC) a n) (hn : n ≤ 2 ^ 18) (hc : n ≤ c) (w : World) (hH : Holds D w) : Makes Tryz.prog 26 [.slice a n c] w D (fun v D' => ∃ r a' n' c', MendSpec l r ∧ v = .tuple #[.slice a' n' c', it r.2] ∧ SlL D' 1 (r.1.map btC) a' n' ∧ n' ≤ c') := by
  unfold Makes
  obtain rfl : n = l.length := hS.len'
  refine enter Tryz.func26 rfl 33 Tryz.ntmps26 (zqb rfl) (Inv.start hH) ?_
  refine WC.seq (WC.ofFr [(0, _)] ⟨rfl, trivial⟩ (WC.region ?_))
  refine zya rfl rfl ?_
  refine zya rfl rfl ?_
  refine WL.nil (WP.thenC (WC.seq (WC.ofFr [(3, _), (2, _), (0, _)] ⟨rfl, rfl, rfl, trivial⟩ (WC.region ?_))))
  refine zym rfl rfl ?_
  refine WL.so (SO.callP Tryz.call69 rfl (fun w hI => form_g l a l.length c D hS (by omega) _ hI.imm)) rfl ?_
  rintro _ _ _ ⟨rfl, rfl, rfl⟩
  refine zya rfl rfl ?_
  refine WL.nil (WP.thenC (WC.seq (WC.seq (WC.ofFr [(4, _), (3, _), (2, _), (0, _)] ⟨rfl, rfl, rfl, rfl, trivial⟩ (WC.region ?_)))))
  refine zym rfl rfl ?_
  refine WL.yd (Yd.neq rfl rfl) rfl ?_
  refine WL.nil (WP.thenC ?_)
  refine WC.cond rfl (fun c11 => ?_) (fun c11 => ?_)
  · try simp only [zq1, zq2, zq3, zq4, zq5, zq6, zq7, zq8] at c11
    refine WC.seq (WC.ofFr [(4, _), (3, _), (2, _), (0, _)] ⟨rfl, rfl, rfl, rfl, trivial⟩ (WC.region ?_))
    refine zym rfl rfl ?_
    refine zya rfl rfl ?_
    refine zya rfl rfl ?_
    refine WL.nil (WP.thenC (WC.ret (WP.thenRet ?_)))
    refine WP.ret2 rfl rfl Tryz.results26 (RV.tmp rfl) (RV.tmp rfl) (fun w1 hI => ⟨_, D, rfl, hI.keep, hI.imm, DExt.refl _ _, ([], openE l), none, 0, 0, .inl ⟨by omega, rfl⟩, rfl, SlL.nil _ _, Nat.le_refl _⟩)
  · try simp only [zq1, zq2, zq3, zq4, zq5, zq6, zq7, zq8] at c11
    have h0 : openE l = 0 := by omega
    have ho2 := openE_zero h0
    refine WC.skip (WP.thenC (WC.seq (WC.seq (WC.ofFr [(3, _), (2, _), (0, _)] ⟨rfl, rfl, rfl, trivial⟩ (WC.region ?_)))))
    refine zym rfl rfl ?_
    refine WL.so (SO.callP Tryz.call33 rfl (fun w hI => right_g l a l.length c D hS hn hc ho2.2.1 _ hI.imm)) rfl ?_
    rintro _ _ _ ⟨rfl, rfl, rfl⟩
    refine WL.nil (WP.thenC ?_)
    refine WC.cond rfl (fun c14 => ?_) (fun c14 => ?_)
    · try simp only [zq1, zq2, zq3, zq4, zq5, zq6, zq7, zq8] at c14
      refine WC.seq (WC.ofFr [(3, _), (2, _), (0, _)] ⟨rfl, rfl, rfl, trivial⟩ (WC.region ?_))
      refine zya rfl rfl ?_
      refine zya rfl rfl ?_
      refine WL.nil (WP.thenC (WC.ret (WP.thenRet ?_)))
      refine WP.ret2 rfl rfl Tryz.results26 (RV.tmp rfl) (RV.tmp rfl) (fun w1 hI => ⟨_, D, rfl, hI.keep, hI.imm, DExt.refl _ _, ([], 4), none, 0, 0, .inr (.inl ⟨h0, decide_eq_true c14, rfl⟩), rfl, SlL.nil _ _, Nat.le_refl _⟩)
    · try simp only [zq1, zq2, zq3, zq4, zq5, zq6, zq7, zq8] at c14
      refine WC.skip (WP.thenC (WC.seq (WC.seq (WC.ofFr [(3, _), (2, _), (0, _)] ⟨rfl, rfl, rfl, trivial⟩ (WC.region ?_)))))
      refine zya rfl rfl ?_
      refine WL.nil (WP.thenC (WC.block ?_))
      refine WC.loopF (fun i : Nat => [(0, .slice a l.length c), (5, nt i)]) (fun i => i ≤ l.length ∧ ∀ j, j < i → ∀ x, x < 251 → rightB (l.set j (UInt8.ofNat x)) = false) (fun i => l.length - i) 0 ⟨Nat.zero_le _, fun _ h => absurd h (Nat.not_lt_zero _)⟩ ⟨rfl, rfl, trivial⟩ ?_
      rintro i ⟨hi, hF⟩
      refine WC.seq (WC.seq (WC.ofFr [(0, _), (5, _)] ⟨rfl, rfl, trivial⟩ (WC.region ?_)))
      refine zym rfl rfl ?_
      refine zym rfl rfl ?_
      refine WL.yd (Yd.lenS rfl Tryz.underlying43 rfl) rfl ?_
      refine WL.yd (Yd.lss rfl rfl) rfl ?_
      refine WL.nil (WP.thenC ?_)
      refine WC.cond rfl (fun c18 => ?_) (fun c18 => ?_)
      · try simp only [zq1, zq2, zq3, zq4, zq5, zq6, zq7, zq8] at c18
        have hil : i < l.length := by omega
        refine WC.skip (WP.thenC (WC.seq (WC.block (WC.seq (WC.ofFr [(0, _), (5, _)] ⟨rfl, rfl, trivial⟩ (WC.region ?_))))))
        refine zya rfl rfl ?_
        refine WL.nil (WP.thenC (WC.block ?_))
        refine WC.loopF (fun x : Nat => [(0, .slice a l.length c), (5, nt i), (6, nt x)]) (fun x => x ≤ 251 ∧ ∀ y, y < x → rightB (l.set i (UInt8.ofNat y)) = false) (fun x => 251 - x) 0 ⟨Nat.zero_le _, fun _ h => absurd h (Nat.not_lt_zero _)⟩ ⟨rfl, rfl, rfl, trivial⟩ ?_
        rintro x ⟨hx, hG⟩
        refine WC.seq (WC.seq (WC.ofFr [(0, _), (5, _), (6, _)] ⟨rfl, rfl, rfl, trivial⟩ (WC.region ?_)))
        refine zym rfl rfl ?_
        refine WL.yd (Yd.lss rfl rfl) rfl ?_
        refine WL.nil (WP.thenC ?_)
        refine WC.cond rfl (fun c22 => ?_) (fun c22 => ?_)
        · try simp only [zq1, zq2, zq3, zq4, zq5, zq6, zq7, zq8] at c22
          have hxl : x < 251 := by omega
          refine WC.skip (WP.thenC (WC.seq (WC.block (WC.seq (WC.ofFr [(0, _), (5, _), (6, _)] ⟨rfl, rfl, rfl, trivial⟩ (WC.region ?_))))))
          refine zym rfl rfl ?_
          refine zym rfl rfl ?_
          refine zym rfl rfl ?_
          refine WL.yd (Yd.conv Tryz.underlying3 Tryz.underlying5 rfl (wr8 ⟨by (try dsimp only); omega, by (try dsimp only); omega⟩)) rfl ?_
          refine WL.know 28 (bt (UInt8.ofNat x)) rfl (btN (by omega)).symm ?_
          refine WL.so (SO.makes (Enters.func Tryz.call32 rfl) (fun w hI => put_g l a l.length c D hS hn i (UInt8.ofNat x) hil w hI.imm)) rfl ?_
          rintro _ D2 _ ⟨hX2, ⟨a2, n2, c2, rfl, hS2, hc2⟩, rfl⟩
          refine zya rfl rfl ?_
          refine WL.nil (WP.thenC (WC.seq (WC.ofFr [(7, _), (0, _), (5, _), (6, _)] ⟨rfl, rfl, rfl, rfl, trivial⟩ (WC.region ?_))))
          refine zym rfl rfl ?_
          refine WL.so (SO.callP Tryz.call33 rfl (fun w hI => right_g (l.set i (UInt8.ofNat x)) a2 n2 c2 D2 hS2 (by have := hS2.len'; rw [List.length_set] at this; omega) hc2 (by rw [List.length_set]; exact ho2.2.1) _ hI.imm)) rfl ?_
          rintro _ _ _ ⟨rfl, rfl, rfl⟩
          refine WL.nil (WP.thenC ?_)
          refine WC.cond rfl (fun c31 => ?_) (fun c31 => ?_)
          · try simp only [zq1, zq2, zq3, zq4, zq5, zq6, zq7, zq8] at c31
            refine WC.seq (WC.ofFr [(7, _), (0, _), (5, _), (6, _)] ⟨rfl, rfl, rfl, rfl, trivial⟩ (WC.region ?_))
            refine zym rfl rfl ?_
            refine zya rfl rfl ?_
            refine zya rfl rfl ?_
            refine WL.nil (WP.thenC (WC.ret (WP.blkRet (WP.thenRet (WP.thenRet (WP.blkRet (WP.blkRet (WP.thenRet (WP.thenRet (WP.blkRet (WP.thenRet ?_)))))))))))
            refine WP.ret2 rfl rfl Tryz.results26 (RV.tmp rfl) (RV.tmp rfl) (fun w1 hI => ⟨_, D2, rfl, hI.keep, hI.imm, hX2, (l.set i (UInt8.ofNat x), 0), a2, n2, c2, .inr (.inr (.inl ⟨h0, decide_eq_false c14, i, x, hil, hxl, decide_eq_true c31, rfl⟩)), rfl, hS2, hc2⟩)
          · try simp only [zq1, zq2, zq3, zq4, zq5, zq6, zq7, zq8] at c31
            refine WC.skip (WP.blkNormal (WP.thenC (WC.ofFr [(0, _), (5, _), (6, _)] ⟨rfl, rfl, rfl, trivial⟩ (WC.region ?_))))
            refine zym rfl rfl ?_
            refine WL.yd (Yd.add rfl rfl (wr64 ⟨by (try dsimp only); omega, by (try dsimp only); omega⟩)) rfl ?_
            refine zya rfl rfl ?_
            refine WL.nil ?_
            exact WP.againS (x + 1) ⟨hxl, fun y hy => by rcases Nat.lt_or_ge y x with h | h; exact hG y h; obtain rfl : y = x := (by omega); exact decide_eq_false c31⟩ (by omega) ⟨rfl, rfl, rfl, trivial⟩ (fun _ h => nomatch h) (fun _ => List.nodup_nil) hX2.old
        · try simp only [zq1, zq2, zq3, zq4, zq5, zq6, zq7, zq8] at c22
          obtain rfl : x = 251 := by omega
          refine WC.exit ?_
          refine WP.thenExit ?_
          refine WP.thenExit ?_
          refine WP.blkHit ?_
          refine WP.blkNormal (WP.thenC (WC.ofFr [(0, _), (5, _)] ⟨rfl, rfl, trivial⟩ (WC.region ?_)))
          refine zym rfl rfl ?_
          refine WL.yd (Yd.add rfl rfl (wr64 ⟨by (try dsimp only); omega, by (try dsimp only); omega⟩)) rfl ?_
          refine zya rfl rfl ?_
          refine WL.nil ?_
          exact WP.againF (i + 1) ⟨hil, fun j hj => by rcases Nat.lt_or_ge j i with h | h; exact hF j h; obtain rfl : j = i := (by omega); exact hG⟩ (by omega) ⟨rfl, rfl, trivial⟩ (fun _ h => nomatch h) (fun _ => List.nodup_nil)
      · try simp only [zq1, zq2, zq3, zq4, zq5, zq6, zq7, zq8] at c18
        obtain rfl : i = l.length := by omega
        refine WC.exit ?_
        refine WP.thenExit ?_
        refine WP.thenExit ?_
        refine WP.blkHit ?_
        refine WP.thenC (WC.seq (WC.ofFr [] trivial (WC.region ?_)))
        refine zya rfl rfl ?_
        refine zya rfl rfl ?_
        refine WL.nil (WP.thenC (WC.ret ?_))
        refine WP.ret2 rfl rfl Tryz.results26 (RV.tmp rfl) (RV.tmp rfl) (fun w1 hI => ⟨_, D, rfl, hI.keep, hI.imm, DExt.refl _ _, ([], 11), none, 0, 0, .inr (.inr (.inr ⟨h0, decide_eq_false c14, fun i x hi hx => hF i hi x hx, rfl⟩)), rfl, SlL.nil _ _, Nat.le_refl _⟩)

end Go.Proofs.YtaebnllfmkcpgaaGreatDoor
namespace Go.Proofs.YtaebnllfmkcpgaaGreatDoor
open Go.W Go.Bk

theorem WP.hp1 {x : Cx} {fr : Fr} {D : Imm} {h : Nat × Obj} {hp : Hp} {Q : Exit → Act → World → Prop} {e : Exit} (hw : WP x fr D [h] e Q) : WP x fr D (h :: hp) e Q := fun a w hA => hw a w ⟨hA.f, hA.i.sub (fun _ he => by simp at he; simp [he]) (by simp)⟩

theorem rdig_g (n : Nat) (hn : n ≤ 200) (l : Bs) (a : Option Addr) (m c : Nat) (D : Imm) (hS : SlL D 1 (l.map btC) a m) (hm : m ≤ 2 ^ 18) (w : World) (hH : Holds D w) : Makes Tryz.prog 156 [nt n, .slice a m c] w D (fun v D' => ∃ a n' c, v = .slice a n' c ∧ SlL D' 1 ((digL n ++ l).map btC) a n') := by
  unfold Makes
  obtain rfl : m = l.length := hS.len'
  refine enter Tryz.func156 rfl 26 Tryz.ntmps156 (zqb rfl) (Inv.start hH) ?_
  refine WC.seq (WC.ofFr [(0, _), (1, _)] ⟨rfl, rfl, trivial⟩ (WC.region ?_))
  refine zya rfl rfl ?_
  refine WL.nil (WP.thenC (WC.seq ?_))
  rcases l with _ | ⟨x, l⟩
  · skip
    refine WC.ofFr [(4, _), (0, _), (1, _)] ⟨rfl, rfl, rfl, trivial⟩ (WC.region ?_)
    refine zym rfl rfl ?_
    refine WL.yd (Yd.rem rfl rfl (by (try dsimp only); omega) (by (try dsimp only); omega)) rfl ?_
    refine WL.yd (Yd.add rfl rfl (wr64 ⟨by (try dsimp only); omega, by (try dsimp only); omega⟩)) rfl ?_
    refine WL.yd (Yd.conv Tryz.underlying3 Tryz.underlying5 rfl (wr8 ⟨by (try dsimp only); omega, by (try dsimp only); omega⟩)) rfl ?_
    refine WL.know 9 (bt (UInt8.ofNat (n % 125 + 125))) rfl (by rw [btN (by omega)]; simp) ?_
    refine WL.so (SO.buildSlice1 Tryz.underlying43 Tryz.sizeOf5 Tryz.zeroValue5 rfl rfl rfl (vs := [_]) rfl rfl rfl) rfl ?_
    rintro _ _ _ ⟨b10, hb10, rfl, rfl, rfl⟩
    refine zym rfl rfl ?_
    refine WL.so (SO.appendNil (o := ⟨b10, 1, []⟩) (len := 1) rfl rfl Tryz.underlying43 Tryz.sizeOf5 rfl rfl (Nat.le_refl _)) rfl ?_
    rintro _ _ _ ⟨rfl, rfl, rfl⟩
    refine zya rfl rfl ?_
    refine WL.nil (WP.thenC (WC.seq (WC.seq (WC.ofFr [(5, _), (4, _), (0, _)] ⟨rfl, rfl, rfl, trivial⟩ (WC.region ?_)))))
    refine zym rfl rfl ?_
    refine WL.yd (Yd.quo rfl rfl (by (try dsimp only); omega) (by (try dsimp only); omega) (wr64 ⟨by (try dsimp only); omega, by (try dsimp only); omega⟩)) rfl ?_
    refine zya rfl rfl ?_
    refine WL.nil (WP.thenC (WC.block ?_))
    refine WC.loopT [] (fun y : Nat × Bs × Ow => [(0, nt y.1), (5, owV (some y.2.2) y.2.1.length)]) (fun y => owH (some y.2.2) 5 (y.2.1.flatMap btC) []) (fun y => ((y.1 = n / 125 ∧ y.2.1 = (UInt8.ofNat (n % 125 + 125)) :: ([] : Bs)) ∨ (y.1 = 0 ∧ 125 ≤ n ∧ y.2.1 = UInt8.ofNat (n / 125) :: (UInt8.ofNat (n % 125 + 125)) :: ([] : Bs))) ∧ owP w (some y.2.2) y.2.1.length 1) (fun y => y.1) (n / 125, (UInt8.ofNat (n % 125 + 125)) :: ([] : Bs), ⟨b10, 1, []⟩) ⟨.inl ⟨rfl, rfl⟩, ⟨hb10, Nat.le_refl _, rfl⟩⟩ rfl ⟨rfl, rfl, trivial⟩ ?_
    rintro ⟨mm, q, o⟩ ⟨hmm, ho⟩
    dsimp only at hmm ho
    refine WC.seq (WC.seq (WC.ofFr [(0, _), (5, _)] ⟨rfl, rfl, trivial⟩ (WC.region ?_)))
    refine zym rfl rfl ?_
    refine WL.yd (Yd.gtr rfl rfl) rfl ?_
    refine WL.nil (WP.thenC ?_)
    refine WC.cond rfl (fun c16 => ?_) (fun c16 => ?_)
    · try simp only [zq1, zq2, zq3, zq4, zq5, zq6, zq7, zq8] at c16
      have hm0 : 0 < mm := by omega
      refine WC.skip (WP.thenC (WC.seq (WC.block (WC.ofFr [(0, _), (5, _)] ⟨rfl, rfl, trivial⟩ (WC.region ?_)))))
      refine zym rfl rfl ?_
      refine WL.yd (Yd.rem rfl rfl (by (try dsimp only); omega) (by (try dsimp only); omega)) rfl ?_
      refine WL.yd (Yd.conv Tryz.underlying3 Tryz.underlying5 rfl (wr8 ⟨by (try dsimp only); omega, by (try dsimp only); omega⟩)) rfl ?_
      obtain ⟨rfl, hq, h125⟩ : mm = n / 125 ∧ q = (UInt8.ofNat (n % 125 + 125)) :: _ ∧ 125 ≤ n := by rcases hmm with h | h; exact ⟨h.1, h.2, by omega⟩; omega
      subst hq
      have hqq : ∀ z : UInt8, (z :: _).length ≤ 262145 := fun z => by rw [List.length_cons]; exact Nat.succ_le_succ hm
      have hqq2 := hqq (UInt8.ofNat (n % 125 + 125))
      refine WL.know 21 (bt (UInt8.ofNat (n / 125))) rfl (by rw [btN (by omega)]; simp; omega) ?_
      refine WL.so (SO.buildSlice1 Tryz.underlying43 Tryz.sizeOf5 Tryz.zeroValue5 rfl rfl rfl (vs := [_]) rfl rfl rfl) rfl ?_
      rintro _ _ _ ⟨b22, hb22, rfl, rfl, rfl⟩
      refine zym rfl rfl ?_
      refine WL.so (SO.appendOw (o := some ⟨b22, 1, []⟩) (len := 1) (n := ((UInt8.ofNat (n % 125 + 125)) :: ([] : Bs)).length) (xs := [bt (UInt8.ofNat (n / 125))]) (size := 1) [] [] [_] rfl rfl Tryz.underlying43 Tryz.sizeOf5 Tryz.typeInfo5 Tryz.zeroValue5 rfl rfl rfl rfl ⟨flat_len btC_len _, .inr ⟨_, _, _, rfl, RdN.app (k := 1) rfl⟩⟩ (btC_one _) ⟨hb22, Nat.le_refl _, rfl⟩ rfl (by simp) (by show (2 * (_ + _) + 1000) * 1 ≤ 2 ^ 48; omega) (by omega)) rfl ?_
      rintro _ _ _ ⟨u2, hu2, rfl, rfl, rfl⟩
      refine zya rfl rfl ?_
      refine WL.nil (WP.blkNormal (WP.thenC (WC.ofFr [(5, _), (0, _)] ⟨rfl, rfl, trivial⟩ (WC.region ?_))))
      refine zym rfl rfl ?_
      refine WL.yd (Yd.quo rfl rfl (by (try dsimp only); omega) (by (try dsimp only); omega) (wr64 ⟨by (try dsimp only); omega, by (try dsimp only); omega⟩)) rfl ?_
      refine zya rfl rfl ?_
      refine WL.nil ?_
      refine WP.hp1 ?_
      exact WP.againT (0, UInt8.ofNat (n / 125) :: (UInt8.ofNat (n % 125 + 125)) :: ([] : Bs), u2) ⟨.inr ⟨rfl, h125, rfl⟩, by dsimp only; rw [List.length_cons, Nat.add_comm]; exact hu2⟩ (by dsimp only; omega) [] _ rfl (by show _ = owH (some u2) _ ((UInt8.ofNat (n / 125) :: (UInt8.ofNat (n % 125 + 125)) :: ([] : Bs)).flatMap btC) []; rfl) ⟨(by show some (it _) = some (nt 0); congr 2; omega), by show some (owV (some u2) (1 + ((UInt8.ofNat (n % 125 + 125)) :: ([] : Bs)).length)) = some (owV (some u2) ((UInt8.ofNat (n % 125 + 125)) :: ([] : Bs)).length.succ); rw [Nat.add_comm], trivial⟩
    · try simp only [zq1, zq2, zq3, zq4, zq5, zq6, zq7, zq8] at c16
      refine WC.exit ?_
      refine WP.thenExit ?_
      refine WP.thenExit ?_
      refine WP.blkHit ?_
      refine WP.thenC (WC.seq (WC.ofFr [(5, _)] ⟨rfl, trivial⟩ (WC.region ?_)))
      refine zym rfl rfl ?_
      have hfin : q = digL n ++ ([] : Bs) := by
        rcases hmm with ⟨h1, h2⟩ | ⟨h1, h2, h3⟩
        · rw [h2]; unfold digL; rw [if_pos (by omega), Nat.mod_eq_of_lt (by omega)]; rfl
        · rw [h3]; unfold digL; rw [if_neg (by omega)]; rfl
      refine WL.freezeOw (f := btC) (m := 1) btC_len [] [] (some o) 5 q rfl ho rfl (fun D2 hX2 hS2 => ?_)
      refine zya rfl rfl ?_
      refine WL.nil (WP.thenC (WC.ret ?_))
      refine WP.ret1 rfl rfl Tryz.results156 (RV.tmp rfl) (fun w1 hI => ⟨_, D2, rfl, hI.keep, hI.imm, hX2, _, _, _, rfl, hfin ▸ hS2⟩)
  · skip
    refine WC.ofFr [(4, _), (0, _), (1, _)] ⟨rfl, rfl, rfl, trivial⟩ (WC.region ?_)
    refine zym rfl rfl ?_
    refine WL.yd (Yd.rem rfl rfl (by (try dsimp only); omega) (by (try dsimp only); omega)) rfl ?_
    refine WL.yd (Yd.add rfl rfl (wr64 ⟨by (try dsimp only); omega, by (try dsimp only); omega⟩)) rfl ?_
    refine WL.yd (Yd.conv Tryz.underlying3 Tryz.underlying5 rfl (wr8 ⟨by (try dsimp only); omega, by (try dsimp only); omega⟩)) rfl ?_
    refine WL.know 9 (bt (UInt8.ofNat (n % 125 + 125))) rfl (by rw [btN (by omega)]; simp) ?_
    refine WL.so (SO.buildSlice1 Tryz.underlying43 Tryz.sizeOf5 Tryz.zeroValue5 rfl rfl rfl (vs := [_]) rfl rfl rfl) rfl ?_
    rintro _ _ _ ⟨b10, hb10, rfl, rfl, rfl⟩
    refine zym rfl rfl ?_
    refine WL.so (SO.appendOw (o := some ⟨b10, 1, []⟩) (len := 1) (n := (x :: l).length) (xs := [bt (UInt8.ofNat (n % 125 + 125))]) (size := 1) [] [] [] rfl rfl Tryz.underlying43 Tryz.sizeOf5 Tryz.typeInfo5 Tryz.zeroValue5 rfl rfl rfl rfl (hS.rdS btC_len (fun e => nomatch e)) (btC_one _) ⟨hb10, Nat.le_refl _, rfl⟩ rfl (by simp) (by show (2 * (_ + _) + 1000) * 1 ≤ 2 ^ 48; omega) (by omega)) rfl ?_
    rintro _ _ _ ⟨u1, hu1, rfl, rfl, rfl⟩
    refine zya rfl rfl ?_
    refine WL.nil (WP.thenC (WC.seq (WC.seq (WC.ofFr [(5, _), (4, _), (0, _)] ⟨rfl, rfl, rfl, trivial⟩ (WC.region ?_)))))
    refine zym rfl rfl ?_
    refine WL.yd (Yd.quo rfl rfl (by (try dsimp only); omega) (by (try dsimp only); omega) (wr64 ⟨by (try dsimp only); omega, by (try dsimp only); omega⟩)) rfl ?_
    refine zya rfl rfl ?_
    refine WL.nil (WP.thenC (WC.block ?_))
    refine WC.loopT [] (fun y : Nat × Bs × Ow => [(0, nt y.1), (5, owV (some y.2.2) y.2.1.length)]) (fun y => owH (some y.2.2) 5 (y.2.1.flatMap btC) []) (fun y => ((y.1 = n / 125 ∧ y.2.1 = (UInt8.ofNat (n % 125 + 125)) :: (x :: l)) ∨ (y.1 = 0 ∧ 125 ≤ n ∧ y.2.1 = UInt8.ofNat (n / 125) :: (UInt8.ofNat (n % 125 + 125)) :: (x :: l))) ∧ owP w (some y.2.2) y.2.1.length 1) (fun y => y.1) (n / 125, (UInt8.ofNat (n % 125 + 125)) :: (x :: l), u1) ⟨.inl ⟨rfl, rfl⟩, by dsimp only; rw [List.length_cons, Nat.add_comm]; exact hu1⟩ rfl ⟨rfl, by show some (owV (some u1) (1 + (x :: l).length)) = some (owV (some u1) (x :: l).length.succ); rw [Nat.add_comm], trivial⟩ ?_
    rintro ⟨mm, q, o⟩ ⟨hmm, ho⟩
    dsimp only at hmm ho
    refine WC.seq (WC.seq (WC.ofFr [(0, _), (5, _)] ⟨rfl, rfl, trivial⟩ (WC.region ?_)))
    refine zym rfl rfl ?_
    refine WL.yd (Yd.gtr rfl rfl) rfl ?_
    refine WL.nil (WP.thenC ?_)
    refine WC.cond rfl (fun c16 => ?_) (fun c16 => ?_)
    · try simp only [zq1, zq2, zq3, zq4, zq5, zq6, zq7, zq8] at c16
      have hm0 : 0 < mm := by omega
      refine WC.skip (WP.thenC (WC.seq (WC.block (WC.ofFr [(0, _), (5, _)] ⟨rfl, rfl, trivial⟩ (WC.region ?_)))))
      refine zym rfl rfl ?_
      refine WL.yd (Yd.rem rfl rfl (by (try dsimp only); omega) (by (try dsimp only); omega)) rfl ?_
      refine WL.yd (Yd.conv Tryz.underlying3 Tryz.underlying5 rfl (wr8 ⟨by (try dsimp only); omega, by (try dsimp only); omega⟩)) rfl ?_
      obtain ⟨rfl, hq, h125⟩ : mm = n / 125 ∧ q = (UInt8.ofNat (n % 125 + 125)) :: _ ∧ 125 ≤ n := by rcases hmm with h | h; exact ⟨h.1, h.2, by omega⟩; omega
      subst hq
      have hqq : ∀ z : UInt8, (z :: _).length ≤ 262145 := fun z => by rw [List.length_cons]; exact Nat.succ_le_succ hm
      have hqq2 := hqq (UInt8.ofNat (n % 125 + 125))
      refine WL.know 21 (bt (UInt8.ofNat (n / 125))) rfl (by rw [btN (by omega)]; simp; omega) ?_
      refine WL.so (SO.buildSlice1 Tryz.underlying43 Tryz.sizeOf5 Tryz.zeroValue5 rfl rfl rfl (vs := [_]) rfl rfl rfl) rfl ?_
      rintro _ _ _ ⟨b22, hb22, rfl, rfl, rfl⟩
      refine zym rfl rfl ?_
      refine WL.so (SO.appendOw (o := some ⟨b22, 1, []⟩) (len := 1) (n := ((UInt8.ofNat (n % 125 + 125)) :: (x :: l)).length) (xs := [bt (UInt8.ofNat (n / 125))]) (size := 1) [] [] [_] rfl rfl Tryz.underlying43 Tryz.sizeOf5 Tryz.typeInfo5 Tryz.zeroValue5 rfl rfl rfl rfl ⟨flat_len btC_len _, .inr ⟨_, _, _, rfl, RdN.app (k := 1) rfl⟩⟩ (btC_one _) ⟨hb22, Nat.le_refl _, rfl⟩ rfl (by simp) (by show (2 * (_ + _) + 1000) * 1 ≤ 2 ^ 48; omega) (by omega)) rfl ?_
      rintro _ _ _ ⟨u2, hu2, rfl, rfl, rfl⟩
      refine zya rfl rfl ?_
      refine WL.nil (WP.blkNormal (WP.thenC (WC.ofFr [(5, _), (0, _)] ⟨rfl, rfl, trivial⟩ (WC.region ?_))))
      refine zym rfl rfl ?_
      refine WL.yd (Yd.quo rfl rfl (by (try dsimp only); omega) (by (try dsimp only); omega) (wr64 ⟨by (try dsimp only); omega, by (try dsimp only); omega⟩)) rfl ?_
      refine zya rfl rfl ?_
      refine WL.nil ?_
      refine WP.hp1 ?_
      exact WP.againT (0, UInt8.ofNat (n / 125) :: (UInt8.ofNat (n % 125 + 125)) :: (x :: l), u2) ⟨.inr ⟨rfl, h125, rfl⟩, by dsimp only; rw [List.length_cons, Nat.add_comm]; exact hu2⟩ (by dsimp only; omega) [] _ rfl (by show _ = owH (some u2) _ ((UInt8.ofNat (n / 125) :: (UInt8.ofNat (n % 125 + 125)) :: (x :: l)).flatMap btC) []; rfl) ⟨(by show some (it _) = some (nt 0); congr 2; omega), by show some (owV (some u2) (1 + ((UInt8.ofNat (n % 125 + 125)) :: (x :: l)).length)) = some (owV (some u2) ((UInt8.ofNat (n % 125 + 125)) :: (x :: l)).length.succ); rw [Nat.add_comm], trivial⟩
    · try simp only [zq1, zq2, zq3, zq4, zq5, zq6, zq7, zq8] at c16
      refine WC.exit ?_
      refine WP.thenExit ?_
      refine WP.thenExit ?_
      refine WP.blkHit ?_
      refine WP.thenC (WC.seq (WC.ofFr [(5, _)] ⟨rfl, trivial⟩ (WC.region ?_)))
      refine zym rfl rfl ?_
      have hfin : q = digL n ++ (x :: l) := by
        rcases hmm with ⟨h1, h2⟩ | ⟨h1, h2, h3⟩
        · rw [h2]; unfold digL; rw [if_pos (by omega), Nat.mod_eq_of_lt (by omega)]; rfl
        · rw [h3]; unfold digL; rw [if_neg (by omega)]; rfl
      refine WL.freezeOw (f := btC) (m := 1) btC_len [] [] (some o) 5 q rfl ho rfl (fun D2 hX2 hS2 => ?_)
      refine zya rfl rfl ?_
      refine WL.nil (WP.thenC (WC.ret ?_))
      refine WP.ret1 rfl rfl Tryz.results156 (RV.tmp rfl) (fun w1 hI => ⟨_, D2, rfl, hI.keep, hI.imm, hX2, _, _, _, rfl, hfin ▸ hS2⟩)

end Go.Proofs.YtaebnllfmkcpgaaGreatDoor
namespace Go.Proofs.YtaebnllfmkcpgaaGreatDoor
open Go.W Go.Bk

def hN (h : Hors) (k : Nat) : List Nat := [h.pace.toNat, h.moves.length] ++ (h.moves.take k).flatMap moveN
theorem hN_content (h : Hors) : (hN h h.moves.length).flatMap digL = contentL h := by
  unfold hN contentL
  rw [List.take_length, List.flatMap_append, List.flatMap_assoc]
  simp
theorem hN_succ {h : Hors} {k : Nat} (hk : k < h.moves.length) : hN h (k + 1) = hN h k ++ moveN (gt h.moves k) := by
  unfold hN
  rw [take_gt hk, List.flatMap_append, ← List.append_assoc]; simp
theorem hN_len (h : Hors) (k : Nat) : (hN h k).length ≤ 2 + 4 * k := by
  have : ((h.moves.take k).flatMap moveN).length ≤ 4 * k := by
    have h1 : ∀ l : List Mv, (l.flatMap moveN).length = 4 * l.length := by
      intro l; induction l with
      | nil => rfl
      | cons x l ih => rw [List.flatMap_cons, List.length_append, ih, List.length_cons, show (moveN x).length = 4 from rfl]; omega
    rw [h1, List.length_take]; omega
  unfold hN; rw [List.length_append]; simp only [List.length_cons, List.length_nil]; omega
theorem hN_le {h : Hors} (ok : HorsOk h) (k : Nat) : ∀ n ∈ hN h k, n ≤ 200 := fun n hn => by
  unfold hN at hn
  rcases List.mem_append.1 hn with hn | hn
  · have h1 := ok.pace; have h2 := ok.n
    simp at hn; rcases hn with rfl | rfl <;> omega
  · obtain ⟨m, hm, hn⟩ := List.mem_flatMap.1 hn
    obtain ⟨j, hj, rfl⟩ := mem_gt hn
    exact moveN_le (ok.moves m (List.mem_of_mem_take hm)) hj
theorem flat2 {l : List Nat} : (l.flatMap digL).length ≤ l.length * 2 := by
  induction l with
  | nil => simp
  | cons x l ih => have := (digL_len x).2; rw [List.flatMap_cons, List.length_append, List.length_cons]; omega

theorem rcont_g (l : List Nat) (h200 : ∀ n ∈ l, n ≤ 200) (hlen : l.length ≤ 1000) (a : Option Addr) (n c : Nat) (D : Imm) (hS : SlL D 1 (l.map ntC) a n) (w : World) (hH : Holds D w) : Makes Tryz.prog 123 [.slice a n c] w D (fun v D' => ∃ a n c, v = .slice a n c ∧ SlL D' 1 ((l.flatMap digL).map btC) a n) := by
  unfold Makes
  obtain rfl : n = l.length := hS.len'
  refine enter Tryz.func123 rfl 19 Tryz.ntmps123 (zqb rfl) (Inv.start hH) ?_
  refine WC.seq (WC.ofFr [(0, _)] ⟨rfl, trivial⟩ (WC.region ?_))
  refine zya rfl rfl ?_
  refine WL.nil (WP.thenC (WC.seq (WC.ofFr [(2, _), (0, _)] ⟨rfl, rfl, trivial⟩ (WC.region ?_))))
  refine zya rfl rfl ?_
  refine WL.nil (WP.thenC (WC.seq (WC.seq (WC.ofFr [(3, _), (2, _), (0, _)] ⟨rfl, rfl, rfl, trivial⟩ (WC.region ?_)))))
  refine zym rfl rfl ?_
  refine WL.yd (Yd.lenS rfl Tryz.underlying111 rfl) rfl ?_
  refine WL.yd (Yd.sub rfl rfl (wr64 ⟨by (try dsimp only); omega, by (try dsimp only); omega⟩)) rfl ?_
  refine zya rfl rfl ?_
  refine WL.nil (WP.thenC (WC.block ?_))
  refine WC.loop (fun y : Nat × Option Addr × Nat × Nat × Imm => [(0, .slice a l.length c), (3, .slice y.2.1 y.2.2.1 y.2.2.2.1), (4, it ((y.1 : Int) - 1))]) (fun _ => []) (fun y => y.2.2.2.2) (fun y => y.1 ≤ l.length ∧ SlL y.2.2.2.2 1 (((l.drop y.1).flatMap digL).map btC) y.2.1 y.2.2.1 ∧ DExt w D y.2.2.2.2) (fun y => y.1) (l.length, none, 0, 0, D) ⟨Nat.le_refl _, by dsimp only; rw [List.drop_length]; exact SlL.nil _ _, DExt.refl _ _⟩ (fun a w' hA => ⟨hA.f.weaken (subB_get ⟨rfl, rfl, rfl, trivial⟩), hA.i⟩) ?_
  rintro ⟨k, a2, n2, c2, D2⟩ ⟨hk, hS2, hXD⟩
  dsimp only at hk hS2 hXD
  refine WC.seq (WC.seq (WC.ofFr [(0, _), (3, _), (4, _)] ⟨rfl, rfl, rfl, trivial⟩ (WC.region ?_)))
  refine zym rfl rfl ?_
  refine WL.yd (Yd.geq rfl rfl) rfl ?_
  refine WL.nil (WP.thenC ?_)
  refine WC.cond rfl (fun c9 => ?_) (fun c9 => ?_)
  · try simp only [zq1, zq2, zq3, zq4, zq5, zq6, zq7, zq8] at c9
    have hkp : 0 < k := by omega
    refine WC.skip (WP.thenC (WC.seq (WC.block (WC.ofFr [(0, _), (3, _), (4, _)] ⟨rfl, rfl, rfl, trivial⟩ (WC.region ?_)))))
    refine zym rfl rfl ?_
    refine zym rfl rfl ?_
    refine WL.know 13 (nt (k - 1)) rfl (by congr 1; dsimp only; omega) ?_
    refine WL.yd (Yd.indexS Tryz.underlying111 Tryz.sizeOf3 rfl rfl (by (try dsimp only); omega) (by (try dsimp only); omega) (by first | exact hS.addr (k - 1) (by omega))) rfl ?_
    refine WL.yd (Yd.load1 Tryz.isAgg3 rfl (by first | exact ((hS.ext hXD).at (k - 1) (by omega)).rd 0 rfl)) rfl ?_
    refine zym rfl rfl ?_
    refine WL.so (SO.makes (Enters.func Tryz.call156 rfl) (fun w hI => rdig_g (gt l (k - 1)) (h200 _ (gtB_mem (by omega))) ((l.drop k).flatMap digL) a2 n2 c2 D2 hS2 (by have h9 := hS2.len'; have h8 := flat2 (l := l.drop k); rw [List.length_drop] at h8; omega) w hI.imm)) rfl ?_
    rintro _ D3 _ ⟨hX3, ⟨a3, n3, c3, rfl, hS3⟩, rfl⟩
    refine zya rfl rfl ?_
    refine WL.nil (WP.blkNormal (WP.thenC (WC.ofFr [(3, _), (0, _), (4, _)] ⟨rfl, rfl, rfl, trivial⟩ (WC.region ?_))))
    refine zym rfl rfl ?_
    refine WL.yd (Yd.sub rfl rfl (wr64 ⟨by (try dsimp only); omega, by (try dsimp only); omega⟩)) rfl ?_
    refine zya rfl rfl ?_
    refine WL.nil ?_
    exact WP.againI (k - 1, a3, n3, c3, D3) ⟨by dsimp only; omega, by dsimp only; rw [drop_gt (show k - 1 < l.length by omega), List.flatMap_cons, show k - 1 + 1 = k by omega]; exact hS3, hXD.trans hX3 (Nat.le_refl _)⟩ (by dsimp only; omega) ⟨rfl, rfl, by show some (it _) = some (it _); congr 2; dsimp only; omega, trivial⟩ rfl rfl
  · try simp only [zq1, zq2, zq3, zq4, zq5, zq6, zq7, zq8] at c9
    obtain rfl : k = 0 := by omega
    refine WC.exit ?_
    refine WP.thenExit ?_
    refine WP.thenExit ?_
    refine WP.blkHit ?_
    refine WP.thenC (WC.seq (WC.ofFr [(3, _)] ⟨rfl, trivial⟩ (WC.region ?_)))
    refine zym rfl rfl ?_
    refine zya rfl rfl ?_
    refine WL.nil (WP.thenC (WC.ret ?_))
    refine WP.ret1 rfl rfl Tryz.results123 (RV.tmp rfl) (fun w1 hI => ⟨_, D2, rfl, hI.keep, hI.imm, hXD, a2, n2, c2, rfl, hS2⟩)

theorem rHorses_g (h : Hors) (m : Sl) (ok : HorsOk h) (D : Imm) (hR : HorsR D h m) (w : World) (hH : Holds D w) : Makes Tryz.prog 64 [horsV h m] w D (fun v D' => ∃ a n c, v = .slice a n c ∧ SlL D' 1 ((bookL h).map btC) a n) := by
  unfold Makes
  obtain ⟨ma, mn, mc⟩ := m
  obtain rfl : mn = h.moves.length := hR.r.len'
  have hRm : SlL D 4 (h.moves.map mvC) ma h.moves.length := hR.r
  have nm : h.moves.length ≤ 9223372036854775807 := hR.n
  refine enter Tryz.func64 rfl 44 Tryz.ntmps64 (zqb rfl) (Inv.start hH) ?_
  refine WC.seq (WC.ofFr [(0, _)] ⟨rfl, trivial⟩ (WC.region ?_))
  refine WL.so (SO.box rfl rfl) rfl ?_
  rintro _ _ _ ⟨b1, hb1, rfl, rfl, rfl⟩
  refine zya rfl rfl ?_
  refine WL.nil (WP.thenC (WC.seq (WC.ofFr [(2, _), (1, _)] ⟨rfl, rfl, trivial⟩ (WC.region ?_))))
  refine WL.yd (Yd.fieldAddr FA35_0 rfl) rfl ?_
  refine WL.yd (Yd.load1 Tryz.isAgg3 rfl (Rd.own (k := 0) rfl rfl)) rfl ?_
  refine WL.yd (Yd.fieldAddr FA35_1 rfl) rfl ?_
  refine WL.yd (Yd.load1 Tryz.isAgg33 rfl (Rd.own (k := 0) rfl rfl)) rfl ?_
  refine WL.yd (Yd.lenS rfl Tryz.underlying33 rfl) rfl ?_
  refine WL.so (SO.buildSlice1 Tryz.underlying111 Tryz.sizeOf3 Tryz.zeroValue3 rfl rfl rfl (vs := [_, _]) rfl rfl rfl) rfl ?_
  rintro _ _ _ ⟨b11, hb11, rfl, rfl, rfl⟩
  refine zya rfl rfl ?_
  refine WL.nil (WP.thenC (WC.seq (WC.seq (WC.ofFr [(3, _), (2, _), (1, _)] ⟨rfl, rfl, rfl, trivial⟩ (WC.region ?_)))))
  refine zya rfl rfl ?_
  refine WL.nil (WP.thenC (WC.block ?_))
  have hpc := ok.pace
  refine WC.hpEq (congrArg (fun cs : List Value => ((b11, Obj.cells (List.toArray cs) 3 (0, 0)) :: _ : Hp)) (show [it h.pace, nt h.moves.length] = (hN h 0).flatMap ntC ++ [] by rw [show it h.pace = nt h.pace.toNat by congr 1; omega]; rfl)) ?_
  refine WC.loopT [] (fun y : Nat × Ow => [(1, pt b1), (3, owV (some y.2) (hN h y.1).length), (4, nt y.1)]) (fun y => owH (some y.2) 3 ((hN h y.1).flatMap ntC) [(b1, .cells (List.toArray [it h.pace, .slice ma h.moves.length mc]) 35 (0, 0))]) (fun y => y.1 ≤ h.moves.length ∧ owP w (some y.2) (hN h y.1).length 1) (fun y => h.moves.length - y.1) (0, ⟨b11, 2, []⟩) ⟨Nat.zero_le _, hb11, Nat.le_refl _, rfl⟩ rfl ⟨rfl, rfl, rfl, trivial⟩ ?_
  rintro ⟨k, o⟩ ⟨hk, ho⟩
  dsimp only at hk ho
  have hln := hN_len h k
  have hmn := ok.n
  refine WC.seq (WC.seq (WC.ofFr [(1, _), (3, _), (4, _)] ⟨rfl, rfl, rfl, trivial⟩ (WC.region ?_)))
  refine zym rfl rfl ?_
  refine WL.yd (Yd.fieldAddr FA35_1 rfl) rfl ?_
  refine WL.yd (Yd.load1 Tryz.isAgg33 rfl (Rd.own (k := 1) rfl rfl)) rfl ?_
  refine WL.yd (Yd.lenS rfl Tryz.underlying33 rfl) rfl ?_
  refine WL.yd (Yd.lss rfl rfl) rfl ?_
  refine WL.nil (WP.thenC ?_)
  refine WC.cond rfl (fun c16 => ?_) (fun c16 => ?_)
  · try simp only [zq1, zq2, zq3, zq4, zq5, zq6, zq7, zq8] at c16
    have hkl : k < h.moves.length := by omega
    have hm := ok.moves _ (gtB_mem hkl)
    refine WC.skip (WP.thenC (WC.seq (WC.block (WC.seq (WC.ofFr [(1, _), (3, _), (4, _)] ⟨rfl, rfl, rfl, trivial⟩ (WC.region ?_))))))
    refine WL.yd (Yd.fieldAddr FA35_1 rfl) rfl ?_
    refine WL.yd (Yd.load1 Tryz.isAgg33 rfl (Rd.own (k := 1) rfl rfl)) rfl ?_
    refine zym rfl rfl ?_
    refine WL.yd (Yd.indexS Tryz.underlying33 Tryz.sizeOf116 rfl rfl (by (try dsimp only); omega) (by (try dsimp only); omega) (by first | exact hRm.addr k (by omega))) rfl ?_
    refine WL.yd (Yd.loadN Tryz.isAgg116 Tryz.sizeOf116 rfl (vs := [_, _, _, _]) rfl ((hRm.at k (by omega)).rdn 0 4 rfl)) rfl ?_
    refine WL.so (SO.alloc Tryz.zeroValue116 rfl) rfl ?_
    rintro _ _ _ ⟨b5, hb5, rfl, rfl, rfl⟩
    refine WL.so (SO.store 0 rfl Tryz.sizeOf116 rfl rfl rfl rfl (zqb rfl) (oneB_spec rfl)) rfl ?_
    rintro _ _ _ ⟨rfl, rfl, rfl⟩
    refine WL.nil (WP.thenC (WC.ofFr [(5, _), (1, _), (3, _), (4, _)] ⟨rfl, rfl, rfl, rfl, trivial⟩ (WC.region ?_)))
    refine zym rfl rfl ?_
    refine WL.yd (Yd.fieldAddr FA116_0 rfl) rfl ?_
    refine WL.yd (Yd.load1 Tryz.isAgg3 rfl (Rd.own (k := 0) rfl rfl)) rfl ?_
    refine WL.yd (Yd.fieldAddr FA116_1 rfl) rfl ?_
    refine WL.yd (Yd.load1 Tryz.isAgg3 rfl (Rd.own (k := 0) rfl rfl)) rfl ?_
    refine WL.yd (Yd.fieldAddr FA116_2 rfl) rfl ?_
    refine WL.yd (Yd.fieldAddr FA114_0 rfl) rfl ?_
    refine WL.yd (Yd.load1 Tryz.isAgg3 rfl (Rd.own (k := 0) rfl rfl)) rfl ?_
    refine WL.yd (Yd.fieldAddr FA116_2 rfl) rfl ?_
    refine WL.yd (Yd.fieldAddr FA114_1 rfl) rfl ?_
    refine WL.yd (Yd.load1 Tryz.isAgg3 rfl (Rd.own (k := 0) rfl rfl)) rfl ?_
    refine WL.yd (Yd.fieldAddr FA116_2 rfl) rfl ?_
    refine WL.yd (Yd.fieldAddr FA114_0 rfl) rfl ?_
    refine WL.yd (Yd.load1 Tryz.isAgg3 rfl (Rd.own (k := 0) rfl rfl)) rfl ?_
    refine WL.yd (Yd.sub rfl rfl (wr64 ⟨by (try dsimp only); omega, by (try dsimp only); omega⟩)) rfl ?_
    refine WL.so (SO.buildSlice1 Tryz.underlying111 Tryz.sizeOf3 Tryz.zeroValue3 rfl rfl rfl (vs := [_, _, _, _]) rfl rfl rfl) rfl ?_
    rintro _ _ _ ⟨b39, hb39, rfl, rfl, rfl⟩
    refine WL.so (SO.appendOw (o := some o) (len := (hN h k).length) (n := 4) (xs := ((hN h k).flatMap ntC)) (size := 1) [_] [_] [_] rfl rfl Tryz.underlying111 Tryz.sizeOf3 Tryz.typeInfo3 Tryz.zeroValue3 rfl rfl rfl rfl ⟨rfl, .inr ⟨_, _, _, rfl, RdN.own (k := 0) (n := 4) rfl rfl⟩⟩ (oneB_spec rfl) ho (flat_len ntC_len _) (by omega) (by show (2 * (_ + _) + 1000) * 8 ≤ 2 ^ 48; omega) (by omega)) rfl ?_
    rintro _ _ _ ⟨u1, hu1, rfl, rfl, rfl⟩
    refine zya rfl rfl ?_
    refine WL.nil (WP.blkNormal (WP.thenC (WC.ofFr [(3, _), (1, _), (4, _)] ⟨rfl, rfl, rfl, trivial⟩ (WC.region ?_))))
    refine zym rfl rfl ?_
    refine WL.yd (Yd.add rfl rfl (wr64 ⟨by (try dsimp only); omega, by (try dsimp only); omega⟩)) rfl ?_
    refine zya rfl rfl ?_
    refine WL.nil ?_
    exact WP.againT (k + 1, u1) ⟨hkl, by dsimp only; rw [hN_succ hkl, List.length_append]; exact hu1⟩ (by dsimp only; omega) [_] _ rfl (by show _ = owH (some u1) _ ((hN h (k + 1)).flatMap ntC) _; rw [hN_succ hkl, List.flatMap_append, ← (moveN_cells hm).trans (List.append_nil _)]; rfl) ⟨rfl, by show _ = some (owV (some u1) (hN h (k + 1)).length); rw [hN_succ hkl, List.length_append]; rfl, rfl, trivial⟩
  · try simp only [zq1, zq2, zq3, zq4, zq5, zq6, zq7, zq8] at c16
    obtain rfl : k = h.moves.length := by omega
    refine WC.exit ?_
    refine WP.thenExit ?_
    refine WP.thenExit ?_
    refine WP.blkHit ?_
    refine WP.thenC (WC.seq (WC.ofFr [(3, _)] ⟨rfl, trivial⟩ (WC.region ?_)))
    refine zym rfl rfl ?_
    have hcl := contentL_len ok
    refine WL.freezeOw (f := ntC) (m := 1) ntC_len [] [_] (some o) 3 (hN h h.moves.length) rfl ho rfl (fun D2 hX2 hS2 => ?_)
    refine WL.so (SO.makes (Enters.func Tryz.call123 rfl) (fun w hI => rcont_g (hN h h.moves.length) (hN_le ok _) (by omega) _ _ _ D2 hS2 w hI.imm)) rfl ?_
    rintro _ D3 _ ⟨hX3, ⟨a3, n3, c3, rfl, hS3⟩, rfl⟩
    rw [hN_content] at hS3
    refine WL.so (SO.makes (Enters.func Tryz.call74 rfl) (fun w hI => seal_g (contentL h) a3 n3 c3 D3 hS3 (by have := hS3.len'; omega) w hI.imm)) rfl ?_
    rintro _ D4 _ ⟨hX4, ⟨a4, n4, c4, rfl, hS4⟩, rfl⟩
    refine zya rfl rfl ?_
    refine WL.nil (WP.thenC (WC.ret ?_))
    refine WP.ret1 rfl rfl Tryz.results64 (RV.tmp rfl) (fun w1 hI => ⟨_, D4, rfl, hI.keep, hI.imm, (hX2.trans hX3 (Nat.le_refl _)).trans hX4 (Nat.le_refl _), a4, n4, c4, rfl, hS4⟩)

end Go.Proofs.YtaebnllfmkcpgaaGreatDoor
namespace Go.Proofs.YtaebnllfmkcpgaaGreatDoor
open Go.W Go.Bk

def numsR : Nat → List Nat → Bs → List Nat
  | _, out, [] => out
  | n, out, x :: r => if x.toNat < 125 then numsR (min 10000 (125 * n + x.toNat)) out r else numsR 0 (out ++ [125 * n + x.toNat - 125]) r
theorem numsR_le : ∀ (l : Bs) (n : Nat) (out : List Nat), n ≤ 10000 → (∀ x ∈ out, x ≤ 1250255) → ∀ x ∈ numsR n out l, x ≤ 1250255
  | [], n, out, _, ho => ho
  | x :: l, n, out, hn, ho => by
    rw [numsR]; split
    · exact numsR_le l _ out (Nat.min_le_left _ _) ho
    · refine numsR_le l 0 _ (by omega) fun y hy => ?_
      rcases List.mem_append.1 hy with hy | hy
      · exact ho y hy
      · have := x.toNat_lt; rw [List.mem_singleton] at hy; omega
theorem numsR_cnt : ∀ (l : Bs) (n : Nat) (out : List Nat), (numsR n out l).length ≤ out.length + l.length
  | [], n, out => by simp [numsR]
  | x :: l, n, out => by
    rw [numsR]; split
    · have := numsR_cnt l (min 10000 (125 * n + x.toNat)) out; simp; omega
    · have := numsR_cnt l 0 (out ++ [125 * n + x.toNat - 125]); simp at this ⊢; omega
def horsR (l : List Nat) : Hors := ⟨if 1 < l.length then ((gt l 0 : Nat) : Int) else -1, movesN (l.drop 2)⟩
theorem movesN_div : ∀ (l : List Nat), (movesN l).length = l.length / 4
  | a :: b :: c :: d :: l => by rw [movesN, List.length_cons, movesN_div l]; simp only [List.length_cons]; omega
  | [] => by simp [movesN]
  | [_] => by simp [movesN]
  | [_, _] => by simp [movesN]
  | [_, _, _] => by simp [movesN]

theorem rnums_g (l : Bs) (a : Option Addr) (n c : Nat) (D : Imm) (hS : SlL D 1 (l.map btC) a n) (hn : n ≤ 2 ^ 19) (w : World) (hH : Holds D w) : Makes Tryz.prog 128 [.slice a n c] w D (fun v D' => ∃ a n c, v = .slice a n c ∧ SlL D' 1 ((numsR 0 [] l).map ntC) a n) := by
  unfold Makes
  obtain rfl : n = l.length := hS.len'
  refine enter Tryz.func128 rfl 39 Tryz.ntmps128 (zqb rfl) (Inv.start hH) ?_
  refine WC.seq (WC.ofFr [(0, _)] ⟨rfl, trivial⟩ (WC.region ?_))
  refine zya rfl rfl ?_
  refine WL.nil (WP.thenC (WC.seq (WC.ofFr [(2, _), (0, _)] ⟨rfl, rfl, trivial⟩ (WC.region ?_))))
  refine zya rfl rfl ?_
  refine WL.nil (WP.thenC (WC.seq (WC.ofFr [(3, _), (2, _), (0, _)] ⟨rfl, rfl, rfl, trivial⟩ (WC.region ?_))))
  refine zya rfl rfl ?_
  refine WL.nil (WP.thenC (WC.seq (WC.seq (WC.ofFr [(4, _), (3, _), (2, _), (0, _)] ⟨rfl, rfl, rfl, rfl, trivial⟩ (WC.region ?_)))))
  refine zya rfl rfl ?_
  refine WL.nil (WP.thenC (WC.block ?_))
  refine WC.loopT [] (fun y : Nat × Nat × List Nat × Option Ow => [(0, .slice a l.length c), (3, owV y.2.2.2 y.2.2.1.length), (4, nt y.2.1), (5, nt y.1)]) (fun y => owH y.2.2.2 3 (y.2.2.1.flatMap ntC) []) (fun y => y.1 ≤ l.length ∧ y.2.1 ≤ 10000 ∧ numsR y.2.1 y.2.2.1 (l.drop y.1) = numsR 0 [] l ∧ owP w y.2.2.2 y.2.2.1.length 1 ∧ y.2.2.1.length ≤ y.1) (fun y => l.length - y.1) (0, 0, [], none) ⟨Nat.zero_le _, Nat.zero_le _, rfl, rfl, Nat.le_refl _⟩ rfl ⟨rfl, rfl, rfl, rfl, trivial⟩ ?_
  rintro ⟨k, n1, out, o⟩ ⟨hk, hn1, hF, ho, hok⟩
  dsimp only at hk hn1 hF ho hok
  refine WC.seq (WC.seq (WC.ofFr [(0, _), (3, _), (4, _), (5, _)] ⟨rfl, rfl, rfl, rfl, trivial⟩ (WC.region ?_)))
  refine zym rfl rfl ?_
  refine zym rfl rfl ?_
  refine WL.yd (Yd.lenS rfl Tryz.underlying43 rfl) rfl ?_
  refine WL.yd (Yd.lss rfl rfl) rfl ?_
  refine WL.nil (WP.thenC ?_)
  refine WC.cond rfl (fun c9 => ?_) (fun c9 => ?_)
  · try simp only [zq1, zq2, zq3, zq4, zq5, zq6, zq7, zq8] at c9
    have hkl : k < l.length := by omega
    have hb8 := (gt l k).toNat_lt
    refine WC.skip (WP.thenC (WC.seq (WC.block (WC.seq (WC.ofFr [(0, _), (3, _), (4, _), (5, _)] ⟨rfl, rfl, rfl, rfl, trivial⟩ (WC.region ?_))))))
    refine zym rfl rfl ?_
    refine zym rfl rfl ?_
    refine WL.yd (Yd.indexS Tryz.underlying43 Tryz.sizeOf5 rfl rfl (by (try dsimp only); omega) (by (try dsimp only); omega) (by first | exact hS.addr k (by omega))) rfl ?_
    refine WL.yd (Yd.load1 Tryz.isAgg5 rfl ((hS.at k (by omega)).rd 0 rfl)) rfl ?_
    refine WL.yd (Yd.lss rfl rfl) rfl ?_
    refine WL.nil (WP.thenC ?_)
    refine WC.cond rfl (fun c16 => ?_) (fun c16 => ?_)
    · try simp only [zq1, zq2, zq3, zq4, zq5, zq6, zq7, zq8] at c16
      refine WC.ofFr [(0, _), (3, _), (4, _), (5, _)] ⟨rfl, rfl, rfl, rfl, trivial⟩ (WC.region ?_)
      refine zym rfl rfl ?_
      refine WL.yd (Yd.mul rfl rfl (wr64 ⟨by (try dsimp only); omega, by (try dsimp only); omega⟩)) rfl ?_
      refine zym rfl rfl ?_
      refine zym rfl rfl ?_
      refine WL.yd (Yd.indexS Tryz.underlying43 Tryz.sizeOf5 rfl rfl (by (try dsimp only); omega) (by (try dsimp only); omega) (by first | exact hS.addr k (by omega))) rfl ?_
      refine WL.yd (Yd.load1 Tryz.isAgg5 rfl ((hS.at k (by omega)).rd 0 rfl)) rfl ?_
      refine WL.yd (Yd.conv Tryz.underlying5 Tryz.underlying3 rfl (wr64 ⟨by (try dsimp only); omega, by (try dsimp only); omega⟩)) rfl ?_
      refine WL.yd (Yd.add rfl rfl (wr64 ⟨by (try dsimp only); omega, by (try dsimp only); omega⟩)) rfl ?_
      refine WL.yd (Yd.min2 rfl rfl) rfl ?_
      refine WL.know 25 (nt (min 10000 (125 * n1 + (gt l k).toNat))) rfl (by congr 1; dsimp only; omega) ?_
      refine zya rfl rfl ?_
      refine WL.nil (WP.blkNormal (WP.thenC (WC.ofFr [(4, _), (0, _), (3, _), (5, _)] ⟨rfl, rfl, rfl, rfl, trivial⟩ (WC.region ?_))))
      refine zym rfl rfl ?_
      refine WL.yd (Yd.add rfl rfl (wr64 ⟨by (try dsimp only); omega, by (try dsimp only); omega⟩)) rfl ?_
      refine zya rfl rfl ?_
      refine WL.nil ?_
      exact WP.againT (k + 1, min 10000 (125 * n1 + (gt l k).toNat), out, o) ⟨hkl, Nat.min_le_left _ _, by dsimp only; rw [← hF, drop_gt hkl, numsR, if_pos (by omega)], ho, by dsimp only; omega⟩ (by dsimp only; omega) [] _ rfl rfl ⟨rfl, rfl, rfl, rfl, trivial⟩
    · try simp only [zq1, zq2, zq3, zq4, zq5, zq6, zq7, zq8] at c16
      refine WC.ofFr [(0, _), (3, _), (4, _), (5, _)] ⟨rfl, rfl, rfl, rfl, trivial⟩ (WC.region ?_)
      refine zym rfl rfl ?_
      refine zym rfl rfl ?_
      refine WL.yd (Yd.mul rfl rfl (wr64 ⟨by (try dsimp only); omega, by (try dsimp only); omega⟩)) rfl ?_
      refine zym rfl rfl ?_
      refine zym rfl rfl ?_
      refine WL.yd (Yd.indexS Tryz.underlying43 Tryz.sizeOf5 rfl rfl (by (try dsimp only); omega) (by (try dsimp only); omega) (by first | exact hS.addr k (by omega))) rfl ?_
      refine WL.yd (Yd.load1 Tryz.isAgg5 rfl ((hS.at k (by omega)).rd 0 rfl)) rfl ?_
      refine WL.yd (Yd.conv Tryz.underlying5 Tryz.underlying3 rfl (wr64 ⟨by (try dsimp only); omega, by (try dsimp only); omega⟩)) rfl ?_
      refine WL.yd (Yd.add rfl rfl (wr64 ⟨by (try dsimp only); omega, by (try dsimp only); omega⟩)) rfl ?_
      refine WL.yd (Yd.sub rfl rfl (wr64 ⟨by (try dsimp only); omega, by (try dsimp only); omega⟩)) rfl ?_
      refine WL.know 35 (nt (125 * n1 + (gt l k).toNat - 125)) rfl (by congr 1; dsimp only; omega) ?_
      refine WL.so (SO.buildSlice1 Tryz.underlying111 Tryz.sizeOf3 Tryz.zeroValue3 rfl rfl rfl (vs := [_]) rfl rfl rfl) rfl ?_
      rintro _ _ _ ⟨b36, hb36, rfl, rfl, rfl⟩
      refine WL.so (SO.appendOw (o := o) (len := out.length) (n := 1) (xs := (out.flatMap ntC)) (size := 1) [_] [] [] rfl rfl Tryz.underlying111 Tryz.sizeOf3 Tryz.typeInfo3 Tryz.zeroValue3 rfl rfl rfl rfl ⟨rfl, .inr ⟨_, _, _, rfl, RdN.own (k := 0) (n := 1) rfl rfl⟩⟩ (oneB_spec rfl) ho (flat_len ntC_len _) (by omega) (by show (2 * (_ + _) + 1000) * 8 ≤ 2 ^ 48; omega) (by omega)) rfl ?_
      rintro _ _ _ ⟨u1, hu1, rfl, rfl, rfl⟩
      refine zya rfl rfl ?_
      refine zya rfl rfl ?_
      refine WL.nil (WP.blkNormal (WP.thenC (WC.ofFr [(4, _), (3, _), (0, _), (5, _)] ⟨rfl, rfl, rfl, rfl, trivial⟩ (WC.region ?_))))
      refine zym rfl rfl ?_
      refine WL.yd (Yd.add rfl rfl (wr64 ⟨by (try dsimp only); omega, by (try dsimp only); omega⟩)) rfl ?_
      refine zya rfl rfl ?_
      refine WL.nil ?_
      exact WP.againT (k + 1, 0, out ++ [125 * n1 + (gt l k).toNat - 125], some u1) ⟨hkl, Nat.zero_le _, by dsimp only; rw [← hF, drop_gt hkl, numsR, if_neg (by omega)], by simpa using hu1, by simp; omega⟩ (by dsimp only; omega) [] _ rfl (by show _ = _ ++ owH (some u1) _ ((out ++ [_]).flatMap ntC) []; rw [List.flatMap_append]; rfl) ⟨rfl, by show _ = some (owV (some u1) (out ++ [_]).length); rw [List.length_append]; rfl, rfl, rfl, trivial⟩
  · try simp only [zq1, zq2, zq3, zq4, zq5, zq6, zq7, zq8] at c9
    obtain rfl : k = l.length := by omega
    refine WC.exit ?_
    refine WP.thenExit ?_
    refine WP.thenExit ?_
    refine WP.blkHit ?_
    refine WP.thenC (WC.seq (WC.ofFr [(3, _)] ⟨rfl, trivial⟩ (WC.region ?_)))
    have hfin : numsR 0 [] l = out := by rw [← hF, List.drop_length]; rfl
    refine WL.freezeOw (f := ntC) (m := 1) ntC_len [] [] o 3 out rfl ho rfl (fun D2 hX2 hS2 => ?_)
    refine zym rfl rfl ?_
    refine zya rfl rfl ?_
    refine WL.nil (WP.thenC (WC.ret ?_))
    refine WP.ret1 rfl rfl Tryz.results128 (RV.tmp rfl) (fun w1 hI => ⟨_, D2, rfl, hI.keep, hI.imm, hX2, owAt o, _, _, owV_owL (owL_of ho), hfin ▸ hS2⟩)

set_option maxRecDepth 100000 in
set_option maxHeartbeats 6000000 in
theorem rhors_g (l : Bs) (a : Option Addr) (n c : Nat) (D : Imm) (hS : SlL D 1 (l.map btC) a n) (hn : n ≤ 2 ^ 19) (w : World) (hH : Holds D w) : Makes Tryz.prog 70 [.slice a n c] w D (fun v D' => ∃ m, v = horsV (horsR (numsR 0 [] l)) m ∧ HorsR D' (horsR (numsR 0 [] l)) m) := by
  unfold Makes
  obtain rfl : n = l.length := hS.len'
  refine enter Tryz.func70 rfl 56 Tryz.ntmps70 (zqb rfl) (Inv.start hH) ?_
  refine WC.seq (WC.ofFr [(0, _)] ⟨rfl, trivial⟩ (WC.region ?_))
  refine WL.so (SO.alloc Tryz.zeroValue35 rfl) rfl ?_
  rintro _ _ _ ⟨b2, hb2, rfl, rfl, rfl⟩
  refine WL.nil (WP.thenC (WC.seq (WC.ofFr [(2, _), (0, _)] ⟨rfl, rfl, trivial⟩ (WC.region ?_))))
  refine zym rfl rfl ?_
  refine WL.so (SO.makes (Enters.func Tryz.call128 rfl) (fun w hI => rnums_g l a l.length c D hS hn w hI.imm)) rfl ?_
  rintro _ D1 _ ⟨hX1, ⟨a1, n1, c1, rfl, hS1⟩, rfl⟩
  have hcn := numsR_cnt l 0 []
  rw [List.length_nil] at hcn
  have hnl : ∀ i, i < (numsR 0 [] l).length → gt (numsR 0 [] l) i ≤ 1250255 := fun i hi => numsR_le l 0 [] (by omega) (by simp) _ (gtB_mem hi)
  generalize numsR 0 [] l = out at *
  obtain rfl : n1 = out.length := hS1.len'
  have hML := movesN_div (out.drop 2)
  rw [List.length_drop] at hML
  refine zya rfl rfl ?_
  refine WL.nil (WP.thenC (WC.seq (WC.ofFr [(3, _), (2, _)] ⟨rfl, rfl, trivial⟩ (WC.region ?_))))
  refine WL.yd (Yd.build SA35 rfl (cs := [_, _]) rfl) rfl ?_
  refine WL.so (SO.alloc Tryz.zeroValue35 rfl) rfl ?_
  rintro _ _ _ ⟨b4, hb4, rfl, rfl, rfl⟩
  refine WL.so (SO.store 0 rfl Tryz.sizeOf35 rfl rfl rfl rfl (zqb rfl) (oneB_spec rfl)) rfl ?_
  rintro _ _ _ ⟨rfl, rfl, rfl⟩
  refine WL.nil (WP.thenC (WC.seq (WC.seq (WC.ofFr [(4, _), (3, _), (2, _)] ⟨rfl, rfl, rfl, trivial⟩ (WC.region ?_)))))
  refine zym rfl rfl ?_
  refine WL.yd (Yd.lenS rfl Tryz.underlying111 rfl) rfl ?_
  refine WL.yd (Yd.gtr rfl rfl) rfl ?_
  refine WL.nil (WP.thenC ?_)
  refine WC.cond rfl (fun c11 => ?_) (fun c11 => ?_)
  · try simp only [zq1, zq2, zq3, zq4, zq5, zq6, zq7, zq8] at c11
    refine WC.ofFr [(4, _), (3, _), (2, _)] ⟨rfl, rfl, rfl, trivial⟩ (WC.region ?_)
    refine zym rfl rfl ?_
    refine WL.yd (Yd.indexS Tryz.underlying111 Tryz.sizeOf3 rfl rfl (by (try dsimp only); omega) (by (try dsimp only); omega) (by first | exact hS1.addr 0 (by omega))) rfl ?_
    refine WL.yd (Yd.load1 Tryz.isAgg3 rfl ((hS1.at 0 (by omega)).rd 0 rfl)) rfl ?_
    refine WL.yd (Yd.fieldAddr FA35_0 rfl) rfl ?_
    refine WL.so (SO.store 0 rfl Tryz.sizeOf3 rfl rfl rfl rfl (zqb rfl) (oneB_spec rfl)) rfl ?_
    rintro _ _ _ ⟨rfl, rfl, rfl⟩
    refine WL.nil (WP.thenC (WC.seq (WC.seq (WC.ofFr [(4, _), (3, _), (2, _)] ⟨rfl, rfl, rfl, trivial⟩ (WC.region ?_)))))
    refine zya rfl rfl ?_
    refine WL.nil (WP.thenC (WC.block ?_))
    have hpac : it (horsR out).pace = it (gt out 0 : Nat) := by unfold horsR; simp only; rw [if_pos (by omega)]
    refine WC.loopT [] (fun y : Nat × Option Ow => [(2, pt b2), (3, .slice a1 out.length c1), (4, pt b4), (5, nt (2 + 4 * y.1))]) (fun y => (b4, .cells (List.toArray [it (horsR out).pace, owV y.2 y.1]) 35 (0, 0)) :: owH y.2 116 (((movesN (out.drop 2)).take y.1).flatMap mvC) [(b2, .cells (List.toArray [it 0, .slice none 0 0]) 35 (0, 0))]) (fun y => y.1 ≤ (movesN (out.drop 2)).length ∧ owP w y.2 y.1 4) (fun y => (movesN (out.drop 2)).length - y.1) (0, none) ⟨Nat.zero_le _, rfl⟩ (by dsimp only; rw [hpac]; rfl) ⟨rfl, rfl, rfl, rfl, trivial⟩ ?_
    rintro ⟨k, o⟩ ⟨hk, ho⟩
    dsimp only at hk ho
    refine WC.seq (WC.seq (WC.ofFr [(2, _), (3, _), (4, _), (5, _)] ⟨rfl, rfl, rfl, rfl, trivial⟩ (WC.region ?_)))
    refine zym rfl rfl ?_
    refine WL.yd (Yd.add rfl rfl (wr64 ⟨by (try dsimp only); omega, by (try dsimp only); omega⟩)) rfl ?_
    refine zym rfl rfl ?_
    refine WL.yd (Yd.lenS rfl Tryz.underlying111 rfl) rfl ?_
    refine WL.yd (Yd.lss rfl rfl) rfl ?_
    refine WL.nil (WP.thenC ?_)
    refine WC.cond rfl (fun c20 => ?_) (fun c20 => ?_)
    · try simp only [zq1, zq2, zq3, zq4, zq5, zq6, zq7, zq8] at c20
      have hkN : k < (movesN (out.drop 2)).length := by omega
      have hgm := movesN_gt k (out.drop 2) (by simp; omega)
      simp only [gt_drop] at hgm
      refine WC.skip (WP.thenC (WC.seq (WC.block (WC.ofFr [(2, _), (3, _), (4, _), (5, _)] ⟨rfl, rfl, rfl, rfl, trivial⟩ ?_))))
      refine WC.drawH [] (by kernel_rfl) (fun _ hI => Inv.nil hI) ?_
      refine WH.yd (i := 0) (by kernel_rfl) (fun _ o v c a w _ h => (QuietPanic.blk (QuietPanic.then (QuietPanic.then (QuietPanic.blk (QuietPanic.then QuietPanic.body))))) c o.dst v a w h) rfl (Yd.fieldAddr FA35_1 rfl) rfl ?_
      refine WH.yd (i := 2) (by kernel_rfl) (fun _ o v c a w _ h => (QuietPanic.blk (QuietPanic.then (QuietPanic.then (QuietPanic.blk (QuietPanic.then QuietPanic.body))))) c o.dst v a w h) rfl (Yd.move rfl) rfl ?_
      refine WH.yd (i := 3) (by kernel_rfl) (fun _ o v c a w _ h => (QuietPanic.blk (QuietPanic.then (QuietPanic.then (QuietPanic.blk (QuietPanic.then QuietPanic.body))))) c o.dst v a w h) rfl (Yd.move rfl) rfl ?_
      refine WH.yd (i := 4) (by kernel_rfl) (fun _ o v c a w _ h => (QuietPanic.blk (QuietPanic.then (QuietPanic.then (QuietPanic.blk (QuietPanic.then QuietPanic.body))))) c o.dst v a w h) rfl (Yd.indexS Tryz.underlying111 Tryz.sizeOf3 rfl rfl (by (try dsimp only); omega) (by (try dsimp only); omega) (by first | exact hS1.addr 0 (by omega))) rfl ?_
      refine WH.yd (i := 5) (by kernel_rfl) (fun _ o v c a w _ h => (QuietPanic.blk (QuietPanic.then (QuietPanic.then (QuietPanic.blk (QuietPanic.then QuietPanic.body))))) c o.dst v a w h) rfl (Yd.load1 Tryz.isAgg3 rfl (by first | exact ro0 rfl rfl | exact ro1 rfl rfl | exact ro2 rfl rfl | exact (hS1.at (2 + 4 * k) (by omega)).rd 0 rfl | exact (hS1.at (2 + 4 * k + 1) (by omega)).rd 0 rfl | exact (hS1.at (2 + 4 * k + 2) (by omega)).rd 0 rfl | exact (hS1.at (2 + 4 * k + 3) (by omega)).rd 0 rfl)) rfl ?_
      refine WH.yd (i := 6) (by kernel_rfl) (fun _ o v c a w _ h => (QuietPanic.blk (QuietPanic.then (QuietPanic.then (QuietPanic.blk (QuietPanic.then QuietPanic.body))))) c o.dst v a w h) rfl (Yd.move rfl) rfl ?_
      refine WH.yd (i := 7) (by kernel_rfl) (fun _ o v c a w _ h => (QuietPanic.blk (QuietPanic.then (QuietPanic.then (QuietPanic.blk (QuietPanic.then QuietPanic.body))))) c o.dst v a w h) rfl (Yd.move rfl) rfl ?_
      refine WH.yd (i := 8) (by kernel_rfl) (fun _ o v c a w _ h => (QuietPanic.blk (QuietPanic.then (QuietPanic.then (QuietPanic.blk (QuietPanic.then QuietPanic.body))))) c o.dst v a w h) rfl (Yd.add rfl rfl (wr64 ⟨by (try dsimp only); omega, by (try dsimp only); omega⟩)) rfl ?_
      refine WH.know 31 (nt (2 + 4 * k + 1)) rfl (by congr 1) ?_
      refine WH.yd (i := 9) (by kernel_rfl) (fun _ o v c a w _ h => (QuietPanic.blk (QuietPanic.then (QuietPanic.then (QuietPanic.blk (QuietPanic.then QuietPanic.body))))) c o.dst v a w h) rfl (Yd.indexS Tryz.underlying111 Tryz.sizeOf3 rfl rfl (by (try dsimp only); omega) (by (try dsimp only); omega) (by first | exact hS1.addr 0 (by omega))) rfl ?_
      refine WH.yd (i := 10) (by kernel_rfl) (fun _ o v c a w _ h => (QuietPanic.blk (QuietPanic.then (QuietPanic.then (QuietPanic.blk (QuietPanic.then QuietPanic.body))))) c o.dst v a w h) rfl (Yd.load1 Tryz.isAgg3 rfl (by first | exact ro0 rfl rfl | exact ro1 rfl rfl | exact ro2 rfl rfl | exact (hS1.at (2 + 4 * k) (by omega)).rd 0 rfl | exact (hS1.at (2 + 4 * k + 1) (by omega)).rd 0 rfl | exact (hS1.at (2 + 4 * k + 2) (by omega)).rd 0 rfl | exact (hS1.at (2 + 4 * k + 3) (by omega)).rd 0 rfl)) rfl ?_
      refine WH.yd (i := 11) (by kernel_rfl) (fun _ o v c a w _ h => (QuietPanic.blk (QuietPanic.then (QuietPanic.then (QuietPanic.blk (QuietPanic.then QuietPanic.body))))) c o.dst v a w h) rfl (Yd.move rfl) rfl ?_
      refine WH.yd (i := 12) (by kernel_rfl) (fun _ o v c a w _ h => (QuietPanic.blk (QuietPanic.then (QuietPanic.then (QuietPanic.blk (QuietPanic.then QuietPanic.body))))) c o.dst v a w h) rfl (Yd.move rfl) rfl ?_
      refine WH.yd (i := 13) (by kernel_rfl) (fun _ o v c a w _ h => (QuietPanic.blk (QuietPanic.then (QuietPanic.then (QuietPanic.blk (QuietPanic.then QuietPanic.body))))) c o.dst v a w h) rfl (Yd.add rfl rfl (wr64 ⟨by (try dsimp only); omega, by (try dsimp only); omega⟩)) rfl ?_
      refine WH.know 36 (nt (2 + 4 * k + 2)) rfl (by congr 1) ?_
      refine WH.yd (i := 14) (by kernel_rfl) (fun _ o v c a w _ h => (QuietPanic.blk (QuietPanic.then (QuietPanic.then (QuietPanic.blk (QuietPanic.then QuietPanic.body))))) c o.dst v a w h) rfl (Yd.indexS Tryz.underlying111 Tryz.sizeOf3 rfl rfl (by (try dsimp only); omega) (by (try dsimp only); omega) (by first | exact hS1.addr 0 (by omega))) rfl ?_
      refine WH.yd (i := 15) (by kernel_rfl) (fun _ o v c a w _ h => (QuietPanic.blk (QuietPanic.then (QuietPanic.then (QuietPanic.blk (QuietPanic.then QuietPanic.body))))) c o.dst v a w h) rfl (Yd.load1 Tryz.isAgg3 rfl (by first | exact ro0 rfl rfl | exact ro1 rfl rfl | exact ro2 rfl rfl | exact (hS1.at (2 + 4 * k) (by omega)).rd 0 rfl | exact (hS1.at (2 + 4 * k + 1) (by omega)).rd 0 rfl | exact (hS1.at (2 + 4 * k + 2) (by omega)).rd 0 rfl | exact (hS1.at (2 + 4 * k + 3) (by omega)).rd 0 rfl)) rfl ?_
      refine WH.yd (i := 16) (by kernel_rfl) (fun _ o v c a w _ h => (QuietPanic.blk (QuietPanic.then (QuietPanic.then (QuietPanic.blk (QuietPanic.then QuietPanic.body))))) c o.dst v a w h) rfl (Yd.move rfl) rfl ?_
      refine WH.yd (i := 17) (by kernel_rfl) (fun _ o v c a w _ h => (QuietPanic.blk (QuietPanic.then (QuietPanic.then (QuietPanic.blk (QuietPanic.then QuietPanic.body))))) c o.dst v a w h) rfl (Yd.move rfl) rfl ?_
      refine WH.yd (i := 18) (by kernel_rfl) (fun _ o v c a w _ h => (QuietPanic.blk (QuietPanic.then (QuietPanic.then (QuietPanic.blk (QuietPanic.then QuietPanic.body))))) c o.dst v a w h) rfl (Yd.add rfl rfl (wr64 ⟨by (try dsimp only); omega, by (try dsimp only); omega⟩)) rfl ?_
      refine WH.know 41 (nt (2 + 4 * k + 2)) rfl (by congr 1) ?_
      refine WH.yd (i := 19) (by kernel_rfl) (fun _ o v c a w _ h => (QuietPanic.blk (QuietPanic.then (QuietPanic.then (QuietPanic.blk (QuietPanic.then QuietPanic.body))))) c o.dst v a w h) rfl (Yd.indexS Tryz.underlying111 Tryz.sizeOf3 rfl rfl (by (try dsimp only); omega) (by (try dsimp only); omega) (by first | exact hS1.addr 0 (by omega))) rfl ?_
      refine WH.yd (i := 20) (by kernel_rfl) (fun _ o v c a w _ h => (QuietPanic.blk (QuietPanic.then (QuietPanic.then (QuietPanic.blk (QuietPanic.then QuietPanic.body))))) c o.dst v a w h) rfl (Yd.load1 Tryz.isAgg3 rfl (by first | exact ro0 rfl rfl | exact ro1 rfl rfl | exact ro2 rfl rfl | exact (hS1.at (2 + 4 * k) (by omega)).rd 0 rfl | exact (hS1.at (2 + 4 * k + 1) (by omega)).rd 0 rfl | exact (hS1.at (2 + 4 * k + 2) (by omega)).rd 0 rfl | exact (hS1.at (2 + 4 * k + 3) (by omega)).rd 0 rfl)) rfl ?_
      refine WH.yd (i := 21) (by kernel_rfl) (fun _ o v c a w _ h => (QuietPanic.blk (QuietPanic.then (QuietPanic.then (QuietPanic.blk (QuietPanic.then QuietPanic.body))))) c o.dst v a w h) rfl (Yd.move rfl) rfl ?_
      refine WH.yd (i := 22) (by kernel_rfl) (fun _ o v c a w _ h => (QuietPanic.blk (QuietPanic.then (QuietPanic.then (QuietPanic.blk (QuietPanic.then QuietPanic.body))))) c o.dst v a w h) rfl (Yd.move rfl) rfl ?_
      refine WH.yd (i := 23) (by kernel_rfl) (fun _ o v c a w _ h => (QuietPanic.blk (QuietPanic.then (QuietPanic.then (QuietPanic.blk (QuietPanic.then QuietPanic.body))))) c o.dst v a w h) rfl (Yd.add rfl rfl (wr64 ⟨by (try dsimp only); omega, by (try dsimp only); omega⟩)) rfl ?_
      refine WH.know 46 (nt (2 + 4 * k + 3)) rfl (by congr 1) ?_
      refine WH.yd (i := 24) (by kernel_rfl) (fun _ o v c a w _ h => (QuietPanic.blk (QuietPanic.then (QuietPanic.then (QuietPanic.blk (QuietPanic.then QuietPanic.body))))) c o.dst v a w h) rfl (Yd.indexS Tryz.underlying111 Tryz.sizeOf3 rfl rfl (by (try dsimp only); omega) (by (try dsimp only); omega) (by first | exact hS1.addr 0 (by omega))) rfl ?_
      refine WH.yd (i := 25) (by kernel_rfl) (fun _ o v c a w _ h => (QuietPanic.blk (QuietPanic.then (QuietPanic.then (QuietPanic.blk (QuietPanic.then QuietPanic.body))))) c o.dst v a w h) rfl (Yd.load1 Tryz.isAgg3 rfl (by first | exact ro0 rfl rfl | exact ro1 rfl rfl | exact ro2 rfl rfl | exact (hS1.at (2 + 4 * k) (by omega)).rd 0 rfl | exact (hS1.at (2 + 4 * k + 1) (by omega)).rd 0 rfl | exact (hS1.at (2 + 4 * k + 2) (by omega)).rd 0 rfl | exact (hS1.at (2 + 4 * k + 3) (by omega)).rd 0 rfl)) rfl ?_
      have hq2 := hnl (2 + 4 * k + 2) (by omega)
      have hq3 := hnl (2 + 4 * k + 3) (by omega)
      refine WH.yd (i := 26) (by kernel_rfl) (fun _ o v c a w _ h => (QuietPanic.blk (QuietPanic.then (QuietPanic.then (QuietPanic.blk (QuietPanic.then QuietPanic.body))))) c o.dst v a w h) rfl (Yd.add rfl rfl (wr64 ⟨by (try dsimp only); omega, by (try dsimp only); omega⟩)) rfl ?_
      refine WH.yd (i := 27) (by kernel_rfl) (fun _ o v c a w _ h => (QuietPanic.blk (QuietPanic.then (QuietPanic.then (QuietPanic.blk (QuietPanic.then QuietPanic.body))))) c o.dst v a w h) rfl (Yd.build SA114 rfl (cs := [_, _]) rfl) rfl ?_
      refine WH.yd (i := 28) (by kernel_rfl) (fun _ o v c a w _ h => (QuietPanic.blk (QuietPanic.then (QuietPanic.then (QuietPanic.blk (QuietPanic.then QuietPanic.body))))) c o.dst v a w h) rfl (Yd.build SA116 rfl (cs := [_, _, _, _]) rfl) rfl ?_
      refine WH.two (i := 1) (j := 29) (by kernel_rfl) ?_ ?_
      · refine WHo.yd rfl (Yd.load1 Tryz.isAgg33 rfl (Rd.own (k := 0) rfl rfl)) rfl ?_
        refine WH.one (i := 29) (by kernel_rfl) (WHo.so rfl (SO.buildSlice Tryz.underlying33 Tryz.sizeOf116 Tryz.zeroValue116 rfl rfl rfl rfl (cs := [_, _, _, _]) rfl) rfl ?_)
        rintro _ _ _ ⟨b52, hb52, rfl, rfl, rfl⟩
        refine ⟨(fun _ hI => Inv.nil hI), ?_⟩
        refine WH.one (i := 30) (by kernel_rfl) (WHo.so rfl (SO.appendOw (o := o) (len := k) (n := 1) (xs := (((movesN (out.drop 2)).take k).flatMap mvC)) (size := 4) [_] [_] [_] rfl rfl Tryz.underlying33 Tryz.sizeOf116 Tryz.typeInfo116 Tryz.zeroValue116 rfl rfl rfl rfl ⟨rfl, .inr ⟨_, _, _, rfl, RdN.own (k := 0) (n := 4) rfl rfl⟩⟩ (oneB_spec rfl) ho (by rw [flat_len mvC_len, List.length_take]; omega) (by omega) (by show (2 * (_ + _) + 1000) * 32 ≤ 2 ^ 48; omega) (by omega)) rfl ?_)
        rintro _ _ _ ⟨u1, hu1, rfl, rfl, rfl⟩
        refine ⟨(fun _ hI => Inv.nil hI), ?_⟩
        refine WH.yd (i := 31) (by kernel_rfl) (fun _ o v c a w _ h => (QuietPanic.blk (QuietPanic.then (QuietPanic.then (QuietPanic.blk (QuietPanic.then QuietPanic.body))))) c o.dst v a w h) rfl (Yd.fieldAddr FA35_1 rfl) rfl ?_
        refine WH.one (i := 32) (by kernel_rfl) (WHo.so rfl (SO.store 0 rfl Tryz.sizeOf33 rfl rfl rfl rfl (zqb rfl) (oneB_spec rfl)) rfl ?_)
        rintro _ _ _ ⟨rfl, rfl, rfl⟩
        refine ⟨(fun _ hI => Inv.nil hI), ?_⟩
        refine WH.nil (by kernel_rfl) ?_
        refine WP.blkNormal (WP.thenC (WC.ofFr [(2, _), (3, _), (4, _), (5, _)] ⟨rfl, rfl, rfl, rfl, trivial⟩ (WC.region ?_)))
        refine zym rfl rfl ?_
        refine WL.yd (Yd.add rfl rfl (wr64 ⟨by (try dsimp only); omega, by (try dsimp only); omega⟩)) rfl ?_
        refine zya rfl rfl ?_
        refine WL.nil ?_
        exact WP.againT (k + 1, some u1) ⟨hkN, by simpa using hu1⟩ (by dsimp only; omega) [] _ rfl (by show _ = (b4, .cells (List.toArray [it (horsR out).pace, owV (some u1) (k + 1)]) 35 (0, 0)) :: owH (some u1) _ (((movesN (out.drop 2)).take (k + 1)).flatMap mvC) _; rw [take_gt hkN, List.flatMap_append, hgm] <;> rfl) ⟨rfl, rfl, rfl, by show some (it _) = some (nt (2 + 4 * (k + 1))); first | rfl | (congr 2; omega), trivial⟩
      · refine WHo.so rfl (SO.buildSlice Tryz.underlying33 Tryz.sizeOf116 Tryz.zeroValue116 rfl rfl rfl rfl (cs := [_, _, _, _]) rfl) rfl ?_
        rintro _ _ _ ⟨b52, hb52, rfl, rfl, rfl⟩
        refine ⟨(fun _ hI => Inv.nil hI), ?_⟩
        refine WH.one (i := 1) (by kernel_rfl) (WHo.yd rfl (Yd.load1 Tryz.isAgg33 rfl (Rd.own (k := 1) rfl rfl)) rfl ?_)
        refine WH.one (i := 30) (by kernel_rfl) (WHo.so rfl (SO.appendOw (o := o) (len := k) (n := 1) (xs := (((movesN (out.drop 2)).take k).flatMap mvC)) (size := 4) [_] [_] [_] rfl rfl Tryz.underlying33 Tryz.sizeOf116 Tryz.typeInfo116 Tryz.zeroValue116 rfl rfl rfl rfl ⟨rfl, .inr ⟨_, _, _, rfl, RdN.own (k := 0) (n := 4) rfl rfl⟩⟩ (oneB_spec rfl) ho (by rw [flat_len mvC_len, List.length_take]; omega) (by omega) (by show (2 * (_ + _) + 1000) * 32 ≤ 2 ^ 48; omega) (by omega)) rfl ?_)
        rintro _ _ _ ⟨u1, hu1, rfl, rfl, rfl⟩
        refine ⟨(fun _ hI => Inv.nil hI), ?_⟩
        refine WH.yd (i := 31) (by kernel_rfl) (fun _ o v c a w _ h => (QuietPanic.blk (QuietPanic.then (QuietPanic.then (QuietPanic.blk (QuietPanic.then QuietPanic.body))))) c o.dst v a w h) rfl (Yd.fieldAddr FA35_1 rfl) rfl ?_
        refine WH.one (i := 32) (by kernel_rfl) (WHo.so rfl (SO.store 0 rfl Tryz.sizeOf33 rfl rfl rfl rfl (zqb rfl) (oneB_spec rfl)) rfl ?_)
        rintro _ _ _ ⟨rfl, rfl, rfl⟩
        refine ⟨(fun _ hI => Inv.nil hI), ?_⟩
        refine WH.nil (by kernel_rfl) ?_
        refine WP.blkNormal (WP.thenC (WC.ofFr [(2, _), (3, _), (4, _), (5, _)] ⟨rfl, rfl, rfl, rfl, trivial⟩ (WC.region ?_)))
        refine zym rfl rfl ?_
        refine WL.yd (Yd.add rfl rfl (wr64 ⟨by (try dsimp only); omega, by (try dsimp only); omega⟩)) rfl ?_
        refine zya rfl rfl ?_
        refine WL.nil ?_
        exact WP.againT (k + 1, some u1) ⟨hkN, by simpa using hu1⟩ (by dsimp only; omega) [] _ rfl (by show _ = (b4, .cells (List.toArray [it (horsR out).pace, owV (some u1) (k + 1)]) 35 (0, 0)) :: owH (some u1) _ (((movesN (out.drop 2)).take (k + 1)).flatMap mvC) _; rw [take_gt hkN, List.flatMap_append, hgm] <;> rfl) ⟨rfl, rfl, rfl, by show some (it _) = some (nt (2 + 4 * (k + 1))); first | rfl | (congr 2; omega), trivial⟩
    · try simp only [zq1, zq2, zq3, zq4, zq5, zq6, zq7, zq8] at c20
      refine WC.exit ?_
      refine WP.thenExit ?_
      refine WP.thenExit ?_
      refine WP.blkHit ?_
      refine WP.thenC (WC.seq (WC.ofFr [(2, _), (4, _)] ⟨rfl, rfl, trivial⟩ (WC.region ?_)))
      obtain rfl : k = (movesN (out.drop 2)).length := by omega
      rw [List.take_length]
      refine WL.freezeOw (f := mvC) (m := 4) mvC_len [_] [_] o 116 (movesN (out.drop 2)) rfl ho rfl (fun D3 hX3 hS3 => ?_)
      rw [owV_owL (owL_of ho)]
      have hR : HorsR D3 (horsR out) ⟨owAt o, (movesN (out.drop 2)).length, owCp o (movesN (out.drop 2)).length⟩ := ⟨hS3, by show (movesN (out.drop 2)).length ≤ _; omega⟩
      refine WL.yd (Yd.loadN Tryz.isAgg35 Tryz.sizeOf35 rfl (vs := [_, _]) rfl (RdN.own (k := 0) (n := 2) rfl rfl)) rfl ?_
      refine WL.so (SO.store 1 rfl Tryz.sizeOf35 rfl rfl rfl rfl (zqb rfl) (oneB_spec rfl)) rfl ?_
      rintro _ _ _ ⟨rfl, rfl, rfl⟩
      refine WL.nil (WP.thenC (WC.ret ?_))
      refine WP.ret1 rfl rfl Tryz.results70 (RV.cellN Tryz.isAgg35 Tryz.sizeOf35 rfl (vs := [_, _]) rfl (by first | exact rn0 (n := 2) rfl rfl | exact rn1 (n := 2) rfl rfl)) (fun w1 hI => ⟨_, D3, rfl, hI.keep, hI.imm, hX1.trans hX3 (Nat.le_refl _), ⟨owAt o, (movesN (out.drop 2)).length, owCp o (movesN (out.drop 2)).length⟩, rfl, hR⟩)
  · try simp only [zq1, zq2, zq3, zq4, zq5, zq6, zq7, zq8] at c11
    refine WC.skip (WP.thenC (WC.seq (WC.seq (WC.ofFr [(4, _), (3, _), (2, _)] ⟨rfl, rfl, rfl, trivial⟩ (WC.region ?_)))))
    refine zya rfl rfl ?_
    refine WL.nil (WP.thenC (WC.block ?_))
    have hpac : it (horsR out).pace = it (-1) := by unfold horsR; simp only; rw [if_neg (by omega)]
    refine WC.loopT [] (fun y : Nat × Option Ow => [(2, pt b2), (3, .slice a1 out.length c1), (4, pt b4), (5, nt (2 + 4 * y.1))]) (fun y => (b4, .cells (List.toArray [it (horsR out).pace, owV y.2 y.1]) 35 (0, 0)) :: owH y.2 116 (((movesN (out.drop 2)).take y.1).flatMap mvC) [(b2, .cells (List.toArray [it 0, .slice none 0 0]) 35 (0, 0))]) (fun y => y.1 ≤ (movesN (out.drop 2)).length ∧ owP w y.2 y.1 4) (fun y => (movesN (out.drop 2)).length - y.1) (0, none) ⟨Nat.zero_le _, rfl⟩ (by dsimp only; rw [hpac]; rfl) ⟨rfl, rfl, rfl, rfl, trivial⟩ ?_
    rintro ⟨k, o⟩ ⟨hk, ho⟩
    dsimp only at hk ho
    refine WC.seq (WC.seq (WC.ofFr [(2, _), (3, _), (4, _), (5, _)] ⟨rfl, rfl, rfl, rfl, trivial⟩ (WC.region ?_)))
    refine zym rfl rfl ?_
    refine WL.yd (Yd.add rfl rfl (wr64 ⟨by (try dsimp only); omega, by (try dsimp only); omega⟩)) rfl ?_
    refine zym rfl rfl ?_
    refine WL.yd (Yd.lenS rfl Tryz.underlying111 rfl) rfl ?_
    refine WL.yd (Yd.lss rfl rfl) rfl ?_
    refine WL.nil (WP.thenC ?_)
    refine WC.cond rfl (fun c20 => ?_) (fun c20 => ?_)
    · try simp only [zq1, zq2, zq3, zq4, zq5, zq6, zq7, zq8] at c20
      have hkN : k < (movesN (out.drop 2)).length := by omega
      have hgm := movesN_gt k (out.drop 2) (by simp; omega)
      simp only [gt_drop] at hgm
      refine WC.skip (WP.thenC (WC.seq (WC.block (WC.ofFr [(2, _), (3, _), (4, _), (5, _)] ⟨rfl, rfl, rfl, rfl, trivial⟩ ?_))))
      refine WC.drawH [] (by kernel_rfl) (fun _ hI => Inv.nil hI) ?_
      refine WH.yd (i := 0) (by kernel_rfl) (fun _ o v c a w _ h => (QuietPanic.blk (QuietPanic.then (QuietPanic.then (QuietPanic.blk (QuietPanic.then QuietPanic.body))))) c o.dst v a w h) rfl (Yd.fieldAddr FA35_1 rfl) rfl ?_
      refine WH.yd (i := 2) (by kernel_rfl) (fun _ o v c a w _ h => (QuietPanic.blk (QuietPanic.then (QuietPanic.then (QuietPanic.blk (QuietPanic.then QuietPanic.body))))) c o.dst v a w h) rfl (Yd.move rfl) rfl ?_
      refine WH.yd (i := 3) (by kernel_rfl) (fun _ o v c a w _ h => (QuietPanic.blk (QuietPanic.then (QuietPanic.then (QuietPanic.blk (QuietPanic.then QuietPanic.body))))) c o.dst v a w h) rfl (Yd.move rfl) rfl ?_
      refine WH.yd (i := 4) (by kernel_rfl) (fun _ o v c a w _ h => (QuietPanic.blk (QuietPanic.then (QuietPanic.then (QuietPanic.blk (QuietPanic.then QuietPanic.body))))) c o.dst v a w h) rfl (Yd.indexS Tryz.underlying111 Tryz.sizeOf3 rfl rfl (by (try dsimp only); omega) (by (try dsimp only); omega) (by first | exact hS1.addr 0 (by omega))) rfl ?_
      refine WH.yd (i := 5) (by kernel_rfl) (fun _ o v c a w _ h => (QuietPanic.blk (QuietPanic.then (QuietPanic.then (QuietPanic.blk (QuietPanic.then QuietPanic.body))))) c o.dst v a w h) rfl (Yd.load1 Tryz.isAgg3 rfl (by first | exact ro0 rfl rfl | exact ro1 rfl rfl | exact ro2 rfl rfl | exact (hS1.at (2 + 4 * k) (by omega)).rd 0 rfl | exact (hS1.at (2 + 4 * k + 1) (by omega)).rd 0 rfl | exact (hS1.at (2 + 4 * k + 2) (by omega)).rd 0 rfl | exact (hS1.at (2 + 4 * k + 3) (by omega)).rd 0 rfl)) rfl ?_
      refine WH.yd (i := 6) (by kernel_rfl) (fun _ o v c a w _ h => (QuietPanic.blk (QuietPanic.then (QuietPanic.then (QuietPanic.blk (QuietPanic.then QuietPanic.body))))) c o.dst v a w h) rfl (Yd.move rfl) rfl ?_
      refine WH.yd (i := 7) (by kernel_rfl) (fun _ o v c a w _ h => (QuietPanic.blk (QuietPanic.then (QuietPanic.then (QuietPanic.blk (QuietPanic.then QuietPanic.body))))) c o.dst v a w h) rfl (Yd.move rfl) rfl ?_
      refine WH.yd (i := 8) (by kernel_rfl) (fun _ o v c a w _ h => (QuietPanic.blk (QuietPanic.then (QuietPanic.then (QuietPanic.blk (QuietPanic.then QuietPanic.body))))) c o.dst v a w h) rfl (Yd.add rfl rfl (wr64 ⟨by (try dsimp only); omega, by (try dsimp only); omega⟩)) rfl ?_
      refine WH.know 31 (nt (2 + 4 * k + 1)) rfl (by congr 1) ?_
      refine WH.yd (i := 9) (by kernel_rfl) (fun _ o v c a w _ h => (QuietPanic.blk (QuietPanic.then (QuietPanic.then (QuietPanic.blk (QuietPanic.then QuietPanic.body))))) c o.dst v a w h) rfl (Yd.indexS Tryz.underlying111 Tryz.sizeOf3 rfl rfl (by (try dsimp only); omega) (by (try dsimp only); omega) (by first | exact hS1.addr 0 (by omega))) rfl ?_
      refine WH.yd (i := 10) (by kernel_rfl) (fun _ o v c a w _ h => (QuietPanic.blk (QuietPanic.then (QuietPanic.then (QuietPanic.blk (QuietPanic.then QuietPanic.body))))) c o.dst v a w h) rfl (Yd.load1 Tryz.isAgg3 rfl (by first | exact ro0 rfl rfl | exact ro1 rfl rfl | exact ro2 rfl rfl | exact (hS1.at (2 + 4 * k) (by omega)).rd 0 rfl | exact (hS1.at (2 + 4 * k + 1) (by omega)).rd 0 rfl | exact (hS1.at (2 + 4 * k + 2) (by omega)).rd 0 rfl | exact (hS1.at (2 + 4 * k + 3) (by omega)).rd 0 rfl)) rfl ?_
      refine WH.yd (i := 11) (by kernel_rfl) (fun _ o v c a w _ h => (QuietPanic.blk (QuietPanic.then (QuietPanic.then (QuietPanic.blk (QuietPanic.then QuietPanic.body))))) c o.dst v a w h) rfl (Yd.move rfl) rfl ?_
      refine WH.yd (i := 12) (by kernel_rfl) (fun _ o v c a w _ h => (QuietPanic.blk (QuietPanic.then (QuietPanic.then (QuietPanic.blk (QuietPanic.then QuietPanic.body))))) c o.dst v a w h) rfl (Yd.move rfl) rfl ?_
      refine WH.yd (i := 13) (by kernel_rfl) (fun _ o v c a w _ h => (QuietPanic.blk (QuietPanic.then (QuietPanic.then (QuietPanic.blk (QuietPanic.then QuietPanic.body))))) c o.dst v a w h) rfl (Yd.add rfl rfl (wr64 ⟨by (try dsimp only); omega, by (try dsimp only); omega⟩)) rfl ?_
      refine WH.know 36 (nt (2 + 4 * k + 2)) rfl (by congr 1) ?_
      refine WH.yd (i := 14) (by kernel_rfl) (fun _ o v c a w _ h => (QuietPanic.blk (QuietPanic.then (QuietPanic.then (QuietPanic.blk (QuietPanic.then QuietPanic.body))))) c o.dst v a w h) rfl (Yd.indexS Tryz.underlying111 Tryz.sizeOf3 rfl rfl (by (try dsimp only); omega) (by (try dsimp only); omega) (by first | exact hS1.addr 0 (by omega))) rfl ?_
      refine WH.yd (i := 15) (by kernel_rfl) (fun _ o v c a w _ h => (QuietPanic.blk (QuietPanic.then (QuietPanic.then (QuietPanic.blk (QuietPanic.then QuietPanic.body))))) c o.dst v a w h) rfl (Yd.load1 Tryz.isAgg3 rfl (by first | exact ro0 rfl rfl | exact ro1 rfl rfl | exact ro2 rfl rfl | exact (hS1.at (2 + 4 * k) (by omega)).rd 0 rfl | exact (hS1.at (2 + 4 * k + 1) (by omega)).rd 0 rfl | exact (hS1.at (2 + 4 * k + 2) (by omega)).rd 0 rfl | exact (hS1.at (2 + 4 * k + 3) (by omega)).rd 0 rfl)) rfl ?_
      refine WH.yd (i := 16) (by kernel_rfl) (fun _ o v c a w _ h => (QuietPanic.blk (QuietPanic.then (QuietPanic.then (QuietPanic.blk (QuietPanic.then QuietPanic.body))))) c o.dst v a w h) rfl (Yd.move rfl) rfl ?_
      refine WH.yd (i := 17) (by kernel_rfl) (fun _ o v c a w _ h => (QuietPanic.blk (QuietPanic.then (QuietPanic.then (QuietPanic.blk (QuietPanic.then QuietPanic.body))))) c o.dst v a w h) rfl (Yd.move rfl) rfl ?_
      refine WH.yd (i := 18) (by kernel_rfl) (fun _ o v c a w _ h => (QuietPanic.blk (QuietPanic.then (QuietPanic.then (QuietPanic.blk (QuietPanic.then QuietPanic.body))))) c o.dst v a w h) rfl (Yd.add rfl rfl (wr64 ⟨by (try dsimp only); omega, by (try dsimp only); omega⟩)) rfl ?_
      refine WH.know 41 (nt (2 + 4 * k + 2)) rfl (by congr 1) ?_
      refine WH.yd (i := 19) (by kernel_rfl) (fun _ o v c a w _ h => (QuietPanic.blk (QuietPanic.then (QuietPanic.then (QuietPanic.blk (QuietPanic.then QuietPanic.body))))) c o.dst v a w h) rfl (Yd.indexS Tryz.underlying111 Tryz.sizeOf3 rfl rfl (by (try dsimp only); omega) (by (try dsimp only); omega) (by first | exact hS1.addr 0 (by omega))) rfl ?_
      refine WH.yd (i := 20) (by kernel_rfl) (fun _ o v c a w _ h => (QuietPanic.blk (QuietPanic.then (QuietPanic.then (QuietPanic.blk (QuietPanic.then QuietPanic.body))))) c o.dst v a w h) rfl (Yd.load1 Tryz.isAgg3 rfl (by first | exact ro0 rfl rfl | exact ro1 rfl rfl | exact ro2 rfl rfl | exact (hS1.at (2 + 4 * k) (by omega)).rd 0 rfl | exact (hS1.at (2 + 4 * k + 1) (by omega)).rd 0 rfl | exact (hS1.at (2 + 4 * k + 2) (by omega)).rd 0 rfl | exact (hS1.at (2 + 4 * k + 3) (by omega)).rd 0 rfl)) rfl ?_
      refine WH.yd (i := 21) (by kernel_rfl) (fun _ o v c a w _ h => (QuietPanic.blk (QuietPanic.then (QuietPanic.then (QuietPanic.blk (QuietPanic.then QuietPanic.body))))) c o.dst v a w h) rfl (Yd.move rfl) rfl ?_
      refine WH.yd (i := 22) (by kernel_rfl) (fun _ o v c a w _ h => (QuietPanic.blk (QuietPanic.then (QuietPanic.then (QuietPanic.blk (QuietPanic.then QuietPanic.body))))) c o.dst v a w h) rfl (Yd.move rfl) rfl ?_
      refine WH.yd (i := 23) (by kernel_rfl) (fun _ o v c a w _ h => (QuietPanic.blk (QuietPanic.then (QuietPanic.then (QuietPanic.blk (QuietPanic.then QuietPanic.body))))) c o.dst v a w h) rfl (Yd.add rfl rfl (wr64 ⟨by (try dsimp only); omega, by (try dsimp only); omega⟩)) rfl ?_
      refine WH.know 46 (nt (2 + 4 * k + 3)) rfl (by congr 1) ?_
      refine WH.yd (i := 24) (by kernel_rfl) (fun _ o v c a w _ h => (QuietPanic.blk (QuietPanic.then (QuietPanic.then (QuietPanic.blk (QuietPanic.then QuietPanic.body))))) c o.dst v a w h) rfl (Yd.indexS Tryz.underlying111 Tryz.sizeOf3 rfl rfl (by (try dsimp only); omega) (by (try dsimp only); omega) (by first | exact hS1.addr 0 (by omega))) rfl ?_
      refine WH.yd (i := 25) (by kernel_rfl) (fun _ o v c a w _ h => (QuietPanic.blk (QuietPanic.then (QuietPanic.then (QuietPanic.blk (QuietPanic.then QuietPanic.body))))) c o.dst v a w h) rfl (Yd.load1 Tryz.isAgg3 rfl (by first | exact ro0 rfl rfl | exact ro1 rfl rfl | exact ro2 rfl rfl | exact (hS1.at (2 + 4 * k) (by omega)).rd 0 rfl | exact (hS1.at (2 + 4 * k + 1) (by omega)).rd 0 rfl | exact (hS1.at (2 + 4 * k + 2) (by omega)).rd 0 rfl | exact (hS1.at (2 + 4 * k + 3) (by omega)).rd 0 rfl)) rfl ?_
      have hq2 := hnl (2 + 4 * k + 2) (by omega)
      have hq3 := hnl (2 + 4 * k + 3) (by omega)
      refine WH.yd (i := 26) (by kernel_rfl) (fun _ o v c a w _ h => (QuietPanic.blk (QuietPanic.then (QuietPanic.then (QuietPanic.blk (QuietPanic.then QuietPanic.body))))) c o.dst v a w h) rfl (Yd.add rfl rfl (wr64 ⟨by (try dsimp only); omega, by (try dsimp only); omega⟩)) rfl ?_
      refine WH.yd (i := 27) (by kernel_rfl) (fun _ o v c a w _ h => (QuietPanic.blk (QuietPanic.then (QuietPanic.then (QuietPanic.blk (QuietPanic.then QuietPanic.body))))) c o.dst v a w h) rfl (Yd.build SA114 rfl (cs := [_, _]) rfl) rfl ?_
      refine WH.yd (i := 28) (by kernel_rfl) (fun _ o v c a w _ h => (QuietPanic.blk (QuietPanic.then (QuietPanic.then (QuietPanic.blk (QuietPanic.then QuietPanic.body))))) c o.dst v a w h) rfl (Yd.build SA116 rfl (cs := [_, _, _, _]) rfl) rfl ?_
      refine WH.two (i := 1) (j := 29) (by kernel_rfl) ?_ ?_
      · refine WHo.yd rfl (Yd.load1 Tryz.isAgg33 rfl (Rd.own (k := 0) rfl rfl)) rfl ?_
        refine WH.one (i := 29) (by kernel_rfl) (WHo.so rfl (SO.buildSlice Tryz.underlying33 Tryz.sizeOf116 Tryz.zeroValue116 rfl rfl rfl rfl (cs := [_, _, _, _]) rfl) rfl ?_)
        rintro _ _ _ ⟨b52, hb52, rfl, rfl, rfl⟩
        refine ⟨(fun _ hI => Inv.nil hI), ?_⟩
        refine WH.one (i := 30) (by kernel_rfl) (WHo.so rfl (SO.appendOw (o := o) (len := k) (n := 1) (xs := (((movesN (out.drop 2)).take k).flatMap mvC)) (size := 4) [_] [_] [_] rfl rfl Tryz.underlying33 Tryz.sizeOf116 Tryz.typeInfo116 Tryz.zeroValue116 rfl rfl rfl rfl ⟨rfl, .inr ⟨_, _, _, rfl, RdN.own (k := 0) (n := 4) rfl rfl⟩⟩ (oneB_spec rfl) ho (by rw [flat_len mvC_len, List.length_take]; omega) (by omega) (by show (2 * (_ + _) + 1000) * 32 ≤ 2 ^ 48; omega) (by omega)) rfl ?_)
        rintro _ _ _ ⟨u1, hu1, rfl, rfl, rfl⟩
        refine ⟨(fun _ hI => Inv.nil hI), ?_⟩
        refine WH.yd (i := 31) (by kernel_rfl) (fun _ o v c a w _ h => (QuietPanic.blk (QuietPanic.then (QuietPanic.then (QuietPanic.blk (QuietPanic.then QuietPanic.body))))) c o.dst v a w h) rfl (Yd.fieldAddr FA35_1 rfl) rfl ?_
        refine WH.one (i := 32) (by kernel_rfl) (WHo.so rfl (SO.store 0 rfl Tryz.sizeOf33 rfl rfl rfl rfl (zqb rfl) (oneB_spec rfl)) rfl ?_)
        rintro _ _ _ ⟨rfl, rfl, rfl⟩
        refine ⟨(fun _ hI => Inv.nil hI), ?_⟩
        refine WH.nil (by kernel_rfl) ?_
        refine WP.blkNormal (WP.thenC (WC.ofFr [(2, _), (3, _), (4, _), (5, _)] ⟨rfl, rfl, rfl, rfl, trivial⟩ (WC.region ?_)))
        refine zym rfl rfl ?_
        refine WL.yd (Yd.add rfl rfl (wr64 ⟨by (try dsimp only); omega, by (try dsimp only); omega⟩)) rfl ?_
        refine zya rfl rfl ?_
        refine WL.nil ?_
        exact WP.againT (k + 1, some u1) ⟨hkN, by simpa using hu1⟩ (by dsimp only; omega) [] _ rfl (by show _ = (b4, .cells (List.toArray [it (horsR out).pace, owV (some u1) (k + 1)]) 35 (0, 0)) :: owH (some u1) _ (((movesN (out.drop 2)).take (k + 1)).flatMap mvC) _; rw [take_gt hkN, List.flatMap_append, hgm] <;> rfl) ⟨rfl, rfl, rfl, by show some (it _) = some (nt (2 + 4 * (k + 1))); first | rfl | (congr 2; omega), trivial⟩
      · refine WHo.so rfl (SO.buildSlice Tryz.underlying33 Tryz.sizeOf116 Tryz.zeroValue116 rfl rfl rfl rfl (cs := [_, _, _, _]) rfl) rfl ?_
        rintro _ _ _ ⟨b52, hb52, rfl, rfl, rfl⟩
        refine ⟨(fun _ hI => Inv.nil hI), ?_⟩
        refine WH.one (i := 1) (by kernel_rfl) (WHo.yd rfl (Yd.load1 Tryz.isAgg33 rfl (Rd.own (k := 1) rfl rfl)) rfl ?_)
        refine WH.one (i := 30) (by kernel_rfl) (WHo.so rfl (SO.appendOw (o := o) (len := k) (n := 1) (xs := (((movesN (out.drop 2)).take k).flatMap mvC)) (size := 4) [_] [_] [_] rfl rfl Tryz.underlying33 Tryz.sizeOf116 Tryz.typeInfo116 Tryz.zeroValue116 rfl rfl rfl rfl ⟨rfl, .inr ⟨_, _, _, rfl, RdN.own (k := 0) (n := 4) rfl rfl⟩⟩ (oneB_spec rfl) ho (by rw [flat_len mvC_len, List.length_take]; omega) (by omega) (by show (2 * (_ + _) + 1000) * 32 ≤ 2 ^ 48; omega) (by omega)) rfl ?_)
        rintro _ _ _ ⟨u1, hu1, rfl, rfl, rfl⟩
        refine ⟨(fun _ hI => Inv.nil hI), ?_⟩
        refine WH.yd (i := 31) (by kernel_rfl) (fun _ o v c a w _ h => (QuietPanic.blk (QuietPanic.then (QuietPanic.then (QuietPanic.blk (QuietPanic.then QuietPanic.body))))) c o.dst v a w h) rfl (Yd.fieldAddr FA35_1 rfl) rfl ?_
        refine WH.one (i := 32) (by kernel_rfl) (WHo.so rfl (SO.store 0 rfl Tryz.sizeOf33 rfl rfl rfl rfl (zqb rfl) (oneB_spec rfl)) rfl ?_)
        rintro _ _ _ ⟨rfl, rfl, rfl⟩
        refine ⟨(fun _ hI => Inv.nil hI), ?_⟩
        refine WH.nil (by kernel_rfl) ?_
        refine WP.blkNormal (WP.thenC (WC.ofFr [(2, _), (3, _), (4, _), (5, _)] ⟨rfl, rfl, rfl, rfl, trivial⟩ (WC.region ?_)))
        refine zym rfl rfl ?_
        refine WL.yd (Yd.add rfl rfl (wr64 ⟨by (try dsimp only); omega, by (try dsimp only); omega⟩)) rfl ?_
        refine zya rfl rfl ?_
        refine WL.nil ?_
        exact WP.againT (k + 1, some u1) ⟨hkN, by simpa using hu1⟩ (by dsimp only; omega) [] _ rfl (by show _ = (b4, .cells (List.toArray [it (horsR out).pace, owV (some u1) (k + 1)]) 35 (0, 0)) :: owH (some u1) _ (((movesN (out.drop 2)).take (k + 1)).flatMap mvC) _; rw [take_gt hkN, List.flatMap_append, hgm] <;> rfl) ⟨rfl, rfl, rfl, by show some (it _) = some (nt (2 + 4 * (k + 1))); first | rfl | (congr 2; omega), trivial⟩
    · try simp only [zq1, zq2, zq3, zq4, zq5, zq6, zq7, zq8] at c20
      refine WC.exit ?_
      refine WP.thenExit ?_
      refine WP.thenExit ?_
      refine WP.blkHit ?_
      refine WP.thenC (WC.seq (WC.ofFr [(2, _), (4, _)] ⟨rfl, rfl, trivial⟩ (WC.region ?_)))
      obtain rfl : k = (movesN (out.drop 2)).length := by omega
      rw [List.take_length]
      refine WL.freezeOw (f := mvC) (m := 4) mvC_len [_] [_] o 116 (movesN (out.drop 2)) rfl ho rfl (fun D3 hX3 hS3 => ?_)
      rw [owV_owL (owL_of ho)]
      have hR : HorsR D3 (horsR out) ⟨owAt o, (movesN (out.drop 2)).length, owCp o (movesN (out.drop 2)).length⟩ := ⟨hS3, by show (movesN (out.drop 2)).length ≤ _; omega⟩
      refine WL.yd (Yd.loadN Tryz.isAgg35 Tryz.sizeOf35 rfl (vs := [_, _]) rfl (RdN.own (k := 0) (n := 2) rfl rfl)) rfl ?_
      refine WL.so (SO.store 1 rfl Tryz.sizeOf35 rfl rfl rfl rfl (zqb rfl) (oneB_spec rfl)) rfl ?_
      rintro _ _ _ ⟨rfl, rfl, rfl⟩
      refine WL.nil (WP.thenC (WC.ret ?_))
      refine WP.ret1 rfl rfl Tryz.results70 (RV.cellN Tryz.isAgg35 Tryz.sizeOf35 rfl (vs := [_, _]) rfl (by first | exact rn0 (n := 2) rfl rfl | exact rn1 (n := 2) rfl rfl)) (fun w1 hI => ⟨_, D3, rfl, hI.keep, hI.imm, hX1.trans hX3 (Nat.le_refl _), ⟨owAt o, (movesN (out.drop 2)).length, owCp o (movesN (out.drop 2)).length⟩, rfl, hR⟩)

end Go.Proofs.YtaebnllfmkcpgaaGreatDoor
namespace Go.Proofs.YtaebnllfmkcpgaaGreatDoor
open Go.W Go.Bk

def readHR (b : Bs) : Hors × Int :=
  if openE b ≠ 0 then (horsZ, openE b) else if rightB b = false then (horsZ, 10) else if horsB (horsR (numsR 0 [] (bodyL b))) = true ∧ bookL (horsR (numsR 0 [] (bodyL b))) = b then (horsR (numsR 0 [] (bodyL b)), 0) else (horsZ, 8)
theorem readHR_open {b : Bs} (h : openE b ≠ 0) : readHR b = (horsZ, openE b) := if_pos h
theorem readHR_clash {b : Bs} (h : openE b = 0) (h2 : rightB b = false) : readHR b = (horsZ, 10) := by unfold readHR; rw [if_neg (by omega), if_pos h2]
theorem readHR_bad {b : Bs} (h : openE b = 0) (h2 : rightB b = true) (h3 : horsB (horsR (numsR 0 [] (bodyL b))) = true → bookL (horsR (numsR 0 [] (bodyL b))) ≠ b) : readHR b = (horsZ, 8) := by
  unfold readHR; rw [if_neg (by omega), if_neg (by simp [h2]), if_neg (fun h => h3 h.1 h.2)]
theorem readHR_ok {b : Bs} (h : openE b = 0) (h2 : rightB b = true) (h3 : horsB (horsR (numsR 0 [] (bodyL b))) = true) (h4 : bookL (horsR (numsR 0 [] (bodyL b))) = b) : readHR b = (horsR (numsR 0 [] (bodyL b)), 0) := by
  unfold readHR; rw [if_neg (by omega), if_neg (by simp [h2]), if_pos ⟨h3, h4⟩]

theorem rReadHorses_g (l : Bs) (a : Option Addr) (n c : Nat) (D : Imm) (hS : SlL D 1 (l.map btC) a n) (hn : n ≤ 2 ^ 18) (hc : n ≤ c) (w : World) (hH : Holds D w) : Makes Tryz.prog 24 [.slice a n c] w D (fun v D' => ∃ m, v = .tuple #[horsV (readHR l).1 m, it (readHR l).2] ∧ HorsR D' (readHR l).1 m) := by
  unfold Makes
  obtain rfl : n = l.length := hS.len'
  refine enter Tryz.func24 rfl 34 Tryz.ntmps24 (zqb rfl) (Inv.start hH) ?_
  refine WC.seq (WC.ofFr [(0, _)] ⟨rfl, trivial⟩ (WC.region ?_))
  refine WL.so (SO.alloc Tryz.zeroValue35 rfl) rfl ?_
  rintro _ _ _ ⟨b2, hb2, rfl, rfl, rfl⟩
  refine zya rfl rfl ?_
  refine WL.nil (WP.thenC (WC.seq (WC.ofFr [(3, _), (2, _), (0, _)] ⟨rfl, rfl, rfl, trivial⟩ (WC.region ?_))))
  refine zym rfl rfl ?_
  refine WL.so (SO.callP Tryz.call69 rfl (fun w hI => form_g l a l.length c D hS (by omega) _ hI.imm)) rfl ?_
  rintro _ _ _ ⟨rfl, rfl, rfl⟩
  refine zya rfl rfl ?_
  refine WL.nil (WP.thenC (WC.seq (WC.seq (WC.ofFr [(4, _), (3, _), (2, _), (0, _)] ⟨rfl, rfl, rfl, rfl, trivial⟩ (WC.region ?_)))))
  refine zym rfl rfl ?_
  refine WL.yd (Yd.neq rfl rfl) rfl ?_
  refine WL.nil (WP.thenC ?_)
  refine WC.cond rfl (fun c9 => ?_) (fun c9 => ?_)
  · try simp only [zq1, zq2, zq3, zq4, zq5, zq6, zq7, zq8] at c9
    refine WC.seq (WC.ofFr [(4, _), (3, _), (2, _), (0, _)] ⟨rfl, rfl, rfl, rfl, trivial⟩ (WC.region ?_))
    refine WL.yd (Yd.build SA35 rfl (cs := [_, _]) rfl) rfl ?_
    refine zym rfl rfl ?_
    refine WL.so (SO.store 0 rfl Tryz.sizeOf35 rfl rfl rfl rfl (zqb rfl) (oneB_spec rfl)) rfl ?_
    rintro _ _ _ ⟨rfl, rfl, rfl⟩
    refine zya rfl rfl ?_
    refine WL.nil (WP.thenC (WC.ret (WP.thenRet ?_)))
    refine WP.ret2 rfl rfl Tryz.results24 (RV.cellN Tryz.isAgg35 Tryz.sizeOf35 rfl (vs := [_, _]) rfl (by first | exact rn0 (n := 2) rfl rfl)) (RV.tmp rfl) (fun w hI => ⟨_, _, rfl, hI.keep, hI.imm, (by first | exact DExt.refl _ _ | exact hX2 | exact hX2.trans hX3 (Nat.le_refl _)), ⟨none, 0, 0⟩, by rw [readHR_open (by omega)] <;> rfl, by rw [readHR_open (by omega)]; exact ⟨SlL.nil _ _, Nat.zero_le _⟩⟩)
  · try simp only [zq1, zq2, zq3, zq4, zq5, zq6, zq7, zq8] at c9
    have h0 : openE l = 0 := by omega
    have ho2 := openE_zero h0
    refine WC.skip (WP.thenC (WC.seq (WC.seq (WC.ofFr [(3, _), (2, _), (0, _)] ⟨rfl, rfl, rfl, trivial⟩ (WC.region ?_)))))
    refine zym rfl rfl ?_
    refine WL.so (SO.callP Tryz.call33 rfl (fun w hI => right_g l a l.length c D hS hn hc ho2.2.1 _ hI.imm)) rfl ?_
    rintro _ _ _ ⟨rfl, rfl, rfl⟩
    refine WL.yd (Yd.not rfl) rfl ?_
    refine WL.nil (WP.thenC ?_)
    refine WC.cond rfl (fun c14 => ?_) (fun c14 => ?_)
    · try simp only [zq1, zq2, zq3, zq4, zq5, zq6, zq7, zq8] at c14
      refine WC.seq (WC.ofFr [(3, _), (2, _), (0, _)] ⟨rfl, rfl, rfl, trivial⟩ (WC.region ?_))
      refine WL.yd (Yd.build SA35 rfl (cs := [_, _]) rfl) rfl ?_
      refine WL.so (SO.store 0 rfl Tryz.sizeOf35 rfl rfl rfl rfl (zqb rfl) (oneB_spec rfl)) rfl ?_
      rintro _ _ _ ⟨rfl, rfl, rfl⟩
      refine zya rfl rfl ?_
      refine WL.nil (WP.thenC (WC.ret (WP.thenRet ?_)))
      refine WP.ret2 rfl rfl Tryz.results24 (RV.cellN Tryz.isAgg35 Tryz.sizeOf35 rfl (vs := [_, _]) rfl (by first | exact rn0 (n := 2) rfl rfl)) (RV.tmp rfl) (fun w hI => ⟨_, _, rfl, hI.keep, hI.imm, (by first | exact DExt.refl _ _ | exact hX2 | exact hX2.trans hX3 (Nat.le_refl _)), ⟨none, 0, 0⟩, by rw [readHR_clash h0 (decide_eq_false c14)] <;> rfl, by rw [readHR_clash h0 (decide_eq_false c14)]; exact ⟨SlL.nil _ _, Nat.zero_le _⟩⟩)
    · try simp only [zq1, zq2, zq3, zq4, zq5, zq6, zq7, zq8] at c14
      refine WC.skip (WP.thenC (WC.seq (WC.ofFr [(3, _), (2, _), (0, _)] ⟨rfl, rfl, rfl, trivial⟩ (WC.region ?_))))
      refine zym rfl rfl ?_
      refine zym rfl rfl ?_
      refine WL.yd (Yd.lenS rfl Tryz.underlying43 rfl) rfl ?_
      refine WL.yd (Yd.sub rfl rfl (wr64 ⟨by omega, by omega⟩)) rfl ?_
      refine WL.know 19 (nt (l.length - 2)) rfl (by congr 1; omega) ?_
      refine WL.yd (Yd.sliceTo Tryz.underlying43 Tryz.sizeOf5 rfl rfl (by omega)) rfl ?_
      refine WL.so (SO.makes (Enters.func Tryz.call70 rfl) (fun w hI => rhors_g (bodyL l) a (l.length - 2) c D (body_sl hS) (by omega) w hI.imm)) rfl ?_
      rintro _ D2 _ ⟨hX2, ⟨m, rfl, hR⟩, rfl⟩
      refine WL.so (SO.alloc Tryz.zeroValue35 rfl) rfl ?_
      rintro _ _ _ ⟨b5, hb5, rfl, rfl, rfl⟩
      refine WL.so (SO.store 0 rfl Tryz.sizeOf35 rfl rfl rfl rfl (zqb rfl) (oneB_spec rfl)) rfl ?_
      rintro _ _ _ ⟨rfl, rfl, rfl⟩
      refine WL.nil (WP.thenC (WC.seq (WC.seq (WC.ofFr [(5, _), (3, _), (2, _), (0, _)] ⟨rfl, rfl, rfl, rfl, trivial⟩ (WC.region ?_)))))
      refine WL.yd (Yd.loadN Tryz.isAgg35 Tryz.sizeOf35 rfl (vs := [_, _]) rfl (RdN.own (k := 0) (n := 2) rfl rfl)) rfl ?_
      refine WL.so (SO.callP Tryz.call31 rfl (fun w hI => rvHors_g (horsR (numsR 0 [] (bodyL l))) m D2 hR _ hI.imm)) rfl ?_
      rintro _ _ _ ⟨rfl, rfl, rfl⟩
      refine WL.yd (Yd.not rfl) rfl ?_
      refine zym rfl rfl ?_
      refine WL.part 25 rfl (fun g25 => ?_) (fun g25 => ?_)
      · try simp only [zq1, zq2, zq3, zq4, zq5, zq6, zq7, zq8] at g25
        refine WL.skip rfl rfl ?_
        refine WL.skip rfl rfl ?_
        refine WL.skip rfl rfl ?_
        refine WL.skip rfl rfl ?_
        refine WL.skip rfl rfl ?_
        refine WL.yd (Yd.pickT rfl rfl) rfl ?_
        refine WL.nil (WP.thenC ?_)
        refine WC.condT rfl ?_
        refine WC.seq (WC.ofFr [(5, _), (3, _), (2, _)] ⟨rfl, rfl, rfl, trivial⟩ (WC.region ?_))
        refine WL.yd (Yd.build SA35 rfl (cs := [_, _]) rfl) rfl ?_
        refine WL.so (SO.store 1 rfl Tryz.sizeOf35 rfl rfl rfl rfl (zqb rfl) (oneB_spec rfl)) rfl ?_
        rintro _ _ _ ⟨rfl, rfl, rfl⟩
        refine zya rfl rfl ?_
        refine WL.nil (WP.thenC (WC.ret (WP.thenRet ?_)))
        refine WP.ret2 rfl rfl Tryz.results24 (RV.cellN Tryz.isAgg35 Tryz.sizeOf35 rfl (vs := [_, _]) rfl (by first | exact rn0 (n := 2) rfl rfl | exact rn1 (n := 2) rfl rfl)) (RV.tmp rfl) (fun w hI => ⟨_, _, rfl, hI.keep, hI.imm, (by first | exact DExt.refl _ _ | exact hX2 | exact hX2.trans hX3 (Nat.le_refl _)), ⟨none, 0, 0⟩, by rw [readHR_bad h0 (decide_eq_true c14) (fun e => by rw [g25] at e; cases e)] <;> rfl, by rw [readHR_bad h0 (decide_eq_true c14) (fun e => by rw [g25] at e; cases e)]; exact ⟨SlL.nil _ _, Nat.zero_le _⟩⟩)
      · try simp only [zq1, zq2, zq3, zq4, zq5, zq6, zq7, zq8] at g25
        refine WL.ydg rfl (Yd.loadN Tryz.isAgg35 Tryz.sizeOf35 rfl (vs := [_, _]) rfl (RdN.own (k := 0) (n := 2) rfl rfl)) rfl ?_
        refine WL.sog rfl (SO.makes (Enters.func Tryz.call64 rfl) (fun w hI => rHorses_g (horsR (numsR 0 [] (bodyL l))) m (horsB_iff.1 g25) D2 hR w hI.imm)) rfl ?_
        rintro _ D3 _ ⟨hX3, ⟨a3, n3, c3, rfl, hS3⟩, rfl⟩
        refine WL.ydg rfl (Yd.move rfl) rfl ?_
        refine WL.sog rfl (SO.callP Tryz.call22 rfl (fun w hI => bytes_g (bookL (horsR (numsR 0 [] (bodyL l)))) l a3 a n3 l.length c3 c D3 hS3 (hS.ext (hX2.trans hX3 (Nat.le_refl _))) _ hI.imm)) rfl ?_
        rintro _ _ _ ⟨rfl, rfl, rfl⟩
        refine WL.ydg rfl (Yd.not rfl) rfl ?_
        refine WL.yd (Yd.pickF rfl rfl) rfl ?_
        refine WL.nil (WP.thenC ?_)
        refine WC.cond rfl (fun c31 => ?_) (fun c31 => ?_)
        · try simp only [zq1, zq2, zq3, zq4, zq5, zq6, zq7, zq8] at c31
          refine WC.seq (WC.ofFr [(5, _), (3, _), (2, _)] ⟨rfl, rfl, rfl, trivial⟩ (WC.region ?_))
          refine WL.yd (Yd.build SA35 rfl (cs := [_, _]) rfl) rfl ?_
          refine WL.so (SO.store 1 rfl Tryz.sizeOf35 rfl rfl rfl rfl (zqb rfl) (oneB_spec rfl)) rfl ?_
          rintro _ _ _ ⟨rfl, rfl, rfl⟩
          refine zya rfl rfl ?_
          refine WL.nil (WP.thenC (WC.ret (WP.thenRet ?_)))
          refine WP.ret2 rfl rfl Tryz.results24 (RV.cellN Tryz.isAgg35 Tryz.sizeOf35 rfl (vs := [_, _]) rfl (by first | exact rn0 (n := 2) rfl rfl | exact rn1 (n := 2) rfl rfl)) (RV.tmp rfl) (fun w hI => ⟨_, _, rfl, hI.keep, hI.imm, (by first | exact DExt.refl _ _ | exact hX2 | exact hX2.trans hX3 (Nat.le_refl _)), ⟨none, 0, 0⟩, by rw [readHR_bad h0 (decide_eq_true c14) (fun _ => c31)] <;> rfl, by rw [readHR_bad h0 (decide_eq_true c14) (fun _ => c31)]; exact ⟨SlL.nil _ _, Nat.zero_le _⟩⟩)
        · try simp only [zq1, zq2, zq3, zq4, zq5, zq6, zq7, zq8] at c31
          refine WC.skip (WP.thenC (WC.seq (WC.ofFr [(5, _), (3, _), (2, _)] ⟨rfl, rfl, rfl, trivial⟩ (WC.region ?_))))
          refine WL.yd (Yd.loadN Tryz.isAgg35 Tryz.sizeOf35 rfl (vs := [_, _]) rfl (RdN.own (k := 0) (n := 2) rfl rfl)) rfl ?_
          refine WL.so (SO.store 1 rfl Tryz.sizeOf35 rfl rfl rfl rfl (zqb rfl) (oneB_spec rfl)) rfl ?_
          rintro _ _ _ ⟨rfl, rfl, rfl⟩
          refine zya rfl rfl ?_
          refine WL.nil (WP.thenC (WC.ret ?_))
          refine WP.ret2 rfl rfl Tryz.results24 (RV.cellN Tryz.isAgg35 Tryz.sizeOf35 rfl (vs := [_, _]) rfl (by first | exact rn0 (n := 2) rfl rfl | exact rn1 (n := 2) rfl rfl)) (RV.tmp rfl) (fun w hI => ⟨_, D3, rfl, hI.keep, hI.imm, hX2.trans hX3 (Nat.le_refl _), m, by rw [readHR_ok h0 (decide_eq_true c14) g25 c31], by rw [readHR_ok h0 (decide_eq_true c14) g25 c31]; exact hR.ext hX3⟩)

end Go.Proofs.YtaebnllfmkcpgaaGreatDoor
namespace Go.Proofs.YtaebnllfmkcpgaaGreatDoor
open Go.W Go.Bk

theorem eqMoves (a b c d e f g h : Int) : ∀ w, (Op.equalIn 10000 116 (.agg #[it a, it b, it c, it d]) (.agg #[it e, it f, it g, it h])).run Tryz.prog w = .ok (decide ((⟨a, b, ⟨c, d⟩⟩ : Mv) = ⟨e, f, ⟨g, h⟩⟩)) w := by
  intro w
  have h1 : (Op.equalIn 10000 116 (.agg #[it a, it b, it c, it d]) (.agg #[it e, it f, it g, it h])).run Tryz.prog w = .ok (a == e && (b == f && (c == g && d == h))) w := by
    simp [go_sem, Op.eqFields]
    by_cases h1 : a = e <;> by_cases h2 : b = f <;> by_cases h3 : c = g <;> by_cases h4 : d = h <;> simp_all
  have h2 : (a == e && (b == f && (c == g && d == h))) = decide ((⟨a, b, ⟨c, d⟩⟩ : Mv) = ⟨e, f, ⟨g, h⟩⟩) := by
    rw [Bool.eq_iff_iff]; simp only [Bool.and_eq_true, beq_iff_eq, decide_eq_true_eq, Mv.mk.injEq, Sp.mk.injEq]
  rw [h1, h2]

theorem moves_eq {a b : List Mv} (h : a.length = b.length) (h2 : a.take a.length = b.take a.length) : a = b := by
  rw [List.take_length, List.take_of_length_le (by omega)] at h2; exact h2
theorem mtake_succ {a b : List Mv} {k : Nat} (h1 : k < a.length) (h2 : k < b.length) (h : a.take k = b.take k) (hg : gt a k = gt b k) : a.take (k + 1) = b.take (k + 1) := by
  rw [take_gt h1, take_gt h2, h, hg]
theorem gt_eq {a b : List Mv} {k : Nat} (h : a = b) : gt a k = gt b k := by rw [h]

theorem sameHors_g (x1 x2 : Hors) (m1 m2 : Sl) (D : Imm) (hR1 : HorsR D x1 m1) (hR2 : HorsR D x2 m2) (w : World) (hH : Holds D w) : Gives Tryz.prog 27 [horsV x1 m1, horsV x2 m2] w (.bool (decide (x1 = x2))) := by
  unfold Gives
  obtain ⟨ma, mn, mc⟩ := m1
  obtain ⟨ma2, mn2, mc2⟩ := m2
  obtain rfl : mn = x1.moves.length := hR1.r.len'
  obtain rfl : mn2 = x2.moves.length := hR2.r.len'
  have hA1 : SlL D 4 (x1.moves.map mvC) ma x1.moves.length := hR1.r
  have hA2 : SlL D 4 (x2.moves.map mvC) ma2 x2.moves.length := hR2.r
  have q1 : x1.moves.length ≤ 9223372036854775807 := hR1.n
  have q2 : x2.moves.length ≤ 9223372036854775807 := hR2.n
  refine enter Tryz.func27 rfl 38 Tryz.ntmps27 (zqb rfl) (Inv.start hH) ?_
  refine WC.seq (WC.ofFr [(0, _), (1, _)] ⟨rfl, rfl, trivial⟩ (WC.region ?_))
  refine WL.so (SO.box rfl rfl) rfl ?_
  rintro _ _ _ ⟨b2, hb2, rfl, rfl, rfl⟩
  refine WL.so (SO.box rfl rfl) rfl ?_
  rintro _ _ _ ⟨b3, hb3, rfl, rfl, rfl⟩
  refine zya rfl rfl ?_
  refine WL.nil (WP.thenC (WC.seq (WC.seq (WC.ofFr [(4, _), (3, _), (2, _)] ⟨rfl, rfl, rfl, trivial⟩ (WC.region ?_)))))
  refine WL.yd (Yd.fieldAddr FA35_0 rfl) rfl ?_
  refine WL.yd (Yd.load1 Tryz.isAgg3 rfl (by first | exact ro0 rfl rfl | exact ro1 rfl rfl)) rfl ?_
  refine WL.yd (Yd.fieldAddr FA35_0 rfl) rfl ?_
  refine WL.yd (Yd.load1 Tryz.isAgg3 rfl (by first | exact ro0 rfl rfl | exact ro1 rfl rfl)) rfl ?_
  refine WL.yd (Yd.neq rfl rfl) rfl ?_
  refine zym rfl rfl ?_
  refine WL.part 11 rfl (fun g11 => ?_) (fun g11 => ?_)
  · try simp only [zq1, zq2, zq3, zq4, zq5, zq6, zq7, zq8] at g11
    refine WL.skip rfl rfl ?_
    refine WL.skip rfl rfl ?_
    refine WL.skip rfl rfl ?_
    refine WL.skip rfl rfl ?_
    refine WL.skip rfl rfl ?_
    refine WL.skip rfl rfl ?_
    refine WL.skip rfl rfl ?_
    refine WL.yd (Yd.pickT rfl rfl) rfl ?_
    refine WL.nil (WP.thenC ?_)
    refine WC.condT rfl ?_
    refine WC.seq (WC.ofFr [(4, _), (3, _), (2, _)] ⟨rfl, rfl, rfl, trivial⟩ (WC.region ?_))
    refine zya rfl rfl ?_
    refine WL.nil (WP.thenC (WC.ret (WP.thenRet ?_)))
    refine WP.ret1 rfl rfl Tryz.results27 (RV.tmp rfl) (fun w hI => ⟨ret_bool (decide_eq_false (fun e => by subst e; omega)).symm, hI.keep⟩)
  · try simp only [zq1, zq2, zq3, zq4, zq5, zq6, zq7, zq8] at g11
    refine WL.ydg rfl (Yd.fieldAddr FA35_1 rfl) rfl ?_
    refine WL.ydg rfl (Yd.load1 Tryz.isAgg33 rfl (by first | exact ro0 rfl rfl | exact ro1 rfl rfl)) rfl ?_
    refine WL.ydg rfl (Yd.lenS rfl Tryz.underlying33 rfl) rfl ?_
    refine WL.ydg rfl (Yd.fieldAddr FA35_1 rfl) rfl ?_
    refine WL.ydg rfl (Yd.load1 Tryz.isAgg33 rfl (by first | exact ro0 rfl rfl | exact ro1 rfl rfl)) rfl ?_
    refine WL.ydg rfl (Yd.lenS rfl Tryz.underlying33 rfl) rfl ?_
    refine WL.ydg rfl (Yd.neq rfl rfl) rfl ?_
    refine WL.yd (Yd.pickF rfl rfl) rfl ?_
    refine WL.nil (WP.thenC ?_)
    refine WC.cond rfl (fun c19 => ?_) (fun c19 => ?_)
    · try simp only [zq1, zq2, zq3, zq4, zq5, zq6, zq7, zq8] at c19
      refine WC.seq (WC.ofFr [(4, _), (3, _), (2, _)] ⟨rfl, rfl, rfl, trivial⟩ (WC.region ?_))
      refine zya rfl rfl ?_
      refine WL.nil (WP.thenC (WC.ret (WP.thenRet ?_)))
      refine WP.ret1 rfl rfl Tryz.results27 (RV.tmp rfl) (fun w hI => ⟨ret_bool (decide_eq_false (fun e => by subst e; omega)).symm, hI.keep⟩)
    · try simp only [zq1, zq2, zq3, zq4, zq5, zq6, zq7, zq8] at c19
      refine WC.skip (WP.thenC (WC.seq (WC.seq (WC.ofFr [(4, _), (3, _), (2, _)] ⟨rfl, rfl, rfl, trivial⟩ (WC.region ?_)))))
      refine zya rfl rfl ?_
      refine WL.nil (WP.thenC (WC.block ?_))
      have hA : x1.pace = x2.pace ∧ x1.moves.length = x2.moves.length := ⟨by omega, by omega⟩
      refine WC.loopT [] (fun k : Nat => [(2, pt b2), (3, pt b3), (5, nt k)]) (fun _ => [(b3, .cells (List.toArray [it x2.pace, .slice ma2 x2.moves.length mc2]) 35 (0, 0)), (b2, .cells (List.toArray [it x1.pace, .slice ma x1.moves.length mc]) 35 (0, 0))]) (fun k => k ≤ x1.moves.length ∧ x1.moves.take k = x2.moves.take k) (fun k => x1.moves.length - k) 0 ⟨Nat.zero_le _, rfl⟩ rfl ⟨rfl, rfl, rfl, trivial⟩ ?_
      rintro k ⟨hk, hF⟩
      refine WC.seq (WC.seq (WC.ofFr [(2, _), (3, _), (5, _)] ⟨rfl, rfl, rfl, trivial⟩ (WC.region ?_)))
      refine zym rfl rfl ?_
      refine WL.yd (Yd.fieldAddr FA35_1 rfl) rfl ?_
      refine WL.yd (Yd.load1 Tryz.isAgg33 rfl (by first | exact ro0 rfl rfl | exact ro1 rfl rfl)) rfl ?_
      refine WL.yd (Yd.lenS rfl Tryz.underlying33 rfl) rfl ?_
      refine WL.yd (Yd.lss rfl rfl) rfl ?_
      refine WL.nil (WP.thenC ?_)
      refine WC.cond rfl (fun c24 => ?_) (fun c24 => ?_)
      · try simp only [zq1, zq2, zq3, zq4, zq5, zq6, zq7, zq8] at c24
        have hkl : k < x1.moves.length := by omega
        refine WC.skip (WP.thenC (WC.seq (WC.block (WC.seq (WC.ofFr [(2, _), (3, _), (5, _)] ⟨rfl, rfl, rfl, trivial⟩ ?_)))))
        refine WC.tail 10 [0, 1, 2, 3, 4, 5, 6, 7, 8, 9] rfl (by kernel_rfl) (by kernel_rfl)  ?_
        refine WQ.q rfl (Yd.qt (Yd.fieldAddr FA35_1 rfl)) rfl ?_
        refine WQ.q rfl (Yd.qt (Yd.load1 Tryz.isAgg33 rfl (by first | exact ro0 rfl rfl | exact ro1 rfl rfl))) rfl ?_
        refine WQ.q rfl (Yd.qt (Yd.move rfl)) rfl ?_
        refine WQ.q rfl (Yd.qt (Yd.indexS Tryz.underlying33 Tryz.sizeOf116 rfl rfl (by omega) (by omega) (by first | exact hA1.addr k (by omega) | exact hA2.addr k (by omega)))) rfl ?_
        refine WQ.q rfl (Yd.qt (Yd.loadN Tryz.isAgg116 Tryz.sizeOf116 rfl (vs := [_, _, _, _]) rfl (by first | exact rn0 (n := 4) rfl rfl | exact rn1 (n := 4) rfl rfl | exact ((hA1.at k (by omega)).rdn 0 4 rfl) | exact ((hA2.at k (by omega)).rdn 0 4 rfl)))) rfl ?_
        refine WQ.q rfl (Yd.qt (Yd.fieldAddr FA35_1 rfl)) rfl ?_
        refine WQ.q rfl (Yd.qt (Yd.load1 Tryz.isAgg33 rfl (by first | exact ro0 rfl rfl | exact ro1 rfl rfl))) rfl ?_
        refine WQ.q rfl (Yd.qt (Yd.move rfl)) rfl ?_
        refine WQ.q rfl (Yd.qt (Yd.indexS Tryz.underlying33 Tryz.sizeOf116 rfl rfl (by omega) (by omega) (by first | exact hA1.addr k (by omega) | exact hA2.addr k (by omega)))) rfl ?_
        refine WQ.q rfl (Yd.qt (Yd.loadN Tryz.isAgg116 Tryz.sizeOf116 rfl (vs := [_, _, _, _]) rfl (by first | exact rn0 (n := 4) rfl rfl | exact rn1 (n := 4) rfl rfl | exact ((hA1.at k (by omega)).rdn 0 4 rfl) | exact ((hA2.at k (by omega)).rdn 0 4 rfl)))) rfl ?_
        refine WQ.tail ?_
        refine WL.yd (Yd.neS Tryz.eqGuardType116 (eqMoves _ _ _ _ _ _ _ _) rfl rfl) rfl ?_
        refine WL.nil (WP.thenC ?_)
        refine WC.cond rfl (fun c37 => ?_) (fun c37 => ?_)
        · try simp only [zq1, zq2, zq3, zq4, zq5, zq6, zq7, zq8] at c37
          refine WC.seq (WC.ofFr [(2, _), (3, _), (5, _)] ⟨rfl, rfl, rfl, trivial⟩ (WC.region ?_))
          refine zya rfl rfl ?_
          refine WL.nil (WP.thenC (WC.ret (WP.blkRet (WP.thenRet (WP.thenRet (WP.blkRet (WP.thenRet ?_)))))))
          refine WP.ret1 rfl rfl Tryz.results27 (RV.tmp rfl) (fun w hI => ⟨ret_bool (decide_eq_false (fun e => c37 (gt_eq (congrArg Hors.moves e)))).symm, hI.keep⟩)
        · try simp only [zq1, zq2, zq3, zq4, zq5, zq6, zq7, zq8] at c37
          refine WC.skip (WP.blkNormal (WP.thenC (WC.ofFr [(2, _), (3, _), (5, _)] ⟨rfl, rfl, rfl, trivial⟩ (WC.region ?_))))
          refine zym rfl rfl ?_
          refine WL.yd (Yd.add rfl rfl (wr64 ⟨by omega, by omega⟩)) rfl ?_
          refine zya rfl rfl ?_
          refine WL.nil ?_
          exact WP.againT (k + 1) ⟨hkl, mtake_succ hkl (by omega) hF c37⟩ (by omega) [] _ rfl rfl ⟨rfl, rfl, rfl, trivial⟩
      · try simp only [zq1, zq2, zq3, zq4, zq5, zq6, zq7, zq8] at c24
        obtain rfl : k = x1.moves.length := by omega
        refine WC.exit ?_
        refine WP.thenExit ?_
        refine WP.thenExit ?_
        refine WP.blkHit ?_
        refine WP.thenC (WC.seq (WC.ofFr [] trivial (WC.region ?_)))
        refine zya rfl rfl ?_
        refine WL.nil (WP.thenC (WC.ret ?_))
        refine WP.ret1 rfl rfl Tryz.results27 (RV.tmp rfl) (fun w hI => ⟨ret_bool (decide_eq_true (by have h1 := moves_eq hA.2 hF; obtain ⟨p1, v1⟩ := x1; obtain ⟨p2, v2⟩ := x2; simp only at hA h1; rw [hA.1, h1])).symm, hI.keep⟩)

end Go.Proofs.YtaebnllfmkcpgaaGreatDoor
