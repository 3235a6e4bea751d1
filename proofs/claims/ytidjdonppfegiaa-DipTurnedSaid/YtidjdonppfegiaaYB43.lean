import Derived.Test.YtidjdonppfegiaaXQ
import Derived.Test.YtidjdonppfegiaaXP
import Derived.Test.YtidjdonppfegiaaXT
import Derived.Test.YtidjdonppfegiaaXS
import Derived.Test.YtidjdonppfegiaaXK
set_option linter.unusedSimpArgs false
set_option linter.unusedVariables false
set_option linter.all false
namespace Go.Proofs.Ytidjdonppfegiaa
open Go.W Go.Dp

theorem shlO {h : Int} (hh : 1 ≤ h ∧ h ≤ 4) {k : Nat} (hk : (k : Int) < h) {b : Nat} (hb : b ≤ 1) : IntKind.i64.wrap ((b : Int) * 2 ^ (min (h - 1 - (k : Int)).toNat IntKind.i64.bits)) = ((b * 2 ^ (h.toNat - 1 - k) : Nat) : Int) ∧ b * 2 ^ (h.toNat - 1 - k) < 32 := by
  have e : min (h - 1 - (k : Int)).toNat IntKind.i64.bits = h.toNat - 1 - k := by
    show min _ 64 = _; omega
  have hp : 2 ^ (h.toNat - 1 - k) ≤ 2 ^ 3 := Nat.pow_le_pow_right (by omega) (by omega)
  have hm : b * 2 ^ (h.toNat - 1 - k) ≤ 1 * 2 ^ 3 := Nat.mul_le_mul hb hp
  refine ⟨?_, by omega⟩
  rw [e]
  have e2 : ((b : Int) * 2 ^ (h.toNat - 1 - k)) = ((b * 2 ^ (h.toNat - 1 - k) : Nat) : Int) := by push_cast; rfl
  rw [e2]
  exact wr64 (by omega)
theorem hours_set {d : Dips} (hv : dipsB d = true) : (∀ i, i < d.dippers.length → setB d.hours (gt d.dippers i).hours = true) ∧ (∀ i, i < d.bathers.length → setB d.hours (gt d.bathers i).hours = true) := by
  obtain ⟨h1, h2, h3, h4, h5⟩ := (dipsB_iff d).1 hv
  exact ⟨fun i hi => by have := h4 i hi; simp only [dipperB, Bool.and_eq_true] at this; exact this.2, fun i hi => by have := h5 i hi; simp only [batherB, Bool.and_eq_true] at this; exact this.2⟩
theorem placeC_ones : ∀ x : Plc, ∀ v ∈ placeC x, v.oneCell' = true := fun x v hv => by
  simp only [placeC, List.mem_cons, List.mem_nil_iff, or_false] at hv
  rcases hv with rfl | rfl <;> rfl
theorem eq53s (a b c : Int) : ∀ w, (Op.equalIn 10000 53 (.agg #[.int .i64 a, .int .i64 b, .int .i64 c]) (.agg #[.int .i64 a, .int .i64 b, .int .i64 c])).run Try.prog w = .ok true w := by
  intro w
  simp [go_sem, Op.eqFields]
theorem eq55s (a b c : Int) : ∀ w, (Op.equalIn 10000 55 (.agg #[.int .i64 a, .int .i64 b, .int .i64 c]) (.agg #[.int .i64 a, .int .i64 b, .int .i64 c])).run Try.prog w = .ok true w := by
  intro w
  simp [go_sem, Op.eqFields]

set_option maxRecDepth 100000 in
set_option maxHeartbeats 1000000 in
theorem other_n (d : Dips) (s1 s2 : Value) (b : Nat) (D : Imm) (w : World) (hX : D b = some (.cells (List.toArray [it d.hours, s1, s2]) 25 (0, 0))) (hH : Holds D w) (hh : 1 ≤ d.hours ∧ d.hours ≤ 4) (s : Nat) (hs : s < 2 ^ d.hours.toNat) : Gives Try.prog 46 [nt s, pt b] w (it (othI d (s : Int))) := by
  unfold Gives
  have hf := (oth_facts (H := d.hours.toNat) (s := s) (by omega) hs).1
  refine enter Try.func46 rfl 25 Try.ntmps46 (Nat.le_of_ble_eq_true rfl) (Inv.start hH) ?_
  refine WC.seq ?_
  refine WC.ofFr [(0, _), (1, _)] ⟨rfl, rfl, trivial⟩ ?_
  refine WC.region ?_
  refine WL.yd (Yd.assign rfl) rfl ?_
  refine WL.nil ?_
  refine WP.thenC ?_
  refine WC.seq ?_
  refine WC.ofFr [(3, _), (0, _), (1, _)] ⟨rfl, rfl, rfl, trivial⟩ ?_
  refine WC.region ?_
  refine WL.yd (Yd.assign rfl) rfl ?_
  refine WL.nil ?_
  refine WP.thenC ?_
  refine WC.seq ?_
  refine WC.seq ?_
  refine WC.ofFr [(4, _), (3, _), (0, _), (1, _)] ⟨rfl, rfl, rfl, rfl, trivial⟩ ?_
  refine WC.region ?_
  refine WL.yd (Yd.fieldAddr FA25_0 rfl) rfl ?_
  refine WL.yd (Yd.load1 Try.isAgg3 rfl (by first | exact (Rd.imm hX rfl))) rfl ?_
  refine WL.yd (Yd.move rfl) rfl ?_
  refine WL.nil ?_
  refine WP.thenC ?_
  refine WC.block ?_
  refine WC.loopF (fun k : Nat => [(0, nt s), (1, pt b), (4, nt (othTo d.hours.toNat s k)), (7, it d.hours), (8, nt k)]) (fun k => k ≤ d.hours.toNat) (fun k => d.hours.toNat - k) 0 (by omega) (by exact ⟨rfl, rfl, rfl, rfl, rfl, trivial⟩) ?_
  intro k hk
  refine WC.seq ?_
  refine WC.ofFr [(0, _), (1, _), (4, _), (7, _), (8, _)] ⟨rfl, rfl, rfl, rfl, rfl, trivial⟩ ?_
  refine WC.region ?_
  refine WL.yd (Yd.lss rfl rfl) rfl ?_
  refine WL.nil ?_
  refine WP.thenC ?_
  refine WC.seq ?_
  refine WC.cond rfl (fun c9 => ?_) (fun c9 => ?_)
  · try simp only [zq1, zq2, zq3, zq4, zq5, zq6, zq7, zq8] at c9
    have hsh := shlO hh (k := k) (by omega) (b := s / 2 ^ k % 2) (by omega)
    have hok := hf k (by omega)
    refine WC.skip ?_
    refine WP.thenC ?_
    refine WC.seq ?_
    refine WC.block ?_
    refine WC.seq ?_
    refine WC.ofFr [(0, _), (1, _), (4, _), (7, _), (8, _)] ⟨rfl, rfl, rfl, rfl, rfl, trivial⟩ ?_
    refine WC.region ?_
    refine WL.yd (Yd.move rfl) rfl ?_
    refine WL.yd (Yd.assign rfl) rfl ?_
    refine WL.nil ?_
    refine WP.thenC ?_
    refine WC.ofFr [(5, _), (0, _), (1, _), (4, _), (7, _), (8, _)] ⟨rfl, rfl, rfl, rfl, rfl, rfl, trivial⟩ ?_
    refine WC.tail 11 [0, 1, 2, 3, 4, 5, 6, 7, 8, 9, 10] rfl (by kernel_rfl) (by kernel_rfl)  ?_
    refine WQ.q rfl (Yd.qt (Yd.move rfl)) rfl ?_
    refine WQ.q rfl (Yd.qt (Yd.move rfl)) rfl ?_
    refine WQ.q rfl (Yd.qt (Yd.move rfl)) rfl ?_
    refine WQ.q rfl (Yd.qt (Yd.shrN rfl rfl (by omega))) rfl ?_
    refine WQ.q rfl (Yd.qt (Yd.and1N rfl rfl)) rfl ?_
    refine WQ.q rfl (Yd.qt (Yd.fieldAddr FA25_0 rfl)) rfl ?_
    refine WQ.q rfl (Yd.qt (Yd.load1 Try.isAgg3 rfl (by first | exact (Rd.imm hX rfl)))) rfl ?_
    refine WQ.q rfl (Yd.qt (Yd.sub rfl rfl (wr64 ⟨by omega, by omega⟩))) rfl ?_
    refine WQ.q rfl (Yd.qt (Yd.move rfl)) rfl ?_
    refine WQ.q rfl (Yd.qt (Yd.sub rfl rfl (wr64 ⟨by omega, by omega⟩))) rfl ?_
    refine WQ.q rfl (Yd.qt (Yd.shl rfl rfl (by omega) hsh.1)) rfl ?_
    refine WQ.tail ?_
    refine WL.yd (Yd.orN (by omega) hsh.2 rfl rfl) rfl ?_
    refine WL.yd (Yd.assign rfl) rfl ?_
    refine WL.nil ?_
    refine WP.blkNormal ?_
    refine WP.thenC ?_
    refine WC.ofFr [(4, _), (0, _), (1, _), (7, _), (8, _)] ⟨rfl, rfl, rfl, rfl, rfl, trivial⟩ ?_
    refine WC.region ?_
    refine WL.yd (Yd.add rfl rfl (wr64 ⟨by omega, by omega⟩)) rfl ?_
    refine WL.yd (Yd.move rfl) rfl ?_
    refine WL.nil ?_
    exact WP.againF (k + 1) (by omega) (by omega) ⟨rfl, rfl, rfl, rfl, rfl, trivial⟩ (fun _ h => h) (fun h => h)
  · try simp only [zq1, zq2, zq3, zq4, zq5, zq6, zq7, zq8] at c9
    refine WC.exit ?_
    refine WP.thenExit ?_
    refine WP.thenExit ?_
    refine WP.blkHit ?_
    refine WP.thenC ?_
    refine WC.seq ?_
    refine WC.ofFr [(4, _)] ⟨rfl, trivial⟩ ?_
    refine WC.region ?_
    refine WL.yd (Yd.move rfl) rfl ?_
    refine WL.yd (Yd.assign rfl) rfl ?_
    refine WL.nil ?_
    refine WP.thenC ?_
    refine WC.ret ?_
    refine WP.ret1 rfl rfl Try.results46 (RV.tmp rfl) (fun w hI => ⟨by rw [show k = d.hours.toNat from by omega]; rfl, hI.keep⟩)

theorem other_g (d : Dips) (s1 s2 : Value) (b : Nat) (D : Imm) (w : World) (hX : D b = some (.cells (List.toArray [it d.hours, s1, s2]) 25 (0, 0))) (hH : Holds D w) (hh : 1 ≤ d.hours ∧ d.hours ≤ 4) (s : Int) (hs : setB d.hours s = true) : Gives Try.prog 46 [it s, pt b] w (it (othI d s)) := by
  have hs' : 0 ≤ s ∧ s ≤ ((2 ^ d.hours.toNat : Nat) : Int) - 1 := by simpa [setB, inB] using hs
  obtain ⟨n, rfl⟩ := Int.eq_ofNat_of_zero_le hs'.1
  exact other_n d s1 s2 b D w hX hH hh n (by omega)

set_option maxRecDepth 100000 in
set_option maxHeartbeats 1000000 in
theorem PlanO_ok (d : Dips) (a1 : Option Addr) (n1 c1 : Nat) (a2 : Option Addr) (n2 c2 : Nat) (D : Imm) (w : World) (hR : DipsR D d a1 n1 a2 n2) (hH : Holds D w) (hv : dipsB d = true) (he : (PlanOut d).2 = 0) : Makes Try.prog 22 [.agg #[it d.hours, .slice a1 n1 c1, .slice a2 n2 c2]] w D (fun v D' => ∃ b c rest, v = .tuple #[.slice (some ⟨b, 0, none⟩) (PlanOut d).1.length c, it 0] ∧ D' b = some (.cells ((PlanOut d).1.flatMap placeC ++ rest).toArray 61 (0, 0)) ∧ D b = none ∧ (PlanOut d).1.length ≤ 1000) := by
  unfold Makes
  obtain rfl := hR.dip.len'
  obtain rfl := hR.bath.len'
  have hl1 := hR.len1
  have hl2 := hR.len2
  refine enterD Try.func22 rfl 23 Try.ntmps22 (Nat.le_of_ble_eq_true rfl) (Inv.start hH) ?_
  refine WC.seq ?_
  refine WC.ofFr [(0, _)] ⟨rfl, trivial⟩ ?_
  refine WC.region ?_
  refine WL.so (SO.box rfl rfl) rfl ?_
  rintro _ _ _ ⟨b1, hb1, rfl, rfl, rfl⟩ -- NEW
  refine WL.yd (Yd.assign rfl) rfl ?_
  refine WL.so (SO.alloc Try.zeroValue29 rfl) rfl ?_
  rintro _ _ _ ⟨b3, hb3, rfl, rfl, rfl⟩ -- NEW
  refine WL.nil ?_
  refine WP.thenC ?_
  refine WC.seq ?_
  refine WC.ofFr [(3, _), (2, _), (1, _)] ⟨rfl, rfl, rfl, trivial⟩ ?_
  refine WC.region ?_
  refine WL.yd (Yd.func rfl rfl) rfl ?_
  refine WL.defer rfl ?_
  refine WL.nil ?_
  refine WP.thenC ?_
  refine WC.seq ?_
  refine WC.ofFr [(3, _), (2, _), (1, _)] ⟨rfl, rfl, rfl, trivial⟩ ?_
  refine WC.region ?_
  refine WL.yd (Yd.loadN Try.isAgg25 Try.sizeOf25 rfl (vs := [_, _, _]) rfl (by first | exact RdN.own (k := 0) (n := 3) rfl rfl | exact RdN.own (k := 1) (n := 3) rfl rfl)) rfl ?_
  refine WL.so (SO.makes (Enters.func Try.call49 rfl) (fun w hI => open_ok d a1 _ c1 a2 _ c2 _ _ hR hI.imm 67 [] Try.call67 hv rfl (fun D1 w1 b hx hh hb => always_g _ _))) rfl ?_
  rintro _ D2 _ ⟨hX2, ⟨bq, rfl, hB⟩, rfl⟩
  have hR2 := hR.ext hX2
  refine WL.so (SO.makes (Enters.func Try.call68 rfl) (fun w hI => plan_g d false a1 _ c1 a2 _ c2 bq D2 w hB hR2 hI.imm hv)) rfl ?_
  rintro _ D5 _ ⟨hX5, ⟨a5, n5, k5, f5, rfl, hr5⟩, rfl⟩
  have hX25 := hX2.trans hX5 (Nat.le_refl _)
  refine WL.yd (Yd.move rfl) rfl ?_
  refine WL.yd (Yd.extract rfl rfl) rfl ?_
  refine WL.yd (Yd.extract rfl rfl) rfl ?_
  refine WL.yd (Yd.assign rfl) rfl ?_
  refine WL.yd (Yd.assign rfl) rfl ?_
  refine WL.nil ?_
  refine WP.thenC ?_
  refine WC.seq ?_
  refine WC.ofFr [(5, _), (4, _), (3, _), (2, _)] ⟨rfl, rfl, rfl, rfl, trivial⟩ ?_
  refine WC.region ?_
  refine WL.yd (Yd.move rfl) rfl ?_
  refine WL.part 14 rfl (fun g14 => ?_) (fun g14 => ?_)
  · try simp only [zq1, zq2, zq3, zq4, zq5, zq6, zq7, zq8] at g14
    obtain ⟨l5, hl5, hP5, h05⟩ := RestV.yes (f := f5) hr5 g14
    have hn5 := hP5.pl.len'
    have hn5b := hP5.len
    have hO : PlanOut d = (l5, 0) := by simp [PlanOut, hv, hl5]
    refine WL.so (SO.call (Enters.func Try.call52 rfl) (fun w hI => must_ok _ _)) rfl ?_
    rintro _ _ _ ⟨rfl, rfl, rfl⟩
    refine WL.nil ?_
    refine WP.thenC ?_
    refine WC.seq ?_
    refine WC.ofFr [(4, _), (3, _), (2, _)] ⟨rfl, rfl, rfl, trivial⟩ ?_
    refine WC.region ?_
    refine WL.yd (Yd.move rfl) rfl ?_
    refine WL.yd (Yd.lenS rfl Try.underlying26 rfl) rfl ?_
    refine WL.so (SO.makeSlice Try.underlying26 Try.sizeOf61 Try.typeInfo61 Try.zeroValue61 rfl rfl rfl (by omega) (by show (16 : Int) * _ ≤ _; omega)) rfl ?_
    rintro _ _ _ ⟨b18, hb18, rfl, rfl, rfl⟩ -- NEW
    refine WL.yd (Yd.assign rfl) rfl ?_
    refine WL.nil ?_
    refine WP.thenC ?_
    refine WC.seq ?_
    refine WC.ofFr [(6, _), (4, _), (3, _), (2, _)] ⟨rfl, rfl, rfl, rfl, trivial⟩ ?_
    refine WC.region ?_
    refine WL.yd (Yd.move rfl) rfl ?_
    refine WL.yd (Yd.move rfl) rfl ?_
    refine WL.so (SO.copy (k := 0) rfl Try.underlying26 Try.sizeOf61 rfl rfl rfl (hP5.pl.rdS placeC_len h05) (placeC_one _) (by rw [zeroL_len, flat_len placeC_len, hn5]; exact Nat.le_refl _)) rfl ?_
    rintro _ _ _ ⟨rfl, rfl⟩
    refine WL.nil ?_
    refine WP.thenC ?_
    refine WC.seq ?_
    refine WC.ofFr [(6, _), (3, _), (2, _)] ⟨rfl, rfl, rfl, trivial⟩ ?_
    refine WC.region ?_
    refine WL.yd (Yd.move rfl) rfl ?_
    refine WL.yd (Yd.assign rfl) rfl ?_
    refine WL.so (SO.store 1 rfl Try.sizeOf29 rfl rfl rfl rfl (Nat.le_of_ble_eq_true rfl) (oneB_spec rfl)) rfl ?_
    rintro _ _ _ ⟨rfl, rfl, rfl⟩
    refine WL.nil ?_
    refine WP.thenC ?_
    refine WC.ret ?_
    refine WP.endD [_, _] [_, _] rfl rfl Try.call66 (fun w hI => idle66 _ _) Try.results22 ⟨(RV.tmp rfl), (RV.cell1 Try.isAgg29 rfl (by first | exact Rd.own (k := 0) rfl rfl | exact Rd.own (k := 1) rfl rfl | exact Rd.own (k := 2) rfl rfl)), trivial⟩ (fun w1 hI => ⟨_, _, rfl, hI.keep, hI.freeze.imm, hX25.add (hI.apart _ _ (List.mem_of_getElem? (i := 0) rfl)) hb18, b18, _, _, by rw [hO, ← hn5]; rfl, by rw [hO]; exact Imm.add_self _ _ _, hX25.no (hI.apart _ _ (List.mem_of_getElem? (i := 0) rfl)), by rw [hO]; show l5.length ≤ 1000; omega⟩)
  · try simp only [zq1, zq2, zq3, zq4, zq5, zq6, zq7, zq8] at g14
    have hO : PlanOut d = ([], 4) := by simp [PlanOut, hv, RestV.no (f := f5) hr5 g14]
    refine WL.no (SO.fail (Enters.func Try.call52 rfl) (fun w hI => must_no _ _) ?_)
    refine WP.thenPanic ?_
    refine WP.panicD (k := 0) [_, _] [_, _] rfl Try.call66 rfl (fun w hI => catch66 _ _ _ _ _ (hI.own _ _ (List.mem_of_getElem? (i := 0) rfl))) Try.results22 ⟨(RV.tmp rfl), (RV.cell1 Try.isAgg29 rfl (by first | exact Rd.own (k := 0) rfl rfl | exact Rd.own (k := 1) rfl rfl)), trivial⟩ (fun w1 hI => absurd he (by rw [hO]; decide))

set_option maxRecDepth 100000 in
set_option maxHeartbeats 1000000 in
theorem turned_1 (d : Dips) (a1 : Option Addr) (n1 c1 : Nat) (a2 : Option Addr) (n2 c2 : Nat) (D : Imm) (w : World) (hS1 : SlL D 3 (d.dippers.map dipperC) a1 n1) (hS2 : SlL D 3 (d.bathers.map batherC) a2 n2) (hH : Holds D w) (by_ : List Int) (a4 : Option Addr) (n4 c4 : Nat) (hS4 : SlL D 1 (by_.map u16C) a4 n4) (hby : ∀ i, i < by_.length → 0 ≤ gt by_ i ∧ gt by_ i ≤ 65535) (hv : dipsB d = false) : Gives Try.prog 12 [.agg #[it d.hours, .slice a1 n1 c1, .slice a2 n2 c2], .slice a4 n4 c4] w (.bool true) := by
  unfold Gives
  refine enter Try.func12 rfl 359 Try.ntmps12 (Nat.le_of_ble_eq_true rfl) (Inv.start hH) ?_
  refine WC.seq ?_
  refine WC.ofFr [(0, _), (1, _)] ⟨rfl, rfl, trivial⟩ ?_
  refine WC.region ?_
  refine WL.so (SO.box rfl rfl) rfl ?_
  rintro _ _ _ ⟨b2, hb2, rfl, rfl, rfl⟩ -- NEW
  refine WL.yd (Yd.assign rfl) rfl ?_
  refine WL.nil ?_
  refine WP.thenC ?_
  refine WC.seq ?_
  refine WC.seq ?_
  refine WC.ofFr [(4, _), (2, _), (1, _)] ⟨rfl, rfl, rfl, trivial⟩ ?_
  refine WC.region ?_
  refine WL.yd (Yd.loadN Try.isAgg25 Try.sizeOf25 rfl (vs := [_, _, _]) rfl (by first | exact RdN.own (k := 0) (n := 3) rfl rfl)) rfl ?_
  refine WL.so (SO.callP Try.call13 rfl (fun w hI => long_g _ _ _ _ _ _ _ _ _ _ _)) rfl ?_
  rintro _ _ _ ⟨rfl, rfl, rfl⟩
  refine WL.yd (Yd.move rfl) rfl ?_
  refine WL.part 53 rfl (fun g53 => ?_) (fun g53 => ?_)
  · try simp only [zq1, zq2, zq3, zq4, zq5, zq6, zq7, zq8] at g53
    refine WL.skip rfl rfl ?_
    refine WL.skip rfl rfl ?_
    refine WL.skip rfl rfl ?_
    refine WL.yd (Yd.pickT rfl rfl) rfl ?_
    refine WL.nil ?_
    refine WP.thenC ?_
    refine WC.condT rfl ?_
    refine WC.seq ?_
    refine WC.ofFr [(4, _), (2, _), (1, _)] ⟨rfl, rfl, rfl, trivial⟩ ?_
    refine WC.region ?_
    refine WL.so (SO.callP Try.call14 rfl (fun w hI => alive_g _ _ hI.imm)) rfl ?_
    rintro _ _ _ ⟨rfl, rfl, rfl⟩
    refine WL.yd (Yd.assign rfl) rfl ?_
    refine WL.nil ?_
    refine WP.thenC ?_
    refine WC.ret ?_
    refine WP.thenRet ?_
    refine WP.ret1 rfl rfl Try.results12 (RV.tmp rfl) (fun w hI => ⟨rfl, hI.keep⟩)
  · try simp only [zq1, zq2, zq3, zq4, zq5, zq6, zq7, zq8] at g53
    have hR : DipsR D d a1 n1 a2 n2 := ⟨hS1, hS2, by have := g53; omega, by have := g53; omega⟩
    refine WL.ydg rfl (Yd.loadN Try.isAgg25 Try.sizeOf25 rfl (vs := [_, _, _]) rfl (by first | exact RdN.own (k := 0) (n := 3) rfl rfl)) rfl ?_
    refine WL.sog rfl (SO.callP Try.call36 rfl (fun w hI => dips_g d a1 _ c1 a2 _ c2 D _ hR hI.imm)) rfl ?_
    rintro _ _ _ ⟨rfl, rfl, rfl⟩
    refine WL.ydg rfl (Yd.not rfl) rfl ?_
    refine WL.yd (Yd.pickF rfl rfl) rfl ?_
    refine WL.nil ?_
    refine WP.thenC ?_
    refine WC.cond rfl (fun c57 => ?_) (fun c57 => ?_)
    · try simp only [zq1, zq2, zq3, zq4, zq5, zq6, zq7, zq8] at c57
      refine WC.seq ?_
      refine WC.ofFr [(4, _), (2, _), (1, _)] ⟨rfl, rfl, rfl, trivial⟩ ?_
      refine WC.region ?_
      refine WL.so (SO.callP Try.call14 rfl (fun w hI => alive_g _ _ hI.imm)) rfl ?_
      rintro _ _ _ ⟨rfl, rfl, rfl⟩
      refine WL.yd (Yd.assign rfl) rfl ?_
      refine WL.nil ?_
      refine WP.thenC ?_
      refine WC.ret ?_
      refine WP.thenRet ?_
      refine WP.ret1 rfl rfl Try.results12 (RV.tmp rfl) (fun w hI => ⟨rfl, hI.keep⟩)
    · try simp only [zq1, zq2, zq3, zq4, zq5, zq6, zq7, zq8] at c57
      rw [hv] at c57; cases c57

set_option maxRecDepth 100000 in
set_option maxHeartbeats 1000000 in
theorem turned_a (d : Dips) (a1 : Option Addr) (n1 c1 : Nat) (a2 : Option Addr) (n2 c2 : Nat) (D : Imm) (w : World) (hS1 : SlL D 3 (d.dippers.map dipperC) a1 n1) (hS2 : SlL D 3 (d.bathers.map batherC) a2 n2) (hH : Holds D w) (by_ : List Int) (a4 : Option Addr) (n4 c4 : Nat) (hS4 : SlL D 1 (by_.map u16C) a4 n4) (hby : ∀ i, i < by_.length → 0 ≤ gt by_ i ∧ gt by_ i ≤ 65535) (hv : dipsB d = true) (he : (PlanOut d).2 = 4) (hl0 : (PlanOut d).1 = []) : Gives Try.prog 12 [.agg #[it d.hours, .slice a1 n1 c1, .slice a2 n2 c2], .slice a4 n4 c4] w (.bool true) := by
  unfold Gives
  have hR : DipsR D d a1 n1 a2 n2 := by
    have h1 := hS1.len'
    have h2 := hS2.len'
    have h3 := dips_num hv
    exact ⟨hS1, hS2, by omega, by omega⟩
  obtain rfl := hS1.len'
  obtain rfl := hS2.len'
  have hnum := dips_num hv
  obtain ⟨htur, hvx⟩ := turnD_ok hv
  obtain ⟨s1, t1, e1, hf1, hf2, hs1, ht1, hpop1⟩ := few_tur htur hv hvx
  obtain ⟨s2, t2, e2, hy1, hy2, hs2, ht2, hpop2⟩ := why_tur htur hv hvx
  have hmt := most_tur htur hv hvx
  refine enter Try.func12 rfl 359 Try.ntmps12 (Nat.le_of_ble_eq_true rfl) (Inv.start hH) ?_
  refine WC.seq ?_
  refine WC.ofFr [(0, _), (1, _)] ⟨rfl, rfl, trivial⟩ ?_
  refine WC.region ?_
  refine WL.so (SO.box rfl rfl) rfl ?_
  rintro _ _ _ ⟨b2, hb2, rfl, rfl, rfl⟩ -- NEW
  refine WL.yd (Yd.assign rfl) rfl ?_
  refine WL.nil ?_
  refine WP.thenC ?_
  refine WC.seq ?_
  refine WC.seq ?_
  refine WC.ofFr [(4, _), (2, _), (1, _)] ⟨rfl, rfl, rfl, trivial⟩ ?_
  refine WC.region ?_
  refine WL.yd (Yd.loadN Try.isAgg25 Try.sizeOf25 rfl (vs := [_, _, _]) rfl (by first | exact RdN.own (k := 0) (n := 3) rfl rfl | exact (RdN.imm (n := 3) hbD rfl) | exact (RdN.imm (n := 3) hbX rfl))) rfl ?_
  refine WL.so (SO.callP Try.call13 rfl (fun w hI => long_g _ _ _ _ _ _ _ _ _ _ _)) rfl ?_
  rintro _ _ _ ⟨rfl, rfl, rfl⟩
  refine WL.yd (Yd.move rfl) rfl ?_
  refine WL.part 53 rfl (fun g53 => ?_) (fun g53 => ?_)
  · try simp only [zq1, zq2, zq3, zq4, zq5, zq6, zq7, zq8] at g53
    omega
  · try simp only [zq1, zq2, zq3, zq4, zq5, zq6, zq7, zq8] at g53
    refine WL.ydg rfl (Yd.loadN Try.isAgg25 Try.sizeOf25 rfl (vs := [_, _, _]) rfl (by first | exact RdN.own (k := 0) (n := 3) rfl rfl | exact (RdN.imm (n := 3) hbD rfl) | exact (RdN.imm (n := 3) hbX rfl))) rfl ?_
    refine WL.sog rfl (SO.callP Try.call36 rfl (fun w hI => dips_g d a1 _ c1 a2 _ c2 D _ hR hI.imm)) rfl ?_
    rintro _ _ _ ⟨rfl, rfl, rfl⟩
    refine WL.ydg rfl (Yd.not rfl) rfl ?_
    refine WL.yd (Yd.pickF rfl rfl) rfl ?_
    refine WL.nil ?_
    refine WP.thenC ?_
    refine WC.cond rfl (fun c57 => ?_) (fun c57 => ?_)
    · try simp only [zq1, zq2, zq3, zq4, zq5, zq6, zq7, zq8] at c57
      rw [hv] at c57; cases c57
    · try simp only [zq1, zq2, zq3, zq4, zq5, zq6, zq7, zq8] at c57
      refine WC.skip ?_
      refine WP.thenC ?_
      refine WC.seq ?_
      refine WC.freezeK 0 rfl (fun hn2 => ?_)
      have hXd := (DExt.refl w D).add (o := .cells (List.toArray [it d.hours, .slice a1 d.dippers.length c1, .slice a2 d.bathers.length c2]) 25 (0, 0)) hn2 hb2
      have hbD : (D.add b2 (.cells (List.toArray [it d.hours, .slice a1 d.dippers.length c1, .slice a2 d.bathers.length c2]) 25 (0, 0))) b2 = some (.cells (List.toArray [it d.hours, .slice a1 d.dippers.length c1, .slice a2 d.bathers.length c2]) 25 (0, 0)) := Imm.add_self _ _ _
      replace hR := hR.ext hXd
      generalize D.add b2 (.cells (List.toArray [it d.hours, .slice a1 d.dippers.length c1, .slice a2 d.bathers.length c2]) 25 (0, 0)) = D1 at hbD hR hXd ⊢
      refine WC.ofFr [(4, _), (2, _), (1, _)] ⟨rfl, rfl, rfl, trivial⟩ ?_
      refine WC.tail 7 [0, 1, 2, 3, 4, 5, 6] rfl (by kernel_rfl) (by kernel_rfl)  ?_
      refine WQ.q rfl (Yd.qt (Yd.fieldAddr FA25_2 rfl)) rfl ?_
      refine WQ.q rfl (Yd.qt (Yd.load1 Try.isAgg23 rfl (by first | exact (Rd.imm hbD rfl) | exact (Rd.imm hbX rfl)))) rfl ?_
      refine WQ.q rfl (Yd.qt (Yd.lenS rfl Try.underlying23 rfl)) rfl ?_
      refine WQ.q rfl (Yd.qt (Yd.fieldAddr FA25_1 rfl)) rfl ?_
      refine WQ.q rfl (Yd.qt (Yd.load1 Try.isAgg22 rfl (by first | exact (Rd.imm hbD rfl) | exact (Rd.imm hbX rfl)))) rfl ?_
      refine WQ.q rfl (Yd.qt (Yd.lenS rfl Try.underlying22 rfl)) rfl ?_
      refine WQ.q rfl (Yd.qt (Yd.assign rfl)) rfl ?_
      refine WQ.tail ?_
      refine WL.yd (Yd.assign rfl) rfl ?_
      refine WL.nil ?_
      refine WP.thenC ?_
      refine WC.seq ?_
      refine WC.ofFr [(6, _), (5, _), (4, _), (2, _), (1, _)] ⟨rfl, rfl, rfl, rfl, rfl, trivial⟩ ?_
      refine WC.region ?_
      refine WL.yd (Yd.func rfl rfl) rfl ?_
      refine WL.yd (Yd.assign rfl) rfl ?_
      refine WL.nil ?_
      refine WP.thenC ?_
      refine WC.seq ?_
      refine WC.ofFr [(7, _), (6, _), (5, _), (4, _), (2, _), (1, _)] ⟨rfl, rfl, rfl, rfl, rfl, rfl, trivial⟩ ?_
      refine WC.region ?_
      refine WL.yd (Yd.fieldAddr FA25_0 rfl) rfl ?_
      refine WL.yd (Yd.load1 Try.isAgg3 rfl (by first | exact (Rd.imm hbD rfl) | exact (Rd.imm hbX rfl))) rfl ?_
      refine WL.yd (Yd.build SA25 rfl (cs := [_, _, _]) rfl) rfl ?_
      refine WL.so (SO.alloc Try.zeroValue25 rfl) rfl ?_
      rintro _ _ _ ⟨b8, hb8, rfl, rfl, rfl⟩ -- NEW
      refine WL.so (SO.store 0 rfl Try.sizeOf25 rfl rfl rfl rfl (Nat.le_of_ble_eq_true rfl) (oneB_spec rfl)) rfl ?_
      rintro _ _ _ ⟨rfl, rfl, rfl⟩
      refine WL.nil ?_
      refine WP.thenC ?_
      refine WC.seq ?_
      refine WC.seq ?_
      refine WC.ofFr [(8, _), (7, _), (6, _), (5, _), (4, _), (2, _), (1, _)] ⟨rfl, rfl, rfl, rfl, rfl, rfl, rfl, trivial⟩ ?_
      refine WC.region ?_
      refine WL.yd (Yd.fieldAddr FA25_1 rfl) rfl ?_
      refine WL.yd (Yd.load1 Try.isAgg22 rfl (by first | exact Rd.own (k := 0) rfl rfl | exact (Rd.imm hbD rfl) | exact (Rd.imm hbX rfl))) rfl ?_
      refine WL.yd (Yd.lenS rfl Try.underlying22 rfl) rfl ?_
      refine WL.yd (Yd.move rfl) rfl ?_
      refine WL.nil ?_
      refine WP.thenC ?_
      refine WC.block ?_
      refine WC.loop (fun y : Nat × Option Ow => [(1, .slice a4 n4 c4), (2, pt b2), (5, nt d.bathers.length), (6, nt d.dippers.length), (7, .func (.func 46) #[] #[pt b2]), (8, pt b8), (71, nt d.dippers.length), (72, nt y.1)]) (fun y => (b8, .cells (List.toArray [it d.hours, owV y.2 y.1, .slice none 0 0]) 25 (0, 0)) :: owH y.2 53 ((tDip d y.1).flatMap dipperC) []) (fun _ => D1) (fun y => y.1 ≤ d.dippers.length ∧ owP w y.2 y.1 3) (fun y => d.dippers.length - y.1) (0, none) ⟨by omega, rfl⟩ (fun a w h => at_fr h ⟨rfl, rfl, rfl, rfl, rfl, rfl, rfl, rfl, trivial⟩) ?_
      rintro ⟨k, o1⟩ ⟨hk, ho1⟩
      dsimp only at hk ho1
      refine WC.seq ?_
      refine WC.ofFr [(1, _), (2, _), (5, _), (6, _), (7, _), (8, _), (71, _), (72, _)] ⟨rfl, rfl, rfl, rfl, rfl, rfl, rfl, rfl, trivial⟩ ?_
      refine WC.region ?_
      refine WL.yd (Yd.lss rfl rfl) rfl ?_
      refine WL.nil ?_
      refine WP.thenC ?_
      refine WC.seq ?_
      refine WC.cond rfl (fun c73 => ?_) (fun c73 => ?_)
      · try simp only [zq1, zq2, zq3, zq4, zq5, zq6, zq7, zq8] at c73
        have hst := (hours_set hv).1 (d.dippers.length - 1 - k) (by omega)
        refine WC.skip ?_
        refine WP.thenC ?_
        refine WC.seq ?_
        refine WC.block ?_
        refine WC.seq ?_
        refine WC.ofFr [(1, _), (2, _), (5, _), (6, _), (7, _), (8, _), (71, _), (72, _)] ⟨rfl, rfl, rfl, rfl, rfl, rfl, rfl, rfl, trivial⟩ ?_
        refine WC.region ?_
        refine WL.yd (Yd.move rfl) rfl ?_
        refine WL.yd (Yd.assign rfl) rfl ?_
        refine WL.nil ?_
        refine WP.thenC ?_
        refine WC.seq ?_
        refine WC.ofFr [(9, _), (1, _), (2, _), (5, _), (6, _), (7, _), (8, _), (71, _), (72, _)] ⟨rfl, rfl, rfl, rfl, rfl, rfl, rfl, rfl, rfl, trivial⟩ ?_
        refine WC.region ?_
        refine WL.yd (Yd.fieldAddr FA25_1 rfl) rfl ?_
        refine WL.yd (Yd.load1 Try.isAgg22 rfl (by first | exact Rd.own (k := 0) rfl rfl | exact (Rd.imm hbD rfl) | exact (Rd.imm hbX rfl))) rfl ?_
        refine WL.yd (Yd.move rfl) rfl ?_
        refine WL.yd (Yd.subN (j := 1) rfl rfl (by omega) (by omega)) rfl ?_
        refine WL.yd (Yd.move rfl) rfl ?_
        refine WL.yd (Yd.subN rfl rfl (by omega) (by omega)) rfl ?_
        refine WL.yd (Yd.indexS Try.underlying22 Try.sizeOf53 rfl rfl (by omega) (by omega) (by first | exact hR.dip.addr (d.dippers.length - 1 - k) (by omega))) rfl ?_
        refine WL.yd (Yd.loadN Try.isAgg53 Try.sizeOf53 rfl (vs := [_, _, _]) rfl (by first | exact RdN.own (k := 0) (n := 3) rfl rfl | exact (hR.dip.at (d.dippers.length - 1 - k) (by omega)).rdn 0 3 rfl)) rfl ?_
        refine WL.so (SO.alloc Try.zeroValue53 rfl) rfl ?_
        rintro _ _ _ ⟨b10, hb10, rfl, rfl, rfl⟩ -- NEW
        refine WL.so (SO.store 0 rfl Try.sizeOf53 rfl rfl rfl rfl (Nat.le_of_ble_eq_true rfl) (oneB_spec rfl)) rfl ?_
        rintro _ _ _ ⟨rfl, rfl, rfl⟩
        refine WL.nil ?_
        refine WP.thenC ?_
        refine WC.ofFr [(10, _), (1, _), (2, _), (5, _), (6, _), (7, _), (8, _), (71, _), (72, _)] ⟨rfl, rfl, rfl, rfl, rfl, rfl, rfl, rfl, rfl, trivial⟩ ?_
        refine WC.drawH [_] (by kernel_rfl) (fun _ hI => hI.pick 0 rfl) ?_
        refine WH.yd (i := 0) (by kernel_rfl) (fun _ o v c a w _ h => (QuietPanic.blk (QuietPanic.then (QuietPanic.then (QuietPanic.blk (QuietPanic.then QuietPanic.body))))) c o.dst v a w h) rfl (Yd.fieldAddr FA25_1 rfl) rfl ?_
        refine WH.yd (i := 2) (by kernel_rfl) (fun _ o v c a w _ h => (QuietPanic.blk (QuietPanic.then (QuietPanic.then (QuietPanic.blk (QuietPanic.then QuietPanic.body))))) c o.dst v a w h) rfl (Yd.fieldAddr FA53_0 rfl) rfl ?_
        refine WH.yd (i := 3) (by kernel_rfl) (fun _ o v c a w _ h => (QuietPanic.blk (QuietPanic.then (QuietPanic.then (QuietPanic.blk (QuietPanic.then QuietPanic.body))))) c o.dst v a w h) rfl (Yd.loadN Try.isAgg35 Try.sizeOf35 rfl (vs := [_, _]) rfl (by first | exact RdN.own (k := 0) (n := 2) rfl rfl | exact RdN.own (k := 1) (n := 2) rfl rfl | exact (RdN.imm (n := 3) hbD rfl) | exact (RdN.imm (n := 3) hbX rfl))) rfl ?_
        refine WH.yd (i := 4) (by kernel_rfl) (fun _ o v c a w _ h => (QuietPanic.blk (QuietPanic.then (QuietPanic.then (QuietPanic.blk (QuietPanic.then QuietPanic.body))))) c o.dst v a w h) rfl (Yd.move rfl) rfl ?_
        refine WH.yd (i := 5) (by kernel_rfl) (fun _ o v c a w _ h => (QuietPanic.blk (QuietPanic.then (QuietPanic.then (QuietPanic.blk (QuietPanic.then QuietPanic.body))))) c o.dst v a w h) rfl (Yd.fieldAddr FA53_1 rfl) rfl ?_
        refine WH.yd (i := 6) (by kernel_rfl) (fun _ o v c a w _ h => (QuietPanic.blk (QuietPanic.then (QuietPanic.then (QuietPanic.blk (QuietPanic.then QuietPanic.body))))) c o.dst v a w h) rfl (Yd.load1 Try.isAgg3 rfl (by first | exact Rd.own (k := 0) rfl rfl | exact Rd.own (k := 1) rfl rfl | exact (Rd.imm hbD rfl) | exact (Rd.imm hbX rfl))) rfl ?_
        refine WH.two (i := 1) (j := 7) (by kernel_rfl) ?_ ?_
        · refine WHo.yd rfl (Yd.load1 Try.isAgg22 rfl (by first | exact Rd.own (k := 0) rfl rfl | exact Rd.own (k := 1) rfl rfl | exact (Rd.imm hbD rfl) | exact (Rd.imm hbX rfl))) rfl ?_
          refine WH.one (i := 7) (by kernel_rfl) (WHo.so rfl (SO.call (Enters.val Try.call46 rfl rfl) (fun w hI => other_g d _ _ b2 D1 _ hbD hI.imm hnum.1 _ hst)) rfl ?_)
          rintro _ _ _ ⟨rfl, rfl, rfl⟩
          refine ⟨(fun _ hI => hI.pick 0 rfl), ?_⟩
          refine WH.yd (i := 8) (by kernel_rfl) (fun _ o v c a w _ h => (QuietPanic.blk (QuietPanic.then (QuietPanic.then (QuietPanic.blk (QuietPanic.then QuietPanic.body))))) c o.dst v a w h) rfl (Yd.build SA53 rfl (cs := [_, _, _]) rfl) rfl ?_
          refine WH.one (i := 9) (by kernel_rfl) (WHo.so rfl (SO.buildSlice Try.underlying22 Try.sizeOf53 Try.zeroValue53 rfl rfl rfl rfl (cs := [_, _, _]) rfl) rfl ?_)
          rintro _ _ _ ⟨b92, hb92, rfl, rfl, rfl⟩ -- NEW
          refine ⟨(fun _ hI => hI.pick 1 rfl), ?_⟩
          refine WH.one (i := 10) (by kernel_rfl) (WHo.so rfl (SO.appendOw (o := o1) (len := k) (n := 1) (xs := ((tDip d k).flatMap dipperC)) (size := 3) [_] [_, _] [] rfl rfl Try.underlying22 Try.sizeOf53 Try.typeInfo53 Try.zeroValue53 rfl rfl rfl rfl ⟨rfl, .inr ⟨_, _, _, rfl, RdN.own (k := 0) (n := 3) rfl rfl⟩⟩ (oneB_spec rfl) ho1 (by rw [flat_len dipperC_len, tDip_len]) (by omega) (by show (2 * (_ + _) + 1000) * 24 ≤ 2 ^ 48; omega) (by omega)) rfl ?_)
          rintro _ _ _ ⟨u1, hu1, rfl, rfl, rfl⟩
          refine ⟨(fun _ hI => hI.pick 0 rfl), ?_⟩
          refine WH.yd (i := 11) (by kernel_rfl) (fun _ o v c a w _ h => (QuietPanic.blk (QuietPanic.then (QuietPanic.then (QuietPanic.blk (QuietPanic.then QuietPanic.body))))) c o.dst v a w h) rfl (Yd.fieldAddr FA25_1 rfl) rfl ?_
          refine WH.one (i := 12) (by kernel_rfl) (WHo.so rfl (SO.store 1 rfl Try.sizeOf22 rfl rfl rfl rfl (Nat.le_of_ble_eq_true rfl) (oneB_spec rfl)) rfl ?_)
          rintro _ _ _ ⟨rfl, rfl, rfl⟩
          refine ⟨(fun _ hI => hI.pick 0 rfl), ?_⟩
          refine WH.nil (by kernel_rfl) ?_
          refine WP.blkNormal ?_
          refine WP.thenC ?_
          refine WC.ofFr [(1, _), (2, _), (5, _), (6, _), (7, _), (8, _), (71, _), (72, _)] ⟨rfl, rfl, rfl, rfl, rfl, rfl, rfl, rfl, trivial⟩ ?_
          refine WC.region ?_
          refine WL.yd (Yd.add rfl rfl (wr64 ⟨by omega, by omega⟩)) rfl ?_
          refine WL.yd (Yd.move rfl) rfl ?_
          refine WL.nil ?_
          refine WP.again (⟨k + 1, some u1⟩ : Nat × Option Ow) ⟨by simp only; omega, hu1⟩ (by simp only; omega) (fun aa ww h => ?_)
          show At _ [(1, .slice a4 n4 c4), (2, pt b2), (5, nt d.bathers.length), (6, nt d.dippers.length), (7, .func (.func 46) #[] #[pt b2]), (8, pt b8), (71, nt d.dippers.length), (72, nt (k + 1))] D1 ((b8, .cells (List.toArray [it d.hours, owV (some u1) (k + 1), .slice none 0 0]) 25 (0, 0)) :: owH (some u1) 53 ((tDip d (k + 1)).flatMap dipperC) []) aa ww
          rw [tDip_succ]
          exact at_less h ⟨rfl, rfl, rfl, rfl, rfl, rfl, rfl, rfl, trivial⟩ (fun _ h => List.mem_cons_of_mem _ h) (fun h => (List.nodup_cons.1 h).2)
        · refine WHo.so rfl (SO.call (Enters.val Try.call46 rfl rfl) (fun w hI => other_g d _ _ b2 D1 _ hbD hI.imm hnum.1 _ hst)) rfl ?_
          rintro _ _ _ ⟨rfl, rfl, rfl⟩
          refine ⟨(fun _ hI => hI.pick 0 rfl), ?_⟩
          refine WH.yd (i := 8) (by kernel_rfl) (fun _ o v c a w _ h => (QuietPanic.blk (QuietPanic.then (QuietPanic.then (QuietPanic.blk (QuietPanic.then QuietPanic.body))))) c o.dst v a w h) rfl (Yd.build SA53 rfl (cs := [_, _, _]) rfl) rfl ?_
          refine WH.two (i := 1) (j := 9) (by kernel_rfl) ?_ ?_
          · refine WHo.yd rfl (Yd.load1 Try.isAgg22 rfl (by first | exact Rd.own (k := 0) rfl rfl | exact Rd.own (k := 1) rfl rfl | exact (Rd.imm hbD rfl) | exact (Rd.imm hbX rfl))) rfl ?_
            refine WH.one (i := 9) (by kernel_rfl) (WHo.so rfl (SO.buildSlice Try.underlying22 Try.sizeOf53 Try.zeroValue53 rfl rfl rfl rfl (cs := [_, _, _]) rfl) rfl ?_)
            rintro _ _ _ ⟨b92, hb92, rfl, rfl, rfl⟩ -- NEW
            refine ⟨(fun _ hI => hI.pick 1 rfl), ?_⟩
            refine WH.one (i := 10) (by kernel_rfl) (WHo.so rfl (SO.appendOw (o := o1) (len := k) (n := 1) (xs := ((tDip d k).flatMap dipperC)) (size := 3) [_] [_, _] [] rfl rfl Try.underlying22 Try.sizeOf53 Try.typeInfo53 Try.zeroValue53 rfl rfl rfl rfl ⟨rfl, .inr ⟨_, _, _, rfl, RdN.own (k := 0) (n := 3) rfl rfl⟩⟩ (oneB_spec rfl) ho1 (by rw [flat_len dipperC_len, tDip_len]) (by omega) (by show (2 * (_ + _) + 1000) * 24 ≤ 2 ^ 48; omega) (by omega)) rfl ?_)
            rintro _ _ _ ⟨u1, hu1, rfl, rfl, rfl⟩
            refine ⟨(fun _ hI => hI.pick 0 rfl), ?_⟩
            refine WH.yd (i := 11) (by kernel_rfl) (fun _ o v c a w _ h => (QuietPanic.blk (QuietPanic.then (QuietPanic.then (QuietPanic.blk (QuietPanic.then QuietPanic.body))))) c o.dst v a w h) rfl (Yd.fieldAddr FA25_1 rfl) rfl ?_
            refine WH.one (i := 12) (by kernel_rfl) (WHo.so rfl (SO.store 1 rfl Try.sizeOf22 rfl rfl rfl rfl (Nat.le_of_ble_eq_true rfl) (oneB_spec rfl)) rfl ?_)
            rintro _ _ _ ⟨rfl, rfl, rfl⟩
            refine ⟨(fun _ hI => hI.pick 0 rfl), ?_⟩
            refine WH.nil (by kernel_rfl) ?_
            refine WP.blkNormal ?_
            refine WP.thenC ?_
            refine WC.ofFr [(1, _), (2, _), (5, _), (6, _), (7, _), (8, _), (71, _), (72, _)] ⟨rfl, rfl, rfl, rfl, rfl, rfl, rfl, rfl, trivial⟩ ?_
            refine WC.region ?_
            refine WL.yd (Yd.add rfl rfl (wr64 ⟨by omega, by omega⟩)) rfl ?_
            refine WL.yd (Yd.move rfl) rfl ?_
            refine WL.nil ?_
            refine WP.again (⟨k + 1, some u1⟩ : Nat × Option Ow) ⟨by simp only; omega, hu1⟩ (by simp only; omega) (fun aa ww h => ?_)
            show At _ [(1, .slice a4 n4 c4), (2, pt b2), (5, nt d.bathers.length), (6, nt d.dippers.length), (7, .func (.func 46) #[] #[pt b2]), (8, pt b8), (71, nt d.dippers.length), (72, nt (k + 1))] D1 ((b8, .cells (List.toArray [it d.hours, owV (some u1) (k + 1), .slice none 0 0]) 25 (0, 0)) :: owH (some u1) 53 ((tDip d (k + 1)).flatMap dipperC) []) aa ww
            rw [tDip_succ]
            exact at_less h ⟨rfl, rfl, rfl, rfl, rfl, rfl, rfl, rfl, trivial⟩ (fun _ h => List.mem_cons_of_mem _ h) (fun h => (List.nodup_cons.1 h).2)
          · refine WHo.so rfl (SO.buildSlice Try.underlying22 Try.sizeOf53 Try.zeroValue53 rfl rfl rfl rfl (cs := [_, _, _]) rfl) rfl ?_
            rintro _ _ _ ⟨b92, hb92, rfl, rfl, rfl⟩ -- NEW
            refine ⟨(fun _ hI => hI.pick 1 rfl), ?_⟩
            refine WH.one (i := 1) (by kernel_rfl) (WHo.yd rfl (Yd.load1 Try.isAgg22 rfl (by first | exact Rd.own (k := 0) rfl rfl | exact Rd.own (k := 1) rfl rfl | exact Rd.own (k := 2) rfl rfl | exact (Rd.imm hbD rfl) | exact (Rd.imm hbX rfl))) rfl ?_)
            refine WH.one (i := 10) (by kernel_rfl) (WHo.so rfl (SO.appendOw (o := o1) (len := k) (n := 1) (xs := ((tDip d k).flatMap dipperC)) (size := 3) [_] [_, _] [] rfl rfl Try.underlying22 Try.sizeOf53 Try.typeInfo53 Try.zeroValue53 rfl rfl rfl rfl ⟨rfl, .inr ⟨_, _, _, rfl, RdN.own (k := 0) (n := 3) rfl rfl⟩⟩ (oneB_spec rfl) ho1 (by rw [flat_len dipperC_len, tDip_len]) (by omega) (by show (2 * (_ + _) + 1000) * 24 ≤ 2 ^ 48; omega) (by omega)) rfl ?_)
            rintro _ _ _ ⟨u1, hu1, rfl, rfl, rfl⟩
            refine ⟨(fun _ hI => hI.pick 0 rfl), ?_⟩
            refine WH.yd (i := 11) (by kernel_rfl) (fun _ o v c a w _ h => (QuietPanic.blk (QuietPanic.then (QuietPanic.then (QuietPanic.blk (QuietPanic.then QuietPanic.body))))) c o.dst v a w h) rfl (Yd.fieldAddr FA25_1 rfl) rfl ?_
            refine WH.one (i := 12) (by kernel_rfl) (WHo.so rfl (SO.store 1 rfl Try.sizeOf22 rfl rfl rfl rfl (Nat.le_of_ble_eq_true rfl) (oneB_spec rfl)) rfl ?_)
            rintro _ _ _ ⟨rfl, rfl, rfl⟩
            refine ⟨(fun _ hI => hI.pick 0 rfl), ?_⟩
            refine WH.nil (by kernel_rfl) ?_
            refine WP.blkNormal ?_
            refine WP.thenC ?_
            refine WC.ofFr [(1, _), (2, _), (5, _), (6, _), (7, _), (8, _), (71, _), (72, _)] ⟨rfl, rfl, rfl, rfl, rfl, rfl, rfl, rfl, trivial⟩ ?_
            refine WC.region ?_
            refine WL.yd (Yd.add rfl rfl (wr64 ⟨by omega, by omega⟩)) rfl ?_
            refine WL.yd (Yd.move rfl) rfl ?_
            refine WL.nil ?_
            refine WP.again (⟨k + 1, some u1⟩ : Nat × Option Ow) ⟨by simp only; omega, hu1⟩ (by simp only; omega) (fun aa ww h => ?_)
            show At _ [(1, .slice a4 n4 c4), (2, pt b2), (5, nt d.bathers.length), (6, nt d.dippers.length), (7, .func (.func 46) #[] #[pt b2]), (8, pt b8), (71, nt d.dippers.length), (72, nt (k + 1))] D1 ((b8, .cells (List.toArray [it d.hours, owV (some u1) (k + 1), .slice none 0 0]) 25 (0, 0)) :: owH (some u1) 53 ((tDip d (k + 1)).flatMap dipperC) []) aa ww
            rw [tDip_succ]
            exact at_less h ⟨rfl, rfl, rfl, rfl, rfl, rfl, rfl, rfl, trivial⟩ (fun _ h => List.mem_cons_of_mem _ h) (fun h => (List.nodup_cons.1 h).2)
      · try simp only [zq1, zq2, zq3, zq4, zq5, zq6, zq7, zq8] at c73
        refine WC.exit ?_
        refine WP.thenExit ?_
        refine WP.thenExit ?_
        refine WP.blkHit ?_
        refine WP.thenC ?_
        refine WC.seq ?_
        refine WC.seq ?_
        obtain rfl : k = d.dippers.length := by omega
        refine WC.ofFr [(1, _), (2, _), (5, _), (6, _), (7, _), (8, _)] ⟨rfl, rfl, rfl, rfl, rfl, rfl, trivial⟩ ?_
        refine WC.region ?_
        refine WL.yd (Yd.fieldAddr FA25_2 rfl) rfl ?_
        refine WL.yd (Yd.load1 Try.isAgg23 rfl (by first | exact Rd.own (k := 0) rfl rfl | exact (Rd.imm hbD rfl) | exact (Rd.imm hbX rfl))) rfl ?_
        refine WL.yd (Yd.lenS rfl Try.underlying23 rfl) rfl ?_
        refine WL.yd (Yd.move rfl) rfl ?_
        refine WL.nil ?_
        refine WP.thenC ?_
        refine WC.block ?_
        refine WC.loop (fun y : Nat × Option Ow => [(1, .slice a4 n4 c4), (2, pt b2), (5, nt d.bathers.length), (6, nt d.dippers.length), (7, .func (.func 46) #[] #[pt b2]), (8, pt b8), (98, nt d.bathers.length), (99, nt y.1)]) (fun y => (b8, .cells (List.toArray [it d.hours, owV o1 d.dippers.length, owV y.2 y.1]) 25 (0, 0)) :: owH y.2 55 ((tBath d y.1).flatMap batherC) (owH o1 53 ((tDip d d.dippers.length).flatMap dipperC) [])) (fun _ => D1) (fun y => y.1 ≤ d.bathers.length ∧ owP w y.2 y.1 3) (fun y => d.bathers.length - y.1) (0, none) ⟨by omega, rfl⟩ (fun a w h => at_fr h ⟨rfl, rfl, rfl, rfl, rfl, rfl, rfl, rfl, trivial⟩) ?_
        rintro ⟨k, o2⟩ ⟨hk, ho2⟩
        dsimp only at hk ho2
        refine WC.seq ?_
        refine WC.ofFr [(1, _), (2, _), (5, _), (6, _), (7, _), (8, _), (98, _), (99, _)] ⟨rfl, rfl, rfl, rfl, rfl, rfl, rfl, rfl, trivial⟩ ?_
        refine WC.region ?_
        refine WL.yd (Yd.lss rfl rfl) rfl ?_
        refine WL.nil ?_
        refine WP.thenC ?_
        refine WC.seq ?_
        refine WC.cond rfl (fun c100 => ?_) (fun c100 => ?_)
        · try simp only [zq1, zq2, zq3, zq4, zq5, zq6, zq7, zq8] at c100
          have hst := (hours_set hv).2 (d.bathers.length - 1 - k) (by omega)
          refine WC.skip ?_
          refine WP.thenC ?_
          refine WC.seq ?_
          refine WC.block ?_
          refine WC.seq ?_
          refine WC.ofFr [(1, _), (2, _), (5, _), (6, _), (7, _), (8, _), (98, _), (99, _)] ⟨rfl, rfl, rfl, rfl, rfl, rfl, rfl, rfl, trivial⟩ ?_
          refine WC.region ?_
          refine WL.yd (Yd.move rfl) rfl ?_
          refine WL.yd (Yd.assign rfl) rfl ?_
          refine WL.nil ?_
          refine WP.thenC ?_
          refine WC.seq ?_
          refine WC.ofFr [(11, _), (1, _), (2, _), (5, _), (6, _), (7, _), (8, _), (98, _), (99, _)] ⟨rfl, rfl, rfl, rfl, rfl, rfl, rfl, rfl, rfl, trivial⟩ ?_
          refine WC.region ?_
          refine WL.yd (Yd.fieldAddr FA25_2 rfl) rfl ?_
          refine WL.yd (Yd.load1 Try.isAgg23 rfl (by first | exact Rd.own (k := 0) rfl rfl | exact (Rd.imm hbD rfl) | exact (Rd.imm hbX rfl))) rfl ?_
          refine WL.yd (Yd.move rfl) rfl ?_
          refine WL.yd (Yd.subN (j := 1) rfl rfl (by omega) (by omega)) rfl ?_
          refine WL.yd (Yd.move rfl) rfl ?_
          refine WL.yd (Yd.subN rfl rfl (by omega) (by omega)) rfl ?_
          refine WL.yd (Yd.indexS Try.underlying23 Try.sizeOf55 rfl rfl (by omega) (by omega) (by first | exact hR.bath.addr (d.bathers.length - 1 - k) (by omega))) rfl ?_
          refine WL.yd (Yd.loadN Try.isAgg55 Try.sizeOf55 rfl (vs := [_, _, _]) rfl (by first | exact RdN.own (k := 0) (n := 3) rfl rfl | exact (hR.bath.at (d.bathers.length - 1 - k) (by omega)).rdn 0 3 rfl)) rfl ?_
          refine WL.so (SO.alloc Try.zeroValue55 rfl) rfl ?_
          rintro _ _ _ ⟨b12, hb12, rfl, rfl, rfl⟩ -- NEW
          refine WL.so (SO.store 0 rfl Try.sizeOf55 rfl rfl rfl rfl (Nat.le_of_ble_eq_true rfl) (oneB_spec rfl)) rfl ?_
          rintro _ _ _ ⟨rfl, rfl, rfl⟩
          refine WL.nil ?_
          refine WP.thenC ?_
          refine WC.ofFr [(12, _), (1, _), (2, _), (5, _), (6, _), (7, _), (8, _), (98, _), (99, _)] ⟨rfl, rfl, rfl, rfl, rfl, rfl, rfl, rfl, rfl, trivial⟩ ?_
          refine WC.drawH [_] (by kernel_rfl) (fun _ hI => hI.pick 0 rfl) ?_
          refine WH.yd (i := 0) (by kernel_rfl) (fun _ o v c a w _ h => (QuietPanic.blk (QuietPanic.then (QuietPanic.then (QuietPanic.blk (QuietPanic.then QuietPanic.body))))) c o.dst v a w h) rfl (Yd.fieldAddr FA25_2 rfl) rfl ?_
          refine WH.yd (i := 2) (by kernel_rfl) (fun _ o v c a w _ h => (QuietPanic.blk (QuietPanic.then (QuietPanic.then (QuietPanic.blk (QuietPanic.then QuietPanic.body))))) c o.dst v a w h) rfl (Yd.fieldAddr FA55_0 rfl) rfl ?_
          refine WH.yd (i := 3) (by kernel_rfl) (fun _ o v c a w _ h => (QuietPanic.blk (QuietPanic.then (QuietPanic.then (QuietPanic.blk (QuietPanic.then QuietPanic.body))))) c o.dst v a w h) rfl (Yd.loadN Try.isAgg35 Try.sizeOf35 rfl (vs := [_, _]) rfl (by first | exact RdN.own (k := 0) (n := 2) rfl rfl | exact RdN.own (k := 1) (n := 2) rfl rfl | exact (RdN.imm (n := 3) hbD rfl) | exact (RdN.imm (n := 3) hbX rfl))) rfl ?_
          refine WH.yd (i := 4) (by kernel_rfl) (fun _ o v c a w _ h => (QuietPanic.blk (QuietPanic.then (QuietPanic.then (QuietPanic.blk (QuietPanic.then QuietPanic.body))))) c o.dst v a w h) rfl (Yd.move rfl) rfl ?_
          refine WH.yd (i := 5) (by kernel_rfl) (fun _ o v c a w _ h => (QuietPanic.blk (QuietPanic.then (QuietPanic.then (QuietPanic.blk (QuietPanic.then QuietPanic.body))))) c o.dst v a w h) rfl (Yd.fieldAddr FA55_1 rfl) rfl ?_
          refine WH.yd (i := 6) (by kernel_rfl) (fun _ o v c a w _ h => (QuietPanic.blk (QuietPanic.then (QuietPanic.then (QuietPanic.blk (QuietPanic.then QuietPanic.body))))) c o.dst v a w h) rfl (Yd.load1 Try.isAgg3 rfl (by first | exact Rd.own (k := 0) rfl rfl | exact Rd.own (k := 1) rfl rfl | exact (Rd.imm hbD rfl) | exact (Rd.imm hbX rfl))) rfl ?_
          refine WH.two (i := 1) (j := 7) (by kernel_rfl) ?_ ?_
          · refine WHo.yd rfl (Yd.load1 Try.isAgg23 rfl (by first | exact Rd.own (k := 0) rfl rfl | exact Rd.own (k := 1) rfl rfl | exact (Rd.imm hbD rfl) | exact (Rd.imm hbX rfl))) rfl ?_
            refine WH.one (i := 7) (by kernel_rfl) (WHo.so rfl (SO.call (Enters.val Try.call46 rfl rfl) (fun w hI => other_g d _ _ b2 D1 _ hbD hI.imm hnum.1 _ hst)) rfl ?_)
            rintro _ _ _ ⟨rfl, rfl, rfl⟩
            refine ⟨(fun _ hI => hI.pick 0 rfl), ?_⟩
            refine WH.yd (i := 8) (by kernel_rfl) (fun _ o v c a w _ h => (QuietPanic.blk (QuietPanic.then (QuietPanic.then (QuietPanic.blk (QuietPanic.then QuietPanic.body))))) c o.dst v a w h) rfl (Yd.build SA55 rfl (cs := [_, _, _]) rfl) rfl ?_
            refine WH.one (i := 9) (by kernel_rfl) (WHo.so rfl (SO.buildSlice Try.underlying23 Try.sizeOf55 Try.zeroValue55 rfl rfl rfl rfl (cs := [_, _, _]) rfl) rfl ?_)
            rintro _ _ _ ⟨b119, hb119, rfl, rfl, rfl⟩ -- NEW
            refine ⟨(fun _ hI => hI.pick 1 rfl), ?_⟩
            refine WH.one (i := 10) (by kernel_rfl) (WHo.so rfl (SO.appendOw (o := o2) (len := k) (n := 1) (xs := ((tBath d k).flatMap batherC)) (size := 3) [_] [_, _] (owH o1 53 ((tDip d d.dippers.length).flatMap dipperC) []) rfl rfl Try.underlying23 Try.sizeOf55 Try.typeInfo55 Try.zeroValue55 rfl rfl rfl rfl ⟨rfl, .inr ⟨_, _, _, rfl, RdN.own (k := 0) (n := 3) rfl rfl⟩⟩ (oneB_spec rfl) ho2 (by rw [flat_len batherC_len, tBath_len]) (by omega) (by show (2 * (_ + _) + 1000) * 24 ≤ 2 ^ 48; omega) (by omega)) rfl ?_)
            rintro _ _ _ ⟨u2, hu2, rfl, rfl, rfl⟩
            refine ⟨(fun _ hI => hI.pick 0 rfl), ?_⟩
            refine WH.yd (i := 11) (by kernel_rfl) (fun _ o v c a w _ h => (QuietPanic.blk (QuietPanic.then (QuietPanic.then (QuietPanic.blk (QuietPanic.then QuietPanic.body))))) c o.dst v a w h) rfl (Yd.fieldAddr FA25_2 rfl) rfl ?_
            refine WH.one (i := 12) (by kernel_rfl) (WHo.so rfl (SO.store 1 rfl Try.sizeOf23 rfl rfl rfl rfl (Nat.le_of_ble_eq_true rfl) (oneB_spec rfl)) rfl ?_)
            rintro _ _ _ ⟨rfl, rfl, rfl⟩
            refine ⟨(fun _ hI => hI.pick 0 rfl), ?_⟩
            refine WH.nil (by kernel_rfl) ?_
            refine WP.blkNormal ?_
            refine WP.thenC ?_
            refine WC.ofFr [(1, _), (2, _), (5, _), (6, _), (7, _), (8, _), (98, _), (99, _)] ⟨rfl, rfl, rfl, rfl, rfl, rfl, rfl, rfl, trivial⟩ ?_
            refine WC.region ?_
            refine WL.yd (Yd.add rfl rfl (wr64 ⟨by omega, by omega⟩)) rfl ?_
            refine WL.yd (Yd.move rfl) rfl ?_
            refine WL.nil ?_
            refine WP.again (⟨k + 1, some u2⟩ : Nat × Option Ow) ⟨by simp only; omega, hu2⟩ (by simp only; omega) (fun aa ww h => ?_)
            show At _ [(1, .slice a4 n4 c4), (2, pt b2), (5, nt d.bathers.length), (6, nt d.dippers.length), (7, .func (.func 46) #[] #[pt b2]), (8, pt b8), (98, nt d.bathers.length), (99, nt (k + 1))] D1 ((b8, .cells (List.toArray [it d.hours, owV o1 d.dippers.length, owV (some u2) (k + 1)]) 25 (0, 0)) :: owH (some u2) 55 ((tBath d (k + 1)).flatMap batherC) (owH o1 53 ((tDip d d.dippers.length).flatMap dipperC) [])) aa ww
            rw [tBath_succ]
            exact at_less h ⟨rfl, rfl, rfl, rfl, rfl, rfl, rfl, rfl, trivial⟩ (fun _ h => List.mem_cons_of_mem _ h) (fun h => (List.nodup_cons.1 h).2)
          · refine WHo.so rfl (SO.call (Enters.val Try.call46 rfl rfl) (fun w hI => other_g d _ _ b2 D1 _ hbD hI.imm hnum.1 _ hst)) rfl ?_
            rintro _ _ _ ⟨rfl, rfl, rfl⟩
            refine ⟨(fun _ hI => hI.pick 0 rfl), ?_⟩
            refine WH.yd (i := 8) (by kernel_rfl) (fun _ o v c a w _ h => (QuietPanic.blk (QuietPanic.then (QuietPanic.then (QuietPanic.blk (QuietPanic.then QuietPanic.body))))) c o.dst v a w h) rfl (Yd.build SA55 rfl (cs := [_, _, _]) rfl) rfl ?_
            refine WH.two (i := 1) (j := 9) (by kernel_rfl) ?_ ?_
            · refine WHo.yd rfl (Yd.load1 Try.isAgg23 rfl (by first | exact Rd.own (k := 0) rfl rfl | exact Rd.own (k := 1) rfl rfl | exact (Rd.imm hbD rfl) | exact (Rd.imm hbX rfl))) rfl ?_
              refine WH.one (i := 9) (by kernel_rfl) (WHo.so rfl (SO.buildSlice Try.underlying23 Try.sizeOf55 Try.zeroValue55 rfl rfl rfl rfl (cs := [_, _, _]) rfl) rfl ?_)
              rintro _ _ _ ⟨b119, hb119, rfl, rfl, rfl⟩ -- NEW
              refine ⟨(fun _ hI => hI.pick 1 rfl), ?_⟩
              refine WH.one (i := 10) (by kernel_rfl) (WHo.so rfl (SO.appendOw (o := o2) (len := k) (n := 1) (xs := ((tBath d k).flatMap batherC)) (size := 3) [_] [_, _] (owH o1 53 ((tDip d d.dippers.length).flatMap dipperC) []) rfl rfl Try.underlying23 Try.sizeOf55 Try.typeInfo55 Try.zeroValue55 rfl rfl rfl rfl ⟨rfl, .inr ⟨_, _, _, rfl, RdN.own (k := 0) (n := 3) rfl rfl⟩⟩ (oneB_spec rfl) ho2 (by rw [flat_len batherC_len, tBath_len]) (by omega) (by show (2 * (_ + _) + 1000) * 24 ≤ 2 ^ 48; omega) (by omega)) rfl ?_)
              rintro _ _ _ ⟨u2, hu2, rfl, rfl, rfl⟩
              refine ⟨(fun _ hI => hI.pick 0 rfl), ?_⟩
              refine WH.yd (i := 11) (by kernel_rfl) (fun _ o v c a w _ h => (QuietPanic.blk (QuietPanic.then (QuietPanic.then (QuietPanic.blk (QuietPanic.then QuietPanic.body))))) c o.dst v a w h) rfl (Yd.fieldAddr FA25_2 rfl) rfl ?_
              refine WH.one (i := 12) (by kernel_rfl) (WHo.so rfl (SO.store 1 rfl Try.sizeOf23 rfl rfl rfl rfl (Nat.le_of_ble_eq_true rfl) (oneB_spec rfl)) rfl ?_)
              rintro _ _ _ ⟨rfl, rfl, rfl⟩
              refine ⟨(fun _ hI => hI.pick 0 rfl), ?_⟩
              refine WH.nil (by kernel_rfl) ?_
              refine WP.blkNormal ?_
              refine WP.thenC ?_
              refine WC.ofFr [(1, _), (2, _), (5, _), (6, _), (7, _), (8, _), (98, _), (99, _)] ⟨rfl, rfl, rfl, rfl, rfl, rfl, rfl, rfl, trivial⟩ ?_
              refine WC.region ?_
              refine WL.yd (Yd.add rfl rfl (wr64 ⟨by omega, by omega⟩)) rfl ?_
              refine WL.yd (Yd.move rfl) rfl ?_
              refine WL.nil ?_
              refine WP.again (⟨k + 1, some u2⟩ : Nat × Option Ow) ⟨by simp only; omega, hu2⟩ (by simp only; omega) (fun aa ww h => ?_)
              show At _ [(1, .slice a4 n4 c4), (2, pt b2), (5, nt d.bathers.length), (6, nt d.dippers.length), (7, .func (.func 46) #[] #[pt b2]), (8, pt b8), (98, nt d.bathers.length), (99, nt (k + 1))] D1 ((b8, .cells (List.toArray [it d.hours, owV o1 d.dippers.length, owV (some u2) (k + 1)]) 25 (0, 0)) :: owH (some u2) 55 ((tBath d (k + 1)).flatMap batherC) (owH o1 53 ((tDip d d.dippers.length).flatMap dipperC) [])) aa ww
              rw [tBath_succ]
              exact at_less h ⟨rfl, rfl, rfl, rfl, rfl, rfl, rfl, rfl, trivial⟩ (fun _ h => List.mem_cons_of_mem _ h) (fun h => (List.nodup_cons.1 h).2)
            · refine WHo.so rfl (SO.buildSlice Try.underlying23 Try.sizeOf55 Try.zeroValue55 rfl rfl rfl rfl (cs := [_, _, _]) rfl) rfl ?_
              rintro _ _ _ ⟨b119, hb119, rfl, rfl, rfl⟩ -- NEW
              refine ⟨(fun _ hI => hI.pick 1 rfl), ?_⟩
              refine WH.one (i := 1) (by kernel_rfl) (WHo.yd rfl (Yd.load1 Try.isAgg23 rfl (by first | exact Rd.own (k := 0) rfl rfl | exact Rd.own (k := 1) rfl rfl | exact Rd.own (k := 2) rfl rfl | exact (Rd.imm hbD rfl) | exact (Rd.imm hbX rfl))) rfl ?_)
              refine WH.one (i := 10) (by kernel_rfl) (WHo.so rfl (SO.appendOw (o := o2) (len := k) (n := 1) (xs := ((tBath d k).flatMap batherC)) (size := 3) [_] [_, _] (owH o1 53 ((tDip d d.dippers.length).flatMap dipperC) []) rfl rfl Try.underlying23 Try.sizeOf55 Try.typeInfo55 Try.zeroValue55 rfl rfl rfl rfl ⟨rfl, .inr ⟨_, _, _, rfl, RdN.own (k := 0) (n := 3) rfl rfl⟩⟩ (oneB_spec rfl) ho2 (by rw [flat_len batherC_len, tBath_len]) (by omega) (by show (2 * (_ + _) + 1000) * 24 ≤ 2 ^ 48; omega) (by omega)) rfl ?_)
              rintro _ _ _ ⟨u2, hu2, rfl, rfl, rfl⟩
              refine ⟨(fun _ hI => hI.pick 0 rfl), ?_⟩
              refine WH.yd (i := 11) (by kernel_rfl) (fun _ o v c a w _ h => (QuietPanic.blk (QuietPanic.then (QuietPanic.then (QuietPanic.blk (QuietPanic.then QuietPanic.body))))) c o.dst v a w h) rfl (Yd.fieldAddr FA25_2 rfl) rfl ?_
              refine WH.one (i := 12) (by kernel_rfl) (WHo.so rfl (SO.store 1 rfl Try.sizeOf23 rfl rfl rfl rfl (Nat.le_of_ble_eq_true rfl) (oneB_spec rfl)) rfl ?_)
              rintro _ _ _ ⟨rfl, rfl, rfl⟩
              refine ⟨(fun _ hI => hI.pick 0 rfl), ?_⟩
              refine WH.nil (by kernel_rfl) ?_
              refine WP.blkNormal ?_
              refine WP.thenC ?_
              refine WC.ofFr [(1, _), (2, _), (5, _), (6, _), (7, _), (8, _), (98, _), (99, _)] ⟨rfl, rfl, rfl, rfl, rfl, rfl, rfl, rfl, trivial⟩ ?_
              refine WC.region ?_
              refine WL.yd (Yd.add rfl rfl (wr64 ⟨by omega, by omega⟩)) rfl ?_
              refine WL.yd (Yd.move rfl) rfl ?_
              refine WL.nil ?_
              refine WP.again (⟨k + 1, some u2⟩ : Nat × Option Ow) ⟨by simp only; omega, hu2⟩ (by simp only; omega) (fun aa ww h => ?_)
              show At _ [(1, .slice a4 n4 c4), (2, pt b2), (5, nt d.bathers.length), (6, nt d.dippers.length), (7, .func (.func 46) #[] #[pt b2]), (8, pt b8), (98, nt d.bathers.length), (99, nt (k + 1))] D1 ((b8, .cells (List.toArray [it d.hours, owV o1 d.dippers.length, owV (some u2) (k + 1)]) 25 (0, 0)) :: owH (some u2) 55 ((tBath d (k + 1)).flatMap batherC) (owH o1 53 ((tDip d d.dippers.length).flatMap dipperC) [])) aa ww
              rw [tBath_succ]
              exact at_less h ⟨rfl, rfl, rfl, rfl, rfl, rfl, rfl, rfl, trivial⟩ (fun _ h => List.mem_cons_of_mem _ h) (fun h => (List.nodup_cons.1 h).2)
        · try simp only [zq1, zq2, zq3, zq4, zq5, zq6, zq7, zq8] at c100
          refine WC.exit ?_
          refine WP.thenExit ?_
          refine WP.thenExit ?_
          refine WP.blkHit ?_
          refine WP.thenC ?_
          obtain rfl : k = d.bathers.length := by omega
          rw [owV_owL (owL_of ho1), owV_owL (owL_of ho2)]
          refine WC.freezeOw (f := batherC) (m := 3) batherC_len [_] (owH o1 53 ((tDip d d.dippers.length).flatMap dipperC) []) o2 55 (tBath d d.bathers.length) rfl (by rw [tBath_len]; exact ho2) rfl (fun Da hXa hSa => ?_)
          refine WC.freezeOw (f := dipperC) (m := 3) dipperC_len [_] [] o1 53 (tDip d d.dippers.length) rfl (by rw [tDip_len]; exact ho1) rfl (fun Db hXb hSb => ?_)
          rw [tBath_len] at hSa
          rw [tDip_len] at hSb
          generalize owAt o1 = ax at hSb ⊢
          generalize owAt o2 = ay at hSa ⊢
          generalize owCp o1 d.dippers.length = cx
          generalize owCp o2 d.bathers.length = cy
          refine WC.freezeK 0 rfl (fun hn8 => ?_)
          have hXx := (DExt.refl w Db).add (o := .cells (List.toArray [it d.hours, .slice ax d.dippers.length cx, .slice ay d.bathers.length cy]) 25 (0, 0)) hn8 hb8
          have hbX : (Db.add b8 (.cells (List.toArray [it d.hours, .slice ax d.dippers.length cx, .slice ay d.bathers.length cy]) 25 (0, 0))) b8 = some (.cells (List.toArray [it d.hours, .slice ax d.dippers.length cx, .slice ay d.bathers.length cy]) 25 (0, 0)) := Imm.add_self _ _ _
          replace hR := ((hR.ext hXa).ext hXb).ext hXx
          replace hbD := hXx.old _ _ (hXb.old _ _ (hXa.old _ _ hbD))
          have hRX : DipsR (Db.add b8 (.cells (List.toArray [it d.hours, .slice ax d.dippers.length cx, .slice ay d.bathers.length cy]) 25 (0, 0))) (turnD d) ax d.dippers.length ay d.bathers.length := ⟨hSb.ext hXx, (hSa.ext hXb).ext hXx, by omega, by omega⟩
          replace hXd := ((hXd.trans hXa (Nat.le_refl _)).trans hXb (Nat.le_refl _)).trans hXx (Nat.le_refl _)
          generalize Db.add b8 (.cells (List.toArray [it d.hours, .slice ax d.dippers.length cx, .slice ay d.bathers.length cy]) 25 (0, 0)) = D3 at hbD hR hbX hRX hXd ⊢
          refine WC.seqJ (fun y : Ow × Ow => [(1, .slice a4 n4 c4), (2, pt b2), (5, nt d.bathers.length), (6, nt d.dippers.length), (8, pt b8), (13, owV (some y.1) d.dippers.length), (14, owV (some y.2) d.bathers.length)]) (fun y => [(y.2.b, .cells (List.toArray (d.bathers.flatMap batherC ++ y.2.rest)) 55 (0, 0)), (y.1.b, .cells (List.toArray (d.dippers.flatMap dipperC ++ y.1.rest)) 53 (0, 0))]) (fun _ => D3) (fun y => owP w (some y.1) d.dippers.length 3 ∧ owP w (some y.2) d.bathers.length 3) ?_ ?_
          · rintro ⟨u1, u2⟩ ⟨hu1, hu2⟩
            dsimp only at hu1 hu2
            refine WC.freezeOw (f := batherC) (m := 3) batherC_len [] [_] (some u2) 55 d.bathers rfl hu2 rfl (fun Dc hXc hS14 => ?_)
            refine WC.freezeOw (f := dipperC) (m := 3) dipperC_len [] [] (some u1) 53 d.dippers rfl hu1 rfl (fun D4 hXe hS13 => ?_)
            have hXce := hXc.trans hXe (Nat.le_refl _)
            replace hS14 : SlL D4 3 (d.bathers.map batherC) (some ⟨u2.b, 0, none⟩) d.bathers.length := hS14.ext hXe
            replace hS13 : SlL D4 3 (d.dippers.map dipperC) (some ⟨u1.b, 0, none⟩) d.dippers.length := hS13
            replace hR := hR.ext hXce
            replace hRX := hRX.ext hXce
            replace hbD := hXce.old _ _ hbD
            replace hbX := hXce.old _ _ hbX
            replace hXd := hXd.trans hXce (Nat.le_refl _)
            refine WC.seq ?_
            refine WC.ofFr [(1, _), (2, _), (5, _), (6, _), (8, _), (13, _), (14, _)] ⟨rfl, rfl, rfl, rfl, rfl, rfl, rfl, trivial⟩ ?_
            refine WC.draw [(0, true), (1, true), (2, false), (3, false), (4, true), (5, true), (6, true), (7, true), (8, true)] (by kernel_rfl) (by kernel_rfl) (QuietPanic.then QuietPanic.body) ?_
            refine WA.yd rfl (Yd.loadN Try.isAgg25 Try.sizeOf25 rfl (vs := [_, _, _]) rfl (by first | exact (RdN.imm (n := 3) hbD rfl) | exact (RdN.imm (n := 3) hbX rfl))) rfl ?_
            refine WA.yd rfl (Yd.move rfl) rfl ?_
            refine WA.so rfl (SO.news (Enters.func Try.call37 rfl) (fun w1 hI => draws_g by_ a4 n4 c4 _ w1 (hS4.ext hXd) hby hI.imm)) rfl ?_
            rintro _ D5 _ ⟨_, hX2, ⟨b5, b1, rfl, hB, rfl⟩, rfl⟩
            replace hR := hR.ext hX2
            replace hRX := hRX.ext hX2
            replace hbD := hX2.old _ _ hbD
            replace hbX := hX2.old _ _ hbX
            replace hS13 := hS13.ext hX2
            replace hS14 := hS14.ext hX2
            refine ⟨fun _ hI => (hI.drop 99).shrink hX2.old, ?_⟩
            refine WA.so rfl (SO.altersN (own := []) (hpc := [(b5, cntO 0)]) (S1 := [b5]) (fun _ h => h) (fun h => h) (fun _ h => h) (fun _ h => h) (Enters.func Try.call40 rfl) (fun w1 hI => made_g d a1 _ c1 a2 _ c2 _ w1 hR hI.imm hv by_ b5 b1 0 hB (by omega) hI)) rfl ?_
            rintro _ D6 _ ⟨_, hX6, ⟨a8, n8, c8, rfl, hP8, hcap8, rfl⟩, rfl⟩
            replace hR := hR.ext hX6
            replace hRX := hRX.ext hX6
            replace hbD := hX6.old _ _ hbD
            replace hbX := hX6.old _ _ hbX
            replace hS13 := hS13.ext hX6
            replace hS14 := hS14.ext hX6
            refine ⟨fun _ hI => (hI.drop 99).shrink (hX2.trans hX6 (Nat.le_refl _)).old, ?_⟩
            refine WA.yd rfl (Yd.move rfl) rfl ?_
            refine WA.yd rfl (Yd.extract rfl rfl) rfl ?_
            refine WA.yd rfl (Yd.extract rfl rfl) rfl ?_
            refine WA.yd rfl (Yd.assign rfl) rfl ?_
            refine WA.yd rfl (Yd.assign rfl) rfl ?_
            refine WA.nil ?_
            refine WP.thenC ?_
            refine WC.seqJ (fun _ : Imm => [(2, pt b2), (8, pt b8), (13, .slice (some ⟨u1.b, 0, none⟩) d.dippers.length u1.cap), (14, .slice (some ⟨u2.b, 0, none⟩) d.bathers.length u2.cap)]) (fun _ => []) (fun y => y) (fun y => DipsR y d a1 d.dippers.length a2 d.bathers.length ∧ DipsR y (turnD d) ax d.dippers.length ay d.bathers.length ∧ y b2 = some (.cells (List.toArray [it d.hours, .slice a1 d.dippers.length c1, .slice a2 d.bathers.length c2]) 25 (0, 0)) ∧ y b8 = some (.cells (List.toArray [it d.hours, .slice ax d.dippers.length cx, .slice ay d.bathers.length cy]) 25 (0, 0)) ∧ SlL y 3 (d.dippers.map dipperC) (some ⟨u1.b, 0, none⟩) d.dippers.length ∧ SlL y 3 (d.bathers.map batherC) (some ⟨u2.b, 0, none⟩) d.bathers.length) ?_ ?_
            · clear hR hRX hbD hbX hS13 hS14
              rintro DD ⟨hR, hRX, hbD, hbX, hS13, hS14⟩
              refine WC.seq ?_
              refine WC.ofFr [(2, _), (8, _), (13, _), (14, _)] ⟨rfl, rfl, rfl, rfl, trivial⟩ ?_
              refine WC.region ?_
              refine WL.yd (Yd.loadN Try.isAgg25 Try.sizeOf25 rfl (vs := [_, _, _]) rfl (by first | exact (RdN.imm (n := 3) hbD rfl) | exact (RdN.imm (n := 3) hbX rfl))) rfl ?_
              refine WL.so (SO.callP Try.call24 rfl (fun w hI => Hope_g d a1 _ c1 a2 _ c2 _ _ hR hI.imm)) rfl ?_
              rintro _ _ _ ⟨rfl, rfl, rfl⟩
              refine WL.yd (Yd.move rfl) rfl ?_
              refine WL.yd (Yd.extract rfl rfl) rfl ?_
              refine WL.yd (Yd.extract rfl rfl) rfl ?_
              refine WL.yd (Yd.assign rfl) rfl ?_
              refine WL.yd (Yd.assign rfl) rfl ?_
              refine WL.nil ?_
              refine WP.thenC ?_
              refine WC.seq ?_
              refine WC.ofFr [(25, _), (24, _), (2, _), (8, _), (13, _), (14, _)] ⟨rfl, rfl, rfl, rfl, rfl, rfl, trivial⟩ ?_
              refine WC.region ?_
              refine WL.yd (Yd.loadN Try.isAgg25 Try.sizeOf25 rfl (vs := [_, _, _]) rfl (by first | exact (RdN.imm (n := 3) hbD rfl) | exact (RdN.imm (n := 3) hbX rfl))) rfl ?_
              refine WL.so (SO.callP Try.call24 rfl (fun w hI => Gives.cv (.tuple #[it (HopeOut d).1, it (HopeOut d).2]) (Hope_g (turnD d) ax _ cx ay _ cy _ _ hRX hI.imm) (by rw [hope_tur htur hv hvx]))) rfl ?_
              rintro _ _ _ ⟨rfl, rfl, rfl⟩
              refine WL.yd (Yd.move rfl) rfl ?_
              refine WL.yd (Yd.extract rfl rfl) rfl ?_
              refine WL.yd (Yd.extract rfl rfl) rfl ?_
              refine WL.yd (Yd.assign rfl) rfl ?_
              refine WL.yd (Yd.assign rfl) rfl ?_
              refine WL.nil ?_
              refine WP.thenC ?_
              refine WC.seq ?_
              refine WC.ofFr [(27, _), (26, _), (25, _), (24, _), (2, _), (8, _), (13, _), (14, _)] ⟨rfl, rfl, rfl, rfl, rfl, rfl, rfl, rfl, trivial⟩ ?_
              refine WC.region ?_
              refine WL.yd (Yd.loadN Try.isAgg25 Try.sizeOf25 rfl (vs := [_, _, _]) rfl (by first | exact (RdN.imm (n := 3) hbD rfl) | exact (RdN.imm (n := 3) hbX rfl))) rfl ?_
              refine WL.so (SO.callP Try.call26 rfl (fun w hI => Gives.cv (.tuple #[nt s1, it e1]) (Fewest_g d a1 _ c1 a2 _ c2 _ _ hR hI.imm) (by rw [hf1]))) rfl ?_
              rintro _ _ _ ⟨rfl, rfl, rfl⟩
              refine WL.yd (Yd.move rfl) rfl ?_
              refine WL.yd (Yd.extract rfl rfl) rfl ?_
              refine WL.yd (Yd.extract rfl rfl) rfl ?_
              refine WL.yd (Yd.assign rfl) rfl ?_
              refine WL.yd (Yd.assign rfl) rfl ?_
              refine WL.nil ?_
              refine WP.thenC ?_
              refine WC.seq ?_
              refine WC.ofFr [(29, _), (28, _), (27, _), (26, _), (25, _), (24, _), (2, _), (8, _), (13, _), (14, _)] ⟨rfl, rfl, rfl, rfl, rfl, rfl, rfl, rfl, rfl, rfl, trivial⟩ ?_
              refine WC.region ?_
              refine WL.yd (Yd.loadN Try.isAgg25 Try.sizeOf25 rfl (vs := [_, _, _]) rfl (by first | exact (RdN.imm (n := 3) hbD rfl) | exact (RdN.imm (n := 3) hbX rfl))) rfl ?_
              refine WL.so (SO.callP Try.call26 rfl (fun w hI => Gives.cv (.tuple #[nt t1, it e1]) (Fewest_g (turnD d) ax _ cx ay _ cy _ _ hRX hI.imm) (by rw [hf2]))) rfl ?_
              rintro _ _ _ ⟨rfl, rfl, rfl⟩
              refine WL.yd (Yd.move rfl) rfl ?_
              refine WL.yd (Yd.extract rfl rfl) rfl ?_
              refine WL.yd (Yd.extract rfl rfl) rfl ?_
              refine WL.yd (Yd.assign rfl) rfl ?_
              refine WL.yd (Yd.assign rfl) rfl ?_
              refine WL.nil ?_
              refine WP.thenC ?_
              refine WC.seq ?_
              refine WC.ofFr [(31, _), (30, _), (29, _), (28, _), (27, _), (26, _), (25, _), (24, _), (2, _), (8, _), (13, _), (14, _)] ⟨rfl, rfl, rfl, rfl, rfl, rfl, rfl, rfl, rfl, rfl, rfl, rfl, trivial⟩ ?_
              refine WC.region ?_
              refine WL.yd (Yd.loadN Try.isAgg25 Try.sizeOf25 rfl (vs := [_, _, _]) rfl (by first | exact (RdN.imm (n := 3) hbD rfl) | exact (RdN.imm (n := 3) hbX rfl))) rfl ?_
              refine WL.so (SO.callP Try.call29 rfl (fun w hI => Most_g d a1 _ c1 a2 _ c2 _ _ hR hI.imm)) rfl ?_
              rintro _ _ _ ⟨rfl, rfl, rfl⟩
              refine WL.yd (Yd.move rfl) rfl ?_
              refine WL.yd (Yd.extract rfl rfl) rfl ?_
              refine WL.yd (Yd.extract rfl rfl) rfl ?_
              refine WL.yd (Yd.extract rfl rfl) rfl ?_
              refine WL.yd (Yd.assign rfl) rfl ?_
              refine WL.yd (Yd.assign rfl) rfl ?_
              refine WL.yd (Yd.assign rfl) rfl ?_
              refine WL.nil ?_
              refine WP.thenC ?_
              refine WC.seq ?_
              refine WC.ofFr [(34, _), (32, _), (31, _), (30, _), (29, _), (28, _), (27, _), (26, _), (25, _), (24, _), (2, _), (8, _), (13, _), (14, _)] ⟨rfl, rfl, rfl, rfl, rfl, rfl, rfl, rfl, rfl, rfl, rfl, rfl, rfl, rfl, trivial⟩ ?_
              refine WC.region ?_
              refine WL.yd (Yd.loadN Try.isAgg25 Try.sizeOf25 rfl (vs := [_, _, _]) rfl (by first | exact (RdN.imm (n := 3) hbD rfl) | exact (RdN.imm (n := 3) hbX rfl))) rfl ?_
              refine WL.so (SO.callP Try.call29 rfl (fun w hI => Most_g (turnD d) ax _ cx ay _ cy _ _ hRX hI.imm)) rfl ?_
              rintro _ _ _ ⟨rfl, rfl, rfl⟩
              refine WL.yd (Yd.move rfl) rfl ?_
              refine WL.yd (Yd.extract rfl rfl) rfl ?_
              refine WL.yd (Yd.extract rfl rfl) rfl ?_
              refine WL.yd (Yd.extract rfl rfl) rfl ?_
              refine WL.yd (Yd.assign rfl) rfl ?_
              refine WL.yd (Yd.assign rfl) rfl ?_
              refine WL.yd (Yd.assign rfl) rfl ?_
              refine WL.nil ?_
              refine WP.thenC ?_
              refine WC.seq ?_
              refine WC.ofFr [(37, _), (35, _), (34, _), (32, _), (31, _), (30, _), (29, _), (28, _), (27, _), (26, _), (25, _), (24, _), (2, _), (8, _), (13, _), (14, _)] ⟨rfl, rfl, rfl, rfl, rfl, rfl, rfl, rfl, rfl, rfl, rfl, rfl, rfl, rfl, rfl, rfl, trivial⟩ ?_
              refine WC.region ?_
              refine WL.yd (Yd.loadN Try.isAgg25 Try.sizeOf25 rfl (vs := [_, _, _]) rfl (by first | exact (RdN.imm (n := 3) hbD rfl) | exact (RdN.imm (n := 3) hbX rfl))) rfl ?_
              refine WL.so (SO.callP Try.call31 rfl (fun w hI => Gives.cv (.tuple #[nt s2, it e2]) (Why_g d a1 _ c1 a2 _ c2 _ _ hR hI.imm) (by rw [hy1]))) rfl ?_
              rintro _ _ _ ⟨rfl, rfl, rfl⟩
              refine WL.yd (Yd.move rfl) rfl ?_
              refine WL.yd (Yd.extract rfl rfl) rfl ?_
              refine WL.yd (Yd.extract rfl rfl) rfl ?_
              refine WL.yd (Yd.assign rfl) rfl ?_
              refine WL.yd (Yd.assign rfl) rfl ?_
              refine WL.nil ?_
              refine WP.thenC ?_
              refine WC.seq ?_
              refine WC.ofFr [(39, _), (38, _), (37, _), (35, _), (34, _), (32, _), (31, _), (30, _), (29, _), (28, _), (27, _), (26, _), (25, _), (24, _), (2, _), (8, _), (13, _), (14, _)] ⟨rfl, rfl, rfl, rfl, rfl, rfl, rfl, rfl, rfl, rfl, rfl, rfl, rfl, rfl, rfl, rfl, rfl, rfl, trivial⟩ ?_
              refine WC.region ?_
              refine WL.yd (Yd.loadN Try.isAgg25 Try.sizeOf25 rfl (vs := [_, _, _]) rfl (by first | exact (RdN.imm (n := 3) hbD rfl) | exact (RdN.imm (n := 3) hbX rfl))) rfl ?_
              refine WL.so (SO.callP Try.call31 rfl (fun w hI => Gives.cv (.tuple #[nt t2, it e2]) (Why_g (turnD d) ax _ cx ay _ cy _ _ hRX hI.imm) (by rw [hy2]))) rfl ?_
              rintro _ _ _ ⟨rfl, rfl, rfl⟩
              refine WL.yd (Yd.move rfl) rfl ?_
              refine WL.yd (Yd.extract rfl rfl) rfl ?_
              refine WL.yd (Yd.extract rfl rfl) rfl ?_
              refine WL.yd (Yd.assign rfl) rfl ?_
              refine WL.yd (Yd.assign rfl) rfl ?_
              refine WL.nil ?_
              refine WP.thenC ?_
              refine WC.seq ?_
              refine WC.ofFr [(41, _), (40, _), (39, _), (38, _), (37, _), (35, _), (34, _), (32, _), (31, _), (30, _), (29, _), (28, _), (27, _), (26, _), (25, _), (24, _), (2, _), (13, _), (14, _)] ⟨rfl, rfl, rfl, rfl, rfl, rfl, rfl, rfl, rfl, rfl, rfl, rfl, rfl, rfl, rfl, rfl, rfl, rfl, rfl, trivial⟩ ?_
              refine WC.region ?_
              refine WL.yd (Yd.assign rfl) rfl ?_
              refine WL.nil ?_
              refine WP.thenC ?_
              refine WC.seq ?_
              refine WC.seq ?_
              refine WC.ofFr [(42, _), (41, _), (40, _), (39, _), (38, _), (37, _), (35, _), (34, _), (32, _), (31, _), (30, _), (29, _), (28, _), (27, _), (26, _), (25, _), (24, _), (2, _), (13, _), (14, _)] ⟨rfl, rfl, rfl, rfl, rfl, rfl, rfl, rfl, rfl, rfl, rfl, rfl, rfl, rfl, rfl, rfl, rfl, rfl, rfl, rfl, trivial⟩ ?_
              refine WC.region ?_
              refine WL.yd (Yd.move rfl) rfl ?_
              refine WL.yd (Yd.move rfl) rfl ?_
              refine WL.yd (Yd.neq rfl rfl) rfl ?_
              refine WL.know 234 (.bool false) rfl (congrArg Value.bool (decide_eq_false (fun h => h rfl))) ?_
              refine WL.yd (Yd.move rfl) rfl ?_
              refine WL.ydg rfl (Yd.move rfl) rfl ?_
              refine WL.ydg rfl (Yd.move rfl) rfl ?_
              refine WL.ydg rfl (Yd.neq rfl rfl) rfl ?_
              refine WL.know 238 (.bool false) rfl (congrArg Value.bool (decide_eq_false (fun h => h rfl))) ?_
              refine WL.yd (Yd.pickF rfl rfl) rfl ?_
              refine WL.yd (Yd.move rfl) rfl ?_
              refine WL.ydg rfl (Yd.move rfl) rfl ?_
              refine WL.ydg rfl (Yd.move rfl) rfl ?_
              refine WL.ydg rfl (Yd.neq rfl rfl) rfl ?_
              refine WL.know 243 (.bool false) rfl (congrArg Value.bool (decide_eq_false (fun h => h rfl))) ?_
              refine WL.yd (Yd.pickF rfl rfl) rfl ?_
              refine WL.yd (Yd.move rfl) rfl ?_
              refine WL.ydg rfl (Yd.move rfl) rfl ?_
              refine WL.ydg rfl (Yd.lss rfl rfl) rfl ?_
              refine WL.know 247 (.bool false) rfl (congrArg Value.bool (decide_eq_false (by omega))) ?_
              refine WL.yd (Yd.pickF rfl rfl) rfl ?_
              refine WL.yd (Yd.move rfl) rfl ?_
              refine WL.ydg rfl (Yd.move rfl) rfl ?_
              refine WL.ydg rfl (Yd.lss rfl rfl) rfl ?_
              refine WL.know 251 (.bool false) rfl (congrArg Value.bool (decide_eq_false (by omega))) ?_
              refine WL.yd (Yd.pickF rfl rfl) rfl ?_
              refine WL.yd (Yd.move rfl) rfl ?_
              refine WL.ydg rfl (Yd.move rfl) rfl ?_
              refine WL.ydg rfl (Yd.move rfl) rfl ?_
              refine WL.sog rfl (SO.call (Enters.val Try.call42 rfl rfl) (fun w hI => size_g s1 (by omega) _)) rfl ?_
              rintro _ _ _ ⟨rfl, rfl, rfl⟩
              refine WL.ydg rfl (Yd.move rfl) rfl ?_
              refine WL.ydg rfl (Yd.move rfl) rfl ?_
              refine WL.sog rfl (SO.call (Enters.val Try.call42 rfl rfl) (fun w hI => size_g t1 (by omega) _)) rfl ?_
              rintro _ _ _ ⟨rfl, rfl, rfl⟩
              refine WL.ydg rfl (Yd.neq rfl rfl) rfl ?_
              refine WL.know 260 (.bool false) rfl (congrArg Value.bool (decide_eq_false (fun h => h (by rw [hpop1])))) ?_
              refine WL.yd (Yd.pickF rfl rfl) rfl ?_
              refine WL.yd (Yd.move rfl) rfl ?_
              refine WL.ydg rfl (Yd.move rfl) rfl ?_
              refine WL.ydg rfl (Yd.move rfl) rfl ?_
              refine WL.ydg rfl (Yd.neq rfl rfl) rfl ?_
              refine WL.know 265 (.bool false) rfl (congrArg Value.bool (decide_eq_false (fun h => h hmt.1.symm))) ?_
              refine WL.yd (Yd.pickF rfl rfl) rfl ?_
              refine WL.yd (Yd.move rfl) rfl ?_
              refine WL.ydg rfl (Yd.move rfl) rfl ?_
              refine WL.ydg rfl (Yd.move rfl) rfl ?_
              refine WL.ydg rfl (Yd.neq rfl rfl) rfl ?_
              refine WL.know 270 (.bool false) rfl (congrArg Value.bool (decide_eq_false (fun h => h hmt.2.symm))) ?_
              refine WL.yd (Yd.pickF rfl rfl) rfl ?_
              refine WL.yd (Yd.move rfl) rfl ?_
              refine WL.ydg rfl (Yd.move rfl) rfl ?_
              refine WL.ydg rfl (Yd.move rfl) rfl ?_
              refine WL.ydg rfl (Yd.neq rfl rfl) rfl ?_
              refine WL.know 275 (.bool false) rfl (congrArg Value.bool (decide_eq_false (fun h => h rfl))) ?_
              refine WL.yd (Yd.pickF rfl rfl) rfl ?_
              refine WL.yd (Yd.move rfl) rfl ?_
              refine WL.ydg rfl (Yd.move rfl) rfl ?_
              refine WL.ydg rfl (Yd.lss rfl rfl) rfl ?_
              refine WL.know 279 (.bool false) rfl (congrArg Value.bool (decide_eq_false (by omega))) ?_
              refine WL.yd (Yd.pickF rfl rfl) rfl ?_
              refine WL.yd (Yd.move rfl) rfl ?_
              refine WL.ydg rfl (Yd.move rfl) rfl ?_
              refine WL.ydg rfl (Yd.lss rfl rfl) rfl ?_
              refine WL.know 283 (.bool false) rfl (congrArg Value.bool (decide_eq_false (by omega))) ?_
              refine WL.yd (Yd.pickF rfl rfl) rfl ?_
              refine WL.yd (Yd.move rfl) rfl ?_
              refine WL.ydg rfl (Yd.move rfl) rfl ?_
              refine WL.ydg rfl (Yd.move rfl) rfl ?_
              refine WL.sog rfl (SO.call (Enters.val Try.call42 rfl rfl) (fun w hI => size_g s2 (by omega) _)) rfl ?_
              rintro _ _ _ ⟨rfl, rfl, rfl⟩
              refine WL.ydg rfl (Yd.move rfl) rfl ?_
              refine WL.ydg rfl (Yd.move rfl) rfl ?_
              refine WL.sog rfl (SO.call (Enters.val Try.call42 rfl rfl) (fun w hI => size_g t2 (by omega) _)) rfl ?_
              rintro _ _ _ ⟨rfl, rfl, rfl⟩
              refine WL.ydg rfl (Yd.neq rfl rfl) rfl ?_
              refine WL.know 292 (.bool false) rfl (congrArg Value.bool (decide_eq_false (fun h => h (by rw [hpop2])))) ?_
              refine WL.yd (Yd.pickF rfl rfl) rfl ?_
              refine WL.nil ?_
              refine WP.thenC ?_
              refine WC.condF rfl ?_
              refine WC.skip ?_
              refine WP.thenC ?_
              refine WC.seq ?_
              refine WC.ofFr [(2, _), (13, _), (14, _)] ⟨rfl, rfl, rfl, trivial⟩ ?_
              refine WC.region ?_
              refine WL.yd (Yd.loadN Try.isAgg25 Try.sizeOf25 rfl (vs := [_, _, _]) rfl (by first | exact (RdN.imm (n := 3) hbD rfl) | exact (RdN.imm (n := 3) hbX rfl))) rfl ?_
              refine WL.so (SO.makes (Enters.func Try.call22 rfl) (fun w hI => Plan_g d a1 _ c1 a2 _ c2 _ w hR hI.imm)) rfl ?_
              rintro _ D8 _ ⟨hX8, ⟨a9, n9, c9, rfl, hP9⟩, rfl⟩
              rw [hl0] at hP9
              obtain rfl : n9 = 0 := by have := hP9.pl.len'; simpa using this
              replace hR := hR.ext hX8
              replace hRX := hRX.ext hX8
              replace hbD := hX8.old _ _ hbD
              replace hbX := hX8.old _ _ hbX
              replace hS13 := hS13.ext hX8
              replace hS14 := hS14.ext hX8
              refine WL.yd (Yd.move rfl) rfl ?_
              refine WL.yd (Yd.extract rfl rfl) rfl ?_
              refine WL.yd (Yd.extract rfl rfl) rfl ?_
              refine WL.yd (Yd.assign rfl) rfl ?_
              refine WL.yd (Yd.assign rfl) rfl ?_
              refine WL.nil ?_
              refine WP.thenC ?_
              refine WC.seq ?_
              refine WC.ofFr [(44, _), (43, _), (2, _), (13, _), (14, _)] ⟨rfl, rfl, rfl, rfl, rfl, trivial⟩ ?_
              refine WC.region ?_
              refine WL.so (SO.buildSlice0 Try.underlying26 Try.sizeOf61) rfl ?_
              rintro _ _ _ ⟨b299, hb299, rfl, rfl, rfl⟩ -- NEW
              refine WL.yd (Yd.move rfl) rfl ?_
              refine WL.so (SO.appendAll (f := placeC) (l := ([] : List Plc)) (m := 2) placeC_len placeC_ones [] _ rfl rfl Try.underlying26 Try.sizeOf61 Try.typeInfo61 Try.zeroValue61 rfl rfl rfl rfl hb299 hP9.pl (by show (2 * (_ + _) + 1000) * 16 ≤ 2 ^ 48; omega) (by omega)) rfl ?_
              rintro _ _ _ ⟨u3, hu3, rfl, rfl, rfl⟩
              refine WL.yd (Yd.assign rfl) rfl ?_
              refine WL.nil ?_
              refine WP.thenC ?_
              refine WC.seq ?_
              refine WC.seq ?_
              have hu3' := hu3
              refine WC.ofFr [(45, _), (44, _), (43, _), (2, _), (13, _), (14, _)] ⟨rfl, rfl, rfl, rfl, rfl, rfl, trivial⟩ ?_
              refine WC.region ?_
              refine WL.yd (Yd.move rfl) rfl ?_
              refine WL.yd (Yd.lenS rfl Try.underlying26 rfl) rfl ?_
              refine WL.yd (Yd.move rfl) rfl ?_
              refine WL.nil ?_
              refine WP.thenC ?_
              refine WC.block ?_
              refine WC.loop (fun y : Nat × List Plc => [(2, pt b2), (13, .slice (some ⟨u1.b, 0, none⟩) d.dippers.length u1.cap), (14, .slice (some ⟨u2.b, 0, none⟩) d.bathers.length u2.cap), (43, .slice a9 0 c9), (44, it (PlanOut d).2), (45, owV (some u3) 0), (303, nt 0), (304, nt y.1)]) (fun y => [(u3.b, .cells (List.toArray (([] : List Plc).flatMap placeC ++ u3.rest)) 61 (0, 0))]) (fun _ => D8) (fun y => y.1 ≤ 0 ∧ y.2.length = 0) (fun y => 0 - y.1) (0, ([] : List Plc)) ⟨by omega, rfl⟩ (fun a w h => at_fr h ⟨rfl, rfl, rfl, rfl, rfl, rfl, rfl, rfl, trivial⟩) ?_
              rintro ⟨k, l9⟩ ⟨hk, hl99⟩
              dsimp only at hk hl99
              refine WC.seq ?_
              refine WC.ofFr [(2, _), (13, _), (14, _), (43, _), (44, _), (45, _), (303, _), (304, _)] ⟨rfl, rfl, rfl, rfl, rfl, rfl, rfl, rfl, trivial⟩ ?_
              refine WC.region ?_
              refine WL.yd (Yd.lss rfl rfl) rfl ?_
              refine WL.nil ?_
              refine WP.thenC ?_
              refine WC.seq ?_
              refine WC.cond rfl (fun c305 => ?_) (fun c305 => ?_)
              · try simp only [zq1, zq2, zq3, zq4, zq5, zq6, zq7, zq8] at c305
                omega
              · try simp only [zq1, zq2, zq3, zq4, zq5, zq6, zq7, zq8] at c305
                refine WC.exit ?_
                refine WP.thenExit ?_
                refine WP.thenExit ?_
                refine WP.blkHit ?_
                refine WP.thenC ?_
                refine WC.seq ?_
                refine WC.freezeOw (f := placeC) (m := 2) placeC_len [] [] (some u3) 61 ([] : List Plc) rfl hu3 rfl (fun D10 hX10 hS10 => ?_)
                have hPK : PlanR D10 ([] : List Plc) (some ⟨u3.b, 0, none⟩) 0 := ⟨hS10, by omega⟩
                replace hR := hR.ext hX10
                replace hRX := hRX.ext hX10
                replace hbD := hX10.old _ _ hbD
                replace hbX := hX10.old _ _ hbX
                replace hS13 := hS13.ext hX10
                replace hS14 := hS14.ext hX10
                refine WC.ofFr [(2, _), (13, _), (14, _), (44, _), (45, _)] ⟨rfl, rfl, rfl, rfl, rfl, trivial⟩ ?_
                refine WC.region ?_
                refine WL.yd (Yd.loadN Try.isAgg25 Try.sizeOf25 rfl (vs := [_, _, _]) rfl (by first | exact (RdN.imm (n := 3) hbD rfl) | exact (RdN.imm (n := 3) hbX rfl))) rfl ?_
                refine WL.so (SO.makes (Enters.func Try.call22 rfl) (fun w hI => Plan_g d a1 _ c1 a2 _ c2 _ w hR hI.imm)) rfl ?_
                rintro _ D11 _ ⟨hX11, ⟨a12, n12, c12, rfl, hP12⟩, rfl⟩
                replace hPK := hPK.ext hX11
                obtain rfl := hP12.pl.len'
                rw [hl0] at hP12 ⊢
                replace hR := hR.ext hX11
                replace hRX := hRX.ext hX11
                replace hbD := hX11.old _ _ hbD
                replace hbX := hX11.old _ _ hbX
                replace hS13 := hS13.ext hX11
                replace hS14 := hS14.ext hX11
                refine WL.yd (Yd.move rfl) rfl ?_
                refine WL.yd (Yd.extract rfl rfl) rfl ?_
                refine WL.yd (Yd.extract rfl rfl) rfl ?_
                refine WL.yd (Yd.assign rfl) rfl ?_
                refine WL.yd (Yd.assign rfl) rfl ?_
                refine WL.nil ?_
                refine WP.thenC ?_
                refine WC.seq ?_
                refine WC.seq ?_
                refine WC.ofFr [(48, _), (47, _), (2, _), (13, _), (14, _), (44, _), (45, _)] ⟨rfl, rfl, rfl, rfl, rfl, rfl, rfl, trivial⟩ ?_
                refine WC.region ?_
                refine WL.yd (Yd.move rfl) rfl ?_
                refine WL.yd (Yd.move rfl) rfl ?_
                refine WL.yd (Yd.neq rfl rfl) rfl ?_
                refine WL.know 319 (.bool false) rfl (congrArg Value.bool (decide_eq_false (fun h => h rfl))) ?_
                refine WL.yd (Yd.move rfl) rfl ?_
                refine WL.ydg rfl (Yd.move rfl) rfl ?_
                refine WL.ydg rfl (Yd.move rfl) rfl ?_
                refine WL.sog rfl (SO.callP Try.call28 rfl (fun w hI => Gives.cv (.bool true) (same_g D11 w hI.imm ([] : List Plc) a12 _ c12 hP12 ([] : List Plc) _ _ _ hPK) (congrArg Value.bool (by simp [sameB])))) rfl ?_
                rintro _ _ _ ⟨rfl, rfl, rfl⟩
                refine WL.know 323 (.bool true) rfl rfl ?_
                refine WL.ydg rfl (Yd.not rfl) rfl ?_
                refine WL.yd (Yd.pickF rfl rfl) rfl ?_
                refine WL.nil ?_
                refine WP.thenC ?_
                refine WC.condF rfl ?_
                refine WC.skip ?_
                refine WP.thenC ?_
                refine WC.seq ?_
                refine WC.seq ?_
                refine WC.ofFr [(2, _), (13, _), (14, _)] ⟨rfl, rfl, rfl, trivial⟩ ?_
                refine WC.region ?_
                refine WL.yd (Yd.move rfl) rfl ?_
                refine WL.yd (Yd.lenS rfl Try.underlying22 rfl) rfl ?_
                refine WL.yd (Yd.move rfl) rfl ?_
                refine WL.nil ?_
                refine WP.thenC ?_
                refine WC.block ?_
                refine WC.loopF (fun k : Nat => [(2, pt b2), (13, .slice (some ⟨u1.b, 0, none⟩) d.dippers.length u1.cap), (14, .slice (some ⟨u2.b, 0, none⟩) d.bathers.length u2.cap), (327, nt d.dippers.length), (328, nt k)]) (fun k => k ≤ d.dippers.length) (fun k => d.dippers.length - k) 0 (by omega) (by exact ⟨rfl, rfl, rfl, rfl, rfl, trivial⟩) ?_
                intro k hk
                refine WC.seq ?_
                refine WC.ofFr [(2, _), (13, _), (14, _), (327, _), (328, _)] ⟨rfl, rfl, rfl, rfl, rfl, trivial⟩ ?_
                refine WC.region ?_
                refine WL.yd (Yd.lss rfl rfl) rfl ?_
                refine WL.nil ?_
                refine WP.thenC ?_
                refine WC.seq ?_
                refine WC.cond rfl (fun c329 => ?_) (fun c329 => ?_)
                · try simp only [zq1, zq2, zq3, zq4, zq5, zq6, zq7, zq8] at c329
                  refine WC.skip ?_
                  refine WP.thenC ?_
                  refine WC.seq ?_
                  refine WC.block ?_
                  refine WC.seq ?_
                  refine WC.ofFr [(2, _), (13, _), (14, _), (327, _), (328, _)] ⟨rfl, rfl, rfl, rfl, rfl, trivial⟩ ?_
                  refine WC.region ?_
                  refine WL.yd (Yd.move rfl) rfl ?_
                  refine WL.yd (Yd.assign rfl) rfl ?_
                  refine WL.nil ?_
                  refine WP.thenC ?_
                  refine WC.seq ?_
                  refine WC.ofFr [(49, _), (2, _), (13, _), (14, _), (327, _), (328, _)] ⟨rfl, rfl, rfl, rfl, rfl, rfl, trivial⟩ ?_
                  refine WC.tail 9 [0, 1, 2, 3, 4, 5, 6, 7, 8] rfl (by kernel_rfl) (by kernel_rfl)  ?_
                  refine WQ.q rfl (Yd.qt (Yd.move rfl)) rfl ?_
                  refine WQ.q rfl (Yd.qt (Yd.move rfl)) rfl ?_
                  refine WQ.q rfl (Yd.qt (Yd.indexS Try.underlying22 Try.sizeOf53 rfl rfl (by omega) (by omega) (by first | exact rfl | exact hR.dip.addr k (by omega)))) rfl ?_
                  refine WQ.q rfl (Yd.qt (Yd.loadN Try.isAgg53 Try.sizeOf53 rfl (vs := [_, _, _]) rfl (by first | exact (hS13.at k (by omega)).rdn 0 3 rfl | exact (hR.dip.at k (by omega)).rdn 0 3 rfl))) rfl ?_
                  refine WQ.q rfl (Yd.qt (Yd.fieldAddr FA25_1 rfl)) rfl ?_
                  refine WQ.q rfl (Yd.qt (Yd.load1 Try.isAgg22 rfl (by first | exact (Rd.imm hbD rfl) | exact (Rd.imm hbX rfl)))) rfl ?_
                  refine WQ.q rfl (Yd.qt (Yd.move rfl)) rfl ?_
                  refine WQ.q rfl (Yd.qt (Yd.indexS Try.underlying22 Try.sizeOf53 rfl rfl (by omega) (by omega) (by first | exact rfl | exact hR.dip.addr k (by omega)))) rfl ?_
                  refine WQ.q rfl (Yd.qt (Yd.loadN Try.isAgg53 Try.sizeOf53 rfl (vs := [_, _, _]) rfl (by first | exact (hS13.at k (by omega)).rdn 0 3 rfl | exact (hR.dip.at k (by omega)).rdn 0 3 rfl))) rfl ?_
                  refine WQ.tail ?_
                  refine WL.yd (Yd.neS Try.eqGuardType53 (eq53s _ _ _) rfl rfl) rfl ?_
                  refine WL.know 340 (.bool false) rfl rfl ?_
                  refine WL.nil ?_
                  refine WP.thenC ?_
                  refine WC.condF rfl ?_
                  refine WC.skip ?_
                  refine WP.blkNormal ?_
                  refine WP.thenC ?_
                  refine WC.ofFr [(2, _), (13, _), (14, _), (327, _), (328, _)] ⟨rfl, rfl, rfl, rfl, rfl, trivial⟩ ?_
                  refine WC.region ?_
                  refine WL.yd (Yd.add rfl rfl (wr64 ⟨by omega, by omega⟩)) rfl ?_
                  refine WL.yd (Yd.move rfl) rfl ?_
                  refine WL.nil ?_
                  exact WP.againF (k + 1) (by omega) (by omega) ⟨rfl, rfl, rfl, rfl, rfl, trivial⟩ (fun _ h => h) (fun h => h)
                · try simp only [zq1, zq2, zq3, zq4, zq5, zq6, zq7, zq8] at c329
                  refine WC.exit ?_
                  refine WP.thenExit ?_
                  refine WP.thenExit ?_
                  refine WP.blkHit ?_
                  refine WP.thenC ?_
                  refine WC.seq ?_
                  refine WC.seq ?_
                  refine WC.ofFr [(2, _), (14, _)] ⟨rfl, rfl, trivial⟩ ?_
                  refine WC.region ?_
                  refine WL.yd (Yd.move rfl) rfl ?_
                  refine WL.yd (Yd.lenS rfl Try.underlying23 rfl) rfl ?_
                  refine WL.yd (Yd.move rfl) rfl ?_
                  refine WL.nil ?_
                  refine WP.thenC ?_
                  refine WC.block ?_
                  refine WC.loopF (fun k : Nat => [(2, pt b2), (14, .slice (some ⟨u2.b, 0, none⟩) d.bathers.length u2.cap), (343, nt d.bathers.length), (344, nt k)]) (fun k => k ≤ d.bathers.length) (fun k => d.bathers.length - k) 0 (by omega) (by exact ⟨rfl, rfl, rfl, rfl, trivial⟩) ?_
                  intro k hk
                  refine WC.seq ?_
                  refine WC.ofFr [(2, _), (14, _), (343, _), (344, _)] ⟨rfl, rfl, rfl, rfl, trivial⟩ ?_
                  refine WC.region ?_
                  refine WL.yd (Yd.lss rfl rfl) rfl ?_
                  refine WL.nil ?_
                  refine WP.thenC ?_
                  refine WC.seq ?_
                  refine WC.cond rfl (fun c345 => ?_) (fun c345 => ?_)
                  · try simp only [zq1, zq2, zq3, zq4, zq5, zq6, zq7, zq8] at c345
                    refine WC.skip ?_
                    refine WP.thenC ?_
                    refine WC.seq ?_
                    refine WC.block ?_
                    refine WC.seq ?_
                    refine WC.ofFr [(2, _), (14, _), (343, _), (344, _)] ⟨rfl, rfl, rfl, rfl, trivial⟩ ?_
                    refine WC.region ?_
                    refine WL.yd (Yd.move rfl) rfl ?_
                    refine WL.yd (Yd.assign rfl) rfl ?_
                    refine WL.nil ?_
                    refine WP.thenC ?_
                    refine WC.seq ?_
                    refine WC.ofFr [(50, _), (2, _), (14, _), (343, _), (344, _)] ⟨rfl, rfl, rfl, rfl, rfl, trivial⟩ ?_
                    refine WC.tail 9 [0, 1, 2, 3, 4, 5, 6, 7, 8] rfl (by kernel_rfl) (by kernel_rfl)  ?_
                    refine WQ.q rfl (Yd.qt (Yd.move rfl)) rfl ?_
                    refine WQ.q rfl (Yd.qt (Yd.move rfl)) rfl ?_
                    refine WQ.q rfl (Yd.qt (Yd.indexS Try.underlying23 Try.sizeOf55 rfl rfl (by omega) (by omega) (by first | exact rfl | exact hR.bath.addr k (by omega)))) rfl ?_
                    refine WQ.q rfl (Yd.qt (Yd.loadN Try.isAgg55 Try.sizeOf55 rfl (vs := [_, _, _]) rfl (by first | exact (hS14.at k (by omega)).rdn 0 3 rfl | exact (hR.bath.at k (by omega)).rdn 0 3 rfl))) rfl ?_
                    refine WQ.q rfl (Yd.qt (Yd.fieldAddr FA25_2 rfl)) rfl ?_
                    refine WQ.q rfl (Yd.qt (Yd.load1 Try.isAgg23 rfl (by first | exact (Rd.imm hbD rfl) | exact (Rd.imm hbX rfl)))) rfl ?_
                    refine WQ.q rfl (Yd.qt (Yd.move rfl)) rfl ?_
                    refine WQ.q rfl (Yd.qt (Yd.indexS Try.underlying23 Try.sizeOf55 rfl rfl (by omega) (by omega) (by first | exact rfl | exact hR.bath.addr k (by omega)))) rfl ?_
                    refine WQ.q rfl (Yd.qt (Yd.loadN Try.isAgg55 Try.sizeOf55 rfl (vs := [_, _, _]) rfl (by first | exact (hS14.at k (by omega)).rdn 0 3 rfl | exact (hR.bath.at k (by omega)).rdn 0 3 rfl))) rfl ?_
                    refine WQ.tail ?_
                    refine WL.yd (Yd.neS Try.eqGuardType55 (eq55s _ _ _) rfl rfl) rfl ?_
                    refine WL.know 356 (.bool false) rfl rfl ?_
                    refine WL.nil ?_
                    refine WP.thenC ?_
                    refine WC.condF rfl ?_
                    refine WC.skip ?_
                    refine WP.blkNormal ?_
                    refine WP.thenC ?_
                    refine WC.ofFr [(2, _), (14, _), (343, _), (344, _)] ⟨rfl, rfl, rfl, rfl, trivial⟩ ?_
                    refine WC.region ?_
                    refine WL.yd (Yd.add rfl rfl (wr64 ⟨by omega, by omega⟩)) rfl ?_
                    refine WL.yd (Yd.move rfl) rfl ?_
                    refine WL.nil ?_
                    exact WP.againF (k + 1) (by omega) (by omega) ⟨rfl, rfl, rfl, rfl, trivial⟩ (fun _ h => h) (fun h => h)
                  · try simp only [zq1, zq2, zq3, zq4, zq5, zq6, zq7, zq8] at c345
                    refine WC.exit ?_
                    refine WP.thenExit ?_
                    refine WP.thenExit ?_
                    refine WP.blkHit ?_
                    refine WP.thenC ?_
                    refine WC.seq ?_
                    refine WC.ofFr [] trivial ?_
                    refine WC.region ?_
                    refine WL.so (SO.callP Try.call14 rfl (fun w hI => alive_g _ _ hI.imm)) rfl ?_
                    rintro _ _ _ ⟨rfl, rfl, rfl⟩
                    refine WL.yd (Yd.assign rfl) rfl ?_
                    refine WL.nil ?_
                    refine WP.thenC ?_
                    refine WC.ret ?_
                    refine WP.ret1 rfl rfl Try.results12 (RV.tmp rfl) (fun w hI => ⟨rfl, hI.keep⟩)
            · skip
              refine WC.seq ?_
              refine WC.ofFr [(16, _), (15, _), (2, _), (5, _), (6, _), (8, _), (13, _), (14, _)] ⟨rfl, rfl, rfl, rfl, rfl, rfl, rfl, rfl, trivial⟩ ?_
              refine WC.region ?_
              refine WL.yd (Yd.move rfl) rfl ?_
              refine WL.nil ?_
              refine WP.thenC ?_
              refine WC.cond rfl (fun c138 => ?_) (fun c138 => ?_)
              · try simp only [zq1, zq2, zq3, zq4, zq5, zq6, zq7, zq8] at c138
                have hmi : madeIs d = true := by simpa using c138
                have hown := made_ok hv by_ 0 hmi
                obtain rfl : n8 = d.bathers.length := by have := hP8.pl.len'; rw [hown.2] at this; exact this
                have hrt := right_tur htur hv hvx hown.2 hown.1
                refine WC.seq ?_
                refine WC.ofFr [(15, _), (2, _), (5, _), (6, _), (8, _), (13, _), (14, _)] ⟨rfl, rfl, rfl, rfl, rfl, rfl, rfl, trivial⟩ ?_
                refine WC.region ?_
                refine WL.yd (Yd.move rfl) rfl ?_
                refine WL.so (SO.makeSlice Try.underlying26 Try.sizeOf61 Try.typeInfo61 Try.zeroValue61 rfl rfl rfl (by omega) (by show (16 : Int) * _ ≤ _; omega)) rfl ?_
                rintro _ _ _ ⟨b140, hb140, rfl, rfl, rfl⟩ -- NEW
                refine WL.yd (Yd.assign rfl) rfl ?_
                refine WL.nil ?_
                refine WP.thenC ?_
                refine WC.seq ?_
                refine WC.seq ?_
                refine WC.ofFr [(17, _), (15, _), (2, _), (5, _), (6, _), (8, _), (13, _), (14, _)] ⟨rfl, rfl, rfl, rfl, rfl, rfl, rfl, rfl, trivial⟩ ?_
                refine WC.region ?_
                refine WL.yd (Yd.move rfl) rfl ?_
                refine WL.yd (Yd.lenS rfl Try.underlying26 rfl) rfl ?_
                refine WL.yd (Yd.move rfl) rfl ?_
                refine WL.nil ?_
                refine WP.thenC ?_
                refine WC.block ?_
                refine WC.loop (fun k : Nat => [(2, pt b2), (5, nt d.bathers.length), (6, nt d.dippers.length), (8, pt b8), (13, .slice (some ⟨u1.b, 0, none⟩) d.dippers.length u1.cap), (14, .slice (some ⟨u2.b, 0, none⟩) d.bathers.length u2.cap), (15, .slice a8 d.bathers.length c8), (17, .slice (some ⟨b140, 0, none⟩) d.bathers.length d.bathers.length), (141, .slice a8 d.bathers.length c8), (142, nt d.bathers.length), (143, nt k)]) (fun k => [(b140, .cells (List.toArray ((backL d (madeL d by_ 0) k).flatMap placeC ++ [])) 61 (0, 0))]) (fun _ => D6) (fun k => k ≤ d.bathers.length) (fun k => d.bathers.length - k) 0 (by omega) (fun a w h => by
                    show At _ _ _ [(b140, .cells (List.toArray ((backL d (madeL d by_ 0) 0).flatMap placeC ++ [])) 61 (0, 0))] a w
                    rw [backL_zero, List.append_nil]
                    exact at_less h ⟨rfl, rfl, rfl, rfl, rfl, rfl, rfl, rfl, rfl, rfl, rfl, trivial⟩ (fun e he => by rw [List.mem_singleton.1 he]; exact List.mem_cons_self ..) (fun _ => by simp)) ?_
                intro k hk
                refine WC.seq ?_
                refine WC.ofFr [(2, _), (5, _), (6, _), (8, _), (13, _), (14, _), (15, _), (17, _), (141, _), (142, _), (143, _)] ⟨rfl, rfl, rfl, rfl, rfl, rfl, rfl, rfl, rfl, rfl, rfl, trivial⟩ ?_
                refine WC.region ?_
                refine WL.yd (Yd.lss rfl rfl) rfl ?_
                refine WL.nil ?_
                refine WP.thenC ?_
                refine WC.seq ?_
                refine WC.cond rfl (fun c144 => ?_) (fun c144 => ?_)
                · try simp only [zq1, zq2, zq3, zq4, zq5, zq6, zq7, zq8] at c144
                  have hpk := hown.1 k (by omega)
                  refine WC.skip ?_
                  refine WP.thenC ?_
                  refine WC.seq ?_
                  refine WC.block ?_
                  refine WC.seq ?_
                  refine WC.ofFr [(2, _), (5, _), (6, _), (8, _), (13, _), (14, _), (15, _), (17, _), (141, _), (142, _), (143, _)] ⟨rfl, rfl, rfl, rfl, rfl, rfl, rfl, rfl, rfl, rfl, rfl, trivial⟩ ?_
                  refine WC.region ?_
                  refine WL.yd (Yd.move rfl) rfl ?_
                  refine WL.yd (Yd.indexS Try.underlying26 Try.sizeOf61 rfl rfl (by omega) (by omega) (by first | exact hP8.pl.addr k (by omega))) rfl ?_
                  refine WL.yd (Yd.loadN Try.isAgg61 Try.sizeOf61 rfl (vs := [_, _]) rfl (by first | exact RdN.own (k := 0) (n := 2) rfl rfl | exact (hP8.pl.at k (by omega)).rdn 0 2 rfl)) rfl ?_
                  refine WL.so (SO.alloc Try.zeroValue61 rfl) rfl ?_
                  rintro _ _ _ ⟨b19, hb19, rfl, rfl, rfl⟩ -- NEW
                  refine WL.yd (Yd.assign rfl) rfl ?_
                  refine WL.so (SO.store 0 rfl Try.sizeOf61 rfl rfl rfl rfl (Nat.le_of_ble_eq_true rfl) (oneB_spec rfl)) rfl ?_
                  rintro _ _ _ ⟨rfl, rfl, rfl⟩
                  refine WL.nil ?_
                  refine WP.thenC ?_
                  refine WC.ofFr [(18, _), (19, _), (2, _), (5, _), (6, _), (8, _), (13, _), (14, _), (15, _), (17, _), (141, _), (142, _), (143, _)] ⟨rfl, rfl, rfl, rfl, rfl, rfl, rfl, rfl, rfl, rfl, rfl, rfl, rfl, trivial⟩ ?_
                  refine WC.region ?_
                  refine WL.yd (Yd.move rfl) rfl ?_
                  refine WL.yd (Yd.move rfl) rfl ?_
                  refine WL.yd (Yd.subN (j := 1) rfl rfl (by omega) (by omega)) rfl ?_
                  refine WL.yd (Yd.move rfl) rfl ?_
                  refine WL.yd (Yd.subN rfl rfl (by omega) (by omega)) rfl ?_
                  refine WL.yd (Yd.fieldAddr FA25_0 rfl) rfl ?_
                  refine WL.yd (Yd.load1 Try.isAgg3 rfl (by first | exact Rd.own (k := 0) rfl rfl | exact Rd.own (k := 1) rfl rfl | exact (Rd.imm hbD rfl) | exact (Rd.imm hbX rfl))) rfl ?_
                  refine WL.yd (Yd.sub rfl rfl (wr64 ⟨by omega, by omega⟩)) rfl ?_
                  refine WL.yd (Yd.fieldAddr FA61_0 rfl) rfl ?_
                  refine WL.yd (Yd.load1 Try.isAgg3 rfl (by first | exact Rd.own (k := 0) rfl rfl | exact Rd.own (k := 1) rfl rfl | exact (Rd.imm hbD rfl) | exact (Rd.imm hbX rfl))) rfl ?_
                  refine WL.yd (Yd.sub rfl rfl (wr64 ⟨by omega, by omega⟩)) rfl ?_
                  refine WL.yd (Yd.move rfl) rfl ?_
                  refine WL.yd (Yd.sub rfl rfl (wr64 ⟨by omega, by omega⟩)) rfl ?_
                  refine WL.yd (Yd.fieldAddr FA61_1 rfl) rfl ?_
                  refine WL.yd (Yd.load1 Try.isAgg3 rfl (by first | exact Rd.own (k := 0) rfl rfl | exact Rd.own (k := 1) rfl rfl | exact (Rd.imm hbD rfl) | exact (Rd.imm hbX rfl))) rfl ?_
                  refine WL.yd (Yd.sub rfl rfl (wr64 ⟨by omega, by omega⟩)) rfl ?_
                  refine WL.yd (Yd.build SA61 rfl (cs := [_, _]) rfl) rfl ?_
                  refine WL.yd (Yd.indexS Try.underlying26 Try.sizeOf61 rfl rfl (by omega) (by omega) (by first | exact rfl)) rfl ?_
                  refine WL.so (SO.storeRow (f := placeC) (m := 2) placeC_len (l := backL d (madeL d by_ 0) k) (rest := []) (i := d.bathers.length - 1 - k) (y := turnP d (gt (madeL d by_ 0) k)) 1 rfl Try.sizeOf61 rfl rfl rfl (by rw [backL_len]; omega) (oneB_spec rfl)) rfl ?_
                  rintro _ _ _ ⟨rfl, rfl, rfl⟩
                  rw [backL_step d _ (by omega)]
                  refine WL.nil ?_
                  refine WP.blkNormal ?_
                  refine WP.thenC ?_
                  refine WC.ofFr [(2, _), (5, _), (6, _), (8, _), (13, _), (14, _), (15, _), (17, _), (141, _), (142, _), (143, _)] ⟨rfl, rfl, rfl, rfl, rfl, rfl, rfl, rfl, rfl, rfl, rfl, trivial⟩ ?_
                  refine WC.region ?_
                  refine WL.yd (Yd.add rfl rfl (wr64 ⟨by omega, by omega⟩)) rfl ?_
                  refine WL.yd (Yd.move rfl) rfl ?_
                  refine WL.nil ?_
                  exact WP.again (k + 1 : Nat) (by omega) (by omega) (fun aa ww h => at_less h ⟨rfl, rfl, rfl, rfl, rfl, rfl, rfl, rfl, rfl, rfl, rfl, trivial⟩ (fun e he => by rw [List.mem_singleton.1 he]; exact List.mem_cons_of_mem _ (List.mem_cons_self ..)) (fun _ => by simp))
                · try simp only [zq1, zq2, zq3, zq4, zq5, zq6, zq7, zq8] at c144
                  refine WC.exit ?_
                  refine WP.thenExit ?_
                  refine WP.thenExit ?_
                  refine WP.blkHit ?_
                  refine WP.thenC ?_
                  refine WC.seq ?_
                  obtain rfl : k = d.bathers.length := by omega
                  refine WC.freezeK 0 rfl (fun hn140 => ?_)
                  have hXk := (DExt.refl w D6).add (o := .cells (List.toArray ((backL d (madeL d by_ 0) d.bathers.length).flatMap placeC ++ [])) 61 (0, 0)) hn140 hb140
                  have hPB : PlanR (D6.add b140 (.cells (List.toArray ((backL d (madeL d by_ 0) d.bathers.length).flatMap placeC ++ [])) 61 (0, 0))) (turnL d (madeL d by_ 0)) (some ⟨b140, 0, none⟩) d.bathers.length := by
                    rw [← backL_all]
                    exact PlanR.ofBlock (Imm.add_self _ _ _) _ (backL_len _ _ _).symm (by omega)
                  replace hR := hR.ext hXk
                  replace hRX := hRX.ext hXk
                  replace hbD := hXk.old _ _ hbD
                  replace hbX := hXk.old _ _ hbX
                  replace hS13 := hS13.ext hXk
                  replace hS14 := hS14.ext hXk
                  replace hP8 := hP8.ext hXk
                  generalize D6.add b140 _ = D7 at hR hRX hbD hbX hS13 hS14 hP8 hPB ⊢
                  refine WC.ofFr [(2, _), (8, _), (13, _), (14, _), (15, _), (17, _)] ⟨rfl, rfl, rfl, rfl, rfl, rfl, trivial⟩ ?_
                  refine WC.region ?_
                  refine WL.yd (Yd.loadN Try.isAgg25 Try.sizeOf25 rfl (vs := [_, _, _]) rfl (by first | exact (RdN.imm (n := 3) hbD rfl) | exact (RdN.imm (n := 3) hbX rfl))) rfl ?_
                  refine WL.yd (Yd.move rfl) rfl ?_
                  refine WL.so (SO.callP Try.call17 rfl (fun w hI => Right_g d a1 _ c1 a2 _ c2 _ w hR hI.imm (madeL d by_ 0) a8 _ c8 hP8)) rfl ?_
                  rintro _ _ _ ⟨rfl, rfl, rfl⟩
                  refine WL.yd (Yd.move rfl) rfl ?_
                  refine WL.yd (Yd.extract rfl rfl) rfl ?_
                  refine WL.yd (Yd.extract rfl rfl) rfl ?_
                  refine WL.yd (Yd.assign rfl) rfl ?_
                  refine WL.yd (Yd.assign rfl) rfl ?_
                  refine WL.nil ?_
                  refine WP.thenC ?_
                  refine WC.seq ?_
                  refine WC.ofFr [(21, _), (20, _), (2, _), (8, _), (13, _), (14, _), (17, _)] ⟨rfl, rfl, rfl, rfl, rfl, rfl, rfl, trivial⟩ ?_
                  refine WC.region ?_
                  refine WL.yd (Yd.loadN Try.isAgg25 Try.sizeOf25 rfl (vs := [_, _, _]) rfl (by first | exact (RdN.imm (n := 3) hbD rfl) | exact (RdN.imm (n := 3) hbX rfl))) rfl ?_
                  refine WL.yd (Yd.move rfl) rfl ?_
                  refine WL.so (SO.callP Try.call17 rfl (fun w hI => Gives.cv (.tuple #[it (RightR d (madeL d by_ 0)).1, it (RightR d (madeL d by_ 0)).2]) (Right_g (turnD d) ax _ cx ay _ cy _ w hRX hI.imm (turnL d (madeL d by_ 0)) (some ⟨b140, 0, none⟩) _ _ hPB) (by rw [hrt.1]))) rfl ?_
                  rintro _ _ _ ⟨rfl, rfl, rfl⟩
                  refine WL.yd (Yd.move rfl) rfl ?_
                  refine WL.yd (Yd.extract rfl rfl) rfl ?_
                  refine WL.yd (Yd.extract rfl rfl) rfl ?_
                  refine WL.yd (Yd.assign rfl) rfl ?_
                  refine WL.yd (Yd.assign rfl) rfl ?_
                  refine WL.nil ?_
                  refine WP.thenC ?_
                  refine WC.seq ?_
                  refine WC.ofFr [(23, _), (22, _), (21, _), (20, _), (2, _), (8, _), (13, _), (14, _)] ⟨rfl, rfl, rfl, rfl, rfl, rfl, rfl, rfl, trivial⟩ ?_
                  refine WC.region ?_
                  refine WL.yd (Yd.move rfl) rfl ?_
                  refine WL.yd (Yd.move rfl) rfl ?_
                  refine WL.yd (Yd.neq rfl rfl) rfl ?_
                  refine WL.know 181 (.bool false) rfl (congrArg Value.bool (decide_eq_false (fun h => h rfl))) ?_
                  refine WL.yd (Yd.move rfl) rfl ?_
                  refine WL.ydg rfl (Yd.move rfl) rfl ?_
                  refine WL.ydg rfl (Yd.neq rfl rfl) rfl ?_
                  refine WL.know 184 (.bool false) rfl (congrArg Value.bool (by rw [hrt.2]; decide)) ?_
                  refine WL.yd (Yd.pickF rfl rfl) rfl ?_
                  refine WL.yd (Yd.move rfl) rfl ?_
                  refine WL.ydg rfl (Yd.move rfl) rfl ?_
                  refine WL.ydg rfl (Yd.neq rfl rfl) rfl ?_
                  refine WL.know 188 (.bool false) rfl (congrArg Value.bool (by rw [hrt.2]; decide)) ?_
                  refine WL.yd (Yd.pickF rfl rfl) rfl ?_
                  refine WL.nil ?_
                  refine WP.thenC ?_
                  refine WC.condF rfl ?_
                  refine WC.skip ?_
                  exact WP.join _ ⟨hR, hRX, hbD, hbX, hS13, hS14⟩ (fun aa ww h => at_less h ⟨rfl, rfl, rfl, rfl, trivial⟩ (fun e he => by cases he) (fun _ => List.nodup_nil))
              · try simp only [zq1, zq2, zq3, zq4, zq5, zq6, zq7, zq8] at c138
                refine WC.skip ?_
                exact WP.join _ ⟨hR, hRX, hbD, hbX, hS13, hS14⟩ (fun aa ww h => at_less h ⟨rfl, rfl, rfl, rfl, trivial⟩ (fun e he => by cases he) (fun _ => List.nodup_nil))
          · skip
            refine WC.ofFr [(1, _), (2, _), (5, _), (6, _), (8, _)] ⟨rfl, rfl, rfl, rfl, rfl, trivial⟩ ?_
            refine WC.drawH [] (by kernel_rfl) (fun _ hI => hI.drop 99) ?_
            refine WH.yd (i := 1) (by kernel_rfl) (fun _ o v c a w _ h => (QuietPanic.then QuietPanic.body) c o.dst v a w h) rfl (Yd.fieldAddr FA25_1 rfl) rfl ?_
            refine WH.yd (i := 2) (by kernel_rfl) (fun _ o v c a w _ h => (QuietPanic.then QuietPanic.body) c o.dst v a w h) rfl (Yd.load1 Try.isAgg22 rfl (by first | exact (Rd.imm hbD rfl) | exact (Rd.imm hbX rfl))) rfl ?_
            refine WH.yd (i := 5) (by kernel_rfl) (fun _ o v c a w _ h => (QuietPanic.then QuietPanic.body) c o.dst v a w h) rfl (Yd.fieldAddr FA25_2 rfl) rfl ?_
            refine WH.yd (i := 6) (by kernel_rfl) (fun _ o v c a w _ h => (QuietPanic.then QuietPanic.body) c o.dst v a w h) rfl (Yd.load1 Try.isAgg23 rfl (by first | exact (Rd.imm hbD rfl) | exact (Rd.imm hbX rfl))) rfl ?_
            refine WH.two (i := 0) (j := 4) (by kernel_rfl) ?_ ?_
            · refine WHo.so rfl (SO.buildSlice0 Try.underlying22 Try.sizeOf53) rfl ?_
              rintro _ _ _ ⟨b123, hb123, rfl, rfl, rfl⟩ -- NEW
              refine ⟨(fun _ hI => hI.drop 99), ?_⟩
              refine WH.two (i := 3) (j := 4) (by kernel_rfl) ?_ ?_
              · refine WHo.so rfl (SO.appendAll (f := dipperC) (l := d.dippers) (m := 3) dipperC_len dipperC_ones [] _ rfl rfl Try.underlying22 Try.sizeOf53 Try.typeInfo53 Try.zeroValue53 rfl rfl rfl rfl hb123 hR.dip (by show (2 * (_ + _) + 1000) * 24 ≤ 2 ^ 48; omega) (by omega)) rfl ?_
                rintro _ _ _ ⟨u1, hu1, rfl, rfl, rfl⟩
                refine ⟨(fun _ hI => hI.drop 99), ?_⟩
                refine WH.one (i := 4) (by kernel_rfl) (WHo.so rfl (SO.buildSlice0 Try.underlying23 Try.sizeOf55) rfl ?_)
                rintro _ _ _ ⟨b127, hb127, rfl, rfl, rfl⟩ -- NEW
                refine ⟨(fun _ hI => hI.drop 99), ?_⟩
                refine WH.one (i := 7) (by kernel_rfl) (WHo.so rfl (SO.appendAll (f := batherC) (l := d.bathers) (m := 3) batherC_len batherC_ones [] _ rfl rfl Try.underlying23 Try.sizeOf55 Try.typeInfo55 Try.zeroValue55 rfl rfl rfl rfl hb127 hR.bath (by show (2 * (_ + _) + 1000) * 24 ≤ 2 ^ 48; omega) (by omega)) rfl ?_)
                rintro _ _ _ ⟨u2, hu2, rfl, rfl, rfl⟩
                refine ⟨(fun _ hI => hI.drop 99), ?_⟩
                refine WH.yd (i := 8) (by kernel_rfl) (fun _ o v c a w _ h => (QuietPanic.then QuietPanic.body) c o.dst v a w h) rfl (Yd.assign rfl) rfl ?_
                refine WH.yd (i := 9) (by kernel_rfl) (fun _ o v c a w _ h => (QuietPanic.then QuietPanic.body) c o.dst v a w h) rfl (Yd.assign rfl) rfl ?_
                refine WH.nil (by kernel_rfl) ?_
                first
                  | exact WP.join (u1, u2) ⟨hu1, hu2⟩ (fun aa ww h => at_fr h ⟨rfl, rfl, rfl, rfl, rfl, rfl, rfl, trivial⟩)
                  | exact WP.join (u1, u2) ⟨hu1, hu2⟩ (fun aa ww h => at_less h ⟨rfl, rfl, rfl, rfl, rfl, rfl, rfl, trivial⟩ (fun e he => (List.Perm.swap _ _ _).mem_iff.1 he) (fun hn => ((List.Perm.swap _ _ _).map Prod.fst).nodup_iff.1 hn))
              · refine WHo.so rfl (SO.buildSlice0 Try.underlying23 Try.sizeOf55) rfl ?_
                rintro _ _ _ ⟨b127, hb127, rfl, rfl, rfl⟩ -- NEW
                refine ⟨(fun _ hI => hI.drop 99), ?_⟩
                refine WH.one (i := 3) (by kernel_rfl) (WHo.so rfl (SO.appendAll (f := dipperC) (l := d.dippers) (m := 3) dipperC_len dipperC_ones [_] _ rfl rfl Try.underlying22 Try.sizeOf53 Try.typeInfo53 Try.zeroValue53 rfl rfl rfl rfl hb123 hR.dip (by show (2 * (_ + _) + 1000) * 24 ≤ 2 ^ 48; omega) (by omega)) rfl ?_)
                rintro _ _ _ ⟨u1, hu1, rfl, rfl, rfl⟩
                refine ⟨(fun _ hI => hI.drop 99), ?_⟩
                refine WH.one (i := 7) (by kernel_rfl) (WHo.so rfl (SO.appendAll (f := batherC) (l := d.bathers) (m := 3) batherC_len batherC_ones [] _ rfl rfl Try.underlying23 Try.sizeOf55 Try.typeInfo55 Try.zeroValue55 rfl rfl rfl rfl hb127 hR.bath (by show (2 * (_ + _) + 1000) * 24 ≤ 2 ^ 48; omega) (by omega)) rfl ?_)
                rintro _ _ _ ⟨u2, hu2, rfl, rfl, rfl⟩
                refine ⟨(fun _ hI => hI.drop 99), ?_⟩
                refine WH.yd (i := 8) (by kernel_rfl) (fun _ o v c a w _ h => (QuietPanic.then QuietPanic.body) c o.dst v a w h) rfl (Yd.assign rfl) rfl ?_
                refine WH.yd (i := 9) (by kernel_rfl) (fun _ o v c a w _ h => (QuietPanic.then QuietPanic.body) c o.dst v a w h) rfl (Yd.assign rfl) rfl ?_
                refine WH.nil (by kernel_rfl) ?_
                first
                  | exact WP.join (u1, u2) ⟨hu1, hu2⟩ (fun aa ww h => at_fr h ⟨rfl, rfl, rfl, rfl, rfl, rfl, rfl, trivial⟩)
                  | exact WP.join (u1, u2) ⟨hu1, hu2⟩ (fun aa ww h => at_less h ⟨rfl, rfl, rfl, rfl, rfl, rfl, rfl, trivial⟩ (fun e he => (List.Perm.swap _ _ _).mem_iff.1 he) (fun hn => ((List.Perm.swap _ _ _).map Prod.fst).nodup_iff.1 hn))
            · refine WHo.so rfl (SO.buildSlice0 Try.underlying23 Try.sizeOf55) rfl ?_
              rintro _ _ _ ⟨b127, hb127, rfl, rfl, rfl⟩ -- NEW
              refine ⟨(fun _ hI => hI.drop 99), ?_⟩
              refine WH.one (i := 0) (by kernel_rfl) (WHo.so rfl (SO.buildSlice0 Try.underlying22 Try.sizeOf53) rfl ?_)
              rintro _ _ _ ⟨b123, hb123, rfl, rfl, rfl⟩ -- NEW
              refine ⟨(fun _ hI => hI.drop 99), ?_⟩
              refine WH.one (i := 3) (by kernel_rfl) (WHo.so rfl (SO.appendAll (f := dipperC) (l := d.dippers) (m := 3) dipperC_len dipperC_ones [] _ rfl rfl Try.underlying22 Try.sizeOf53 Try.typeInfo53 Try.zeroValue53 rfl rfl rfl rfl hb123 hR.dip (by show (2 * (_ + _) + 1000) * 24 ≤ 2 ^ 48; omega) (by omega)) rfl ?_)
              rintro _ _ _ ⟨u1, hu1, rfl, rfl, rfl⟩
              refine ⟨(fun _ hI => hI.drop 99), ?_⟩
              refine WH.one (i := 7) (by kernel_rfl) (WHo.so rfl (SO.appendAll (f := batherC) (l := d.bathers) (m := 3) batherC_len batherC_ones [_] _ rfl rfl Try.underlying23 Try.sizeOf55 Try.typeInfo55 Try.zeroValue55 rfl rfl rfl rfl hb127 hR.bath (by show (2 * (_ + _) + 1000) * 24 ≤ 2 ^ 48; omega) (by omega)) rfl ?_)
              rintro _ _ _ ⟨u2, hu2, rfl, rfl, rfl⟩
              refine ⟨(fun _ hI => hI.drop 99), ?_⟩
              refine WH.yd (i := 8) (by kernel_rfl) (fun _ o v c a w _ h => (QuietPanic.then QuietPanic.body) c o.dst v a w h) rfl (Yd.assign rfl) rfl ?_
              refine WH.yd (i := 9) (by kernel_rfl) (fun _ o v c a w _ h => (QuietPanic.then QuietPanic.body) c o.dst v a w h) rfl (Yd.assign rfl) rfl ?_
              refine WH.nil (by kernel_rfl) ?_
              first
                | exact WP.join (u1, u2) ⟨hu1, hu2⟩ (fun aa ww h => at_fr h ⟨rfl, rfl, rfl, rfl, rfl, rfl, rfl, trivial⟩)
                | exact WP.join (u1, u2) ⟨hu1, hu2⟩ (fun aa ww h => at_less h ⟨rfl, rfl, rfl, rfl, rfl, rfl, rfl, trivial⟩ (fun e he => (List.Perm.swap _ _ _).mem_iff.1 he) (fun hn => ((List.Perm.swap _ _ _).map Prod.fst).nodup_iff.1 hn))

set_option maxRecDepth 100000 in
set_option maxHeartbeats 1000000 in
theorem turned_b (d : Dips) (a1 : Option Addr) (n1 c1 : Nat) (a2 : Option Addr) (n2 c2 : Nat) (D : Imm) (w : World) (hS1 : SlL D 3 (d.dippers.map dipperC) a1 n1) (hS2 : SlL D 3 (d.bathers.map batherC) a2 n2) (hH : Holds D w) (by_ : List Int) (a4 : Option Addr) (n4 c4 : Nat) (hS4 : SlL D 1 (by_.map u16C) a4 n4) (hby : ∀ i, i < by_.length → 0 ≤ gt by_ i ∧ gt by_ i ≤ 65535) (hv : dipsB d = true) (he : (PlanOut d).2 = 0) : Gives Try.prog 12 [.agg #[it d.hours, .slice a1 n1 c1, .slice a2 n2 c2], .slice a4 n4 c4] w (.bool true) := by
  unfold Gives
  have hR : DipsR D d a1 n1 a2 n2 := by
    have h1 := hS1.len'
    have h2 := hS2.len'
    have h3 := dips_num hv
    exact ⟨hS1, hS2, by omega, by omega⟩
  obtain rfl := hS1.len'
  obtain rfl := hS2.len'
  have hnum := dips_num hv
  obtain ⟨htur, hvx⟩ := turnD_ok hv
  obtain ⟨s1, t1, e1, hf1, hf2, hs1, ht1, hpop1⟩ := few_tur htur hv hvx
  obtain ⟨s2, t2, e2, hy1, hy2, hs2, ht2, hpop2⟩ := why_tur htur hv hvx
  have hmt := most_tur htur hv hvx
  refine enter Try.func12 rfl 359 Try.ntmps12 (Nat.le_of_ble_eq_true rfl) (Inv.start hH) ?_
  refine WC.seq ?_
  refine WC.ofFr [(0, _), (1, _)] ⟨rfl, rfl, trivial⟩ ?_
  refine WC.region ?_
  refine WL.so (SO.box rfl rfl) rfl ?_
  rintro _ _ _ ⟨b2, hb2, rfl, rfl, rfl⟩ -- NEW
  refine WL.yd (Yd.assign rfl) rfl ?_
  refine WL.nil ?_
  refine WP.thenC ?_
  refine WC.seq ?_
  refine WC.seq ?_
  refine WC.ofFr [(4, _), (2, _), (1, _)] ⟨rfl, rfl, rfl, trivial⟩ ?_
  refine WC.region ?_
  refine WL.yd (Yd.loadN Try.isAgg25 Try.sizeOf25 rfl (vs := [_, _, _]) rfl (by first | exact RdN.own (k := 0) (n := 3) rfl rfl | exact (RdN.imm (n := 3) hbD rfl) | exact (RdN.imm (n := 3) hbX rfl))) rfl ?_
  refine WL.so (SO.callP Try.call13 rfl (fun w hI => long_g _ _ _ _ _ _ _ _ _ _ _)) rfl ?_
  rintro _ _ _ ⟨rfl, rfl, rfl⟩
  refine WL.yd (Yd.move rfl) rfl ?_
  refine WL.part 53 rfl (fun g53 => ?_) (fun g53 => ?_)
  · try simp only [zq1, zq2, zq3, zq4, zq5, zq6, zq7, zq8] at g53
    omega
  · try simp only [zq1, zq2, zq3, zq4, zq5, zq6, zq7, zq8] at g53
    refine WL.ydg rfl (Yd.loadN Try.isAgg25 Try.sizeOf25 rfl (vs := [_, _, _]) rfl (by first | exact RdN.own (k := 0) (n := 3) rfl rfl | exact (RdN.imm (n := 3) hbD rfl) | exact (RdN.imm (n := 3) hbX rfl))) rfl ?_
    refine WL.sog rfl (SO.callP Try.call36 rfl (fun w hI => dips_g d a1 _ c1 a2 _ c2 D _ hR hI.imm)) rfl ?_
    rintro _ _ _ ⟨rfl, rfl, rfl⟩
    refine WL.ydg rfl (Yd.not rfl) rfl ?_
    refine WL.yd (Yd.pickF rfl rfl) rfl ?_
    refine WL.nil ?_
    refine WP.thenC ?_
    refine WC.cond rfl (fun c57 => ?_) (fun c57 => ?_)
    · try simp only [zq1, zq2, zq3, zq4, zq5, zq6, zq7, zq8] at c57
      rw [hv] at c57; cases c57
    · try simp only [zq1, zq2, zq3, zq4, zq5, zq6, zq7, zq8] at c57
      refine WC.skip ?_
      refine WP.thenC ?_
      refine WC.seq ?_
      refine WC.freezeK 0 rfl (fun hn2 => ?_)
      have hXd := (DExt.refl w D).add (o := .cells (List.toArray [it d.hours, .slice a1 d.dippers.length c1, .slice a2 d.bathers.length c2]) 25 (0, 0)) hn2 hb2
      have hbD : (D.add b2 (.cells (List.toArray [it d.hours, .slice a1 d.dippers.length c1, .slice a2 d.bathers.length c2]) 25 (0, 0))) b2 = some (.cells (List.toArray [it d.hours, .slice a1 d.dippers.length c1, .slice a2 d.bathers.length c2]) 25 (0, 0)) := Imm.add_self _ _ _
      replace hR := hR.ext hXd
      generalize D.add b2 (.cells (List.toArray [it d.hours, .slice a1 d.dippers.length c1, .slice a2 d.bathers.length c2]) 25 (0, 0)) = D1 at hbD hR hXd ⊢
      refine WC.ofFr [(4, _), (2, _), (1, _)] ⟨rfl, rfl, rfl, trivial⟩ ?_
      refine WC.tail 7 [0, 1, 2, 3, 4, 5, 6] rfl (by kernel_rfl) (by kernel_rfl)  ?_
      refine WQ.q rfl (Yd.qt (Yd.fieldAddr FA25_2 rfl)) rfl ?_
      refine WQ.q rfl (Yd.qt (Yd.load1 Try.isAgg23 rfl (by first | exact (Rd.imm hbD rfl) | exact (Rd.imm hbX rfl)))) rfl ?_
      refine WQ.q rfl (Yd.qt (Yd.lenS rfl Try.underlying23 rfl)) rfl ?_
      refine WQ.q rfl (Yd.qt (Yd.fieldAddr FA25_1 rfl)) rfl ?_
      refine WQ.q rfl (Yd.qt (Yd.load1 Try.isAgg22 rfl (by first | exact (Rd.imm hbD rfl) | exact (Rd.imm hbX rfl)))) rfl ?_
      refine WQ.q rfl (Yd.qt (Yd.lenS rfl Try.underlying22 rfl)) rfl ?_
      refine WQ.q rfl (Yd.qt (Yd.assign rfl)) rfl ?_
      refine WQ.tail ?_
      refine WL.yd (Yd.assign rfl) rfl ?_
      refine WL.nil ?_
      refine WP.thenC ?_
      refine WC.seq ?_
      refine WC.ofFr [(6, _), (5, _), (4, _), (2, _), (1, _)] ⟨rfl, rfl, rfl, rfl, rfl, trivial⟩ ?_
      refine WC.region ?_
      refine WL.yd (Yd.func rfl rfl) rfl ?_
      refine WL.yd (Yd.assign rfl) rfl ?_
      refine WL.nil ?_
      refine WP.thenC ?_
      refine WC.seq ?_
      refine WC.ofFr [(7, _), (6, _), (5, _), (4, _), (2, _), (1, _)] ⟨rfl, rfl, rfl, rfl, rfl, rfl, trivial⟩ ?_
      refine WC.region ?_
      refine WL.yd (Yd.fieldAddr FA25_0 rfl) rfl ?_
      refine WL.yd (Yd.load1 Try.isAgg3 rfl (by first | exact (Rd.imm hbD rfl) | exact (Rd.imm hbX rfl))) rfl ?_
      refine WL.yd (Yd.build SA25 rfl (cs := [_, _, _]) rfl) rfl ?_
      refine WL.so (SO.alloc Try.zeroValue25 rfl) rfl ?_
      rintro _ _ _ ⟨b8, hb8, rfl, rfl, rfl⟩ -- NEW
      refine WL.so (SO.store 0 rfl Try.sizeOf25 rfl rfl rfl rfl (Nat.le_of_ble_eq_true rfl) (oneB_spec rfl)) rfl ?_
      rintro _ _ _ ⟨rfl, rfl, rfl⟩
      refine WL.nil ?_
      refine WP.thenC ?_
      refine WC.seq ?_
      refine WC.seq ?_
      refine WC.ofFr [(8, _), (7, _), (6, _), (5, _), (4, _), (2, _), (1, _)] ⟨rfl, rfl, rfl, rfl, rfl, rfl, rfl, trivial⟩ ?_
      refine WC.region ?_
      refine WL.yd (Yd.fieldAddr FA25_1 rfl) rfl ?_
      refine WL.yd (Yd.load1 Try.isAgg22 rfl (by first | exact Rd.own (k := 0) rfl rfl | exact (Rd.imm hbD rfl) | exact (Rd.imm hbX rfl))) rfl ?_
      refine WL.yd (Yd.lenS rfl Try.underlying22 rfl) rfl ?_
      refine WL.yd (Yd.move rfl) rfl ?_
      refine WL.nil ?_
      refine WP.thenC ?_
      refine WC.block ?_
      refine WC.loop (fun y : Nat × Option Ow => [(1, .slice a4 n4 c4), (2, pt b2), (5, nt d.bathers.length), (6, nt d.dippers.length), (7, .func (.func 46) #[] #[pt b2]), (8, pt b8), (71, nt d.dippers.length), (72, nt y.1)]) (fun y => (b8, .cells (List.toArray [it d.hours, owV y.2 y.1, .slice none 0 0]) 25 (0, 0)) :: owH y.2 53 ((tDip d y.1).flatMap dipperC) []) (fun _ => D1) (fun y => y.1 ≤ d.dippers.length ∧ owP w y.2 y.1 3) (fun y => d.dippers.length - y.1) (0, none) ⟨by omega, rfl⟩ (fun a w h => at_fr h ⟨rfl, rfl, rfl, rfl, rfl, rfl, rfl, rfl, trivial⟩) ?_
      rintro ⟨k, o1⟩ ⟨hk, ho1⟩
      dsimp only at hk ho1
      refine WC.seq ?_
      refine WC.ofFr [(1, _), (2, _), (5, _), (6, _), (7, _), (8, _), (71, _), (72, _)] ⟨rfl, rfl, rfl, rfl, rfl, rfl, rfl, rfl, trivial⟩ ?_
      refine WC.region ?_
      refine WL.yd (Yd.lss rfl rfl) rfl ?_
      refine WL.nil ?_
      refine WP.thenC ?_
      refine WC.seq ?_
      refine WC.cond rfl (fun c73 => ?_) (fun c73 => ?_)
      · try simp only [zq1, zq2, zq3, zq4, zq5, zq6, zq7, zq8] at c73
        have hst := (hours_set hv).1 (d.dippers.length - 1 - k) (by omega)
        refine WC.skip ?_
        refine WP.thenC ?_
        refine WC.seq ?_
        refine WC.block ?_
        refine WC.seq ?_
        refine WC.ofFr [(1, _), (2, _), (5, _), (6, _), (7, _), (8, _), (71, _), (72, _)] ⟨rfl, rfl, rfl, rfl, rfl, rfl, rfl, rfl, trivial⟩ ?_
        refine WC.region ?_
        refine WL.yd (Yd.move rfl) rfl ?_
        refine WL.yd (Yd.assign rfl) rfl ?_
        refine WL.nil ?_
        refine WP.thenC ?_
        refine WC.seq ?_
        refine WC.ofFr [(9, _), (1, _), (2, _), (5, _), (6, _), (7, _), (8, _), (71, _), (72, _)] ⟨rfl, rfl, rfl, rfl, rfl, rfl, rfl, rfl, rfl, trivial⟩ ?_
        refine WC.region ?_
        refine WL.yd (Yd.fieldAddr FA25_1 rfl) rfl ?_
        refine WL.yd (Yd.load1 Try.isAgg22 rfl (by first | exact Rd.own (k := 0) rfl rfl | exact (Rd.imm hbD rfl) | exact (Rd.imm hbX rfl))) rfl ?_
        refine WL.yd (Yd.move rfl) rfl ?_
        refine WL.yd (Yd.subN (j := 1) rfl rfl (by omega) (by omega)) rfl ?_
        refine WL.yd (Yd.move rfl) rfl ?_
        refine WL.yd (Yd.subN rfl rfl (by omega) (by omega)) rfl ?_
        refine WL.yd (Yd.indexS Try.underlying22 Try.sizeOf53 rfl rfl (by omega) (by omega) (by first | exact hR.dip.addr (d.dippers.length - 1 - k) (by omega))) rfl ?_
        refine WL.yd (Yd.loadN Try.isAgg53 Try.sizeOf53 rfl (vs := [_, _, _]) rfl (by first | exact RdN.own (k := 0) (n := 3) rfl rfl | exact (hR.dip.at (d.dippers.length - 1 - k) (by omega)).rdn 0 3 rfl)) rfl ?_
        refine WL.so (SO.alloc Try.zeroValue53 rfl) rfl ?_
        rintro _ _ _ ⟨b10, hb10, rfl, rfl, rfl⟩ -- NEW
        refine WL.so (SO.store 0 rfl Try.sizeOf53 rfl rfl rfl rfl (Nat.le_of_ble_eq_true rfl) (oneB_spec rfl)) rfl ?_
        rintro _ _ _ ⟨rfl, rfl, rfl⟩
        refine WL.nil ?_
        refine WP.thenC ?_
        refine WC.ofFr [(10, _), (1, _), (2, _), (5, _), (6, _), (7, _), (8, _), (71, _), (72, _)] ⟨rfl, rfl, rfl, rfl, rfl, rfl, rfl, rfl, rfl, trivial⟩ ?_
        refine WC.drawH [_] (by kernel_rfl) (fun _ hI => hI.pick 0 rfl) ?_
        refine WH.yd (i := 0) (by kernel_rfl) (fun _ o v c a w _ h => (QuietPanic.blk (QuietPanic.then (QuietPanic.then (QuietPanic.blk (QuietPanic.then QuietPanic.body))))) c o.dst v a w h) rfl (Yd.fieldAddr FA25_1 rfl) rfl ?_
        refine WH.yd (i := 2) (by kernel_rfl) (fun _ o v c a w _ h => (QuietPanic.blk (QuietPanic.then (QuietPanic.then (QuietPanic.blk (QuietPanic.then QuietPanic.body))))) c o.dst v a w h) rfl (Yd.fieldAddr FA53_0 rfl) rfl ?_
        refine WH.yd (i := 3) (by kernel_rfl) (fun _ o v c a w _ h => (QuietPanic.blk (QuietPanic.then (QuietPanic.then (QuietPanic.blk (QuietPanic.then QuietPanic.body))))) c o.dst v a w h) rfl (Yd.loadN Try.isAgg35 Try.sizeOf35 rfl (vs := [_, _]) rfl (by first | exact RdN.own (k := 0) (n := 2) rfl rfl | exact RdN.own (k := 1) (n := 2) rfl rfl | exact (RdN.imm (n := 3) hbD rfl) | exact (RdN.imm (n := 3) hbX rfl))) rfl ?_
        refine WH.yd (i := 4) (by kernel_rfl) (fun _ o v c a w _ h => (QuietPanic.blk (QuietPanic.then (QuietPanic.then (QuietPanic.blk (QuietPanic.then QuietPanic.body))))) c o.dst v a w h) rfl (Yd.move rfl) rfl ?_
        refine WH.yd (i := 5) (by kernel_rfl) (fun _ o v c a w _ h => (QuietPanic.blk (QuietPanic.then (QuietPanic.then (QuietPanic.blk (QuietPanic.then QuietPanic.body))))) c o.dst v a w h) rfl (Yd.fieldAddr FA53_1 rfl) rfl ?_
        refine WH.yd (i := 6) (by kernel_rfl) (fun _ o v c a w _ h => (QuietPanic.blk (QuietPanic.then (QuietPanic.then (QuietPanic.blk (QuietPanic.then QuietPanic.body))))) c o.dst v a w h) rfl (Yd.load1 Try.isAgg3 rfl (by first | exact Rd.own (k := 0) rfl rfl | exact Rd.own (k := 1) rfl rfl | exact (Rd.imm hbD rfl) | exact (Rd.imm hbX rfl))) rfl ?_
        refine WH.two (i := 1) (j := 7) (by kernel_rfl) ?_ ?_
        · refine WHo.yd rfl (Yd.load1 Try.isAgg22 rfl (by first | exact Rd.own (k := 0) rfl rfl | exact Rd.own (k := 1) rfl rfl | exact (Rd.imm hbD rfl) | exact (Rd.imm hbX rfl))) rfl ?_
          refine WH.one (i := 7) (by kernel_rfl) (WHo.so rfl (SO.call (Enters.val Try.call46 rfl rfl) (fun w hI => other_g d _ _ b2 D1 _ hbD hI.imm hnum.1 _ hst)) rfl ?_)
          rintro _ _ _ ⟨rfl, rfl, rfl⟩
          refine ⟨(fun _ hI => hI.pick 0 rfl), ?_⟩
          refine WH.yd (i := 8) (by kernel_rfl) (fun _ o v c a w _ h => (QuietPanic.blk (QuietPanic.then (QuietPanic.then (QuietPanic.blk (QuietPanic.then QuietPanic.body))))) c o.dst v a w h) rfl (Yd.build SA53 rfl (cs := [_, _, _]) rfl) rfl ?_
          refine WH.one (i := 9) (by kernel_rfl) (WHo.so rfl (SO.buildSlice Try.underlying22 Try.sizeOf53 Try.zeroValue53 rfl rfl rfl rfl (cs := [_, _, _]) rfl) rfl ?_)
          rintro _ _ _ ⟨b92, hb92, rfl, rfl, rfl⟩ -- NEW
          refine ⟨(fun _ hI => hI.pick 1 rfl), ?_⟩
          refine WH.one (i := 10) (by kernel_rfl) (WHo.so rfl (SO.appendOw (o := o1) (len := k) (n := 1) (xs := ((tDip d k).flatMap dipperC)) (size := 3) [_] [_, _] [] rfl rfl Try.underlying22 Try.sizeOf53 Try.typeInfo53 Try.zeroValue53 rfl rfl rfl rfl ⟨rfl, .inr ⟨_, _, _, rfl, RdN.own (k := 0) (n := 3) rfl rfl⟩⟩ (oneB_spec rfl) ho1 (by rw [flat_len dipperC_len, tDip_len]) (by omega) (by show (2 * (_ + _) + 1000) * 24 ≤ 2 ^ 48; omega) (by omega)) rfl ?_)
          rintro _ _ _ ⟨u1, hu1, rfl, rfl, rfl⟩
          refine ⟨(fun _ hI => hI.pick 0 rfl), ?_⟩
          refine WH.yd (i := 11) (by kernel_rfl) (fun _ o v c a w _ h => (QuietPanic.blk (QuietPanic.then (QuietPanic.then (QuietPanic.blk (QuietPanic.then QuietPanic.body))))) c o.dst v a w h) rfl (Yd.fieldAddr FA25_1 rfl) rfl ?_
          refine WH.one (i := 12) (by kernel_rfl) (WHo.so rfl (SO.store 1 rfl Try.sizeOf22 rfl rfl rfl rfl (Nat.le_of_ble_eq_true rfl) (oneB_spec rfl)) rfl ?_)
          rintro _ _ _ ⟨rfl, rfl, rfl⟩
          refine ⟨(fun _ hI => hI.pick 0 rfl), ?_⟩
          refine WH.nil (by kernel_rfl) ?_
          refine WP.blkNormal ?_
          refine WP.thenC ?_
          refine WC.ofFr [(1, _), (2, _), (5, _), (6, _), (7, _), (8, _), (71, _), (72, _)] ⟨rfl, rfl, rfl, rfl, rfl, rfl, rfl, rfl, trivial⟩ ?_
          refine WC.region ?_
          refine WL.yd (Yd.add rfl rfl (wr64 ⟨by omega, by omega⟩)) rfl ?_
          refine WL.yd (Yd.move rfl) rfl ?_
          refine WL.nil ?_
          refine WP.again (⟨k + 1, some u1⟩ : Nat × Option Ow) ⟨by simp only; omega, hu1⟩ (by simp only; omega) (fun aa ww h => ?_)
          show At _ [(1, .slice a4 n4 c4), (2, pt b2), (5, nt d.bathers.length), (6, nt d.dippers.length), (7, .func (.func 46) #[] #[pt b2]), (8, pt b8), (71, nt d.dippers.length), (72, nt (k + 1))] D1 ((b8, .cells (List.toArray [it d.hours, owV (some u1) (k + 1), .slice none 0 0]) 25 (0, 0)) :: owH (some u1) 53 ((tDip d (k + 1)).flatMap dipperC) []) aa ww
          rw [tDip_succ]
          exact at_less h ⟨rfl, rfl, rfl, rfl, rfl, rfl, rfl, rfl, trivial⟩ (fun _ h => List.mem_cons_of_mem _ h) (fun h => (List.nodup_cons.1 h).2)
        · refine WHo.so rfl (SO.call (Enters.val Try.call46 rfl rfl) (fun w hI => other_g d _ _ b2 D1 _ hbD hI.imm hnum.1 _ hst)) rfl ?_
          rintro _ _ _ ⟨rfl, rfl, rfl⟩
          refine ⟨(fun _ hI => hI.pick 0 rfl), ?_⟩
          refine WH.yd (i := 8) (by kernel_rfl) (fun _ o v c a w _ h => (QuietPanic.blk (QuietPanic.then (QuietPanic.then (QuietPanic.blk (QuietPanic.then QuietPanic.body))))) c o.dst v a w h) rfl (Yd.build SA53 rfl (cs := [_, _, _]) rfl) rfl ?_
          refine WH.two (i := 1) (j := 9) (by kernel_rfl) ?_ ?_
          · refine WHo.yd rfl (Yd.load1 Try.isAgg22 rfl (by first | exact Rd.own (k := 0) rfl rfl | exact Rd.own (k := 1) rfl rfl | exact (Rd.imm hbD rfl) | exact (Rd.imm hbX rfl))) rfl ?_
            refine WH.one (i := 9) (by kernel_rfl) (WHo.so rfl (SO.buildSlice Try.underlying22 Try.sizeOf53 Try.zeroValue53 rfl rfl rfl rfl (cs := [_, _, _]) rfl) rfl ?_)
            rintro _ _ _ ⟨b92, hb92, rfl, rfl, rfl⟩ -- NEW
            refine ⟨(fun _ hI => hI.pick 1 rfl), ?_⟩
            refine WH.one (i := 10) (by kernel_rfl) (WHo.so rfl (SO.appendOw (o := o1) (len := k) (n := 1) (xs := ((tDip d k).flatMap dipperC)) (size := 3) [_] [_, _] [] rfl rfl Try.underlying22 Try.sizeOf53 Try.typeInfo53 Try.zeroValue53 rfl rfl rfl rfl ⟨rfl, .inr ⟨_, _, _, rfl, RdN.own (k := 0) (n := 3) rfl rfl⟩⟩ (oneB_spec rfl) ho1 (by rw [flat_len dipperC_len, tDip_len]) (by omega) (by show (2 * (_ + _) + 1000) * 24 ≤ 2 ^ 48; omega) (by omega)) rfl ?_)
            rintro _ _ _ ⟨u1, hu1, rfl, rfl, rfl⟩
            refine ⟨(fun _ hI => hI.pick 0 rfl), ?_⟩
            refine WH.yd (i := 11) (by kernel_rfl) (fun _ o v c a w _ h => (QuietPanic.blk (QuietPanic.then (QuietPanic.then (QuietPanic.blk (QuietPanic.then QuietPanic.body))))) c o.dst v a w h) rfl (Yd.fieldAddr FA25_1 rfl) rfl ?_
            refine WH.one (i := 12) (by kernel_rfl) (WHo.so rfl (SO.store 1 rfl Try.sizeOf22 rfl rfl rfl rfl (Nat.le_of_ble_eq_true rfl) (oneB_spec rfl)) rfl ?_)
            rintro _ _ _ ⟨rfl, rfl, rfl⟩
            refine ⟨(fun _ hI => hI.pick 0 rfl), ?_⟩
            refine WH.nil (by kernel_rfl) ?_
            refine WP.blkNormal ?_
            refine WP.thenC ?_
            refine WC.ofFr [(1, _), (2, _), (5, _), (6, _), (7, _), (8, _), (71, _), (72, _)] ⟨rfl, rfl, rfl, rfl, rfl, rfl, rfl, rfl, trivial⟩ ?_
            refine WC.region ?_
            refine WL.yd (Yd.add rfl rfl (wr64 ⟨by omega, by omega⟩)) rfl ?_
            refine WL.yd (Yd.move rfl) rfl ?_
            refine WL.nil ?_
            refine WP.again (⟨k + 1, some u1⟩ : Nat × Option Ow) ⟨by simp only; omega, hu1⟩ (by simp only; omega) (fun aa ww h => ?_)
            show At _ [(1, .slice a4 n4 c4), (2, pt b2), (5, nt d.bathers.length), (6, nt d.dippers.length), (7, .func (.func 46) #[] #[pt b2]), (8, pt b8), (71, nt d.dippers.length), (72, nt (k + 1))] D1 ((b8, .cells (List.toArray [it d.hours, owV (some u1) (k + 1), .slice none 0 0]) 25 (0, 0)) :: owH (some u1) 53 ((tDip d (k + 1)).flatMap dipperC) []) aa ww
            rw [tDip_succ]
            exact at_less h ⟨rfl, rfl, rfl, rfl, rfl, rfl, rfl, rfl, trivial⟩ (fun _ h => List.mem_cons_of_mem _ h) (fun h => (List.nodup_cons.1 h).2)
          · refine WHo.so rfl (SO.buildSlice Try.underlying22 Try.sizeOf53 Try.zeroValue53 rfl rfl rfl rfl (cs := [_, _, _]) rfl) rfl ?_
            rintro _ _ _ ⟨b92, hb92, rfl, rfl, rfl⟩ -- NEW
            refine ⟨(fun _ hI => hI.pick 1 rfl), ?_⟩
            refine WH.one (i := 1) (by kernel_rfl) (WHo.yd rfl (Yd.load1 Try.isAgg22 rfl (by first | exact Rd.own (k := 0) rfl rfl | exact Rd.own (k := 1) rfl rfl | exact Rd.own (k := 2) rfl rfl | exact (Rd.imm hbD rfl) | exact (Rd.imm hbX rfl))) rfl ?_)
            refine WH.one (i := 10) (by kernel_rfl) (WHo.so rfl (SO.appendOw (o := o1) (len := k) (n := 1) (xs := ((tDip d k).flatMap dipperC)) (size := 3) [_] [_, _] [] rfl rfl Try.underlying22 Try.sizeOf53 Try.typeInfo53 Try.zeroValue53 rfl rfl rfl rfl ⟨rfl, .inr ⟨_, _, _, rfl, RdN.own (k := 0) (n := 3) rfl rfl⟩⟩ (oneB_spec rfl) ho1 (by rw [flat_len dipperC_len, tDip_len]) (by omega) (by show (2 * (_ + _) + 1000) * 24 ≤ 2 ^ 48; omega) (by omega)) rfl ?_)
            rintro _ _ _ ⟨u1, hu1, rfl, rfl, rfl⟩
            refine ⟨(fun _ hI => hI.pick 0 rfl), ?_⟩
            refine WH.yd (i := 11) (by kernel_rfl) (fun _ o v c a w _ h => (QuietPanic.blk (QuietPanic.then (QuietPanic.then (QuietPanic.blk (QuietPanic.then QuietPanic.body))))) c o.dst v a w h) rfl (Yd.fieldAddr FA25_1 rfl) rfl ?_
            refine WH.one (i := 12) (by kernel_rfl) (WHo.so rfl (SO.store 1 rfl Try.sizeOf22 rfl rfl rfl rfl (Nat.le_of_ble_eq_true rfl) (oneB_spec rfl)) rfl ?_)
            rintro _ _ _ ⟨rfl, rfl, rfl⟩
            refine ⟨(fun _ hI => hI.pick 0 rfl), ?_⟩
            refine WH.nil (by kernel_rfl) ?_
            refine WP.blkNormal ?_
            refine WP.thenC ?_
            refine WC.ofFr [(1, _), (2, _), (5, _), (6, _), (7, _), (8, _), (71, _), (72, _)] ⟨rfl, rfl, rfl, rfl, rfl, rfl, rfl, rfl, trivial⟩ ?_
            refine WC.region ?_
            refine WL.yd (Yd.add rfl rfl (wr64 ⟨by omega, by omega⟩)) rfl ?_
            refine WL.yd (Yd.move rfl) rfl ?_
            refine WL.nil ?_
            refine WP.again (⟨k + 1, some u1⟩ : Nat × Option Ow) ⟨by simp only; omega, hu1⟩ (by simp only; omega) (fun aa ww h => ?_)
            show At _ [(1, .slice a4 n4 c4), (2, pt b2), (5, nt d.bathers.length), (6, nt d.dippers.length), (7, .func (.func 46) #[] #[pt b2]), (8, pt b8), (71, nt d.dippers.length), (72, nt (k + 1))] D1 ((b8, .cells (List.toArray [it d.hours, owV (some u1) (k + 1), .slice none 0 0]) 25 (0, 0)) :: owH (some u1) 53 ((tDip d (k + 1)).flatMap dipperC) []) aa ww
            rw [tDip_succ]
            exact at_less h ⟨rfl, rfl, rfl, rfl, rfl, rfl, rfl, rfl, trivial⟩ (fun _ h => List.mem_cons_of_mem _ h) (fun h => (List.nodup_cons.1 h).2)
      · try simp only [zq1, zq2, zq3, zq4, zq5, zq6, zq7, zq8] at c73
        refine WC.exit ?_
        refine WP.thenExit ?_
        refine WP.thenExit ?_
        refine WP.blkHit ?_
        refine WP.thenC ?_
        refine WC.seq ?_
        refine WC.seq ?_
        obtain rfl : k = d.dippers.length := by omega
        refine WC.ofFr [(1, _), (2, _), (5, _), (6, _), (7, _), (8, _)] ⟨rfl, rfl, rfl, rfl, rfl, rfl, trivial⟩ ?_
        refine WC.region ?_
        refine WL.yd (Yd.fieldAddr FA25_2 rfl) rfl ?_
        refine WL.yd (Yd.load1 Try.isAgg23 rfl (by first | exact Rd.own (k := 0) rfl rfl | exact (Rd.imm hbD rfl) | exact (Rd.imm hbX rfl))) rfl ?_
        refine WL.yd (Yd.lenS rfl Try.underlying23 rfl) rfl ?_
        refine WL.yd (Yd.move rfl) rfl ?_
        refine WL.nil ?_
        refine WP.thenC ?_
        refine WC.block ?_
        refine WC.loop (fun y : Nat × Option Ow => [(1, .slice a4 n4 c4), (2, pt b2), (5, nt d.bathers.length), (6, nt d.dippers.length), (7, .func (.func 46) #[] #[pt b2]), (8, pt b8), (98, nt d.bathers.length), (99, nt y.1)]) (fun y => (b8, .cells (List.toArray [it d.hours, owV o1 d.dippers.length, owV y.2 y.1]) 25 (0, 0)) :: owH y.2 55 ((tBath d y.1).flatMap batherC) (owH o1 53 ((tDip d d.dippers.length).flatMap dipperC) [])) (fun _ => D1) (fun y => y.1 ≤ d.bathers.length ∧ owP w y.2 y.1 3) (fun y => d.bathers.length - y.1) (0, none) ⟨by omega, rfl⟩ (fun a w h => at_fr h ⟨rfl, rfl, rfl, rfl, rfl, rfl, rfl, rfl, trivial⟩) ?_
        rintro ⟨k, o2⟩ ⟨hk, ho2⟩
        dsimp only at hk ho2
        refine WC.seq ?_
        refine WC.ofFr [(1, _), (2, _), (5, _), (6, _), (7, _), (8, _), (98, _), (99, _)] ⟨rfl, rfl, rfl, rfl, rfl, rfl, rfl, rfl, trivial⟩ ?_
        refine WC.region ?_
        refine WL.yd (Yd.lss rfl rfl) rfl ?_
        refine WL.nil ?_
        refine WP.thenC ?_
        refine WC.seq ?_
        refine WC.cond rfl (fun c100 => ?_) (fun c100 => ?_)
        · try simp only [zq1, zq2, zq3, zq4, zq5, zq6, zq7, zq8] at c100
          have hst := (hours_set hv).2 (d.bathers.length - 1 - k) (by omega)
          refine WC.skip ?_
          refine WP.thenC ?_
          refine WC.seq ?_
          refine WC.block ?_
          refine WC.seq ?_
          refine WC.ofFr [(1, _), (2, _), (5, _), (6, _), (7, _), (8, _), (98, _), (99, _)] ⟨rfl, rfl, rfl, rfl, rfl, rfl, rfl, rfl, trivial⟩ ?_
          refine WC.region ?_
          refine WL.yd (Yd.move rfl) rfl ?_
          refine WL.yd (Yd.assign rfl) rfl ?_
          refine WL.nil ?_
          refine WP.thenC ?_
          refine WC.seq ?_
          refine WC.ofFr [(11, _), (1, _), (2, _), (5, _), (6, _), (7, _), (8, _), (98, _), (99, _)] ⟨rfl, rfl, rfl, rfl, rfl, rfl, rfl, rfl, rfl, trivial⟩ ?_
          refine WC.region ?_
          refine WL.yd (Yd.fieldAddr FA25_2 rfl) rfl ?_
          refine WL.yd (Yd.load1 Try.isAgg23 rfl (by first | exact Rd.own (k := 0) rfl rfl | exact (Rd.imm hbD rfl) | exact (Rd.imm hbX rfl))) rfl ?_
          refine WL.yd (Yd.move rfl) rfl ?_
          refine WL.yd (Yd.subN (j := 1) rfl rfl (by omega) (by omega)) rfl ?_
          refine WL.yd (Yd.move rfl) rfl ?_
          refine WL.yd (Yd.subN rfl rfl (by omega) (by omega)) rfl ?_
          refine WL.yd (Yd.indexS Try.underlying23 Try.sizeOf55 rfl rfl (by omega) (by omega) (by first | exact hR.bath.addr (d.bathers.length - 1 - k) (by omega))) rfl ?_
          refine WL.yd (Yd.loadN Try.isAgg55 Try.sizeOf55 rfl (vs := [_, _, _]) rfl (by first | exact RdN.own (k := 0) (n := 3) rfl rfl | exact (hR.bath.at (d.bathers.length - 1 - k) (by omega)).rdn 0 3 rfl)) rfl ?_
          refine WL.so (SO.alloc Try.zeroValue55 rfl) rfl ?_
          rintro _ _ _ ⟨b12, hb12, rfl, rfl, rfl⟩ -- NEW
          refine WL.so (SO.store 0 rfl Try.sizeOf55 rfl rfl rfl rfl (Nat.le_of_ble_eq_true rfl) (oneB_spec rfl)) rfl ?_
          rintro _ _ _ ⟨rfl, rfl, rfl⟩
          refine WL.nil ?_
          refine WP.thenC ?_
          refine WC.ofFr [(12, _), (1, _), (2, _), (5, _), (6, _), (7, _), (8, _), (98, _), (99, _)] ⟨rfl, rfl, rfl, rfl, rfl, rfl, rfl, rfl, rfl, trivial⟩ ?_
          refine WC.drawH [_] (by kernel_rfl) (fun _ hI => hI.pick 0 rfl) ?_
          refine WH.yd (i := 0) (by kernel_rfl) (fun _ o v c a w _ h => (QuietPanic.blk (QuietPanic.then (QuietPanic.then (QuietPanic.blk (QuietPanic.then QuietPanic.body))))) c o.dst v a w h) rfl (Yd.fieldAddr FA25_2 rfl) rfl ?_
          refine WH.yd (i := 2) (by kernel_rfl) (fun _ o v c a w _ h => (QuietPanic.blk (QuietPanic.then (QuietPanic.then (QuietPanic.blk (QuietPanic.then QuietPanic.body))))) c o.dst v a w h) rfl (Yd.fieldAddr FA55_0 rfl) rfl ?_
          refine WH.yd (i := 3) (by kernel_rfl) (fun _ o v c a w _ h => (QuietPanic.blk (QuietPanic.then (QuietPanic.then (QuietPanic.blk (QuietPanic.then QuietPanic.body))))) c o.dst v a w h) rfl (Yd.loadN Try.isAgg35 Try.sizeOf35 rfl (vs := [_, _]) rfl (by first | exact RdN.own (k := 0) (n := 2) rfl rfl | exact RdN.own (k := 1) (n := 2) rfl rfl | exact (RdN.imm (n := 3) hbD rfl) | exact (RdN.imm (n := 3) hbX rfl))) rfl ?_
          refine WH.yd (i := 4) (by kernel_rfl) (fun _ o v c a w _ h => (QuietPanic.blk (QuietPanic.then (QuietPanic.then (QuietPanic.blk (QuietPanic.then QuietPanic.body))))) c o.dst v a w h) rfl (Yd.move rfl) rfl ?_
          refine WH.yd (i := 5) (by kernel_rfl) (fun _ o v c a w _ h => (QuietPanic.blk (QuietPanic.then (QuietPanic.then (QuietPanic.blk (QuietPanic.then QuietPanic.body))))) c o.dst v a w h) rfl (Yd.fieldAddr FA55_1 rfl) rfl ?_
          refine WH.yd (i := 6) (by kernel_rfl) (fun _ o v c a w _ h => (QuietPanic.blk (QuietPanic.then (QuietPanic.then (QuietPanic.blk (QuietPanic.then QuietPanic.body))))) c o.dst v a w h) rfl (Yd.load1 Try.isAgg3 rfl (by first | exact Rd.own (k := 0) rfl rfl | exact Rd.own (k := 1) rfl rfl | exact (Rd.imm hbD rfl) | exact (Rd.imm hbX rfl))) rfl ?_
          refine WH.two (i := 1) (j := 7) (by kernel_rfl) ?_ ?_
          · refine WHo.yd rfl (Yd.load1 Try.isAgg23 rfl (by first | exact Rd.own (k := 0) rfl rfl | exact Rd.own (k := 1) rfl rfl | exact (Rd.imm hbD rfl) | exact (Rd.imm hbX rfl))) rfl ?_
            refine WH.one (i := 7) (by kernel_rfl) (WHo.so rfl (SO.call (Enters.val Try.call46 rfl rfl) (fun w hI => other_g d _ _ b2 D1 _ hbD hI.imm hnum.1 _ hst)) rfl ?_)
            rintro _ _ _ ⟨rfl, rfl, rfl⟩
            refine ⟨(fun _ hI => hI.pick 0 rfl), ?_⟩
            refine WH.yd (i := 8) (by kernel_rfl) (fun _ o v c a w _ h => (QuietPanic.blk (QuietPanic.then (QuietPanic.then (QuietPanic.blk (QuietPanic.then QuietPanic.body))))) c o.dst v a w h) rfl (Yd.build SA55 rfl (cs := [_, _, _]) rfl) rfl ?_
            refine WH.one (i := 9) (by kernel_rfl) (WHo.so rfl (SO.buildSlice Try.underlying23 Try.sizeOf55 Try.zeroValue55 rfl rfl rfl rfl (cs := [_, _, _]) rfl) rfl ?_)
            rintro _ _ _ ⟨b119, hb119, rfl, rfl, rfl⟩ -- NEW
            refine ⟨(fun _ hI => hI.pick 1 rfl), ?_⟩
            refine WH.one (i := 10) (by kernel_rfl) (WHo.so rfl (SO.appendOw (o := o2) (len := k) (n := 1) (xs := ((tBath d k).flatMap batherC)) (size := 3) [_] [_, _] (owH o1 53 ((tDip d d.dippers.length).flatMap dipperC) []) rfl rfl Try.underlying23 Try.sizeOf55 Try.typeInfo55 Try.zeroValue55 rfl rfl rfl rfl ⟨rfl, .inr ⟨_, _, _, rfl, RdN.own (k := 0) (n := 3) rfl rfl⟩⟩ (oneB_spec rfl) ho2 (by rw [flat_len batherC_len, tBath_len]) (by omega) (by show (2 * (_ + _) + 1000) * 24 ≤ 2 ^ 48; omega) (by omega)) rfl ?_)
            rintro _ _ _ ⟨u2, hu2, rfl, rfl, rfl⟩
            refine ⟨(fun _ hI => hI.pick 0 rfl), ?_⟩
            refine WH.yd (i := 11) (by kernel_rfl) (fun _ o v c a w _ h => (QuietPanic.blk (QuietPanic.then (QuietPanic.then (QuietPanic.blk (QuietPanic.then QuietPanic.body))))) c o.dst v a w h) rfl (Yd.fieldAddr FA25_2 rfl) rfl ?_
            refine WH.one (i := 12) (by kernel_rfl) (WHo.so rfl (SO.store 1 rfl Try.sizeOf23 rfl rfl rfl rfl (Nat.le_of_ble_eq_true rfl) (oneB_spec rfl)) rfl ?_)
            rintro _ _ _ ⟨rfl, rfl, rfl⟩
            refine ⟨(fun _ hI => hI.pick 0 rfl), ?_⟩
            refine WH.nil (by kernel_rfl) ?_
            refine WP.blkNormal ?_
            refine WP.thenC ?_
            refine WC.ofFr [(1, _), (2, _), (5, _), (6, _), (7, _), (8, _), (98, _), (99, _)] ⟨rfl, rfl, rfl, rfl, rfl, rfl, rfl, rfl, trivial⟩ ?_
            refine WC.region ?_
            refine WL.yd (Yd.add rfl rfl (wr64 ⟨by omega, by omega⟩)) rfl ?_
            refine WL.yd (Yd.move rfl) rfl ?_
            refine WL.nil ?_
            refine WP.again (⟨k + 1, some u2⟩ : Nat × Option Ow) ⟨by simp only; omega, hu2⟩ (by simp only; omega) (fun aa ww h => ?_)
            show At _ [(1, .slice a4 n4 c4), (2, pt b2), (5, nt d.bathers.length), (6, nt d.dippers.length), (7, .func (.func 46) #[] #[pt b2]), (8, pt b8), (98, nt d.bathers.length), (99, nt (k + 1))] D1 ((b8, .cells (List.toArray [it d.hours, owV o1 d.dippers.length, owV (some u2) (k + 1)]) 25 (0, 0)) :: owH (some u2) 55 ((tBath d (k + 1)).flatMap batherC) (owH o1 53 ((tDip d d.dippers.length).flatMap dipperC) [])) aa ww
            rw [tBath_succ]
            exact at_less h ⟨rfl, rfl, rfl, rfl, rfl, rfl, rfl, rfl, trivial⟩ (fun _ h => List.mem_cons_of_mem _ h) (fun h => (List.nodup_cons.1 h).2)
          · refine WHo.so rfl (SO.call (Enters.val Try.call46 rfl rfl) (fun w hI => other_g d _ _ b2 D1 _ hbD hI.imm hnum.1 _ hst)) rfl ?_
            rintro _ _ _ ⟨rfl, rfl, rfl⟩
            refine ⟨(fun _ hI => hI.pick 0 rfl), ?_⟩
            refine WH.yd (i := 8) (by kernel_rfl) (fun _ o v c a w _ h => (QuietPanic.blk (QuietPanic.then (QuietPanic.then (QuietPanic.blk (QuietPanic.then QuietPanic.body))))) c o.dst v a w h) rfl (Yd.build SA55 rfl (cs := [_, _, _]) rfl) rfl ?_
            refine WH.two (i := 1) (j := 9) (by kernel_rfl) ?_ ?_
            · refine WHo.yd rfl (Yd.load1 Try.isAgg23 rfl (by first | exact Rd.own (k := 0) rfl rfl | exact Rd.own (k := 1) rfl rfl | exact (Rd.imm hbD rfl) | exact (Rd.imm hbX rfl))) rfl ?_
              refine WH.one (i := 9) (by kernel_rfl) (WHo.so rfl (SO.buildSlice Try.underlying23 Try.sizeOf55 Try.zeroValue55 rfl rfl rfl rfl (cs := [_, _, _]) rfl) rfl ?_)
              rintro _ _ _ ⟨b119, hb119, rfl, rfl, rfl⟩ -- NEW
              refine ⟨(fun _ hI => hI.pick 1 rfl), ?_⟩
              refine WH.one (i := 10) (by kernel_rfl) (WHo.so rfl (SO.appendOw (o := o2) (len := k) (n := 1) (xs := ((tBath d k).flatMap batherC)) (size := 3) [_] [_, _] (owH o1 53 ((tDip d d.dippers.length).flatMap dipperC) []) rfl rfl Try.underlying23 Try.sizeOf55 Try.typeInfo55 Try.zeroValue55 rfl rfl rfl rfl ⟨rfl, .inr ⟨_, _, _, rfl, RdN.own (k := 0) (n := 3) rfl rfl⟩⟩ (oneB_spec rfl) ho2 (by rw [flat_len batherC_len, tBath_len]) (by omega) (by show (2 * (_ + _) + 1000) * 24 ≤ 2 ^ 48; omega) (by omega)) rfl ?_)
              rintro _ _ _ ⟨u2, hu2, rfl, rfl, rfl⟩
              refine ⟨(fun _ hI => hI.pick 0 rfl), ?_⟩
              refine WH.yd (i := 11) (by kernel_rfl) (fun _ o v c a w _ h => (QuietPanic.blk (QuietPanic.then (QuietPanic.then (QuietPanic.blk (QuietPanic.then QuietPanic.body))))) c o.dst v a w h) rfl (Yd.fieldAddr FA25_2 rfl) rfl ?_
              refine WH.one (i := 12) (by kernel_rfl) (WHo.so rfl (SO.store 1 rfl Try.sizeOf23 rfl rfl rfl rfl (Nat.le_of_ble_eq_true rfl) (oneB_spec rfl)) rfl ?_)
              rintro _ _ _ ⟨rfl, rfl, rfl⟩
              refine ⟨(fun _ hI => hI.pick 0 rfl), ?_⟩
              refine WH.nil (by kernel_rfl) ?_
              refine WP.blkNormal ?_
              refine WP.thenC ?_
              refine WC.ofFr [(1, _), (2, _), (5, _), (6, _), (7, _), (8, _), (98, _), (99, _)] ⟨rfl, rfl, rfl, rfl, rfl, rfl, rfl, rfl, trivial⟩ ?_
              refine WC.region ?_
              refine WL.yd (Yd.add rfl rfl (wr64 ⟨by omega, by omega⟩)) rfl ?_
              refine WL.yd (Yd.move rfl) rfl ?_
              refine WL.nil ?_
              refine WP.again (⟨k + 1, some u2⟩ : Nat × Option Ow) ⟨by simp only; omega, hu2⟩ (by simp only; omega) (fun aa ww h => ?_)
              show At _ [(1, .slice a4 n4 c4), (2, pt b2), (5, nt d.bathers.length), (6, nt d.dippers.length), (7, .func (.func 46) #[] #[pt b2]), (8, pt b8), (98, nt d.bathers.length), (99, nt (k + 1))] D1 ((b8, .cells (List.toArray [it d.hours, owV o1 d.dippers.length, owV (some u2) (k + 1)]) 25 (0, 0)) :: owH (some u2) 55 ((tBath d (k + 1)).flatMap batherC) (owH o1 53 ((tDip d d.dippers.length).flatMap dipperC) [])) aa ww
              rw [tBath_succ]
              exact at_less h ⟨rfl, rfl, rfl, rfl, rfl, rfl, rfl, rfl, trivial⟩ (fun _ h => List.mem_cons_of_mem _ h) (fun h => (List.nodup_cons.1 h).2)
            · refine WHo.so rfl (SO.buildSlice Try.underlying23 Try.sizeOf55 Try.zeroValue55 rfl rfl rfl rfl (cs := [_, _, _]) rfl) rfl ?_
              rintro _ _ _ ⟨b119, hb119, rfl, rfl, rfl⟩ -- NEW
              refine ⟨(fun _ hI => hI.pick 1 rfl), ?_⟩
              refine WH.one (i := 1) (by kernel_rfl) (WHo.yd rfl (Yd.load1 Try.isAgg23 rfl (by first | exact Rd.own (k := 0) rfl rfl | exact Rd.own (k := 1) rfl rfl | exact Rd.own (k := 2) rfl rfl | exact (Rd.imm hbD rfl) | exact (Rd.imm hbX rfl))) rfl ?_)
              refine WH.one (i := 10) (by kernel_rfl) (WHo.so rfl (SO.appendOw (o := o2) (len := k) (n := 1) (xs := ((tBath d k).flatMap batherC)) (size := 3) [_] [_, _] (owH o1 53 ((tDip d d.dippers.length).flatMap dipperC) []) rfl rfl Try.underlying23 Try.sizeOf55 Try.typeInfo55 Try.zeroValue55 rfl rfl rfl rfl ⟨rfl, .inr ⟨_, _, _, rfl, RdN.own (k := 0) (n := 3) rfl rfl⟩⟩ (oneB_spec rfl) ho2 (by rw [flat_len batherC_len, tBath_len]) (by omega) (by show (2 * (_ + _) + 1000) * 24 ≤ 2 ^ 48; omega) (by omega)) rfl ?_)
              rintro _ _ _ ⟨u2, hu2, rfl, rfl, rfl⟩
              refine ⟨(fun _ hI => hI.pick 0 rfl), ?_⟩
              refine WH.yd (i := 11) (by kernel_rfl) (fun _ o v c a w _ h => (QuietPanic.blk (QuietPanic.then (QuietPanic.then (QuietPanic.blk (QuietPanic.then QuietPanic.body))))) c o.dst v a w h) rfl (Yd.fieldAddr FA25_2 rfl) rfl ?_
              refine WH.one (i := 12) (by kernel_rfl) (WHo.so rfl (SO.store 1 rfl Try.sizeOf23 rfl rfl rfl rfl (Nat.le_of_ble_eq_true rfl) (oneB_spec rfl)) rfl ?_)
              rintro _ _ _ ⟨rfl, rfl, rfl⟩
              refine ⟨(fun _ hI => hI.pick 0 rfl), ?_⟩
              refine WH.nil (by kernel_rfl) ?_
              refine WP.blkNormal ?_
              refine WP.thenC ?_
              refine WC.ofFr [(1, _), (2, _), (5, _), (6, _), (7, _), (8, _), (98, _), (99, _)] ⟨rfl, rfl, rfl, rfl, rfl, rfl, rfl, rfl, trivial⟩ ?_
              refine WC.region ?_
              refine WL.yd (Yd.add rfl rfl (wr64 ⟨by omega, by omega⟩)) rfl ?_
              refine WL.yd (Yd.move rfl) rfl ?_
              refine WL.nil ?_
              refine WP.again (⟨k + 1, some u2⟩ : Nat × Option Ow) ⟨by simp only; omega, hu2⟩ (by simp only; omega) (fun aa ww h => ?_)
              show At _ [(1, .slice a4 n4 c4), (2, pt b2), (5, nt d.bathers.length), (6, nt d.dippers.length), (7, .func (.func 46) #[] #[pt b2]), (8, pt b8), (98, nt d.bathers.length), (99, nt (k + 1))] D1 ((b8, .cells (List.toArray [it d.hours, owV o1 d.dippers.length, owV (some u2) (k + 1)]) 25 (0, 0)) :: owH (some u2) 55 ((tBath d (k + 1)).flatMap batherC) (owH o1 53 ((tDip d d.dippers.length).flatMap dipperC) [])) aa ww
              rw [tBath_succ]
              exact at_less h ⟨rfl, rfl, rfl, rfl, rfl, rfl, rfl, rfl, trivial⟩ (fun _ h => List.mem_cons_of_mem _ h) (fun h => (List.nodup_cons.1 h).2)
        · try simp only [zq1, zq2, zq3, zq4, zq5, zq6, zq7, zq8] at c100
          refine WC.exit ?_
          refine WP.thenExit ?_
          refine WP.thenExit ?_
          refine WP.blkHit ?_
          refine WP.thenC ?_
          obtain rfl : k = d.bathers.length := by omega
          rw [owV_owL (owL_of ho1), owV_owL (owL_of ho2)]
          refine WC.freezeOw (f := batherC) (m := 3) batherC_len [_] (owH o1 53 ((tDip d d.dippers.length).flatMap dipperC) []) o2 55 (tBath d d.bathers.length) rfl (by rw [tBath_len]; exact ho2) rfl (fun Da hXa hSa => ?_)
          refine WC.freezeOw (f := dipperC) (m := 3) dipperC_len [_] [] o1 53 (tDip d d.dippers.length) rfl (by rw [tDip_len]; exact ho1) rfl (fun Db hXb hSb => ?_)
          rw [tBath_len] at hSa
          rw [tDip_len] at hSb
          generalize owAt o1 = ax at hSb ⊢
          generalize owAt o2 = ay at hSa ⊢
          generalize owCp o1 d.dippers.length = cx
          generalize owCp o2 d.bathers.length = cy
          refine WC.freezeK 0 rfl (fun hn8 => ?_)
          have hXx := (DExt.refl w Db).add (o := .cells (List.toArray [it d.hours, .slice ax d.dippers.length cx, .slice ay d.bathers.length cy]) 25 (0, 0)) hn8 hb8
          have hbX : (Db.add b8 (.cells (List.toArray [it d.hours, .slice ax d.dippers.length cx, .slice ay d.bathers.length cy]) 25 (0, 0))) b8 = some (.cells (List.toArray [it d.hours, .slice ax d.dippers.length cx, .slice ay d.bathers.length cy]) 25 (0, 0)) := Imm.add_self _ _ _
          replace hR := ((hR.ext hXa).ext hXb).ext hXx
          replace hbD := hXx.old _ _ (hXb.old _ _ (hXa.old _ _ hbD))
          have hRX : DipsR (Db.add b8 (.cells (List.toArray [it d.hours, .slice ax d.dippers.length cx, .slice ay d.bathers.length cy]) 25 (0, 0))) (turnD d) ax d.dippers.length ay d.bathers.length := ⟨hSb.ext hXx, (hSa.ext hXb).ext hXx, by omega, by omega⟩
          replace hXd := ((hXd.trans hXa (Nat.le_refl _)).trans hXb (Nat.le_refl _)).trans hXx (Nat.le_refl _)
          generalize Db.add b8 (.cells (List.toArray [it d.hours, .slice ax d.dippers.length cx, .slice ay d.bathers.length cy]) 25 (0, 0)) = D3 at hbD hR hbX hRX hXd ⊢
          refine WC.seqJ (fun y : Ow × Ow => [(1, .slice a4 n4 c4), (2, pt b2), (5, nt d.bathers.length), (6, nt d.dippers.length), (8, pt b8), (13, owV (some y.1) d.dippers.length), (14, owV (some y.2) d.bathers.length)]) (fun y => [(y.2.b, .cells (List.toArray (d.bathers.flatMap batherC ++ y.2.rest)) 55 (0, 0)), (y.1.b, .cells (List.toArray (d.dippers.flatMap dipperC ++ y.1.rest)) 53 (0, 0))]) (fun _ => D3) (fun y => owP w (some y.1) d.dippers.length 3 ∧ owP w (some y.2) d.bathers.length 3) ?_ ?_
          · rintro ⟨u1, u2⟩ ⟨hu1, hu2⟩
            dsimp only at hu1 hu2
            refine WC.freezeOw (f := batherC) (m := 3) batherC_len [] [_] (some u2) 55 d.bathers rfl hu2 rfl (fun Dc hXc hS14 => ?_)
            refine WC.freezeOw (f := dipperC) (m := 3) dipperC_len [] [] (some u1) 53 d.dippers rfl hu1 rfl (fun D4 hXe hS13 => ?_)
            have hXce := hXc.trans hXe (Nat.le_refl _)
            replace hS14 : SlL D4 3 (d.bathers.map batherC) (some ⟨u2.b, 0, none⟩) d.bathers.length := hS14.ext hXe
            replace hS13 : SlL D4 3 (d.dippers.map dipperC) (some ⟨u1.b, 0, none⟩) d.dippers.length := hS13
            replace hR := hR.ext hXce
            replace hRX := hRX.ext hXce
            replace hbD := hXce.old _ _ hbD
            replace hbX := hXce.old _ _ hbX
            replace hXd := hXd.trans hXce (Nat.le_refl _)
            refine WC.seq ?_
            refine WC.ofFr [(1, _), (2, _), (5, _), (6, _), (8, _), (13, _), (14, _)] ⟨rfl, rfl, rfl, rfl, rfl, rfl, rfl, trivial⟩ ?_
            refine WC.draw [(0, true), (1, true), (2, false), (3, false), (4, true), (5, true), (6, true), (7, true), (8, true)] (by kernel_rfl) (by kernel_rfl) (QuietPanic.then QuietPanic.body) ?_
            refine WA.yd rfl (Yd.loadN Try.isAgg25 Try.sizeOf25 rfl (vs := [_, _, _]) rfl (by first | exact (RdN.imm (n := 3) hbD rfl) | exact (RdN.imm (n := 3) hbX rfl))) rfl ?_
            refine WA.yd rfl (Yd.move rfl) rfl ?_
            refine WA.so rfl (SO.news (Enters.func Try.call37 rfl) (fun w1 hI => draws_g by_ a4 n4 c4 _ w1 (hS4.ext hXd) hby hI.imm)) rfl ?_
            rintro _ D5 _ ⟨_, hX2, ⟨b5, b1, rfl, hB, rfl⟩, rfl⟩
            replace hR := hR.ext hX2
            replace hRX := hRX.ext hX2
            replace hbD := hX2.old _ _ hbD
            replace hbX := hX2.old _ _ hbX
            replace hS13 := hS13.ext hX2
            replace hS14 := hS14.ext hX2
            refine ⟨fun _ hI => (hI.drop 99).shrink hX2.old, ?_⟩
            refine WA.so rfl (SO.altersN (own := []) (hpc := [(b5, cntO 0)]) (S1 := [b5]) (fun _ h => h) (fun h => h) (fun _ h => h) (fun _ h => h) (Enters.func Try.call40 rfl) (fun w1 hI => made_g d a1 _ c1 a2 _ c2 _ w1 hR hI.imm hv by_ b5 b1 0 hB (by omega) hI)) rfl ?_
            rintro _ D6 _ ⟨_, hX6, ⟨a8, n8, c8, rfl, hP8, hcap8, rfl⟩, rfl⟩
            replace hR := hR.ext hX6
            replace hRX := hRX.ext hX6
            replace hbD := hX6.old _ _ hbD
            replace hbX := hX6.old _ _ hbX
            replace hS13 := hS13.ext hX6
            replace hS14 := hS14.ext hX6
            refine ⟨fun _ hI => (hI.drop 99).shrink (hX2.trans hX6 (Nat.le_refl _)).old, ?_⟩
            refine WA.yd rfl (Yd.move rfl) rfl ?_
            refine WA.yd rfl (Yd.extract rfl rfl) rfl ?_
            refine WA.yd rfl (Yd.extract rfl rfl) rfl ?_
            refine WA.yd rfl (Yd.assign rfl) rfl ?_
            refine WA.yd rfl (Yd.assign rfl) rfl ?_
            refine WA.nil ?_
            refine WP.thenC ?_
            refine WC.seqJ (fun _ : Imm => [(2, pt b2), (8, pt b8), (13, .slice (some ⟨u1.b, 0, none⟩) d.dippers.length u1.cap), (14, .slice (some ⟨u2.b, 0, none⟩) d.bathers.length u2.cap)]) (fun _ => []) (fun y => y) (fun y => DipsR y d a1 d.dippers.length a2 d.bathers.length ∧ DipsR y (turnD d) ax d.dippers.length ay d.bathers.length ∧ y b2 = some (.cells (List.toArray [it d.hours, .slice a1 d.dippers.length c1, .slice a2 d.bathers.length c2]) 25 (0, 0)) ∧ y b8 = some (.cells (List.toArray [it d.hours, .slice ax d.dippers.length cx, .slice ay d.bathers.length cy]) 25 (0, 0)) ∧ SlL y 3 (d.dippers.map dipperC) (some ⟨u1.b, 0, none⟩) d.dippers.length ∧ SlL y 3 (d.bathers.map batherC) (some ⟨u2.b, 0, none⟩) d.bathers.length) ?_ ?_
            · clear hR hRX hbD hbX hS13 hS14
              rintro DD ⟨hR, hRX, hbD, hbX, hS13, hS14⟩
              refine WC.seq ?_
              refine WC.ofFr [(2, _), (8, _), (13, _), (14, _)] ⟨rfl, rfl, rfl, rfl, trivial⟩ ?_
              refine WC.region ?_
              refine WL.yd (Yd.loadN Try.isAgg25 Try.sizeOf25 rfl (vs := [_, _, _]) rfl (by first | exact (RdN.imm (n := 3) hbD rfl) | exact (RdN.imm (n := 3) hbX rfl))) rfl ?_
              refine WL.so (SO.callP Try.call24 rfl (fun w hI => Hope_g d a1 _ c1 a2 _ c2 _ _ hR hI.imm)) rfl ?_
              rintro _ _ _ ⟨rfl, rfl, rfl⟩
              refine WL.yd (Yd.move rfl) rfl ?_
              refine WL.yd (Yd.extract rfl rfl) rfl ?_
              refine WL.yd (Yd.extract rfl rfl) rfl ?_
              refine WL.yd (Yd.assign rfl) rfl ?_
              refine WL.yd (Yd.assign rfl) rfl ?_
              refine WL.nil ?_
              refine WP.thenC ?_
              refine WC.seq ?_
              refine WC.ofFr [(25, _), (24, _), (2, _), (8, _), (13, _), (14, _)] ⟨rfl, rfl, rfl, rfl, rfl, rfl, trivial⟩ ?_
              refine WC.region ?_
              refine WL.yd (Yd.loadN Try.isAgg25 Try.sizeOf25 rfl (vs := [_, _, _]) rfl (by first | exact (RdN.imm (n := 3) hbD rfl) | exact (RdN.imm (n := 3) hbX rfl))) rfl ?_
              refine WL.so (SO.callP Try.call24 rfl (fun w hI => Gives.cv (.tuple #[it (HopeOut d).1, it (HopeOut d).2]) (Hope_g (turnD d) ax _ cx ay _ cy _ _ hRX hI.imm) (by rw [hope_tur htur hv hvx]))) rfl ?_
              rintro _ _ _ ⟨rfl, rfl, rfl⟩
              refine WL.yd (Yd.move rfl) rfl ?_
              refine WL.yd (Yd.extract rfl rfl) rfl ?_
              refine WL.yd (Yd.extract rfl rfl) rfl ?_
              refine WL.yd (Yd.assign rfl) rfl ?_
              refine WL.yd (Yd.assign rfl) rfl ?_
              refine WL.nil ?_
              refine WP.thenC ?_
              refine WC.seq ?_
              refine WC.ofFr [(27, _), (26, _), (25, _), (24, _), (2, _), (8, _), (13, _), (14, _)] ⟨rfl, rfl, rfl, rfl, rfl, rfl, rfl, rfl, trivial⟩ ?_
              refine WC.region ?_
              refine WL.yd (Yd.loadN Try.isAgg25 Try.sizeOf25 rfl (vs := [_, _, _]) rfl (by first | exact (RdN.imm (n := 3) hbD rfl) | exact (RdN.imm (n := 3) hbX rfl))) rfl ?_
              refine WL.so (SO.callP Try.call26 rfl (fun w hI => Gives.cv (.tuple #[nt s1, it e1]) (Fewest_g d a1 _ c1 a2 _ c2 _ _ hR hI.imm) (by rw [hf1]))) rfl ?_
              rintro _ _ _ ⟨rfl, rfl, rfl⟩
              refine WL.yd (Yd.move rfl) rfl ?_
              refine WL.yd (Yd.extract rfl rfl) rfl ?_
              refine WL.yd (Yd.extract rfl rfl) rfl ?_
              refine WL.yd (Yd.assign rfl) rfl ?_
              refine WL.yd (Yd.assign rfl) rfl ?_
              refine WL.nil ?_
              refine WP.thenC ?_
              refine WC.seq ?_
              refine WC.ofFr [(29, _), (28, _), (27, _), (26, _), (25, _), (24, _), (2, _), (8, _), (13, _), (14, _)] ⟨rfl, rfl, rfl, rfl, rfl, rfl, rfl, rfl, rfl, rfl, trivial⟩ ?_
              refine WC.region ?_
              refine WL.yd (Yd.loadN Try.isAgg25 Try.sizeOf25 rfl (vs := [_, _, _]) rfl (by first | exact (RdN.imm (n := 3) hbD rfl) | exact (RdN.imm (n := 3) hbX rfl))) rfl ?_
              refine WL.so (SO.callP Try.call26 rfl (fun w hI => Gives.cv (.tuple #[nt t1, it e1]) (Fewest_g (turnD d) ax _ cx ay _ cy _ _ hRX hI.imm) (by rw [hf2]))) rfl ?_
              rintro _ _ _ ⟨rfl, rfl, rfl⟩
              refine WL.yd (Yd.move rfl) rfl ?_
              refine WL.yd (Yd.extract rfl rfl) rfl ?_
              refine WL.yd (Yd.extract rfl rfl) rfl ?_
              refine WL.yd (Yd.assign rfl) rfl ?_
              refine WL.yd (Yd.assign rfl) rfl ?_
              refine WL.nil ?_
              refine WP.thenC ?_
              refine WC.seq ?_
              refine WC.ofFr [(31, _), (30, _), (29, _), (28, _), (27, _), (26, _), (25, _), (24, _), (2, _), (8, _), (13, _), (14, _)] ⟨rfl, rfl, rfl, rfl, rfl, rfl, rfl, rfl, rfl, rfl, rfl, rfl, trivial⟩ ?_
              refine WC.region ?_
              refine WL.yd (Yd.loadN Try.isAgg25 Try.sizeOf25 rfl (vs := [_, _, _]) rfl (by first | exact (RdN.imm (n := 3) hbD rfl) | exact (RdN.imm (n := 3) hbX rfl))) rfl ?_
              refine WL.so (SO.callP Try.call29 rfl (fun w hI => Most_g d a1 _ c1 a2 _ c2 _ _ hR hI.imm)) rfl ?_
              rintro _ _ _ ⟨rfl, rfl, rfl⟩
              refine WL.yd (Yd.move rfl) rfl ?_
              refine WL.yd (Yd.extract rfl rfl) rfl ?_
              refine WL.yd (Yd.extract rfl rfl) rfl ?_
              refine WL.yd (Yd.extract rfl rfl) rfl ?_
              refine WL.yd (Yd.assign rfl) rfl ?_
              refine WL.yd (Yd.assign rfl) rfl ?_
              refine WL.yd (Yd.assign rfl) rfl ?_
              refine WL.nil ?_
              refine WP.thenC ?_
              refine WC.seq ?_
              refine WC.ofFr [(34, _), (32, _), (31, _), (30, _), (29, _), (28, _), (27, _), (26, _), (25, _), (24, _), (2, _), (8, _), (13, _), (14, _)] ⟨rfl, rfl, rfl, rfl, rfl, rfl, rfl, rfl, rfl, rfl, rfl, rfl, rfl, rfl, trivial⟩ ?_
              refine WC.region ?_
              refine WL.yd (Yd.loadN Try.isAgg25 Try.sizeOf25 rfl (vs := [_, _, _]) rfl (by first | exact (RdN.imm (n := 3) hbD rfl) | exact (RdN.imm (n := 3) hbX rfl))) rfl ?_
              refine WL.so (SO.callP Try.call29 rfl (fun w hI => Most_g (turnD d) ax _ cx ay _ cy _ _ hRX hI.imm)) rfl ?_
              rintro _ _ _ ⟨rfl, rfl, rfl⟩
              refine WL.yd (Yd.move rfl) rfl ?_
              refine WL.yd (Yd.extract rfl rfl) rfl ?_
              refine WL.yd (Yd.extract rfl rfl) rfl ?_
              refine WL.yd (Yd.extract rfl rfl) rfl ?_
              refine WL.yd (Yd.assign rfl) rfl ?_
              refine WL.yd (Yd.assign rfl) rfl ?_
              refine WL.yd (Yd.assign rfl) rfl ?_
              refine WL.nil ?_
              refine WP.thenC ?_
              refine WC.seq ?_
              refine WC.ofFr [(37, _), (35, _), (34, _), (32, _), (31, _), (30, _), (29, _), (28, _), (27, _), (26, _), (25, _), (24, _), (2, _), (8, _), (13, _), (14, _)] ⟨rfl, rfl, rfl, rfl, rfl, rfl, rfl, rfl, rfl, rfl, rfl, rfl, rfl, rfl, rfl, rfl, trivial⟩ ?_
              refine WC.region ?_
              refine WL.yd (Yd.loadN Try.isAgg25 Try.sizeOf25 rfl (vs := [_, _, _]) rfl (by first | exact (RdN.imm (n := 3) hbD rfl) | exact (RdN.imm (n := 3) hbX rfl))) rfl ?_
              refine WL.so (SO.callP Try.call31 rfl (fun w hI => Gives.cv (.tuple #[nt s2, it e2]) (Why_g d a1 _ c1 a2 _ c2 _ _ hR hI.imm) (by rw [hy1]))) rfl ?_
              rintro _ _ _ ⟨rfl, rfl, rfl⟩
              refine WL.yd (Yd.move rfl) rfl ?_
              refine WL.yd (Yd.extract rfl rfl) rfl ?_
              refine WL.yd (Yd.extract rfl rfl) rfl ?_
              refine WL.yd (Yd.assign rfl) rfl ?_
              refine WL.yd (Yd.assign rfl) rfl ?_
              refine WL.nil ?_
              refine WP.thenC ?_
              refine WC.seq ?_
              refine WC.ofFr [(39, _), (38, _), (37, _), (35, _), (34, _), (32, _), (31, _), (30, _), (29, _), (28, _), (27, _), (26, _), (25, _), (24, _), (2, _), (8, _), (13, _), (14, _)] ⟨rfl, rfl, rfl, rfl, rfl, rfl, rfl, rfl, rfl, rfl, rfl, rfl, rfl, rfl, rfl, rfl, rfl, rfl, trivial⟩ ?_
              refine WC.region ?_
              refine WL.yd (Yd.loadN Try.isAgg25 Try.sizeOf25 rfl (vs := [_, _, _]) rfl (by first | exact (RdN.imm (n := 3) hbD rfl) | exact (RdN.imm (n := 3) hbX rfl))) rfl ?_
              refine WL.so (SO.callP Try.call31 rfl (fun w hI => Gives.cv (.tuple #[nt t2, it e2]) (Why_g (turnD d) ax _ cx ay _ cy _ _ hRX hI.imm) (by rw [hy2]))) rfl ?_
              rintro _ _ _ ⟨rfl, rfl, rfl⟩
              refine WL.yd (Yd.move rfl) rfl ?_
              refine WL.yd (Yd.extract rfl rfl) rfl ?_
              refine WL.yd (Yd.extract rfl rfl) rfl ?_
              refine WL.yd (Yd.assign rfl) rfl ?_
              refine WL.yd (Yd.assign rfl) rfl ?_
              refine WL.nil ?_
              refine WP.thenC ?_
              refine WC.seq ?_
              refine WC.ofFr [(41, _), (40, _), (39, _), (38, _), (37, _), (35, _), (34, _), (32, _), (31, _), (30, _), (29, _), (28, _), (27, _), (26, _), (25, _), (24, _), (2, _), (13, _), (14, _)] ⟨rfl, rfl, rfl, rfl, rfl, rfl, rfl, rfl, rfl, rfl, rfl, rfl, rfl, rfl, rfl, rfl, rfl, rfl, rfl, trivial⟩ ?_
              refine WC.region ?_
              refine WL.yd (Yd.assign rfl) rfl ?_
              refine WL.nil ?_
              refine WP.thenC ?_
              refine WC.seq ?_
              refine WC.seq ?_
              refine WC.ofFr [(42, _), (41, _), (40, _), (39, _), (38, _), (37, _), (35, _), (34, _), (32, _), (31, _), (30, _), (29, _), (28, _), (27, _), (26, _), (25, _), (24, _), (2, _), (13, _), (14, _)] ⟨rfl, rfl, rfl, rfl, rfl, rfl, rfl, rfl, rfl, rfl, rfl, rfl, rfl, rfl, rfl, rfl, rfl, rfl, rfl, rfl, trivial⟩ ?_
              refine WC.region ?_
              refine WL.yd (Yd.move rfl) rfl ?_
              refine WL.yd (Yd.move rfl) rfl ?_
              refine WL.yd (Yd.neq rfl rfl) rfl ?_
              refine WL.know 234 (.bool false) rfl (congrArg Value.bool (decide_eq_false (fun h => h rfl))) ?_
              refine WL.yd (Yd.move rfl) rfl ?_
              refine WL.ydg rfl (Yd.move rfl) rfl ?_
              refine WL.ydg rfl (Yd.move rfl) rfl ?_
              refine WL.ydg rfl (Yd.neq rfl rfl) rfl ?_
              refine WL.know 238 (.bool false) rfl (congrArg Value.bool (decide_eq_false (fun h => h rfl))) ?_
              refine WL.yd (Yd.pickF rfl rfl) rfl ?_
              refine WL.yd (Yd.move rfl) rfl ?_
              refine WL.ydg rfl (Yd.move rfl) rfl ?_
              refine WL.ydg rfl (Yd.move rfl) rfl ?_
              refine WL.ydg rfl (Yd.neq rfl rfl) rfl ?_
              refine WL.know 243 (.bool false) rfl (congrArg Value.bool (decide_eq_false (fun h => h rfl))) ?_
              refine WL.yd (Yd.pickF rfl rfl) rfl ?_
              refine WL.yd (Yd.move rfl) rfl ?_
              refine WL.ydg rfl (Yd.move rfl) rfl ?_
              refine WL.ydg rfl (Yd.lss rfl rfl) rfl ?_
              refine WL.know 247 (.bool false) rfl (congrArg Value.bool (decide_eq_false (by omega))) ?_
              refine WL.yd (Yd.pickF rfl rfl) rfl ?_
              refine WL.yd (Yd.move rfl) rfl ?_
              refine WL.ydg rfl (Yd.move rfl) rfl ?_
              refine WL.ydg rfl (Yd.lss rfl rfl) rfl ?_
              refine WL.know 251 (.bool false) rfl (congrArg Value.bool (decide_eq_false (by omega))) ?_
              refine WL.yd (Yd.pickF rfl rfl) rfl ?_
              refine WL.yd (Yd.move rfl) rfl ?_
              refine WL.ydg rfl (Yd.move rfl) rfl ?_
              refine WL.ydg rfl (Yd.move rfl) rfl ?_
              refine WL.sog rfl (SO.call (Enters.val Try.call42 rfl rfl) (fun w hI => size_g s1 (by omega) _)) rfl ?_
              rintro _ _ _ ⟨rfl, rfl, rfl⟩
              refine WL.ydg rfl (Yd.move rfl) rfl ?_
              refine WL.ydg rfl (Yd.move rfl) rfl ?_
              refine WL.sog rfl (SO.call (Enters.val Try.call42 rfl rfl) (fun w hI => size_g t1 (by omega) _)) rfl ?_
              rintro _ _ _ ⟨rfl, rfl, rfl⟩
              refine WL.ydg rfl (Yd.neq rfl rfl) rfl ?_
              refine WL.know 260 (.bool false) rfl (congrArg Value.bool (decide_eq_false (fun h => h (by rw [hpop1])))) ?_
              refine WL.yd (Yd.pickF rfl rfl) rfl ?_
              refine WL.yd (Yd.move rfl) rfl ?_
              refine WL.ydg rfl (Yd.move rfl) rfl ?_
              refine WL.ydg rfl (Yd.move rfl) rfl ?_
              refine WL.ydg rfl (Yd.neq rfl rfl) rfl ?_
              refine WL.know 265 (.bool false) rfl (congrArg Value.bool (decide_eq_false (fun h => h hmt.1.symm))) ?_
              refine WL.yd (Yd.pickF rfl rfl) rfl ?_
              refine WL.yd (Yd.move rfl) rfl ?_
              refine WL.ydg rfl (Yd.move rfl) rfl ?_
              refine WL.ydg rfl (Yd.move rfl) rfl ?_
              refine WL.ydg rfl (Yd.neq rfl rfl) rfl ?_
              refine WL.know 270 (.bool false) rfl (congrArg Value.bool (decide_eq_false (fun h => h hmt.2.symm))) ?_
              refine WL.yd (Yd.pickF rfl rfl) rfl ?_
              refine WL.yd (Yd.move rfl) rfl ?_
              refine WL.ydg rfl (Yd.move rfl) rfl ?_
              refine WL.ydg rfl (Yd.move rfl) rfl ?_
              refine WL.ydg rfl (Yd.neq rfl rfl) rfl ?_
              refine WL.know 275 (.bool false) rfl (congrArg Value.bool (decide_eq_false (fun h => h rfl))) ?_
              refine WL.yd (Yd.pickF rfl rfl) rfl ?_
              refine WL.yd (Yd.move rfl) rfl ?_
              refine WL.ydg rfl (Yd.move rfl) rfl ?_
              refine WL.ydg rfl (Yd.lss rfl rfl) rfl ?_
              refine WL.know 279 (.bool false) rfl (congrArg Value.bool (decide_eq_false (by omega))) ?_
              refine WL.yd (Yd.pickF rfl rfl) rfl ?_
              refine WL.yd (Yd.move rfl) rfl ?_
              refine WL.ydg rfl (Yd.move rfl) rfl ?_
              refine WL.ydg rfl (Yd.lss rfl rfl) rfl ?_
              refine WL.know 283 (.bool false) rfl (congrArg Value.bool (decide_eq_false (by omega))) ?_
              refine WL.yd (Yd.pickF rfl rfl) rfl ?_
              refine WL.yd (Yd.move rfl) rfl ?_
              refine WL.ydg rfl (Yd.move rfl) rfl ?_
              refine WL.ydg rfl (Yd.move rfl) rfl ?_
              refine WL.sog rfl (SO.call (Enters.val Try.call42 rfl rfl) (fun w hI => size_g s2 (by omega) _)) rfl ?_
              rintro _ _ _ ⟨rfl, rfl, rfl⟩
              refine WL.ydg rfl (Yd.move rfl) rfl ?_
              refine WL.ydg rfl (Yd.move rfl) rfl ?_
              refine WL.sog rfl (SO.call (Enters.val Try.call42 rfl rfl) (fun w hI => size_g t2 (by omega) _)) rfl ?_
              rintro _ _ _ ⟨rfl, rfl, rfl⟩
              refine WL.ydg rfl (Yd.neq rfl rfl) rfl ?_
              refine WL.know 292 (.bool false) rfl (congrArg Value.bool (decide_eq_false (fun h => h (by rw [hpop2])))) ?_
              refine WL.yd (Yd.pickF rfl rfl) rfl ?_
              refine WL.nil ?_
              refine WP.thenC ?_
              refine WC.condF rfl ?_
              refine WC.skip ?_
              refine WP.thenC ?_
              refine WC.seq ?_
              refine WC.ofFr [(2, _), (13, _), (14, _)] ⟨rfl, rfl, rfl, trivial⟩ ?_
              refine WC.region ?_
              refine WL.yd (Yd.loadN Try.isAgg25 Try.sizeOf25 rfl (vs := [_, _, _]) rfl (by first | exact (RdN.imm (n := 3) hbD rfl) | exact (RdN.imm (n := 3) hbX rfl))) rfl ?_
              refine WL.so (SO.makes (Enters.func Try.call22 rfl) (fun w hI => PlanO_ok d a1 _ c1 a2 _ c2 _ w hR hI.imm hv he)) rfl ?_
              rintro _ D8 _ ⟨hX8, ⟨b9, c9, r9, rfl, hD9, hn9, hl9⟩, rfl⟩
              have hP9 : PlanR D8 (PlanOut d).1 (some ⟨b9, 0, none⟩) (PlanOut d).1.length := PlanR.ofBlock hD9 _ rfl hl9
              refine WL.yd (Yd.move rfl) rfl ?_
              refine WL.yd (Yd.extract rfl rfl) rfl ?_
              refine WL.yd (Yd.extract rfl rfl) rfl ?_
              refine WL.yd (Yd.assign rfl) rfl ?_
              refine WL.yd (Yd.assign rfl) rfl ?_
              refine WL.nil ?_
              refine WP.thenC ?_
              refine WC.seq ?_
              refine WC.ofFr [(44, _), (43, _), (2, _), (13, _), (14, _)] ⟨rfl, rfl, rfl, rfl, rfl, trivial⟩ ?_
              refine WC.region ?_
              refine WL.so (SO.buildSlice0 Try.underlying26 Try.sizeOf61) rfl ?_
              rintro _ _ _ ⟨b299, hb299, rfl, rfl, rfl⟩ -- NEW
              refine WL.yd (Yd.move rfl) rfl ?_
              refine WL.so (SO.appendAll (f := placeC) (l := (PlanOut d).1) (m := 2) placeC_len placeC_ones [] _ rfl rfl Try.underlying26 Try.sizeOf61 Try.typeInfo61 Try.zeroValue61 rfl rfl rfl rfl hb299 hP9.pl (by show (2 * (_ + _) + 1000) * 16 ≤ 2 ^ 48; omega) (by omega)) rfl ?_
              rintro _ _ _ ⟨u3, hu3, rfl, rfl, rfl⟩
              refine WL.yd (Yd.assign rfl) rfl ?_
              refine WL.nil ?_
              refine WP.thenC ?_
              refine WC.seq ?_
              refine WC.seq ?_
              refine WC.thaw hD9 (hX8.ge hn9 hD9) ?_
              have hX9 := hX8.minus hn9
              replace hR := hR.ext hX9
              replace hRX := hRX.ext hX9
              replace hbD := hX9.old _ _ hbD
              replace hbX := hX9.old _ _ hbX
              replace hS13 := hS13.ext hX9
              replace hS14 := hS14.ext hX9
              generalize D8.minus b9 = D9 at hR hRX hbD hbX hS13 hS14 ⊢
              refine WC.ofFr [(45, _), (44, _), (43, _), (2, _), (13, _), (14, _)] ⟨rfl, rfl, rfl, rfl, rfl, rfl, trivial⟩ ?_
              refine WC.region ?_
              refine WL.yd (Yd.move rfl) rfl ?_
              refine WL.yd (Yd.lenS rfl Try.underlying26 rfl) rfl ?_
              refine WL.yd (Yd.move rfl) rfl ?_
              refine WL.nil ?_
              refine WP.thenC ?_
              refine WC.block ?_
              refine WC.loop (fun y : Nat × List Plc => [(2, pt b2), (13, .slice (some ⟨u1.b, 0, none⟩) d.dippers.length u1.cap), (14, .slice (some ⟨u2.b, 0, none⟩) d.bathers.length u2.cap), (43, .slice (some ⟨b9, 0, none⟩) (PlanOut d).1.length c9), (44, it 0), (45, owV (some u3) (PlanOut d).1.length), (303, nt (PlanOut d).1.length), (304, nt y.1)]) (fun y => [(b9, .cells (List.toArray (y.2.flatMap placeC ++ r9)) 61 (0, 0)), (u3.b, .cells (List.toArray ((PlanOut d).1.flatMap placeC ++ u3.rest)) 61 (0, 0))]) (fun _ => D9) (fun y => y.1 ≤ (PlanOut d).1.length ∧ y.2.length = (PlanOut d).1.length) (fun y => (PlanOut d).1.length - y.1) (0, (PlanOut d).1) ⟨by omega, rfl⟩ (fun a w h => at_fr h ⟨rfl, rfl, rfl, rfl, rfl, rfl, rfl, rfl, trivial⟩) ?_
              rintro ⟨k, l9⟩ ⟨hk, hl99⟩
              dsimp only at hk hl99
              refine WC.seq ?_
              refine WC.ofFr [(2, _), (13, _), (14, _), (43, _), (44, _), (45, _), (303, _), (304, _)] ⟨rfl, rfl, rfl, rfl, rfl, rfl, rfl, rfl, trivial⟩ ?_
              refine WC.region ?_
              refine WL.yd (Yd.lss rfl rfl) rfl ?_
              refine WL.nil ?_
              refine WP.thenC ?_
              refine WC.seq ?_
              refine WC.cond rfl (fun c305 => ?_) (fun c305 => ?_)
              · try simp only [zq1, zq2, zq3, zq4, zq5, zq6, zq7, zq8] at c305
                refine WC.skip ?_
                refine WP.thenC ?_
                refine WC.seq ?_
                refine WC.block ?_
                refine WC.seq ?_
                refine WC.ofFr [(2, _), (13, _), (14, _), (43, _), (44, _), (45, _), (303, _), (304, _)] ⟨rfl, rfl, rfl, rfl, rfl, rfl, rfl, rfl, trivial⟩ ?_
                refine WC.region ?_
                refine WL.yd (Yd.move rfl) rfl ?_
                refine WL.yd (Yd.assign rfl) rfl ?_
                refine WL.nil ?_
                refine WP.thenC ?_
                refine WC.ofFr [(46, _), (2, _), (13, _), (14, _), (43, _), (44, _), (45, _), (303, _), (304, _)] ⟨rfl, rfl, rfl, rfl, rfl, rfl, rfl, rfl, rfl, trivial⟩ ?_
                refine WC.region ?_
                refine WL.yd (Yd.move rfl) rfl ?_
                refine WL.yd (Yd.move rfl) rfl ?_
                refine WL.yd (Yd.indexS Try.underlying26 Try.sizeOf61 rfl rfl (by omega) (by omega) (by first | exact rfl)) rfl ?_
                refine WL.yd (Yd.fieldAddr FA61_0 rfl) rfl ?_
                refine WL.so (SO.storeFlat placeC_len (l := l9) (rest := r9) (i := k) (j := 0) (y := (⟨-9, (gt l9 k).dipper⟩ : Plc)) 0 rfl Try.sizeOf3 rfl rfl rfl (by omega) (by decide) rfl (splice_flat placeC_len (by decide) _ _ _ (by omega) rfl)) rfl ?_
                rintro _ _ _ ⟨rfl, rfl, rfl⟩
                refine WL.nil ?_
                refine WP.blkNormal ?_
                refine WP.thenC ?_
                refine WC.ofFr [(2, _), (13, _), (14, _), (43, _), (44, _), (45, _), (303, _), (304, _)] ⟨rfl, rfl, rfl, rfl, rfl, rfl, rfl, rfl, trivial⟩ ?_
                refine WC.region ?_
                refine WL.yd (Yd.add rfl rfl (wr64 ⟨by omega, by omega⟩)) rfl ?_
                refine WL.yd (Yd.move rfl) rfl ?_
                refine WL.nil ?_
                exact WP.again (⟨k + 1, l9.set k (⟨-9, (gt l9 k).dipper⟩ : Plc)⟩ : Nat × List Plc) ⟨by simp only; omega, by simp only [List.length_set]; exact hl99⟩ (by simp only; omega) (fun aa ww h => at_fr h ⟨rfl, rfl, rfl, rfl, rfl, rfl, rfl, rfl, trivial⟩)
              · try simp only [zq1, zq2, zq3, zq4, zq5, zq6, zq7, zq8] at c305
                refine WC.exit ?_
                refine WP.thenExit ?_
                refine WP.thenExit ?_
                refine WP.blkHit ?_
                refine WP.thenC ?_
                refine WC.seq ?_
                refine WC.freezeOw (f := placeC) (m := 2) placeC_len [_] [] (some u3) 61 (PlanOut d).1 rfl hu3 rfl (fun D10 hX10 hS10 => ?_)
                have hPK : PlanR D10 (PlanOut d).1 (some ⟨u3.b, 0, none⟩) (PlanOut d).1.length := ⟨hS10, by omega⟩
                replace hR := hR.ext hX10
                replace hRX := hRX.ext hX10
                replace hbD := hX10.old _ _ hbD
                replace hbX := hX10.old _ _ hbX
                replace hS13 := hS13.ext hX10
                replace hS14 := hS14.ext hX10
                refine WC.ofFr [(2, _), (13, _), (14, _), (44, _), (45, _)] ⟨rfl, rfl, rfl, rfl, rfl, trivial⟩ ?_
                refine WC.region ?_
                refine WL.yd (Yd.loadN Try.isAgg25 Try.sizeOf25 rfl (vs := [_, _, _]) rfl (by first | exact RdN.own (k := 0) (n := 3) rfl rfl | exact (RdN.imm (n := 3) hbD rfl) | exact (RdN.imm (n := 3) hbX rfl))) rfl ?_
                refine WL.so (SO.makes (Enters.func Try.call22 rfl) (fun w hI => Plan_g d a1 _ c1 a2 _ c2 _ w hR hI.imm)) rfl ?_
                rintro _ D11 _ ⟨hX11, ⟨a12, n12, c12, rfl, hP12⟩, rfl⟩
                replace hPK := hPK.ext hX11
                obtain rfl := hP12.pl.len'
                replace hR := hR.ext hX11
                replace hRX := hRX.ext hX11
                replace hbD := hX11.old _ _ hbD
                replace hbX := hX11.old _ _ hbX
                replace hS13 := hS13.ext hX11
                replace hS14 := hS14.ext hX11
                refine WL.yd (Yd.move rfl) rfl ?_
                refine WL.yd (Yd.extract rfl rfl) rfl ?_
                refine WL.yd (Yd.extract rfl rfl) rfl ?_
                refine WL.yd (Yd.assign rfl) rfl ?_
                refine WL.yd (Yd.assign rfl) rfl ?_
                refine WL.nil ?_
                refine WP.thenC ?_
                refine WC.seq ?_
                refine WC.seq ?_
                refine WC.ofFr [(48, _), (47, _), (2, _), (13, _), (14, _), (44, _), (45, _)] ⟨rfl, rfl, rfl, rfl, rfl, rfl, rfl, trivial⟩ ?_
                refine WC.region ?_
                refine WL.yd (Yd.move rfl) rfl ?_
                refine WL.yd (Yd.move rfl) rfl ?_
                refine WL.yd (Yd.neq rfl rfl) rfl ?_
                refine WL.know 319 (.bool false) rfl (congrArg Value.bool (by rw [he]; decide)) ?_
                refine WL.yd (Yd.move rfl) rfl ?_
                refine WL.ydg rfl (Yd.move rfl) rfl ?_
                refine WL.ydg rfl (Yd.move rfl) rfl ?_
                refine WL.sog rfl (SO.callP Try.call28 rfl (fun w hI => Gives.cv (.bool true) (same_g D11 w hI.imm (PlanOut d).1 a12 _ c12 hP12 (PlanOut d).1 _ _ _ hPK) (congrArg Value.bool (by simp [sameB])))) rfl ?_
                rintro _ _ _ ⟨rfl, rfl, rfl⟩
                refine WL.know 323 (.bool true) rfl rfl ?_
                refine WL.ydg rfl (Yd.not rfl) rfl ?_
                refine WL.yd (Yd.pickF rfl rfl) rfl ?_
                refine WL.nil ?_
                refine WP.thenC ?_
                refine WC.condF rfl ?_
                refine WC.skip ?_
                refine WP.thenC ?_
                refine WC.seq ?_
                refine WC.seq ?_
                refine WC.ofFr [(2, _), (13, _), (14, _)] ⟨rfl, rfl, rfl, trivial⟩ ?_
                refine WC.region ?_
                refine WL.yd (Yd.move rfl) rfl ?_
                refine WL.yd (Yd.lenS rfl Try.underlying22 rfl) rfl ?_
                refine WL.yd (Yd.move rfl) rfl ?_
                refine WL.nil ?_
                refine WP.thenC ?_
                refine WC.block ?_
                refine WC.loopF (fun k : Nat => [(2, pt b2), (13, .slice (some ⟨u1.b, 0, none⟩) d.dippers.length u1.cap), (14, .slice (some ⟨u2.b, 0, none⟩) d.bathers.length u2.cap), (327, nt d.dippers.length), (328, nt k)]) (fun k => k ≤ d.dippers.length) (fun k => d.dippers.length - k) 0 (by omega) (by exact ⟨rfl, rfl, rfl, rfl, rfl, trivial⟩) ?_
                intro k hk
                refine WC.seq ?_
                refine WC.ofFr [(2, _), (13, _), (14, _), (327, _), (328, _)] ⟨rfl, rfl, rfl, rfl, rfl, trivial⟩ ?_
                refine WC.region ?_
                refine WL.yd (Yd.lss rfl rfl) rfl ?_
                refine WL.nil ?_
                refine WP.thenC ?_
                refine WC.seq ?_
                refine WC.cond rfl (fun c329 => ?_) (fun c329 => ?_)
                · try simp only [zq1, zq2, zq3, zq4, zq5, zq6, zq7, zq8] at c329
                  refine WC.skip ?_
                  refine WP.thenC ?_
                  refine WC.seq ?_
                  refine WC.block ?_
                  refine WC.seq ?_
                  refine WC.ofFr [(2, _), (13, _), (14, _), (327, _), (328, _)] ⟨rfl, rfl, rfl, rfl, rfl, trivial⟩ ?_
                  refine WC.region ?_
                  refine WL.yd (Yd.move rfl) rfl ?_
                  refine WL.yd (Yd.assign rfl) rfl ?_
                  refine WL.nil ?_
                  refine WP.thenC ?_
                  refine WC.seq ?_
                  refine WC.ofFr [(49, _), (2, _), (13, _), (14, _), (327, _), (328, _)] ⟨rfl, rfl, rfl, rfl, rfl, rfl, trivial⟩ ?_
                  refine WC.tail 9 [0, 1, 2, 3, 4, 5, 6, 7, 8] rfl (by kernel_rfl) (by kernel_rfl)  ?_
                  refine WQ.q rfl (Yd.qt (Yd.move rfl)) rfl ?_
                  refine WQ.q rfl (Yd.qt (Yd.move rfl)) rfl ?_
                  refine WQ.q rfl (Yd.qt (Yd.indexS Try.underlying22 Try.sizeOf53 rfl rfl (by omega) (by omega) (by first | exact rfl | exact hR.dip.addr k (by omega)))) rfl ?_
                  refine WQ.q rfl (Yd.qt (Yd.loadN Try.isAgg53 Try.sizeOf53 rfl (vs := [_, _, _]) rfl (by first | exact (hS13.at k (by omega)).rdn 0 3 rfl | exact (hR.dip.at k (by omega)).rdn 0 3 rfl))) rfl ?_
                  refine WQ.q rfl (Yd.qt (Yd.fieldAddr FA25_1 rfl)) rfl ?_
                  refine WQ.q rfl (Yd.qt (Yd.load1 Try.isAgg22 rfl (by first | exact (Rd.imm hbD rfl) | exact (Rd.imm hbX rfl)))) rfl ?_
                  refine WQ.q rfl (Yd.qt (Yd.move rfl)) rfl ?_
                  refine WQ.q rfl (Yd.qt (Yd.indexS Try.underlying22 Try.sizeOf53 rfl rfl (by omega) (by omega) (by first | exact rfl | exact hR.dip.addr k (by omega)))) rfl ?_
                  refine WQ.q rfl (Yd.qt (Yd.loadN Try.isAgg53 Try.sizeOf53 rfl (vs := [_, _, _]) rfl (by first | exact (hS13.at k (by omega)).rdn 0 3 rfl | exact (hR.dip.at k (by omega)).rdn 0 3 rfl))) rfl ?_
                  refine WQ.tail ?_
                  refine WL.yd (Yd.neS Try.eqGuardType53 (eq53s _ _ _) rfl rfl) rfl ?_
                  refine WL.know 340 (.bool false) rfl rfl ?_
                  refine WL.nil ?_
                  refine WP.thenC ?_
                  refine WC.condF rfl ?_
                  refine WC.skip ?_
                  refine WP.blkNormal ?_
                  refine WP.thenC ?_
                  refine WC.ofFr [(2, _), (13, _), (14, _), (327, _), (328, _)] ⟨rfl, rfl, rfl, rfl, rfl, trivial⟩ ?_
                  refine WC.region ?_
                  refine WL.yd (Yd.add rfl rfl (wr64 ⟨by omega, by omega⟩)) rfl ?_
                  refine WL.yd (Yd.move rfl) rfl ?_
                  refine WL.nil ?_
                  exact WP.againF (k + 1) (by omega) (by omega) ⟨rfl, rfl, rfl, rfl, rfl, trivial⟩ (fun _ h => h) (fun h => h)
                · try simp only [zq1, zq2, zq3, zq4, zq5, zq6, zq7, zq8] at c329
                  refine WC.exit ?_
                  refine WP.thenExit ?_
                  refine WP.thenExit ?_
                  refine WP.blkHit ?_
                  refine WP.thenC ?_
                  refine WC.seq ?_
                  refine WC.seq ?_
                  refine WC.ofFr [(2, _), (14, _)] ⟨rfl, rfl, trivial⟩ ?_
                  refine WC.region ?_
                  refine WL.yd (Yd.move rfl) rfl ?_
                  refine WL.yd (Yd.lenS rfl Try.underlying23 rfl) rfl ?_
                  refine WL.yd (Yd.move rfl) rfl ?_
                  refine WL.nil ?_
                  refine WP.thenC ?_
                  refine WC.block ?_
                  refine WC.loopF (fun k : Nat => [(2, pt b2), (14, .slice (some ⟨u2.b, 0, none⟩) d.bathers.length u2.cap), (343, nt d.bathers.length), (344, nt k)]) (fun k => k ≤ d.bathers.length) (fun k => d.bathers.length - k) 0 (by omega) (by exact ⟨rfl, rfl, rfl, rfl, trivial⟩) ?_
                  intro k hk
                  refine WC.seq ?_
                  refine WC.ofFr [(2, _), (14, _), (343, _), (344, _)] ⟨rfl, rfl, rfl, rfl, trivial⟩ ?_
                  refine WC.region ?_
                  refine WL.yd (Yd.lss rfl rfl) rfl ?_
                  refine WL.nil ?_
                  refine WP.thenC ?_
                  refine WC.seq ?_
                  refine WC.cond rfl (fun c345 => ?_) (fun c345 => ?_)
                  · try simp only [zq1, zq2, zq3, zq4, zq5, zq6, zq7, zq8] at c345
                    refine WC.skip ?_
                    refine WP.thenC ?_
                    refine WC.seq ?_
                    refine WC.block ?_
                    refine WC.seq ?_
                    refine WC.ofFr [(2, _), (14, _), (343, _), (344, _)] ⟨rfl, rfl, rfl, rfl, trivial⟩ ?_
                    refine WC.region ?_
                    refine WL.yd (Yd.move rfl) rfl ?_
                    refine WL.yd (Yd.assign rfl) rfl ?_
                    refine WL.nil ?_
                    refine WP.thenC ?_
                    refine WC.seq ?_
                    refine WC.ofFr [(50, _), (2, _), (14, _), (343, _), (344, _)] ⟨rfl, rfl, rfl, rfl, rfl, trivial⟩ ?_
                    refine WC.tail 9 [0, 1, 2, 3, 4, 5, 6, 7, 8] rfl (by kernel_rfl) (by kernel_rfl)  ?_
                    refine WQ.q rfl (Yd.qt (Yd.move rfl)) rfl ?_
                    refine WQ.q rfl (Yd.qt (Yd.move rfl)) rfl ?_
                    refine WQ.q rfl (Yd.qt (Yd.indexS Try.underlying23 Try.sizeOf55 rfl rfl (by omega) (by omega) (by first | exact rfl | exact hR.bath.addr k (by omega)))) rfl ?_
                    refine WQ.q rfl (Yd.qt (Yd.loadN Try.isAgg55 Try.sizeOf55 rfl (vs := [_, _, _]) rfl (by first | exact (hS14.at k (by omega)).rdn 0 3 rfl | exact (hR.bath.at k (by omega)).rdn 0 3 rfl))) rfl ?_
                    refine WQ.q rfl (Yd.qt (Yd.fieldAddr FA25_2 rfl)) rfl ?_
                    refine WQ.q rfl (Yd.qt (Yd.load1 Try.isAgg23 rfl (by first | exact (Rd.imm hbD rfl) | exact (Rd.imm hbX rfl)))) rfl ?_
                    refine WQ.q rfl (Yd.qt (Yd.move rfl)) rfl ?_
                    refine WQ.q rfl (Yd.qt (Yd.indexS Try.underlying23 Try.sizeOf55 rfl rfl (by omega) (by omega) (by first | exact rfl | exact hR.bath.addr k (by omega)))) rfl ?_
                    refine WQ.q rfl (Yd.qt (Yd.loadN Try.isAgg55 Try.sizeOf55 rfl (vs := [_, _, _]) rfl (by first | exact (hS14.at k (by omega)).rdn 0 3 rfl | exact (hR.bath.at k (by omega)).rdn 0 3 rfl))) rfl ?_
                    refine WQ.tail ?_
                    refine WL.yd (Yd.neS Try.eqGuardType55 (eq55s _ _ _) rfl rfl) rfl ?_
                    refine WL.know 356 (.bool false) rfl rfl ?_
                    refine WL.nil ?_
                    refine WP.thenC ?_
                    refine WC.condF rfl ?_
                    refine WC.skip ?_
                    refine WP.blkNormal ?_
                    refine WP.thenC ?_
                    refine WC.ofFr [(2, _), (14, _), (343, _), (344, _)] ⟨rfl, rfl, rfl, rfl, trivial⟩ ?_
                    refine WC.region ?_
                    refine WL.yd (Yd.add rfl rfl (wr64 ⟨by omega, by omega⟩)) rfl ?_
                    refine WL.yd (Yd.move rfl) rfl ?_
                    refine WL.nil ?_
                    exact WP.againF (k + 1) (by omega) (by omega) ⟨rfl, rfl, rfl, rfl, trivial⟩ (fun _ h => h) (fun h => h)
                  · try simp only [zq1, zq2, zq3, zq4, zq5, zq6, zq7, zq8] at c345
                    refine WC.exit ?_
                    refine WP.thenExit ?_
                    refine WP.thenExit ?_
                    refine WP.blkHit ?_
                    refine WP.thenC ?_
                    refine WC.seq ?_
                    refine WC.ofFr [] trivial ?_
                    refine WC.region ?_
                    refine WL.so (SO.callP Try.call14 rfl (fun w hI => alive_g _ _ hI.imm)) rfl ?_
                    rintro _ _ _ ⟨rfl, rfl, rfl⟩
                    refine WL.yd (Yd.assign rfl) rfl ?_
                    refine WL.nil ?_
                    refine WP.thenC ?_
                    refine WC.ret ?_
                    refine WP.ret1 rfl rfl Try.results12 (RV.tmp rfl) (fun w hI => ⟨rfl, hI.keep⟩)
            · skip
              refine WC.seq ?_
              refine WC.ofFr [(16, _), (15, _), (2, _), (5, _), (6, _), (8, _), (13, _), (14, _)] ⟨rfl, rfl, rfl, rfl, rfl, rfl, rfl, rfl, trivial⟩ ?_
              refine WC.region ?_
              refine WL.yd (Yd.move rfl) rfl ?_
              refine WL.nil ?_
              refine WP.thenC ?_
              refine WC.cond rfl (fun c138 => ?_) (fun c138 => ?_)
              · try simp only [zq1, zq2, zq3, zq4, zq5, zq6, zq7, zq8] at c138
                have hmi : madeIs d = true := by simpa using c138
                have hown := made_ok hv by_ 0 hmi
                obtain rfl : n8 = d.bathers.length := by have := hP8.pl.len'; rw [hown.2] at this; exact this
                have hrt := right_tur htur hv hvx hown.2 hown.1
                refine WC.seq ?_
                refine WC.ofFr [(15, _), (2, _), (5, _), (6, _), (8, _), (13, _), (14, _)] ⟨rfl, rfl, rfl, rfl, rfl, rfl, rfl, trivial⟩ ?_
                refine WC.region ?_
                refine WL.yd (Yd.move rfl) rfl ?_
                refine WL.so (SO.makeSlice Try.underlying26 Try.sizeOf61 Try.typeInfo61 Try.zeroValue61 rfl rfl rfl (by omega) (by show (16 : Int) * _ ≤ _; omega)) rfl ?_
                rintro _ _ _ ⟨b140, hb140, rfl, rfl, rfl⟩ -- NEW
                refine WL.yd (Yd.assign rfl) rfl ?_
                refine WL.nil ?_
                refine WP.thenC ?_
                refine WC.seq ?_
                refine WC.seq ?_
                refine WC.ofFr [(17, _), (15, _), (2, _), (5, _), (6, _), (8, _), (13, _), (14, _)] ⟨rfl, rfl, rfl, rfl, rfl, rfl, rfl, rfl, trivial⟩ ?_
                refine WC.region ?_
                refine WL.yd (Yd.move rfl) rfl ?_
                refine WL.yd (Yd.lenS rfl Try.underlying26 rfl) rfl ?_
                refine WL.yd (Yd.move rfl) rfl ?_
                refine WL.nil ?_
                refine WP.thenC ?_
                refine WC.block ?_
                refine WC.loop (fun k : Nat => [(2, pt b2), (5, nt d.bathers.length), (6, nt d.dippers.length), (8, pt b8), (13, .slice (some ⟨u1.b, 0, none⟩) d.dippers.length u1.cap), (14, .slice (some ⟨u2.b, 0, none⟩) d.bathers.length u2.cap), (15, .slice a8 d.bathers.length c8), (17, .slice (some ⟨b140, 0, none⟩) d.bathers.length d.bathers.length), (141, .slice a8 d.bathers.length c8), (142, nt d.bathers.length), (143, nt k)]) (fun k => [(b140, .cells (List.toArray ((backL d (madeL d by_ 0) k).flatMap placeC ++ [])) 61 (0, 0))]) (fun _ => D6) (fun k => k ≤ d.bathers.length) (fun k => d.bathers.length - k) 0 (by omega) (fun a w h => by
                    show At _ _ _ [(b140, .cells (List.toArray ((backL d (madeL d by_ 0) 0).flatMap placeC ++ [])) 61 (0, 0))] a w
                    rw [backL_zero, List.append_nil]
                    exact at_less h ⟨rfl, rfl, rfl, rfl, rfl, rfl, rfl, rfl, rfl, rfl, rfl, trivial⟩ (fun e he => by rw [List.mem_singleton.1 he]; exact List.mem_cons_self ..) (fun _ => by simp)) ?_
                intro k hk
                refine WC.seq ?_
                refine WC.ofFr [(2, _), (5, _), (6, _), (8, _), (13, _), (14, _), (15, _), (17, _), (141, _), (142, _), (143, _)] ⟨rfl, rfl, rfl, rfl, rfl, rfl, rfl, rfl, rfl, rfl, rfl, trivial⟩ ?_
                refine WC.region ?_
                refine WL.yd (Yd.lss rfl rfl) rfl ?_
                refine WL.nil ?_
                refine WP.thenC ?_
                refine WC.seq ?_
                refine WC.cond rfl (fun c144 => ?_) (fun c144 => ?_)
                · try simp only [zq1, zq2, zq3, zq4, zq5, zq6, zq7, zq8] at c144
                  have hpk := hown.1 k (by omega)
                  refine WC.skip ?_
                  refine WP.thenC ?_
                  refine WC.seq ?_
                  refine WC.block ?_
                  refine WC.seq ?_
                  refine WC.ofFr [(2, _), (5, _), (6, _), (8, _), (13, _), (14, _), (15, _), (17, _), (141, _), (142, _), (143, _)] ⟨rfl, rfl, rfl, rfl, rfl, rfl, rfl, rfl, rfl, rfl, rfl, trivial⟩ ?_
                  refine WC.region ?_
                  refine WL.yd (Yd.move rfl) rfl ?_
                  refine WL.yd (Yd.indexS Try.underlying26 Try.sizeOf61 rfl rfl (by omega) (by omega) (by first | exact hP8.pl.addr k (by omega))) rfl ?_
                  refine WL.yd (Yd.loadN Try.isAgg61 Try.sizeOf61 rfl (vs := [_, _]) rfl (by first | exact RdN.own (k := 0) (n := 2) rfl rfl | exact (hP8.pl.at k (by omega)).rdn 0 2 rfl)) rfl ?_
                  refine WL.so (SO.alloc Try.zeroValue61 rfl) rfl ?_
                  rintro _ _ _ ⟨b19, hb19, rfl, rfl, rfl⟩ -- NEW
                  refine WL.yd (Yd.assign rfl) rfl ?_
                  refine WL.so (SO.store 0 rfl Try.sizeOf61 rfl rfl rfl rfl (Nat.le_of_ble_eq_true rfl) (oneB_spec rfl)) rfl ?_
                  rintro _ _ _ ⟨rfl, rfl, rfl⟩
                  refine WL.nil ?_
                  refine WP.thenC ?_
                  refine WC.ofFr [(18, _), (19, _), (2, _), (5, _), (6, _), (8, _), (13, _), (14, _), (15, _), (17, _), (141, _), (142, _), (143, _)] ⟨rfl, rfl, rfl, rfl, rfl, rfl, rfl, rfl, rfl, rfl, rfl, rfl, rfl, trivial⟩ ?_
                  refine WC.region ?_
                  refine WL.yd (Yd.move rfl) rfl ?_
                  refine WL.yd (Yd.move rfl) rfl ?_
                  refine WL.yd (Yd.subN (j := 1) rfl rfl (by omega) (by omega)) rfl ?_
                  refine WL.yd (Yd.move rfl) rfl ?_
                  refine WL.yd (Yd.subN rfl rfl (by omega) (by omega)) rfl ?_
                  refine WL.yd (Yd.fieldAddr FA25_0 rfl) rfl ?_
                  refine WL.yd (Yd.load1 Try.isAgg3 rfl (by first | exact Rd.own (k := 0) rfl rfl | exact Rd.own (k := 1) rfl rfl | exact (Rd.imm hbD rfl) | exact (Rd.imm hbX rfl))) rfl ?_
                  refine WL.yd (Yd.sub rfl rfl (wr64 ⟨by omega, by omega⟩)) rfl ?_
                  refine WL.yd (Yd.fieldAddr FA61_0 rfl) rfl ?_
                  refine WL.yd (Yd.load1 Try.isAgg3 rfl (by first | exact Rd.own (k := 0) rfl rfl | exact Rd.own (k := 1) rfl rfl | exact (Rd.imm hbD rfl) | exact (Rd.imm hbX rfl))) rfl ?_
                  refine WL.yd (Yd.sub rfl rfl (wr64 ⟨by omega, by omega⟩)) rfl ?_
                  refine WL.yd (Yd.move rfl) rfl ?_
                  refine WL.yd (Yd.sub rfl rfl (wr64 ⟨by omega, by omega⟩)) rfl ?_
                  refine WL.yd (Yd.fieldAddr FA61_1 rfl) rfl ?_
                  refine WL.yd (Yd.load1 Try.isAgg3 rfl (by first | exact Rd.own (k := 0) rfl rfl | exact Rd.own (k := 1) rfl rfl | exact (Rd.imm hbD rfl) | exact (Rd.imm hbX rfl))) rfl ?_
                  refine WL.yd (Yd.sub rfl rfl (wr64 ⟨by omega, by omega⟩)) rfl ?_
                  refine WL.yd (Yd.build SA61 rfl (cs := [_, _]) rfl) rfl ?_
                  refine WL.yd (Yd.indexS Try.underlying26 Try.sizeOf61 rfl rfl (by omega) (by omega) (by first | exact rfl)) rfl ?_
                  refine WL.so (SO.storeRow (f := placeC) (m := 2) placeC_len (l := backL d (madeL d by_ 0) k) (rest := []) (i := d.bathers.length - 1 - k) (y := turnP d (gt (madeL d by_ 0) k)) 1 rfl Try.sizeOf61 rfl rfl rfl (by rw [backL_len]; omega) (oneB_spec rfl)) rfl ?_
                  rintro _ _ _ ⟨rfl, rfl, rfl⟩
                  rw [backL_step d _ (by omega)]
                  refine WL.nil ?_
                  refine WP.blkNormal ?_
                  refine WP.thenC ?_
                  refine WC.ofFr [(2, _), (5, _), (6, _), (8, _), (13, _), (14, _), (15, _), (17, _), (141, _), (142, _), (143, _)] ⟨rfl, rfl, rfl, rfl, rfl, rfl, rfl, rfl, rfl, rfl, rfl, trivial⟩ ?_
                  refine WC.region ?_
                  refine WL.yd (Yd.add rfl rfl (wr64 ⟨by omega, by omega⟩)) rfl ?_
                  refine WL.yd (Yd.move rfl) rfl ?_
                  refine WL.nil ?_
                  exact WP.again (k + 1 : Nat) (by omega) (by omega) (fun aa ww h => at_less h ⟨rfl, rfl, rfl, rfl, rfl, rfl, rfl, rfl, rfl, rfl, rfl, trivial⟩ (fun e he => by rw [List.mem_singleton.1 he]; exact List.mem_cons_of_mem _ (List.mem_cons_self ..)) (fun _ => by simp))
                · try simp only [zq1, zq2, zq3, zq4, zq5, zq6, zq7, zq8] at c144
                  refine WC.exit ?_
                  refine WP.thenExit ?_
                  refine WP.thenExit ?_
                  refine WP.blkHit ?_
                  refine WP.thenC ?_
                  refine WC.seq ?_
                  obtain rfl : k = d.bathers.length := by omega
                  refine WC.freezeK 0 rfl (fun hn140 => ?_)
                  have hXk := (DExt.refl w D6).add (o := .cells (List.toArray ((backL d (madeL d by_ 0) d.bathers.length).flatMap placeC ++ [])) 61 (0, 0)) hn140 hb140
                  have hPB : PlanR (D6.add b140 (.cells (List.toArray ((backL d (madeL d by_ 0) d.bathers.length).flatMap placeC ++ [])) 61 (0, 0))) (turnL d (madeL d by_ 0)) (some ⟨b140, 0, none⟩) d.bathers.length := by
                    rw [← backL_all]
                    exact PlanR.ofBlock (Imm.add_self _ _ _) _ (backL_len _ _ _).symm (by omega)
                  replace hR := hR.ext hXk
                  replace hRX := hRX.ext hXk
                  replace hbD := hXk.old _ _ hbD
                  replace hbX := hXk.old _ _ hbX
                  replace hS13 := hS13.ext hXk
                  replace hS14 := hS14.ext hXk
                  replace hP8 := hP8.ext hXk
                  generalize D6.add b140 _ = D7 at hR hRX hbD hbX hS13 hS14 hP8 hPB ⊢
                  refine WC.ofFr [(2, _), (8, _), (13, _), (14, _), (15, _), (17, _)] ⟨rfl, rfl, rfl, rfl, rfl, rfl, trivial⟩ ?_
                  refine WC.region ?_
                  refine WL.yd (Yd.loadN Try.isAgg25 Try.sizeOf25 rfl (vs := [_, _, _]) rfl (by first | exact (RdN.imm (n := 3) hbD rfl) | exact (RdN.imm (n := 3) hbX rfl))) rfl ?_
                  refine WL.yd (Yd.move rfl) rfl ?_
                  refine WL.so (SO.callP Try.call17 rfl (fun w hI => Right_g d a1 _ c1 a2 _ c2 _ w hR hI.imm (madeL d by_ 0) a8 _ c8 hP8)) rfl ?_
                  rintro _ _ _ ⟨rfl, rfl, rfl⟩
                  refine WL.yd (Yd.move rfl) rfl ?_
                  refine WL.yd (Yd.extract rfl rfl) rfl ?_
                  refine WL.yd (Yd.extract rfl rfl) rfl ?_
                  refine WL.yd (Yd.assign rfl) rfl ?_
                  refine WL.yd (Yd.assign rfl) rfl ?_
                  refine WL.nil ?_
                  refine WP.thenC ?_
                  refine WC.seq ?_
                  refine WC.ofFr [(21, _), (20, _), (2, _), (8, _), (13, _), (14, _), (17, _)] ⟨rfl, rfl, rfl, rfl, rfl, rfl, rfl, trivial⟩ ?_
                  refine WC.region ?_
                  refine WL.yd (Yd.loadN Try.isAgg25 Try.sizeOf25 rfl (vs := [_, _, _]) rfl (by first | exact (RdN.imm (n := 3) hbD rfl) | exact (RdN.imm (n := 3) hbX rfl))) rfl ?_
                  refine WL.yd (Yd.move rfl) rfl ?_
                  refine WL.so (SO.callP Try.call17 rfl (fun w hI => Gives.cv (.tuple #[it (RightR d (madeL d by_ 0)).1, it (RightR d (madeL d by_ 0)).2]) (Right_g (turnD d) ax _ cx ay _ cy _ w hRX hI.imm (turnL d (madeL d by_ 0)) (some ⟨b140, 0, none⟩) _ _ hPB) (by rw [hrt.1]))) rfl ?_
                  rintro _ _ _ ⟨rfl, rfl, rfl⟩
                  refine WL.yd (Yd.move rfl) rfl ?_
                  refine WL.yd (Yd.extract rfl rfl) rfl ?_
                  refine WL.yd (Yd.extract rfl rfl) rfl ?_
                  refine WL.yd (Yd.assign rfl) rfl ?_
                  refine WL.yd (Yd.assign rfl) rfl ?_
                  refine WL.nil ?_
                  refine WP.thenC ?_
                  refine WC.seq ?_
                  refine WC.ofFr [(23, _), (22, _), (21, _), (20, _), (2, _), (8, _), (13, _), (14, _)] ⟨rfl, rfl, rfl, rfl, rfl, rfl, rfl, rfl, trivial⟩ ?_
                  refine WC.region ?_
                  refine WL.yd (Yd.move rfl) rfl ?_
                  refine WL.yd (Yd.move rfl) rfl ?_
                  refine WL.yd (Yd.neq rfl rfl) rfl ?_
                  refine WL.know 181 (.bool false) rfl (congrArg Value.bool (decide_eq_false (fun h => h rfl))) ?_
                  refine WL.yd (Yd.move rfl) rfl ?_
                  refine WL.ydg rfl (Yd.move rfl) rfl ?_
                  refine WL.ydg rfl (Yd.neq rfl rfl) rfl ?_
                  refine WL.know 184 (.bool false) rfl (congrArg Value.bool (by rw [hrt.2]; decide)) ?_
                  refine WL.yd (Yd.pickF rfl rfl) rfl ?_
                  refine WL.yd (Yd.move rfl) rfl ?_
                  refine WL.ydg rfl (Yd.move rfl) rfl ?_
                  refine WL.ydg rfl (Yd.neq rfl rfl) rfl ?_
                  refine WL.know 188 (.bool false) rfl (congrArg Value.bool (by rw [hrt.2]; decide)) ?_
                  refine WL.yd (Yd.pickF rfl rfl) rfl ?_
                  refine WL.nil ?_
                  refine WP.thenC ?_
                  refine WC.condF rfl ?_
                  refine WC.skip ?_
                  exact WP.join _ ⟨hR, hRX, hbD, hbX, hS13, hS14⟩ (fun aa ww h => at_less h ⟨rfl, rfl, rfl, rfl, trivial⟩ (fun e he => by cases he) (fun _ => List.nodup_nil))
              · try simp only [zq1, zq2, zq3, zq4, zq5, zq6, zq7, zq8] at c138
                refine WC.skip ?_
                exact WP.join _ ⟨hR, hRX, hbD, hbX, hS13, hS14⟩ (fun aa ww h => at_less h ⟨rfl, rfl, rfl, rfl, trivial⟩ (fun e he => by cases he) (fun _ => List.nodup_nil))
          · skip
            refine WC.ofFr [(1, _), (2, _), (5, _), (6, _), (8, _)] ⟨rfl, rfl, rfl, rfl, rfl, trivial⟩ ?_
            refine WC.drawH [] (by kernel_rfl) (fun _ hI => hI.drop 99) ?_
            refine WH.yd (i := 1) (by kernel_rfl) (fun _ o v c a w _ h => (QuietPanic.then QuietPanic.body) c o.dst v a w h) rfl (Yd.fieldAddr FA25_1 rfl) rfl ?_
            refine WH.yd (i := 2) (by kernel_rfl) (fun _ o v c a w _ h => (QuietPanic.then QuietPanic.body) c o.dst v a w h) rfl (Yd.load1 Try.isAgg22 rfl (by first | exact (Rd.imm hbD rfl) | exact (Rd.imm hbX rfl))) rfl ?_
            refine WH.yd (i := 5) (by kernel_rfl) (fun _ o v c a w _ h => (QuietPanic.then QuietPanic.body) c o.dst v a w h) rfl (Yd.fieldAddr FA25_2 rfl) rfl ?_
            refine WH.yd (i := 6) (by kernel_rfl) (fun _ o v c a w _ h => (QuietPanic.then QuietPanic.body) c o.dst v a w h) rfl (Yd.load1 Try.isAgg23 rfl (by first | exact (Rd.imm hbD rfl) | exact (Rd.imm hbX rfl))) rfl ?_
            refine WH.two (i := 0) (j := 4) (by kernel_rfl) ?_ ?_
            · refine WHo.so rfl (SO.buildSlice0 Try.underlying22 Try.sizeOf53) rfl ?_
              rintro _ _ _ ⟨b123, hb123, rfl, rfl, rfl⟩ -- NEW
              refine ⟨(fun _ hI => hI.drop 99), ?_⟩
              refine WH.two (i := 3) (j := 4) (by kernel_rfl) ?_ ?_
              · refine WHo.so rfl (SO.appendAll (f := dipperC) (l := d.dippers) (m := 3) dipperC_len dipperC_ones [] _ rfl rfl Try.underlying22 Try.sizeOf53 Try.typeInfo53 Try.zeroValue53 rfl rfl rfl rfl hb123 hR.dip (by show (2 * (_ + _) + 1000) * 24 ≤ 2 ^ 48; omega) (by omega)) rfl ?_
                rintro _ _ _ ⟨u1, hu1, rfl, rfl, rfl⟩
                refine ⟨(fun _ hI => hI.drop 99), ?_⟩
                refine WH.one (i := 4) (by kernel_rfl) (WHo.so rfl (SO.buildSlice0 Try.underlying23 Try.sizeOf55) rfl ?_)
                rintro _ _ _ ⟨b127, hb127, rfl, rfl, rfl⟩ -- NEW
                refine ⟨(fun _ hI => hI.drop 99), ?_⟩
                refine WH.one (i := 7) (by kernel_rfl) (WHo.so rfl (SO.appendAll (f := batherC) (l := d.bathers) (m := 3) batherC_len batherC_ones [] _ rfl rfl Try.underlying23 Try.sizeOf55 Try.typeInfo55 Try.zeroValue55 rfl rfl rfl rfl hb127 hR.bath (by show (2 * (_ + _) + 1000) * 24 ≤ 2 ^ 48; omega) (by omega)) rfl ?_)
                rintro _ _ _ ⟨u2, hu2, rfl, rfl, rfl⟩
                refine ⟨(fun _ hI => hI.drop 99), ?_⟩
                refine WH.yd (i := 8) (by kernel_rfl) (fun _ o v c a w _ h => (QuietPanic.then QuietPanic.body) c o.dst v a w h) rfl (Yd.assign rfl) rfl ?_
                refine WH.yd (i := 9) (by kernel_rfl) (fun _ o v c a w _ h => (QuietPanic.then QuietPanic.body) c o.dst v a w h) rfl (Yd.assign rfl) rfl ?_
                refine WH.nil (by kernel_rfl) ?_
                first
                  | exact WP.join (u1, u2) ⟨hu1, hu2⟩ (fun aa ww h => at_fr h ⟨rfl, rfl, rfl, rfl, rfl, rfl, rfl, trivial⟩)
                  | exact WP.join (u1, u2) ⟨hu1, hu2⟩ (fun aa ww h => at_less h ⟨rfl, rfl, rfl, rfl, rfl, rfl, rfl, trivial⟩ (fun e he => (List.Perm.swap _ _ _).mem_iff.1 he) (fun hn => ((List.Perm.swap _ _ _).map Prod.fst).nodup_iff.1 hn))
              · refine WHo.so rfl (SO.buildSlice0 Try.underlying23 Try.sizeOf55) rfl ?_
                rintro _ _ _ ⟨b127, hb127, rfl, rfl, rfl⟩ -- NEW
                refine ⟨(fun _ hI => hI.drop 99), ?_⟩
                refine WH.one (i := 3) (by kernel_rfl) (WHo.so rfl (SO.appendAll (f := dipperC) (l := d.dippers) (m := 3) dipperC_len dipperC_ones [_] _ rfl rfl Try.underlying22 Try.sizeOf53 Try.typeInfo53 Try.zeroValue53 rfl rfl rfl rfl hb123 hR.dip (by show (2 * (_ + _) + 1000) * 24 ≤ 2 ^ 48; omega) (by omega)) rfl ?_)
                rintro _ _ _ ⟨u1, hu1, rfl, rfl, rfl⟩
                refine ⟨(fun _ hI => hI.drop 99), ?_⟩
                refine WH.one (i := 7) (by kernel_rfl) (WHo.so rfl (SO.appendAll (f := batherC) (l := d.bathers) (m := 3) batherC_len batherC_ones [] _ rfl rfl Try.underlying23 Try.sizeOf55 Try.typeInfo55 Try.zeroValue55 rfl rfl rfl rfl hb127 hR.bath (by show (2 * (_ + _) + 1000) * 24 ≤ 2 ^ 48; omega) (by omega)) rfl ?_)
                rintro _ _ _ ⟨u2, hu2, rfl, rfl, rfl⟩
                refine ⟨(fun _ hI => hI.drop 99), ?_⟩
                refine WH.yd (i := 8) (by kernel_rfl) (fun _ o v c a w _ h => (QuietPanic.then QuietPanic.body) c o.dst v a w h) rfl (Yd.assign rfl) rfl ?_
                refine WH.yd (i := 9) (by kernel_rfl) (fun _ o v c a w _ h => (QuietPanic.then QuietPanic.body) c o.dst v a w h) rfl (Yd.assign rfl) rfl ?_
                refine WH.nil (by kernel_rfl) ?_
                first
                  | exact WP.join (u1, u2) ⟨hu1, hu2⟩ (fun aa ww h => at_fr h ⟨rfl, rfl, rfl, rfl, rfl, rfl, rfl, trivial⟩)
                  | exact WP.join (u1, u2) ⟨hu1, hu2⟩ (fun aa ww h => at_less h ⟨rfl, rfl, rfl, rfl, rfl, rfl, rfl, trivial⟩ (fun e he => (List.Perm.swap _ _ _).mem_iff.1 he) (fun hn => ((List.Perm.swap _ _ _).map Prod.fst).nodup_iff.1 hn))
            · refine WHo.so rfl (SO.buildSlice0 Try.underlying23 Try.sizeOf55) rfl ?_
              rintro _ _ _ ⟨b127, hb127, rfl, rfl, rfl⟩ -- NEW
              refine ⟨(fun _ hI => hI.drop 99), ?_⟩
              refine WH.one (i := 0) (by kernel_rfl) (WHo.so rfl (SO.buildSlice0 Try.underlying22 Try.sizeOf53) rfl ?_)
              rintro _ _ _ ⟨b123, hb123, rfl, rfl, rfl⟩ -- NEW
              refine ⟨(fun _ hI => hI.drop 99), ?_⟩
              refine WH.one (i := 3) (by kernel_rfl) (WHo.so rfl (SO.appendAll (f := dipperC) (l := d.dippers) (m := 3) dipperC_len dipperC_ones [] _ rfl rfl Try.underlying22 Try.sizeOf53 Try.typeInfo53 Try.zeroValue53 rfl rfl rfl rfl hb123 hR.dip (by show (2 * (_ + _) + 1000) * 24 ≤ 2 ^ 48; omega) (by omega)) rfl ?_)
              rintro _ _ _ ⟨u1, hu1, rfl, rfl, rfl⟩
              refine ⟨(fun _ hI => hI.drop 99), ?_⟩
              refine WH.one (i := 7) (by kernel_rfl) (WHo.so rfl (SO.appendAll (f := batherC) (l := d.bathers) (m := 3) batherC_len batherC_ones [_] _ rfl rfl Try.underlying23 Try.sizeOf55 Try.typeInfo55 Try.zeroValue55 rfl rfl rfl rfl hb127 hR.bath (by show (2 * (_ + _) + 1000) * 24 ≤ 2 ^ 48; omega) (by omega)) rfl ?_)
              rintro _ _ _ ⟨u2, hu2, rfl, rfl, rfl⟩
              refine ⟨(fun _ hI => hI.drop 99), ?_⟩
              refine WH.yd (i := 8) (by kernel_rfl) (fun _ o v c a w _ h => (QuietPanic.then QuietPanic.body) c o.dst v a w h) rfl (Yd.assign rfl) rfl ?_
              refine WH.yd (i := 9) (by kernel_rfl) (fun _ o v c a w _ h => (QuietPanic.then QuietPanic.body) c o.dst v a w h) rfl (Yd.assign rfl) rfl ?_
              refine WH.nil (by kernel_rfl) ?_
              first
                | exact WP.join (u1, u2) ⟨hu1, hu2⟩ (fun aa ww h => at_fr h ⟨rfl, rfl, rfl, rfl, rfl, rfl, rfl, trivial⟩)
                | exact WP.join (u1, u2) ⟨hu1, hu2⟩ (fun aa ww h => at_less h ⟨rfl, rfl, rfl, rfl, rfl, rfl, rfl, trivial⟩ (fun e he => (List.Perm.swap _ _ _).mem_iff.1 he) (fun hn => ((List.Perm.swap _ _ _).map Prod.fst).nodup_iff.1 hn))

theorem turned_g (d : Dips) (a1 : Option Addr) (n1 c1 : Nat) (a2 : Option Addr) (n2 c2 : Nat) (D : Imm) (w : World) (hS1 : SlL D 3 (d.dippers.map dipperC) a1 n1) (hS2 : SlL D 3 (d.bathers.map batherC) a2 n2) (hH : Holds D w) (by_ : List Int) (a4 : Option Addr) (n4 c4 : Nat) (hS4 : SlL D 1 (by_.map u16C) a4 n4) (hby : ∀ i, i < by_.length → 0 ≤ gt by_ i ∧ gt by_ i ≤ 65535) : Gives Try.prog 12 [.agg #[it d.hours, .slice a1 n1 c1, .slice a2 n2 c2], .slice a4 n4 c4] w (.bool true) := by
  cases hv : dipsB d with
  | false => exact turned_1 d a1 n1 c1 a2 n2 c2 D w hS1 hS2 hH by_ a4 n4 c4 hS4 hby hv
  | true =>
    rcases plan_n hv with ⟨h1, _⟩ | ⟨h1, _, h3⟩
    · exact turned_b d a1 n1 c1 a2 n2 c2 D w hS1 hS2 hH by_ a4 n4 c4 hS4 hby hv h1
    · exact turned_a d a1 n1 c1 a2 n2 c2 D w hS1 hS2 hH by_ a4 n4 c4 hS4 hby hv h1 h3

end Go.Proofs.Ytidjdonppfegiaa
