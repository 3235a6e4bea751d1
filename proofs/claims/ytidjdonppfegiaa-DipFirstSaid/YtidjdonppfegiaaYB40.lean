import Derived.Test.YtidjdonppfegiaaXS
import Derived.Test.YtidjdonppfegiaaXQ
import Derived.Test.YtidjdonppfegiaaXT
import Derived.Test.YtidjdonppfegiaaXP
import Derived.Test.YtidjdonppfegiaaXK
set_option linter.unusedSimpArgs false
set_option linter.unusedVariables false
set_option linter.all false
namespace Go.Proofs.Ytidjdonppfegiaa
open Go.W Go.Dp

set_option maxRecDepth 100000 in
set_option maxHeartbeats 1000000 in
theorem enough_n (d : Dips) (a1 : Option Addr) (n1 c1 : Nat) (a2 : Option Addr) (n2 c2 : Nat) (D : Imm) (w : World) (hR : DipsR D d a1 n1 a2 n2) (hH : Holds D w) (hv : dipsB d = true) (t : Nat) (ht : t ≤ 1000) (b3 : Nat) (hX : D b3 = some (.cells (List.toArray [it d.hours, .slice a1 n1 c1, .slice a2 n2 c2]) 25 (0, 0))) (hl : d.dippers ≠ []) : Gives Try.prog 41 [nt t, pt b3] w (.bool (byCan d t)) := by
  unfold Gives
  obtain rfl := hR.dip.len'
  obtain rfl := hR.bath.len'
  have hl1 := hR.len1
  have hl2 := hR.len2
  have hnum := dips_num hv
  refine enter Try.func41 rfl 38 Try.ntmps41 (Nat.le_of_ble_eq_true rfl) (Inv.start hH) ?_
  refine WC.seq ?_
  refine WC.ofFr [(0, _), (1, _)] ⟨rfl, rfl, trivial⟩ ?_
  refine WC.region ?_
  refine WL.yd (Yd.assign rfl) rfl ?_
  refine WL.nil ?_
  refine WP.thenC ?_
  refine WC.seq ?_
  refine WC.ofFr [(3, _), (0, _), (1, _)] ⟨rfl, rfl, rfl, trivial⟩ ?_
  refine WC.region ?_
  refine WL.yd (Yd.loadN Try.isAgg25 Try.sizeOf25 rfl (vs := [_, _, _]) rfl (by first | exact (RdN.imm (n := 3) hX rfl))) rfl ?_
  refine WL.so (SO.alloc Try.zeroValue25 rfl) rfl ?_
  rintro _ _ _ ⟨b4, hb4, rfl, rfl, rfl⟩ -- NEW
  refine WL.so (SO.store 0 rfl Try.sizeOf25 rfl rfl rfl rfl (Nat.le_of_ble_eq_true rfl) (oneB_spec rfl)) rfl ?_
  rintro _ _ _ ⟨rfl, rfl, rfl⟩
  refine WL.nil ?_
  refine WP.thenC ?_
  refine WC.seq ?_
  refine WC.ofFr [(4, _), (3, _), (0, _), (1, _)] ⟨rfl, rfl, rfl, rfl, trivial⟩ ?_
  refine WC.region ?_
  refine WL.so (SO.buildSlice0 Try.underlying22 Try.sizeOf53) rfl ?_
  rintro _ _ _ ⟨b9, hb9, rfl, rfl, rfl⟩ -- NEW
  refine WL.yd (Yd.fieldAddr FA25_1 rfl) rfl ?_
  refine WL.yd (Yd.load1 Try.isAgg22 rfl (by first | exact Rd.own (k := 0) rfl rfl | exact Rd.own (k := 1) rfl rfl | exact (Rd.imm hX rfl))) rfl ?_
  refine WL.so (SO.appendSome (o := ⟨b9, 0, []⟩) (len := 0) (n := d.dippers.length) (xs := []) (ys := d.dippers.flatMap dipperC) (size := 3) [] _ rfl rfl Try.underlying22 Try.sizeOf53 Try.typeInfo53 Try.zeroValue53 rfl rfl rfl rfl (hR.dip.rdS dipperC_len (fun e => absurd e hl)) (dipperC_one _) ⟨hb9, Nat.le_refl _, rfl⟩ rfl (by show (2 * (_ + _) + 1000) * 24 ≤ 2 ^ 48; omega) (by omega)) rfl ?_
  rintro _ _ _ ⟨u, hu, rfl, rfl, rfl⟩
  rw [Nat.zero_add] at hu ⊢
  refine WL.yd (Yd.fieldAddr FA25_1 rfl) rfl ?_
  refine WL.so (SO.store 1 rfl Try.sizeOf22 rfl rfl rfl rfl (Nat.le_of_ble_eq_true rfl) (oneB_spec rfl)) rfl ?_
  rintro _ _ _ ⟨rfl, rfl, rfl⟩
  refine WL.nil ?_
  refine WP.thenC ?_
  refine WC.seq ?_
  refine WC.seq ?_
  refine WC.ofFr [(4, _), (3, _), (0, _)] ⟨rfl, rfl, rfl, trivial⟩ ?_
  refine WC.region ?_
  refine WL.yd (Yd.fieldAddr FA25_1 rfl) rfl ?_
  refine WL.yd (Yd.load1 Try.isAgg22 rfl (by first | exact Rd.own (k := 0) rfl rfl | exact Rd.own (k := 1) rfl rfl | exact (Rd.imm hX rfl))) rfl ?_
  refine WL.yd (Yd.lenS rfl Try.underlying22 rfl) rfl ?_
  refine WL.yd (Yd.move rfl) rfl ?_
  refine WL.nil ?_
  refine WP.thenC ?_
  refine WC.block ?_
  refine WC.loop (fun k : Nat => [(0, nt t), (4, pt b4), (15, .slice (owA (some u)) d.dippers.length (owC (some u) d.dippers.length)), (16, nt d.dippers.length), (17, nt k)]) (fun k => [(b4, .cells (List.toArray [it d.hours, .slice (owA (some u)) d.dippers.length (owC (some u) d.dippers.length), .slice a2 d.bathers.length c2]) 25 (0, 0)), (u.b, .cells (List.toArray (dCs d.dippers t k ++ u.rest)) 53 (0, 0))]) (fun _ => D) (fun k => k ≤ d.dippers.length) (fun k => d.dippers.length - k) 0 (by omega) (fun a w h => by skip; exact at_less h ⟨rfl, rfl, rfl, rfl, rfl, trivial⟩ (fun e he => by simp only [List.mem_cons, List.mem_nil_iff, or_false] at he; rcases he with rfl | rfl <;> first | exact List.mem_cons_self .. | exact List.mem_cons_of_mem _ (List.mem_cons_self ..)) (fun hn => by simp [owH] at hn ⊢; first | exact hn | exact fun e => hn e.symm)) ?_
  intro k hk
  refine WC.seq ?_
  refine WC.ofFr [(0, _), (4, _), (15, _), (16, _), (17, _)] ⟨rfl, rfl, rfl, rfl, rfl, trivial⟩ ?_
  refine WC.region ?_
  refine WL.yd (Yd.lss rfl rfl) rfl ?_
  refine WL.nil ?_
  refine WP.thenC ?_
  refine WC.seq ?_
  refine WC.cond rfl (fun c18 => ?_) (fun c18 => ?_)
  · try simp only [decide_eq_true_eq, decide_eq_false_iff_not, Bool.not_eq_true', Bool.not_eq_false', Int.not_lt, Int.not_le, Bool.not_true, Bool.not_false] at c18
    refine WC.skip ?_
    refine WP.thenC ?_
    refine WC.seq ?_
    refine WC.block ?_
    refine WC.seq ?_
    refine WC.ofFr [(0, _), (4, _), (15, _), (16, _), (17, _)] ⟨rfl, rfl, rfl, rfl, rfl, trivial⟩ ?_
    refine WC.region ?_
    refine WL.yd (Yd.move rfl) rfl ?_
    refine WL.yd (Yd.assign rfl) rfl ?_
    refine WL.nil ?_
    refine WP.thenC ?_
    refine WC.seq ?_
    refine WC.ofFr [(5, _), (0, _), (4, _), (15, _), (16, _), (17, _)] ⟨rfl, rfl, rfl, rfl, rfl, rfl, trivial⟩ ?_
    refine WC.region ?_
    refine WL.yd (Yd.move rfl) rfl ?_
    refine WL.yd (Yd.move rfl) rfl ?_
    refine WL.yd (Yd.shr rfl rfl (by omega)) rfl ?_
    refine WL.yd (Yd.and1 rfl rfl) rfl ?_
    refine WL.yd (Yd.eql rfl rfl) rfl ?_
    refine WL.nil ?_
    refine WP.thenC ?_
    refine WC.cond rfl (fun c24 => ?_) (fun c24 => ?_)
    · try simp only [decide_eq_true_eq, decide_eq_false_iff_not, Bool.not_eq_true', Bool.not_eq_false', Int.not_lt, Int.not_le, Bool.not_true, Bool.not_false] at c24
      have hbit : ¬ t / 2 ^ k % 2 = 1 := fun hh => by
        have h9 := (bit_nat t k (by omega)).2 hh
        have h8 : bitN (t : Int) (k : Int) = 0 := c24
        omega
      refine WC.ofFr [(5, _), (0, _), (4, _), (15, _), (16, _), (17, _)] ⟨rfl, rfl, rfl, rfl, rfl, rfl, trivial⟩ ?_
      refine WC.region ?_
      refine WL.yd (Yd.fieldAddr FA25_1 rfl) rfl ?_
      refine WL.yd (Yd.load1 Try.isAgg22 rfl (by first | exact Rd.own (k := 0) rfl rfl | exact Rd.own (k := 1) rfl rfl | exact (Rd.imm hX rfl))) rfl ?_
      refine WL.yd (Yd.move rfl) rfl ?_
      refine WL.yd (Yd.indexS Try.underlying22 Try.sizeOf53 rfl rfl (by omega) (by omega) (by first | exact (show owA (some u) = some ⟨u.b, 0, none⟩ from rfl))) rfl ?_
      refine WL.yd (Yd.fieldAddr FA53_1 rfl) rfl ?_
      refine WL.so (SO.store 1 rfl Try.sizeOf3 rfl rfl rfl rfl (by show 0 + k * 3 + 2 + 1 ≤ _; rw [List.length_append, dCs_len]; omega) (oneB_spec rfl)) rfl ?_
      rintro _ _ _ ⟨rfl, rfl, rfl⟩
      refine WL.nil ?_
      refine WP.blkNormal ?_
      refine WP.thenC ?_
      refine WC.ofFr [(0, _), (4, _), (15, _), (16, _), (17, _)] ⟨rfl, rfl, rfl, rfl, rfl, trivial⟩ ?_
      refine WC.region ?_
      refine WL.yd (Yd.add rfl rfl (wr64 ⟨by omega, by omega⟩)) rfl ?_
      refine WL.yd (Yd.move rfl) rfl ?_
      refine WL.nil ?_
      first
        | (have hp1 : dCs d.dippers t (k + 1) = dCs d.dippers t k := by rw [dCs, dCs, byL, if_pos hbit]
           refine WP.again (k + 1 : Nat) (by omega) (by omega) (fun aa ww h => ?_)
           rw [hp1]
           exact at_fr h ⟨rfl, rfl, rfl, rfl, rfl, trivial⟩)
        | (have hp1 := dCs_step (l := d.dippers) (rest := u.rest) (by omega) hbit
           refine WP.again (k + 1 : Nat) (by omega) (by omega) (fun aa ww h => ?_)
           show At _ [(0, nt t), (4, pt b4), (15, .slice (owA (some u)) d.dippers.length (owC (some u) d.dippers.length)), (16, nt d.dippers.length), (17, nt (k + 1))] D [(b4, .cells (List.toArray [it d.hours, .slice (owA (some u)) d.dippers.length (owC (some u) d.dippers.length), .slice a2 d.bathers.length c2]) 25 (0, 0)), (u.b, .cells (List.toArray (dCs d.dippers t (k + 1) ++ u.rest)) 53 (0, 0))] aa ww
           rw [← hp1]
           exact at_fr h ⟨rfl, rfl, rfl, rfl, rfl, trivial⟩)
    · try simp only [decide_eq_true_eq, decide_eq_false_iff_not, Bool.not_eq_true', Bool.not_eq_false', Int.not_lt, Int.not_le, Bool.not_true, Bool.not_false] at c24
      have hbit : t / 2 ^ k % 2 = 1 := by
        have h8 : ¬ bitN (t : Int) (k : Int) = 0 := c24
        exact (bit_nat t k (by omega)).1 ((bit_01 _ _).resolve_left h8)
      refine WC.skip ?_
      refine WP.blkNormal ?_
      refine WP.thenC ?_
      refine WC.ofFr [(0, _), (4, _), (15, _), (16, _), (17, _)] ⟨rfl, rfl, rfl, rfl, rfl, trivial⟩ ?_
      refine WC.region ?_
      refine WL.yd (Yd.add rfl rfl (wr64 ⟨by omega, by omega⟩)) rfl ?_
      refine WL.yd (Yd.move rfl) rfl ?_
      refine WL.nil ?_
      first
        | (have hp1 : dCs d.dippers t (k + 1) = dCs d.dippers t k := by rw [dCs, dCs, byL, if_pos hbit]
           refine WP.again (k + 1 : Nat) (by omega) (by omega) (fun aa ww h => ?_)
           rw [hp1]
           exact at_fr h ⟨rfl, rfl, rfl, rfl, rfl, trivial⟩)
        | (have hp1 := dCs_step (l := d.dippers) (rest := u.rest) (by omega) hbit
           refine WP.again (k + 1 : Nat) (by omega) (by omega) (fun aa ww h => ?_)
           show At _ [(0, nt t), (4, pt b4), (15, .slice (owA (some u)) d.dippers.length (owC (some u) d.dippers.length)), (16, nt d.dippers.length), (17, nt (k + 1))] D [(b4, .cells (List.toArray [it d.hours, .slice (owA (some u)) d.dippers.length (owC (some u) d.dippers.length), .slice a2 d.bathers.length c2]) 25 (0, 0)), (u.b, .cells (List.toArray (dCs d.dippers t (k + 1) ++ u.rest)) 53 (0, 0))] aa ww
           rw [← hp1]
           exact at_fr h ⟨rfl, rfl, rfl, rfl, rfl, trivial⟩)
  · try simp only [decide_eq_true_eq, decide_eq_false_iff_not, Bool.not_eq_true', Bool.not_eq_false', Int.not_lt, Int.not_le, Bool.not_true, Bool.not_false] at c18
    refine WC.exit ?_
    refine WP.thenExit ?_
    refine WP.thenExit ?_
    refine WP.blkHit ?_
    refine WP.thenC ?_
    refine WC.seq ?_
    obtain rfl : k = d.dippers.length := by omega
    refine WC.freezeK 1 rfl (fun hnu => ?_)
    have hXu := fun o => (DExt.refl w D).add (o := o) hnu hu.1
    have hR9 : DipsR (D.add u.b (.cells (List.toArray (dCs d.dippers t d.dippers.length ++ u.rest)) 53 (0, 0))) (byB d t) (some ⟨u.b, 0, none⟩) d.dippers.length a2 d.bathers.length := ⟨⟨by rw [List.length_map]; exact (byL_len _ _ _).symm, (SlL.ofBlock dipperC_len (Imm.add_self _ _ _)).row⟩, hR.bath.ext (hXu _), by omega, by omega⟩
    refine WC.ofFr [(4, _)] ⟨rfl, trivial⟩ ?_
    refine WC.region ?_
    refine WL.yd (Yd.loadN Try.isAgg25 Try.sizeOf25 rfl (vs := [_, _, _]) rfl (by first | exact RdN.own (k := 0) (n := 3) rfl rfl | exact (RdN.imm (n := 3) hX rfl))) rfl ?_
    refine WL.so (SO.makes (Enters.func Try.call22 rfl) (fun w hI => Plan_g (byB d t) (some ⟨u.b, 0, none⟩) _ _ a2 _ c2 _ w hR9 hI.imm)) rfl ?_
    rintro _ D8 _ ⟨hX8, ⟨a8, n8, c8, rfl, hP8⟩, rfl⟩
    refine WL.yd (Yd.move rfl) rfl ?_
    refine WL.yd (Yd.extract rfl rfl) rfl ?_
    refine WL.yd (Yd.extract rfl rfl) rfl ?_
    refine WL.yd (Yd.assign rfl) rfl ?_
    refine WL.yd (Yd.assign rfl) rfl ?_
    refine WL.nil ?_
    refine WP.thenC ?_
    refine WC.seq ?_
    refine WC.ofFr [(7, _)] ⟨rfl, trivial⟩ ?_
    refine WC.region ?_
    refine WL.yd (Yd.move rfl) rfl ?_
    refine WL.yd (Yd.eql rfl rfl) rfl ?_
    refine WL.yd (Yd.assign rfl) rfl ?_
    refine WL.nil ?_
    refine WP.thenC ?_
    refine WC.ret ?_
    refine WP.ret1 rfl rfl Try.results41 (RV.tmp rfl) (fun w hI => ⟨congrArg Ending.returned (congrArg Value.bool (plan_by hv t)), hI.keep⟩)

set_option maxRecDepth 100000 in
set_option maxHeartbeats 1000000 in
theorem enough_0 (d : Dips) (a1 : Option Addr) (n1 c1 : Nat) (a2 : Option Addr) (n2 c2 : Nat) (D : Imm) (w : World) (hR : DipsR D d a1 n1 a2 n2) (hH : Holds D w) (hv : dipsB d = true) (t : Nat) (ht : t ≤ 1000) (b3 : Nat) (hX : D b3 = some (.cells (List.toArray [it d.hours, .slice a1 n1 c1, .slice a2 n2 c2]) 25 (0, 0))) (hl : d.dippers = []) : Gives Try.prog 41 [nt t, pt b3] w (.bool (byCan d t)) := by
  unfold Gives
  obtain rfl := hR.dip.len'
  obtain rfl := hR.bath.len'
  have hl1 := hR.len1
  have hl2 := hR.len2
  have hnum := dips_num hv
  have hz : d.dippers.length = 0 := by rw [hl]; rfl
  have hcs : dCs d.dippers t 0 = [] := by rw [dCs, byL, hl]; rfl
  refine enter Try.func41 rfl 38 Try.ntmps41 (Nat.le_of_ble_eq_true rfl) (Inv.start hH) ?_
  refine WC.seq ?_
  refine WC.ofFr [(0, _), (1, _)] ⟨rfl, rfl, trivial⟩ ?_
  refine WC.region ?_
  refine WL.yd (Yd.assign rfl) rfl ?_
  refine WL.nil ?_
  refine WP.thenC ?_
  refine WC.seq ?_
  refine WC.ofFr [(3, _), (0, _), (1, _)] ⟨rfl, rfl, rfl, trivial⟩ ?_
  refine WC.region ?_
  refine WL.yd (Yd.loadN Try.isAgg25 Try.sizeOf25 rfl (vs := [_, _, _]) rfl (by first | exact (RdN.imm (n := 3) hX rfl))) rfl ?_
  refine WL.so (SO.alloc Try.zeroValue25 rfl) rfl ?_
  rintro _ _ _ ⟨b4, hb4, rfl, rfl, rfl⟩ -- NEW
  refine WL.so (SO.store 0 rfl Try.sizeOf25 rfl rfl rfl rfl (Nat.le_of_ble_eq_true rfl) (oneB_spec rfl)) rfl ?_
  rintro _ _ _ ⟨rfl, rfl, rfl⟩
  refine WL.nil ?_
  refine WP.thenC ?_
  refine WC.seq ?_
  refine WC.ofFr [(4, _), (3, _), (0, _), (1, _)] ⟨rfl, rfl, rfl, rfl, trivial⟩ ?_
  refine WC.region ?_
  refine WL.so (SO.buildSlice0 Try.underlying22 Try.sizeOf53) rfl ?_
  rintro _ _ _ ⟨b9, hb9, rfl, rfl, rfl⟩ -- NEW
  refine WL.yd (Yd.fieldAddr FA25_1 rfl) rfl ?_
  refine WL.yd (Yd.load1 Try.isAgg22 rfl (by first | exact Rd.own (k := 0) rfl rfl | exact Rd.own (k := 1) rfl rfl | exact (Rd.imm hX rfl))) rfl ?_
  refine WL.so (SO.appendNil (o := ⟨b9, 0, []⟩) (len := d.dippers.length) rfl rfl Try.underlying22 Try.sizeOf53 (by rw [hz]; rfl) (by rw [hz]; rfl) (by rw [hz]; exact Nat.le_refl _)) rfl ?_
  rintro _ _ _ ⟨rfl, rfl, rfl⟩
  refine WL.yd (Yd.fieldAddr FA25_1 rfl) rfl ?_
  refine WL.so (SO.store 1 rfl Try.sizeOf22 rfl rfl rfl rfl (Nat.le_of_ble_eq_true rfl) (oneB_spec rfl)) rfl ?_
  rintro _ _ _ ⟨rfl, rfl, rfl⟩
  refine WL.nil ?_
  refine WP.thenC ?_
  refine WC.seq ?_
  refine WC.seq ?_
  refine WC.ofFr [(4, _), (3, _), (0, _)] ⟨rfl, rfl, rfl, trivial⟩ ?_
  refine WC.region ?_
  refine WL.yd (Yd.fieldAddr FA25_1 rfl) rfl ?_
  refine WL.yd (Yd.load1 Try.isAgg22 rfl (by first | exact Rd.own (k := 0) rfl rfl | exact Rd.own (k := 1) rfl rfl | exact (Rd.imm hX rfl))) rfl ?_
  refine WL.yd (Yd.lenS rfl Try.underlying22 rfl) rfl ?_
  refine WL.yd (Yd.move rfl) rfl ?_
  refine WL.nil ?_
  refine WP.thenC ?_
  refine WC.block ?_
  refine WC.loop (fun k : Nat => [(0, nt t), (4, pt b4), (15, .slice (owA (some (⟨b9, 0, []⟩ : Ow))) d.dippers.length (owC (some (⟨b9, 0, []⟩ : Ow)) d.dippers.length)), (16, nt d.dippers.length), (17, nt k)]) (fun k => [(b4, .cells (List.toArray [it d.hours, .slice (owA (some (⟨b9, 0, []⟩ : Ow))) d.dippers.length (owC (some (⟨b9, 0, []⟩ : Ow)) d.dippers.length), .slice a2 d.bathers.length c2]) 25 (0, 0)), ((⟨b9, 0, []⟩ : Ow).b, .cells (List.toArray (dCs d.dippers t k ++ (⟨b9, 0, []⟩ : Ow).rest)) 53 (0, 0))]) (fun _ => D) (fun k => k ≤ d.dippers.length) (fun k => d.dippers.length - k) 0 (by omega) (fun a w h => by dsimp only; rw [hcs]; exact at_less h ⟨rfl, rfl, rfl, rfl, rfl, trivial⟩ (fun e he => by simp only [List.mem_cons, List.mem_nil_iff, or_false] at he; rcases he with rfl | rfl <;> first | exact List.mem_cons_self .. | exact List.mem_cons_of_mem _ (List.mem_cons_self ..)) (fun hn => by simp [owH] at hn ⊢; first | exact hn | exact fun e => hn e.symm)) ?_
  intro k hk
  refine WC.seq ?_
  refine WC.ofFr [(0, _), (4, _), (15, _), (16, _), (17, _)] ⟨rfl, rfl, rfl, rfl, rfl, trivial⟩ ?_
  refine WC.region ?_
  refine WL.yd (Yd.lss rfl rfl) rfl ?_
  refine WL.nil ?_
  refine WP.thenC ?_
  refine WC.seq ?_
  refine WC.cond rfl (fun c18 => ?_) (fun c18 => ?_)
  · try simp only [decide_eq_true_eq, decide_eq_false_iff_not, Bool.not_eq_true', Bool.not_eq_false', Int.not_lt, Int.not_le, Bool.not_true, Bool.not_false] at c18
    refine WC.skip ?_
    refine WP.thenC ?_
    refine WC.seq ?_
    refine WC.block ?_
    refine WC.seq ?_
    refine WC.ofFr [(0, _), (4, _), (15, _), (16, _), (17, _)] ⟨rfl, rfl, rfl, rfl, rfl, trivial⟩ ?_
    refine WC.region ?_
    refine WL.yd (Yd.move rfl) rfl ?_
    refine WL.yd (Yd.assign rfl) rfl ?_
    refine WL.nil ?_
    refine WP.thenC ?_
    refine WC.seq ?_
    refine WC.ofFr [(5, _), (0, _), (4, _), (15, _), (16, _), (17, _)] ⟨rfl, rfl, rfl, rfl, rfl, rfl, trivial⟩ ?_
    refine WC.region ?_
    refine WL.yd (Yd.move rfl) rfl ?_
    refine WL.yd (Yd.move rfl) rfl ?_
    refine WL.yd (Yd.shr rfl rfl (by omega)) rfl ?_
    refine WL.yd (Yd.and1 rfl rfl) rfl ?_
    refine WL.yd (Yd.eql rfl rfl) rfl ?_
    refine WL.nil ?_
    refine WP.thenC ?_
    refine WC.cond rfl (fun c24 => ?_) (fun c24 => ?_)
    · try simp only [decide_eq_true_eq, decide_eq_false_iff_not, Bool.not_eq_true', Bool.not_eq_false', Int.not_lt, Int.not_le, Bool.not_true, Bool.not_false] at c24
      have hbit : ¬ t / 2 ^ k % 2 = 1 := fun hh => by
        have h9 := (bit_nat t k (by omega)).2 hh
        have h8 : bitN (t : Int) (k : Int) = 0 := c24
        omega
      refine WC.ofFr [(5, _), (0, _), (4, _), (15, _), (16, _), (17, _)] ⟨rfl, rfl, rfl, rfl, rfl, rfl, trivial⟩ ?_
      refine WC.region ?_
      refine WL.yd (Yd.fieldAddr FA25_1 rfl) rfl ?_
      refine WL.yd (Yd.load1 Try.isAgg22 rfl (by first | exact Rd.own (k := 0) rfl rfl | exact Rd.own (k := 1) rfl rfl | exact (Rd.imm hX rfl))) rfl ?_
      refine WL.yd (Yd.move rfl) rfl ?_
      refine WL.yd (Yd.indexS Try.underlying22 Try.sizeOf53 rfl rfl (by omega) (by omega) (by first | exact (show owA (some (⟨b9, 0, []⟩ : Ow)) = some ⟨(⟨b9, 0, []⟩ : Ow).b, 0, none⟩ from rfl))) rfl ?_
      refine WL.yd (Yd.fieldAddr FA53_1 rfl) rfl ?_
      refine WL.so (SO.store 1 rfl Try.sizeOf3 rfl rfl rfl rfl (by show 0 + k * 3 + 2 + 1 ≤ _; rw [List.length_append, dCs_len]; omega) (oneB_spec rfl)) rfl ?_
      rintro _ _ _ ⟨rfl, rfl, rfl⟩
      refine WL.nil ?_
      refine WP.blkNormal ?_
      refine WP.thenC ?_
      refine WC.ofFr [(0, _), (4, _), (15, _), (16, _), (17, _)] ⟨rfl, rfl, rfl, rfl, rfl, trivial⟩ ?_
      refine WC.region ?_
      refine WL.yd (Yd.add rfl rfl (wr64 ⟨by omega, by omega⟩)) rfl ?_
      refine WL.yd (Yd.move rfl) rfl ?_
      refine WL.nil ?_
      first
        | (have hp1 : dCs d.dippers t (k + 1) = dCs d.dippers t k := by rw [dCs, dCs, byL, if_pos hbit]
           refine WP.again (k + 1 : Nat) (by omega) (by omega) (fun aa ww h => ?_)
           rw [hp1]
           exact at_fr h ⟨rfl, rfl, rfl, rfl, rfl, trivial⟩)
        | (have hp1 := dCs_step (l := d.dippers) (rest := (⟨b9, 0, []⟩ : Ow).rest) (by omega) hbit
           refine WP.again (k + 1 : Nat) (by omega) (by omega) (fun aa ww h => ?_)
           show At _ [(0, nt t), (4, pt b4), (15, .slice (owA (some (⟨b9, 0, []⟩ : Ow))) d.dippers.length (owC (some (⟨b9, 0, []⟩ : Ow)) d.dippers.length)), (16, nt d.dippers.length), (17, nt (k + 1))] D [(b4, .cells (List.toArray [it d.hours, .slice (owA (some (⟨b9, 0, []⟩ : Ow))) d.dippers.length (owC (some (⟨b9, 0, []⟩ : Ow)) d.dippers.length), .slice a2 d.bathers.length c2]) 25 (0, 0)), ((⟨b9, 0, []⟩ : Ow).b, .cells (List.toArray (dCs d.dippers t (k + 1) ++ (⟨b9, 0, []⟩ : Ow).rest)) 53 (0, 0))] aa ww
           rw [← hp1]
           exact at_fr h ⟨rfl, rfl, rfl, rfl, rfl, trivial⟩)
    · try simp only [decide_eq_true_eq, decide_eq_false_iff_not, Bool.not_eq_true', Bool.not_eq_false', Int.not_lt, Int.not_le, Bool.not_true, Bool.not_false] at c24
      have hbit : t / 2 ^ k % 2 = 1 := by
        have h8 : ¬ bitN (t : Int) (k : Int) = 0 := c24
        exact (bit_nat t k (by omega)).1 ((bit_01 _ _).resolve_left h8)
      refine WC.skip ?_
      refine WP.blkNormal ?_
      refine WP.thenC ?_
      refine WC.ofFr [(0, _), (4, _), (15, _), (16, _), (17, _)] ⟨rfl, rfl, rfl, rfl, rfl, trivial⟩ ?_
      refine WC.region ?_
      refine WL.yd (Yd.add rfl rfl (wr64 ⟨by omega, by omega⟩)) rfl ?_
      refine WL.yd (Yd.move rfl) rfl ?_
      refine WL.nil ?_
      first
        | (have hp1 : dCs d.dippers t (k + 1) = dCs d.dippers t k := by rw [dCs, dCs, byL, if_pos hbit]
           refine WP.again (k + 1 : Nat) (by omega) (by omega) (fun aa ww h => ?_)
           rw [hp1]
           exact at_fr h ⟨rfl, rfl, rfl, rfl, rfl, trivial⟩)
        | (have hp1 := dCs_step (l := d.dippers) (rest := (⟨b9, 0, []⟩ : Ow).rest) (by omega) hbit
           refine WP.again (k + 1 : Nat) (by omega) (by omega) (fun aa ww h => ?_)
           show At _ [(0, nt t), (4, pt b4), (15, .slice (owA (some (⟨b9, 0, []⟩ : Ow))) d.dippers.length (owC (some (⟨b9, 0, []⟩ : Ow)) d.dippers.length)), (16, nt d.dippers.length), (17, nt (k + 1))] D [(b4, .cells (List.toArray [it d.hours, .slice (owA (some (⟨b9, 0, []⟩ : Ow))) d.dippers.length (owC (some (⟨b9, 0, []⟩ : Ow)) d.dippers.length), .slice a2 d.bathers.length c2]) 25 (0, 0)), ((⟨b9, 0, []⟩ : Ow).b, .cells (List.toArray (dCs d.dippers t (k + 1) ++ (⟨b9, 0, []⟩ : Ow).rest)) 53 (0, 0))] aa ww
           rw [← hp1]
           exact at_fr h ⟨rfl, rfl, rfl, rfl, rfl, trivial⟩)
  · try simp only [decide_eq_true_eq, decide_eq_false_iff_not, Bool.not_eq_true', Bool.not_eq_false', Int.not_lt, Int.not_le, Bool.not_true, Bool.not_false] at c18
    refine WC.exit ?_
    refine WP.thenExit ?_
    refine WP.thenExit ?_
    refine WP.blkHit ?_
    refine WP.thenC ?_
    refine WC.seq ?_
    obtain rfl : k = d.dippers.length := by omega
    refine WC.freezeK 1 rfl (fun hnu => ?_)
    have hXu := fun o => (DExt.refl w D).add (o := o) hnu hb9
    have hR9 : DipsR (D.add (⟨b9, 0, []⟩ : Ow).b (.cells (List.toArray (dCs d.dippers t d.dippers.length ++ (⟨b9, 0, []⟩ : Ow).rest)) 53 (0, 0))) (byB d t) (some ⟨(⟨b9, 0, []⟩ : Ow).b, 0, none⟩) d.dippers.length a2 d.bathers.length := ⟨⟨by rw [List.length_map]; exact (byL_len _ _ _).symm, (SlL.ofBlock dipperC_len (Imm.add_self _ _ _)).row⟩, hR.bath.ext (hXu _), by omega, by omega⟩
    refine WC.ofFr [(4, _)] ⟨rfl, trivial⟩ ?_
    refine WC.region ?_
    refine WL.yd (Yd.loadN Try.isAgg25 Try.sizeOf25 rfl (vs := [_, _, _]) rfl (by first | exact RdN.own (k := 0) (n := 3) rfl rfl | exact (RdN.imm (n := 3) hX rfl))) rfl ?_
    refine WL.so (SO.makes (Enters.func Try.call22 rfl) (fun w hI => Plan_g (byB d t) (some ⟨(⟨b9, 0, []⟩ : Ow).b, 0, none⟩) _ _ a2 _ c2 _ w hR9 hI.imm)) rfl ?_
    rintro _ D8 _ ⟨hX8, ⟨a8, n8, c8, rfl, hP8⟩, rfl⟩
    refine WL.yd (Yd.move rfl) rfl ?_
    refine WL.yd (Yd.extract rfl rfl) rfl ?_
    refine WL.yd (Yd.extract rfl rfl) rfl ?_
    refine WL.yd (Yd.assign rfl) rfl ?_
    refine WL.yd (Yd.assign rfl) rfl ?_
    refine WL.nil ?_
    refine WP.thenC ?_
    refine WC.seq ?_
    refine WC.ofFr [(7, _)] ⟨rfl, trivial⟩ ?_
    refine WC.region ?_
    refine WL.yd (Yd.move rfl) rfl ?_
    refine WL.yd (Yd.eql rfl rfl) rfl ?_
    refine WL.yd (Yd.assign rfl) rfl ?_
    refine WL.nil ?_
    refine WP.thenC ?_
    refine WC.ret ?_
    refine WP.ret1 rfl rfl Try.results41 (RV.tmp rfl) (fun w hI => ⟨congrArg Ending.returned (congrArg Value.bool (plan_by hv t)), hI.keep⟩)

theorem enough_g (d : Dips) (a1 : Option Addr) (n1 c1 : Nat) (a2 : Option Addr) (n2 c2 : Nat) (D : Imm) (w : World) (hR : DipsR D d a1 n1 a2 n2) (hH : Holds D w) (hv : dipsB d = true) (t : Nat) (ht : t ≤ 1000) (b3 : Nat) (hX : D b3 = some (.cells (List.toArray [it d.hours, .slice a1 n1 c1, .slice a2 n2 c2]) 25 (0, 0))) : Gives Try.prog 41 [nt t, pt b3] w (.bool (byCan d t)) := by
  by_cases hl : d.dippers = []
  · exact enough_0 d a1 n1 c1 a2 n2 c2 D w hR hH hv t ht b3 hX hl
  · exact enough_n d a1 n1 c1 a2 n2 c2 D w hR hH hv t ht b3 hX hl

set_option maxRecDepth 100000 in
set_option maxHeartbeats 1000000 in
theorem first9_1 (d : Dips) (a1 : Option Addr) (n1 c1 : Nat) (a2 : Option Addr) (n2 c2 : Nat) (D : Imm) (w : World) (hS1 : SlL D 3 (d.dippers.map dipperC) a1 n1) (hS2 : SlL D 3 (d.bathers.map batherC) a2 n2) (hH : Holds D w) (by_ : List Int) (a4 : Option Addr) (n4 c4 : Nat) (hS4 : SlL D 1 (by_.map u16C) a4 n4) (hby : ∀ i, i < by_.length → 0 ≤ gt by_ i ∧ gt by_ i ≤ 65535) (b : Nat) (hb : b < 256) (hv : dipsB d = false) : Gives Try.prog 9 [.agg #[it d.hours, .slice a1 n1 c1, .slice a2 n2 c2], .slice a4 n4 c4, .int .u8 (b : Int)] w (.bool true) := by
  unfold Gives
  refine enter Try.func9 rfl 244 Try.ntmps9 (Nat.le_of_ble_eq_true rfl) (Inv.start hH) ?_
  refine WC.seq ?_
  refine WC.ofFr [(0, _), (1, _), (2, _)] ⟨rfl, rfl, rfl, trivial⟩ ?_
  refine WC.region ?_
  refine WL.so (SO.box rfl rfl) rfl ?_
  rintro _ _ _ ⟨b3, hb3, rfl, rfl, rfl⟩ -- NEW
  refine WL.yd (Yd.assign rfl) rfl ?_
  refine WL.nil ?_
  refine WP.thenC ?_
  refine WC.seq ?_
  refine WC.seq ?_
  refine WC.ofFr [(6, _), (3, _), (1, _), (2, _)] ⟨rfl, rfl, rfl, rfl, trivial⟩ ?_
  refine WC.region ?_
  refine WL.yd (Yd.loadN Try.isAgg25 Try.sizeOf25 rfl (vs := [_, _, _]) rfl (by first | exact RdN.own (k := 0) (n := 3) rfl rfl)) rfl ?_
  refine WL.so (SO.callP Try.call13 rfl (fun w hI => long_g _ _ _ _ _ _ _ _ _ _ _)) rfl ?_
  rintro _ _ _ ⟨rfl, rfl, rfl⟩
  refine WL.yd (Yd.move rfl) rfl ?_
  refine WL.part 25 rfl (fun g25 => ?_) (fun g25 => ?_)
  · try simp only [decide_eq_true_eq, decide_eq_false_iff_not, Bool.not_eq_true', Bool.not_eq_false', Int.not_lt, Int.not_le, Bool.not_true, Bool.not_false] at g25
    refine WL.skip rfl rfl ?_
    refine WL.skip rfl rfl ?_
    refine WL.skip rfl rfl ?_
    refine WL.yd (Yd.pickT rfl rfl) rfl ?_
    refine WL.nil ?_
    refine WP.thenC ?_
    refine WC.condT rfl ?_
    refine WC.seq ?_
    refine WC.ofFr [(6, _), (3, _), (1, _), (2, _)] ⟨rfl, rfl, rfl, rfl, trivial⟩ ?_
    refine WC.region ?_
    refine WL.so (SO.callP Try.call14 rfl (fun w hI => alive_g _ _ hI.imm)) rfl ?_
    rintro _ _ _ ⟨rfl, rfl, rfl⟩
    refine WL.yd (Yd.assign rfl) rfl ?_
    refine WL.nil ?_
    refine WP.thenC ?_
    refine WC.ret ?_
    refine WP.thenRet ?_
    refine WP.ret1 rfl rfl Try.results9 (RV.tmp rfl) (fun w hI => ⟨rfl, hI.keep⟩)
  · try simp only [decide_eq_true_eq, decide_eq_false_iff_not, Bool.not_eq_true', Bool.not_eq_false', Int.not_lt, Int.not_le, Bool.not_true, Bool.not_false] at g25
    have hR : DipsR D d a1 n1 a2 n2 := ⟨hS1, hS2, by have := g25; omega, by have := g25; omega⟩
    refine WL.ydg rfl (Yd.loadN Try.isAgg25 Try.sizeOf25 rfl (vs := [_, _, _]) rfl (by first | exact RdN.own (k := 0) (n := 3) rfl rfl)) rfl ?_
    refine WL.sog rfl (SO.callP Try.call36 rfl (fun w hI => dips_g d a1 _ c1 a2 _ c2 D _ hR hI.imm)) rfl ?_
    rintro _ _ _ ⟨rfl, rfl, rfl⟩
    refine WL.ydg rfl (Yd.not rfl) rfl ?_
    refine WL.yd (Yd.pickF rfl rfl) rfl ?_
    refine WL.nil ?_
    refine WP.thenC ?_
    refine WC.cond rfl (fun c29 => ?_) (fun c29 => ?_)
    · try simp only [decide_eq_true_eq, decide_eq_false_iff_not, Bool.not_eq_true', Bool.not_eq_false', Int.not_lt, Int.not_le, Bool.not_true, Bool.not_false] at c29
      refine WC.seq ?_
      refine WC.ofFr [(6, _), (3, _), (1, _), (2, _)] ⟨rfl, rfl, rfl, rfl, trivial⟩ ?_
      refine WC.region ?_
      refine WL.so (SO.callP Try.call14 rfl (fun w hI => alive_g _ _ hI.imm)) rfl ?_
      rintro _ _ _ ⟨rfl, rfl, rfl⟩
      refine WL.yd (Yd.assign rfl) rfl ?_
      refine WL.nil ?_
      refine WP.thenC ?_
      refine WC.ret ?_
      refine WP.thenRet ?_
      refine WP.ret1 rfl rfl Try.results9 (RV.tmp rfl) (fun w hI => ⟨rfl, hI.keep⟩)
    · try simp only [decide_eq_true_eq, decide_eq_false_iff_not, Bool.not_eq_true', Bool.not_eq_false', Int.not_lt, Int.not_le, Bool.not_true, Bool.not_false] at c29
      rw [hv] at c29; cases c29

set_option maxRecDepth 100000 in
set_option maxHeartbeats 1000000 in
theorem first9_a (d : Dips) (a1 : Option Addr) (n1 c1 : Nat) (a2 : Option Addr) (n2 c2 : Nat) (D : Imm) (w : World) (hS1 : SlL D 3 (d.dippers.map dipperC) a1 n1) (hS2 : SlL D 3 (d.bathers.map batherC) a2 n2) (hH : Holds D w) (by_ : List Int) (a4 : Option Addr) (n4 c4 : Nat) (hS4 : SlL D 1 (by_.map u16C) a4 n4) (hby : ∀ i, i < by_.length → 0 ≤ gt by_ i ∧ gt by_ i ≤ 65535) (b : Nat) (hb : b < 256) (hv : dipsB d = true) (he : (PlanOut d).2 = 4) (hfo : FewestOut d = (0, 4)) (hl0 : (PlanOut d).1.length = 0) (hno : (planP d false).isSome = false) : Gives Try.prog 9 [.agg #[it d.hours, .slice a1 n1 c1, .slice a2 n2 c2], .slice a4 n4 c4, .int .u8 (b : Int)] w (.bool true) := by
  unfold Gives
  have hR : DipsR D d a1 n1 a2 n2 := by
    have h1 := hS1.len'
    have h2 := hS2.len'
    have h3 := dips_num hv
    exact ⟨hS1, hS2, by omega, by omega⟩
  obtain rfl := hS1.len'
  obtain rfl := hS2.len'
  have hnum := dips_num hv
  refine enter Try.func9 rfl 244 Try.ntmps9 (Nat.le_of_ble_eq_true rfl) (Inv.start hH) ?_
  refine WC.seq ?_
  refine WC.ofFr [(0, _), (1, _), (2, _)] ⟨rfl, rfl, rfl, trivial⟩ ?_
  refine WC.region ?_
  refine WL.so (SO.box rfl rfl) rfl ?_
  rintro _ _ _ ⟨b3, hb3, rfl, rfl, rfl⟩ -- NEW
  refine WL.yd (Yd.assign rfl) rfl ?_
  refine WL.nil ?_
  refine WP.thenC ?_
  refine WC.seq ?_
  refine WC.seq ?_
  refine WC.ofFr [(6, _), (3, _), (1, _), (2, _)] ⟨rfl, rfl, rfl, rfl, trivial⟩ ?_
  refine WC.region ?_
  refine WL.yd (Yd.loadN Try.isAgg25 Try.sizeOf25 rfl (vs := [_, _, _]) rfl (by first | exact RdN.own (k := 0) (n := 3) rfl rfl | exact (hP.pl.at k (by omega)).rdn 0 2 rfl | exact (hP8.pl.at k (by omega)).rdn 0 2 rfl)) rfl ?_
  refine WL.so (SO.callP Try.call13 rfl (fun w hI => long_g _ _ _ _ _ _ _ _ _ _ _)) rfl ?_
  rintro _ _ _ ⟨rfl, rfl, rfl⟩
  refine WL.yd (Yd.move rfl) rfl ?_
  refine WL.part 25 rfl (fun g25 => ?_) (fun g25 => ?_)
  · try simp only [decide_eq_true_eq, decide_eq_false_iff_not, Bool.not_eq_true', Bool.not_eq_false', Int.not_lt, Int.not_le, Bool.not_true, Bool.not_false] at g25
    omega
  · try simp only [decide_eq_true_eq, decide_eq_false_iff_not, Bool.not_eq_true', Bool.not_eq_false', Int.not_lt, Int.not_le, Bool.not_true, Bool.not_false] at g25
    refine WL.ydg rfl (Yd.loadN Try.isAgg25 Try.sizeOf25 rfl (vs := [_, _, _]) rfl (by first | exact RdN.own (k := 0) (n := 3) rfl rfl | exact (hP.pl.at k (by omega)).rdn 0 2 rfl | exact (hP8.pl.at k (by omega)).rdn 0 2 rfl)) rfl ?_
    refine WL.sog rfl (SO.callP Try.call36 rfl (fun w hI => dips_g d a1 _ c1 a2 _ c2 D _ hR hI.imm)) rfl ?_
    rintro _ _ _ ⟨rfl, rfl, rfl⟩
    refine WL.ydg rfl (Yd.not rfl) rfl ?_
    refine WL.yd (Yd.pickF rfl rfl) rfl ?_
    refine WL.nil ?_
    refine WP.thenC ?_
    refine WC.cond rfl (fun c29 => ?_) (fun c29 => ?_)
    · try simp only [decide_eq_true_eq, decide_eq_false_iff_not, Bool.not_eq_true', Bool.not_eq_false', Int.not_lt, Int.not_le, Bool.not_true, Bool.not_false] at c29
      rw [hv] at c29; cases c29
    · try simp only [decide_eq_true_eq, decide_eq_false_iff_not, Bool.not_eq_true', Bool.not_eq_false', Int.not_lt, Int.not_le, Bool.not_true, Bool.not_false] at c29
      refine WC.skip ?_
      refine WP.thenC ?_
      refine WC.seq ?_
      refine WC.ofFr [(6, _), (3, _), (1, _), (2, _)] ⟨rfl, rfl, rfl, rfl, trivial⟩ ?_
      refine WC.region ?_
      refine WL.yd (Yd.loadN Try.isAgg25 Try.sizeOf25 rfl (vs := [_, _, _]) rfl (by first | exact RdN.own (k := 0) (n := 3) rfl rfl | exact (hP.pl.at k (by omega)).rdn 0 2 rfl | exact (hP8.pl.at k (by omega)).rdn 0 2 rfl)) rfl ?_
      refine WL.so (SO.makes (Enters.func Try.call22 rfl) (fun w hI => Plan_g d a1 _ c1 a2 _ c2 _ w hR hI.imm)) rfl ?_
      rintro _ D1 _ ⟨hX1, ⟨a3, n3, c3, rfl, hP⟩, rfl⟩
      replace hR := hR.ext hX1
      obtain rfl := hP.pl.len'
      refine WL.yd (Yd.move rfl) rfl ?_
      refine WL.yd (Yd.extract rfl rfl) rfl ?_
      refine WL.yd (Yd.extract rfl rfl) rfl ?_
      refine WL.yd (Yd.assign rfl) rfl ?_
      refine WL.yd (Yd.assign rfl) rfl ?_
      refine WL.nil ?_
      refine WP.thenC ?_
      refine WC.seq ?_
      refine WC.ofFr [(8, _), (7, _), (6, _), (3, _), (1, _), (2, _)] ⟨rfl, rfl, rfl, rfl, rfl, rfl, trivial⟩ ?_
      refine WC.region ?_
      refine WL.yd (Yd.loadN Try.isAgg25 Try.sizeOf25 rfl (vs := [_, _, _]) rfl (by first | exact RdN.own (k := 0) (n := 3) rfl rfl | exact (hP.pl.at k (by omega)).rdn 0 2 rfl | exact (hP8.pl.at k (by omega)).rdn 0 2 rfl)) rfl ?_
      refine WL.so (SO.callP Try.call26 rfl (fun w hI => Gives.cv (.tuple #[it 0, it 4]) (Fewest_g d a1 _ c1 a2 _ c2 _ _ hR hI.imm) (by rw [hfo]))) rfl ?_
      rintro _ _ _ ⟨rfl, rfl, rfl⟩
      refine WL.yd (Yd.move rfl) rfl ?_
      refine WL.yd (Yd.extract rfl rfl) rfl ?_
      refine WL.yd (Yd.extract rfl rfl) rfl ?_
      refine WL.yd (Yd.assign rfl) rfl ?_
      refine WL.yd (Yd.assign rfl) rfl ?_
      refine WL.nil ?_
      refine WP.thenC ?_
      refine WC.seq ?_
      refine WC.ofFr [(10, _), (9, _), (8, _), (7, _), (6, _), (3, _), (1, _), (2, _)] ⟨rfl, rfl, rfl, rfl, rfl, rfl, rfl, rfl, trivial⟩ ?_
      refine WC.drawO [_] [(0, true), (1, true), (2, false), (3, false), (4, true), (5, true), (6, true), (7, true), (8, true)] (by kernel_rfl) (by kernel_rfl) (QuietPanic.then QuietPanic.body) (fun w hI => Inv.left (l1 := [_]) hI) ?_
      refine WA.yd rfl (Yd.loadN Try.isAgg25 Try.sizeOf25 rfl (vs := [_, _, _]) rfl (by first | exact RdN.own (k := 0) (n := 3) rfl rfl | exact (hP.pl.at k (by omega)).rdn 0 2 rfl | exact (hP8.pl.at k (by omega)).rdn 0 2 rfl)) rfl ?_
      refine WA.yd rfl (Yd.move rfl) rfl ?_
      refine WA.so rfl (SO.news (Enters.func Try.call37 rfl) (fun w1 hI => draws_g by_ a4 n4 c4 _ w1 (hS4.ext hX1) hby hI.imm)) rfl ?_
      rintro _ D2 _ ⟨_, hX2, ⟨b5, b1, rfl, hB, rfl⟩, rfl⟩
      replace hR := hR.ext hX2
      replace hP := hP.ext hX2
      refine ⟨fun _ hI => Inv.left (l1 := [_]) (hI.shrink hX2.old), ?_⟩
      refine WA.so rfl (SO.altersN (own := [_]) (hpc := [(b5, cntO 0)]) (S1 := [b5]) (fun _ h => h) (fun h => h) (fun _ h => h) (fun _ h => h) (Enters.func Try.call40 rfl) (fun w1 hI => made_g d a1 _ c1 a2 _ c2 _ w1 hR hI.imm hv by_ b5 b1 0 hB (by omega) hI)) rfl ?_
      rintro _ D6 _ ⟨_, hX6, ⟨a8, n8, c8, rfl, hP8, hcap8, rfl⟩, rfl⟩
      replace hR := hR.ext hX6
      replace hP := hP.ext hX6
      refine ⟨fun _ hI => Inv.left (l1 := [_]) (hI.shrink (hX2.trans hX6 (Nat.le_refl _)).old), ?_⟩
      refine WA.yd rfl (Yd.move rfl) rfl ?_
      refine WA.yd rfl (Yd.extract rfl rfl) rfl ?_
      refine WA.yd rfl (Yd.extract rfl rfl) rfl ?_
      refine WA.yd rfl (Yd.assign rfl) rfl ?_
      refine WA.yd rfl (Yd.assign rfl) rfl ?_
      refine WA.nil ?_
      refine WP.thenC ?_
      refine WC.seq ?_
      refine WC.seq ?_
      refine WC.ofFr [(12, _), (11, _), (10, _), (9, _), (8, _), (7, _), (6, _), (3, _), (2, _)] ⟨rfl, rfl, rfl, rfl, rfl, rfl, rfl, rfl, rfl, trivial⟩ ?_
      refine WC.region ?_
      refine WL.yd (Yd.move rfl) rfl ?_
      refine WL.yd (Yd.move rfl) rfl ?_
      refine WL.yd (Yd.neq rfl rfl) rfl ?_
      refine WL.know 50 (.bool false) rfl (congrArg Value.bool (by rw [he]; decide)) ?_
      refine WL.yd (Yd.move rfl) rfl ?_
      refine WL.ydg rfl (Yd.move rfl) rfl ?_
      refine WL.ydg rfl (Yd.neq rfl rfl) rfl ?_
      refine WL.know 53 (.bool true) rfl (congrArg Value.bool (by rw [he]; decide)) ?_
      refine WL.ydg rfl (Yd.move rfl) rfl ?_
      refine WL.ydg rfl (Yd.move rfl) rfl ?_
      refine WL.ydg rfl (Yd.neq rfl rfl) rfl ?_
      refine WL.know 56 (.bool false) rfl (congrArg Value.bool (by rw [he]; decide)) ?_
      refine WL.ydg rfl (Yd.move rfl) rfl ?_
      refine WL.ydg rfl (Yd.move rfl) rfl ?_
      refine WL.ydg rfl (Yd.lenS rfl Try.underlying26 rfl) rfl ?_
      refine WL.ydg rfl (Yd.neq rfl rfl) rfl ?_
      refine WL.know 60 (.bool false) rfl (congrArg Value.bool (decide_eq_false (by omega))) ?_
      refine WL.ydg rfl (Yd.pickF rfl rfl) rfl ?_
      refine WL.ydg rfl (Yd.move rfl) rfl ?_
      refine WL.ydg rfl (Yd.move rfl) rfl ?_
      refine WL.ydg rfl (Yd.neq rfl rfl) rfl ?_
      refine WL.know 64 (.bool false) rfl (congrArg Value.bool (by decide)) ?_
      refine WL.ydg rfl (Yd.pickF rfl rfl) rfl ?_
      refine WL.ydg rfl (Yd.pickT rfl rfl) rfl ?_
      refine WL.yd (Yd.pickF rfl rfl) rfl ?_
      refine WL.nil ?_
      refine WP.thenC ?_
      refine WC.condF rfl ?_
      refine WC.skip ?_
      refine WP.thenC ?_
      refine WC.seqJ (fun _ : Unit => [(2, .int .u8 (b : Int)), (3, pt b3), (7, .slice a3 ((PlanOut d).1).length c3), (8, it (PlanOut d).2), (9, it 0)]) (fun _ => [(b3, .cells (List.toArray [it d.hours, .slice a1 d.dippers.length c1, .slice a2 d.bathers.length c2]) 25 (0, 0))]) (fun _ => D6) (fun _ => True) ?_ ?_
      · rintro ⟨⟩ -
        refine WC.seq ?_
        refine WC.seq ?_
        refine WC.ofFr [(2, _), (3, _), (7, _), (8, _), (9, _)] ⟨rfl, rfl, rfl, rfl, rfl, trivial⟩ ?_
        refine WC.region ?_
        refine WL.yd (Yd.move rfl) rfl ?_
        refine WL.yd (Yd.neq rfl rfl) rfl ?_
        refine WL.know 147 (.bool true) rfl (congrArg Value.bool (by rw [he]; decide)) ?_
        refine WL.nil ?_
        refine WP.thenC ?_
        refine WC.condT rfl ?_
        refine WC.seq ?_
        refine WC.ofFr [(2, _), (3, _), (7, _), (9, _)] ⟨rfl, rfl, rfl, rfl, trivial⟩ ?_
        refine WC.region ?_
        refine WL.so (SO.callP Try.call14 rfl (fun w hI => alive_g _ _ hI.imm)) rfl ?_
        rintro _ _ _ ⟨rfl, rfl, rfl⟩
        refine WL.yd (Yd.assign rfl) rfl ?_
        refine WL.nil ?_
        refine WP.thenC ?_
        refine WC.ret ?_
        refine WP.thenRet ?_
        refine WP.ret1 rfl rfl Try.results9 (RV.tmp rfl) (fun w hI => ⟨rfl, hI.keep⟩)
      · skip
        refine WC.seq ?_
        refine WC.ofFr [(12, _), (11, _), (9, _), (8, _), (7, _), (6, _), (3, _), (2, _)] ⟨rfl, rfl, rfl, rfl, rfl, rfl, rfl, rfl, trivial⟩ ?_
        refine WC.region ?_
        refine WL.yd (Yd.move rfl) rfl ?_
        refine WL.nil ?_
        refine WP.thenC ?_
        refine WC.cond rfl (fun c68 => ?_) (fun c68 => ?_)
        · try simp only [decide_eq_true_eq, decide_eq_false_iff_not, Bool.not_eq_true', Bool.not_eq_false', Int.not_lt, Int.not_le, Bool.not_true, Bool.not_false] at c68
          have hmi : madeIs d = true := by simpa using c68
          have hown := made_ok hv by_ 0 hmi
          obtain rfl : n8 = d.bathers.length := by have := hP8.pl.len'; rw [hown.2] at this; exact this
          have hrn := right_n hv hown.1 hown.2
          have hn2 : ¬ (RightR d (madeL d by_ 0)).1 = 2 := fun h => by
            have := (planP_some hv false).2 ⟨_, (good_fine hown.1 hown.2 false).1 (hrn.2.1.1 h)⟩
            rw [hno] at this; cases this
          refine WC.seq ?_
          refine WC.ofFr [(11, _), (9, _), (8, _), (7, _), (6, _), (3, _), (2, _)] ⟨rfl, rfl, rfl, rfl, rfl, rfl, rfl, trivial⟩ ?_
          refine WC.region ?_
          refine WL.yd (Yd.loadN Try.isAgg25 Try.sizeOf25 rfl (vs := [_, _, _]) rfl (by first | exact RdN.own (k := 0) (n := 3) rfl rfl | exact (hP.pl.at k (by omega)).rdn 0 2 rfl | exact (hP8.pl.at k (by omega)).rdn 0 2 rfl)) rfl ?_
          refine WL.yd (Yd.move rfl) rfl ?_
          refine WL.so (SO.callP Try.call17 rfl (fun w hI => Right_g d a1 _ c1 a2 _ c2 _ w hR hI.imm (madeL d by_ 0) a8 _ c8 hP8)) rfl ?_
          rintro _ _ _ ⟨rfl, rfl, rfl⟩
          refine WL.yd (Yd.move rfl) rfl ?_
          refine WL.yd (Yd.extract rfl rfl) rfl ?_
          refine WL.yd (Yd.extract rfl rfl) rfl ?_
          refine WL.yd (Yd.assign rfl) rfl ?_
          refine WL.yd (Yd.assign rfl) rfl ?_
          refine WL.nil ?_
          refine WP.thenC ?_
          refine WC.seq ?_
          refine WC.seq ?_
          refine WC.ofFr [(14, _), (13, _), (11, _), (9, _), (8, _), (7, _), (6, _), (3, _), (2, _)] ⟨rfl, rfl, rfl, rfl, rfl, rfl, rfl, rfl, rfl, trivial⟩ ?_
          refine WC.region ?_
          refine WL.yd (Yd.move rfl) rfl ?_
          refine WL.yd (Yd.neq rfl rfl) rfl ?_
          refine WL.know 76 (.bool false) rfl (congrArg Value.bool (by rw [hrn.1]; decide)) ?_
          refine WL.yd (Yd.move rfl) rfl ?_
          refine WL.ydg rfl (Yd.move rfl) rfl ?_
          refine WL.ydg rfl (Yd.eql rfl rfl) rfl ?_
          refine WL.know 79 (.bool false) rfl (congrArg Value.bool (decide_eq_false hn2)) ?_
          refine WL.ydg rfl (Yd.move rfl) rfl ?_
          refine WL.ofFr [(80, _), (77, _), (13, _), (11, _), (9, _), (8, _), (7, _), (6, _), (3, _), (2, _)] ⟨rfl, rfl, rfl, rfl, rfl, rfl, rfl, rfl, rfl, rfl, trivial⟩ ?_
          refine WL.cutD 4 2 84 (.bool false) ?_ ?_
          · skip
            refine WL.skip rfl rfl ?_
            refine WL.skip rfl rfl ?_
            refine WL.ydg rfl (Yd.pickF rfl rfl) rfl ?_
            refine WL.yd (Yd.pickF rfl rfl) rfl ?_
            refine WL.nil ?_
            exact WP.cutEnd ⟨rfl, rfl, rfl, rfl, rfl, rfl, rfl, rfl, rfl, trivial⟩
          · skip
            refine WL.nil ?_
            refine WP.thenC ?_
            refine WC.condF rfl ?_
            refine WC.skip ?_
            refine WP.thenC ?_
            refine WC.seq ?_
            refine WC.ofFr [(13, _), (11, _), (9, _), (8, _), (7, _), (6, _), (3, _), (2, _)] ⟨rfl, rfl, rfl, rfl, rfl, rfl, rfl, rfl, trivial⟩ ?_
            refine WC.region ?_
            refine WL.yd (Yd.move rfl) rfl ?_
            refine WL.yd (Yd.eql rfl rfl) rfl ?_
            refine WL.know 86 (.bool false) rfl (congrArg Value.bool (decide_eq_false hn2)) ?_
            refine WL.yd (Yd.move rfl) rfl ?_
            refine WL.skip rfl rfl ?_
            refine WL.skip rfl rfl ?_
            refine WL.skip rfl rfl ?_
            refine WL.skip rfl rfl ?_
            refine WL.skip rfl rfl ?_
            refine WL.yd (Yd.pickF rfl rfl) rfl ?_
            refine WL.nil ?_
            refine WP.thenC ?_
            refine WC.condF rfl ?_
            refine WC.skip ?_
            exact WP.join () trivial (fun aa ww h => at_less h ⟨rfl, rfl, rfl, rfl, rfl, trivial⟩ (fun e he => by rw [List.mem_singleton.1 he]; exact List.mem_cons_self ..) (fun _ => by simp))
        · try simp only [decide_eq_true_eq, decide_eq_false_iff_not, Bool.not_eq_true', Bool.not_eq_false', Int.not_lt, Int.not_le, Bool.not_true, Bool.not_false] at c68
          refine WC.skip ?_
          exact WP.join () trivial (fun aa ww h => at_less h ⟨rfl, rfl, rfl, rfl, rfl, trivial⟩ (fun e he => by rw [List.mem_singleton.1 he]; exact List.mem_cons_self ..) (fun _ => by simp))

set_option maxRecDepth 100000 in
set_option maxHeartbeats 1000000 in
theorem first9_b (d : Dips) (a1 : Option Addr) (n1 c1 : Nat) (a2 : Option Addr) (n2 c2 : Nat) (D : Imm) (w : World) (hS1 : SlL D 3 (d.dippers.map dipperC) a1 n1) (hS2 : SlL D 3 (d.bathers.map batherC) a2 n2) (hH : Holds D w) (by_ : List Int) (a4 : Option Addr) (n4 c4 : Nat) (hS4 : SlL D 1 (by_.map u16C) a4 n4) (hby : ∀ i, i < by_.length → 0 ≤ gt by_ i ∧ gt by_ i ≤ 65535) (b : Nat) (hb : b < 256) (hv : dipsB d = true) (he : (PlanOut d).2 = 0) (hpl : planP d false = some (PlanOut d).1) (s : Nat) (hfo : FewestOut d = (((s : Nat) : Int), 0)) (hcs : byCan d s = true) (hsl : s < 2 ^ d.dippers.length) (hmin : ∀ t, t < 2 ^ d.dippers.length → byCan d t = true → ¬ bef t s) : Gives Try.prog 9 [.agg #[it d.hours, .slice a1 n1 c1, .slice a2 n2 c2], .slice a4 n4 c4, .int .u8 (b : Int)] w (.bool true) := by
  unfold Gives
  have hR : DipsR D d a1 n1 a2 n2 := by
    have h1 := hS1.len'
    have h2 := hS2.len'
    have h3 := dips_num hv
    exact ⟨hS1, hS2, by omega, by omega⟩
  obtain rfl := hS1.len'
  obtain rfl := hS2.len'
  have hnum := dips_num hv
  have h5 : d.dippers.length ≤ 5 := by omega
  have hsn := sets_num h5
  have hown2 : b % 2 ^ d.dippers.length < 2 ^ d.dippers.length := Nat.mod_lt _ (by omega)
  refine enter Try.func9 rfl 244 Try.ntmps9 (Nat.le_of_ble_eq_true rfl) (Inv.start hH) ?_
  refine WC.seq ?_
  refine WC.ofFr [(0, _), (1, _), (2, _)] ⟨rfl, rfl, rfl, trivial⟩ ?_
  refine WC.region ?_
  refine WL.so (SO.box rfl rfl) rfl ?_
  rintro _ _ _ ⟨b3, hb3, rfl, rfl, rfl⟩ -- NEW
  refine WL.yd (Yd.assign rfl) rfl ?_
  refine WL.nil ?_
  refine WP.thenC ?_
  refine WC.seq ?_
  refine WC.seq ?_
  refine WC.ofFr [(6, _), (3, _), (1, _), (2, _)] ⟨rfl, rfl, rfl, rfl, trivial⟩ ?_
  refine WC.region ?_
  refine WL.yd (Yd.loadN Try.isAgg25 Try.sizeOf25 rfl (vs := [_, _, _]) rfl (by first | exact RdN.own (k := 0) (n := 3) rfl rfl | exact (hP.pl.at k (by omega)).rdn 0 2 rfl | exact (hP8.pl.at k (by omega)).rdn 0 2 rfl)) rfl ?_
  refine WL.so (SO.callP Try.call13 rfl (fun w hI => long_g _ _ _ _ _ _ _ _ _ _ _)) rfl ?_
  rintro _ _ _ ⟨rfl, rfl, rfl⟩
  refine WL.yd (Yd.move rfl) rfl ?_
  refine WL.part 25 rfl (fun g25 => ?_) (fun g25 => ?_)
  · try simp only [decide_eq_true_eq, decide_eq_false_iff_not, Bool.not_eq_true', Bool.not_eq_false', Int.not_lt, Int.not_le, Bool.not_true, Bool.not_false] at g25
    omega
  · try simp only [decide_eq_true_eq, decide_eq_false_iff_not, Bool.not_eq_true', Bool.not_eq_false', Int.not_lt, Int.not_le, Bool.not_true, Bool.not_false] at g25
    refine WL.ydg rfl (Yd.loadN Try.isAgg25 Try.sizeOf25 rfl (vs := [_, _, _]) rfl (by first | exact RdN.own (k := 0) (n := 3) rfl rfl | exact (hP.pl.at k (by omega)).rdn 0 2 rfl | exact (hP8.pl.at k (by omega)).rdn 0 2 rfl)) rfl ?_
    refine WL.sog rfl (SO.callP Try.call36 rfl (fun w hI => dips_g d a1 _ c1 a2 _ c2 D _ hR hI.imm)) rfl ?_
    rintro _ _ _ ⟨rfl, rfl, rfl⟩
    refine WL.ydg rfl (Yd.not rfl) rfl ?_
    refine WL.yd (Yd.pickF rfl rfl) rfl ?_
    refine WL.nil ?_
    refine WP.thenC ?_
    refine WC.cond rfl (fun c29 => ?_) (fun c29 => ?_)
    · try simp only [decide_eq_true_eq, decide_eq_false_iff_not, Bool.not_eq_true', Bool.not_eq_false', Int.not_lt, Int.not_le, Bool.not_true, Bool.not_false] at c29
      rw [hv] at c29; cases c29
    · try simp only [decide_eq_true_eq, decide_eq_false_iff_not, Bool.not_eq_true', Bool.not_eq_false', Int.not_lt, Int.not_le, Bool.not_true, Bool.not_false] at c29
      refine WC.skip ?_
      refine WP.thenC ?_
      refine WC.seq ?_
      refine WC.ofFr [(6, _), (3, _), (1, _), (2, _)] ⟨rfl, rfl, rfl, rfl, trivial⟩ ?_
      refine WC.region ?_
      refine WL.yd (Yd.loadN Try.isAgg25 Try.sizeOf25 rfl (vs := [_, _, _]) rfl (by first | exact RdN.own (k := 0) (n := 3) rfl rfl | exact (hP.pl.at k (by omega)).rdn 0 2 rfl | exact (hP8.pl.at k (by omega)).rdn 0 2 rfl)) rfl ?_
      refine WL.so (SO.makes (Enters.func Try.call22 rfl) (fun w hI => Plan_g d a1 _ c1 a2 _ c2 _ w hR hI.imm)) rfl ?_
      rintro _ D1 _ ⟨hX1, ⟨a3, n3, c3, rfl, hP⟩, rfl⟩
      replace hR := hR.ext hX1
      obtain rfl := hP.pl.len'
      refine WL.yd (Yd.move rfl) rfl ?_
      refine WL.yd (Yd.extract rfl rfl) rfl ?_
      refine WL.yd (Yd.extract rfl rfl) rfl ?_
      refine WL.yd (Yd.assign rfl) rfl ?_
      refine WL.yd (Yd.assign rfl) rfl ?_
      refine WL.nil ?_
      refine WP.thenC ?_
      refine WC.seq ?_
      refine WC.ofFr [(8, _), (7, _), (6, _), (3, _), (1, _), (2, _)] ⟨rfl, rfl, rfl, rfl, rfl, rfl, trivial⟩ ?_
      refine WC.region ?_
      refine WL.yd (Yd.loadN Try.isAgg25 Try.sizeOf25 rfl (vs := [_, _, _]) rfl (by first | exact RdN.own (k := 0) (n := 3) rfl rfl | exact (hP.pl.at k (by omega)).rdn 0 2 rfl | exact (hP8.pl.at k (by omega)).rdn 0 2 rfl)) rfl ?_
      refine WL.so (SO.callP Try.call26 rfl (fun w hI => Gives.cv (.tuple #[nt s, it 0]) (Fewest_g d a1 _ c1 a2 _ c2 _ _ hR hI.imm) (by rw [hfo]))) rfl ?_
      rintro _ _ _ ⟨rfl, rfl, rfl⟩
      refine WL.yd (Yd.move rfl) rfl ?_
      refine WL.yd (Yd.extract rfl rfl) rfl ?_
      refine WL.yd (Yd.extract rfl rfl) rfl ?_
      refine WL.yd (Yd.assign rfl) rfl ?_
      refine WL.yd (Yd.assign rfl) rfl ?_
      refine WL.nil ?_
      refine WP.thenC ?_
      refine WC.seq ?_
      refine WC.ofFr [(10, _), (9, _), (8, _), (7, _), (6, _), (3, _), (1, _), (2, _)] ⟨rfl, rfl, rfl, rfl, rfl, rfl, rfl, rfl, trivial⟩ ?_
      refine WC.drawO [_] [(0, true), (1, true), (2, false), (3, false), (4, true), (5, true), (6, true), (7, true), (8, true)] (by kernel_rfl) (by kernel_rfl) (QuietPanic.then QuietPanic.body) (fun w hI => Inv.left (l1 := [_]) hI) ?_
      refine WA.yd rfl (Yd.loadN Try.isAgg25 Try.sizeOf25 rfl (vs := [_, _, _]) rfl (by first | exact RdN.own (k := 0) (n := 3) rfl rfl | exact (hP.pl.at k (by omega)).rdn 0 2 rfl | exact (hP8.pl.at k (by omega)).rdn 0 2 rfl)) rfl ?_
      refine WA.yd rfl (Yd.move rfl) rfl ?_
      refine WA.so rfl (SO.news (Enters.func Try.call37 rfl) (fun w1 hI => draws_g by_ a4 n4 c4 _ w1 (hS4.ext hX1) hby hI.imm)) rfl ?_
      rintro _ D2 _ ⟨_, hX2, ⟨b5, b1, rfl, hB, rfl⟩, rfl⟩
      replace hR := hR.ext hX2
      replace hP := hP.ext hX2
      refine ⟨fun _ hI => Inv.left (l1 := [_]) (hI.shrink hX2.old), ?_⟩
      refine WA.so rfl (SO.altersN (own := [_]) (hpc := [(b5, cntO 0)]) (S1 := [b5]) (fun _ h => h) (fun h => h) (fun _ h => h) (fun _ h => h) (Enters.func Try.call40 rfl) (fun w1 hI => made_g d a1 _ c1 a2 _ c2 _ w1 hR hI.imm hv by_ b5 b1 0 hB (by omega) hI)) rfl ?_
      rintro _ D6 _ ⟨_, hX6, ⟨a8, n8, c8, rfl, hP8, hcap8, rfl⟩, rfl⟩
      replace hR := hR.ext hX6
      replace hP := hP.ext hX6
      refine ⟨fun _ hI => Inv.left (l1 := [_]) (hI.shrink (hX2.trans hX6 (Nat.le_refl _)).old), ?_⟩
      refine WA.yd rfl (Yd.move rfl) rfl ?_
      refine WA.yd rfl (Yd.extract rfl rfl) rfl ?_
      refine WA.yd rfl (Yd.extract rfl rfl) rfl ?_
      refine WA.yd rfl (Yd.assign rfl) rfl ?_
      refine WA.yd rfl (Yd.assign rfl) rfl ?_
      refine WA.nil ?_
      refine WP.thenC ?_
      refine WC.seq ?_
      refine WC.seq ?_
      refine WC.ofFr [(12, _), (11, _), (10, _), (9, _), (8, _), (7, _), (6, _), (3, _), (2, _)] ⟨rfl, rfl, rfl, rfl, rfl, rfl, rfl, rfl, rfl, trivial⟩ ?_
      refine WC.region ?_
      refine WL.yd (Yd.move rfl) rfl ?_
      refine WL.yd (Yd.move rfl) rfl ?_
      refine WL.yd (Yd.neq rfl rfl) rfl ?_
      refine WL.know 50 (.bool false) rfl (congrArg Value.bool (by rw [he]; decide)) ?_
      refine WL.yd (Yd.move rfl) rfl ?_
      refine WL.ydg rfl (Yd.move rfl) rfl ?_
      refine WL.ydg rfl (Yd.neq rfl rfl) rfl ?_
      refine WL.know 53 (.bool false) rfl (congrArg Value.bool (by rw [he]; decide)) ?_
      refine WL.ydg rfl (Yd.move rfl) rfl ?_
      refine WL.skip rfl rfl ?_
      refine WL.skip rfl rfl ?_
      refine WL.skip rfl rfl ?_
      refine WL.skipU rfl rfl ?_
      refine WL.skipU rfl rfl ?_
      refine WL.skipU rfl rfl ?_
      refine WL.skip rfl rfl ?_
      refine WL.skip rfl rfl ?_
      refine WL.skipU rfl rfl ?_
      refine WL.skipU rfl rfl ?_
      refine WL.skip rfl rfl ?_
      refine WL.ydg rfl (Yd.pickF rfl rfl) rfl ?_
      refine WL.yd (Yd.pickF rfl rfl) rfl ?_
      refine WL.nil ?_
      refine WP.thenC ?_
      refine WC.condF rfl ?_
      refine WC.skip ?_
      refine WP.thenC ?_
      refine WC.seqJ (fun _ : Unit => [(2, .int .u8 (b : Int)), (3, pt b3), (7, .slice a3 ((PlanOut d).1).length c3), (8, it (PlanOut d).2), (9, nt s)]) (fun _ => [(b3, .cells (List.toArray [it d.hours, .slice a1 d.dippers.length c1, .slice a2 d.bathers.length c2]) 25 (0, 0))]) (fun _ => D6) (fun _ => True) ?_ ?_
      · rintro ⟨⟩ -
        refine WC.seq ?_
        refine WC.seq ?_
        refine WC.ofFr [(2, _), (3, _), (7, _), (8, _), (9, _)] ⟨rfl, rfl, rfl, rfl, rfl, trivial⟩ ?_
        refine WC.region ?_
        refine WL.yd (Yd.move rfl) rfl ?_
        refine WL.yd (Yd.neq rfl rfl) rfl ?_
        refine WL.know 147 (.bool false) rfl (congrArg Value.bool (by rw [he]; decide)) ?_
        refine WL.nil ?_
        refine WP.thenC ?_
        refine WC.condF rfl ?_
        refine WC.skip ?_
        refine WP.thenC ?_
        refine WC.seq ?_
        refine WC.seq ?_
        have hgl := planP_good hv hpl
        have hrl := right_n hv hgl.2.1 hgl.1
        have hfl := (good_fine hgl.2.1 hgl.1 false).2 hgl
        refine WC.ofFr [(2, _), (3, _), (7, _), (9, _)] ⟨rfl, rfl, rfl, rfl, trivial⟩ ?_
        refine WC.region ?_
        refine WL.yd (Yd.loadN Try.isAgg25 Try.sizeOf25 rfl (vs := [_, _, _]) rfl (by first | exact RdN.own (k := 0) (n := 3) rfl rfl | exact (hP.pl.at k (by omega)).rdn 0 2 rfl | exact (hP8.pl.at k (by omega)).rdn 0 2 rfl)) rfl ?_
        refine WL.yd (Yd.move rfl) rfl ?_
        refine WL.so (SO.callP Try.call17 rfl (fun w hI => Right_g d a1 _ c1 a2 _ c2 _ w hR hI.imm (PlanOut d).1 a3 _ c3 hP)) rfl ?_
        rintro _ _ _ ⟨rfl, rfl, rfl⟩
        refine WL.yd (Yd.move rfl) rfl ?_
        refine WL.yd (Yd.extract rfl rfl) rfl ?_
        refine WL.yd (Yd.extract rfl rfl) rfl ?_
        refine WL.yd (Yd.assign rfl) rfl ?_
        refine WL.yd (Yd.assign rfl) rfl ?_
        refine WL.nil ?_
        refine WP.thenC ?_
        refine WC.seq ?_
        refine WC.ofFr [(17, _), (16, _), (2, _), (3, _), (7, _), (9, _)] ⟨rfl, rfl, rfl, rfl, rfl, rfl, trivial⟩ ?_
        refine WC.region ?_
        refine WL.yd (Yd.move rfl) rfl ?_
        refine WL.yd (Yd.neq rfl rfl) rfl ?_
        refine WL.know 156 (.bool false) rfl (congrArg Value.bool (by rw [hrl.1]; decide)) ?_
        refine WL.yd (Yd.move rfl) rfl ?_
        refine WL.ydg rfl (Yd.move rfl) rfl ?_
        refine WL.ydg rfl (Yd.neq rfl rfl) rfl ?_
        refine WL.know 159 (.bool false) rfl (congrArg Value.bool (by rw [hrl.2.1.2 hfl]; decide)) ?_
        refine WL.yd (Yd.pickF rfl rfl) rfl ?_
        refine WL.nil ?_
        refine WP.thenC ?_
        refine WC.condF rfl ?_
        refine WC.skip ?_
        refine WP.thenC ?_
        refine WC.seq ?_
        refine WC.freezeK 0 rfl (fun hn3 => ?_)
        have hXd := (DExt.refl w D6).add (o := .cells (List.toArray [it d.hours, .slice a1 d.dippers.length c1, .slice a2 d.bathers.length c2]) 25 (0, 0)) hn3 hb3
        have hbD : (D6.add b3 (.cells (List.toArray [it d.hours, .slice a1 d.dippers.length c1, .slice a2 d.bathers.length c2]) 25 (0, 0))) b3 = some (.cells (List.toArray [it d.hours, .slice a1 d.dippers.length c1, .slice a2 d.bathers.length c2]) 25 (0, 0)) := Imm.add_self _ _ _
        replace hR := hR.ext hXd
        replace hP := hP.ext hXd
        generalize D6.add b3 (.cells (List.toArray [it d.hours, .slice a1 d.dippers.length c1, .slice a2 d.bathers.length c2]) 25 (0, 0)) = D9 at hbD hR hP ⊢
        have hd3 := good_dip3 hv hgl
        have hu8 := (used_bit hd3).1
        have hul := used_lt hv hgl
        have huc : byCan d (usedR (PlanOut d).1) = true := (byCan_iff hv _).2 ⟨_, hgl, fun j _ h => h⟩
        refine WC.ofFr [(2, _), (3, _), (7, _), (9, _)] ⟨rfl, rfl, rfl, rfl, trivial⟩ ?_
        refine WC.region ?_
        refine WL.yd (Yd.func rfl rfl) rfl ?_
        refine WL.yd (Yd.assign rfl) rfl ?_
        refine WL.nil ?_
        refine WP.thenC ?_
        refine WC.seq ?_
        refine WC.ofFr [(18, _), (2, _), (3, _), (7, _), (9, _)] ⟨rfl, rfl, rfl, rfl, rfl, trivial⟩ ?_
        refine WC.region ?_
        refine WL.yd (Yd.fieldAddr FA25_1 rfl) rfl ?_
        refine WL.yd (Yd.load1 Try.isAgg22 rfl (by first | exact (Rd.imm hbD rfl) | exact ((hP.pl.at k (by omega)).rd 0 rfl) | exact ((hP8.pl.at k (by omega)).rd 0 rfl) | exact ((hP.pl.at k (by omega)).rd 1 rfl) | exact ((hP8.pl.at k (by omega)).rd 1 rfl))) rfl ?_
        refine WL.yd (Yd.lenS rfl Try.underlying22 rfl) rfl ?_
        refine WL.yd (Yd.shl rfl rfl (by omega) (shlI d.dippers.length h5)) rfl ?_
        refine WL.yd (Yd.subN (j := 1) rfl rfl (by (try dsimp only); omega) (by (try dsimp only); omega)) rfl ?_
        refine WL.yd (Yd.assign rfl) rfl ?_
        refine WL.yd (Yd.assign rfl) rfl ?_
        refine WL.nil ?_
        refine WP.thenC ?_
        refine WC.seq ?_
        refine WC.seq ?_
        refine WC.ofFr [(20, _), (19, _), (18, _), (2, _), (3, _), (7, _), (9, _)] ⟨rfl, rfl, rfl, rfl, rfl, rfl, rfl, trivial⟩ ?_
        refine WC.region ?_
        refine WL.yd (Yd.move rfl) rfl ?_
        refine WL.yd (Yd.lss rfl rfl) rfl ?_
        refine WL.know 168 (.bool false) rfl (congrArg Value.bool (decide_eq_false (by omega))) ?_
        refine WL.yd (Yd.move rfl) rfl ?_
        refine WL.ydg rfl (Yd.move rfl) rfl ?_
        refine WL.ydg rfl (Yd.move rfl) rfl ?_
        refine WL.ydg rfl (Yd.gtr rfl rfl) rfl ?_
        refine WL.know 172 (.bool false) rfl (congrArg Value.bool (decide_eq_false (by omega))) ?_
        refine WL.yd (Yd.pickF rfl rfl) rfl ?_
        refine WL.yd (Yd.move rfl) rfl ?_
        refine WL.ydg rfl (Yd.move rfl) rfl ?_
        refine WL.ydg rfl (Yd.move rfl) rfl ?_
        refine WL.sog rfl (SO.call (Enters.val Try.call41 rfl rfl) (fun w hI => enough_g d a1 _ c1 a2 _ c2 D9 _ hR hI.imm hv s (by omega) b3 hbD)) rfl ?_
        rintro _ _ _ ⟨rfl, rfl, rfl⟩
        refine WL.know 177 (.bool true) rfl (congrArg Value.bool hcs) ?_
        refine WL.ydg rfl (Yd.not rfl) rfl ?_
        refine WL.yd (Yd.pickF rfl rfl) rfl ?_
        refine WL.yd (Yd.move rfl) rfl ?_
        refine WL.ydg rfl (Yd.move rfl) rfl ?_
        refine WL.ydg rfl (Yd.move rfl) rfl ?_
        refine WL.sog rfl (SO.call (Enters.val Try.call42 rfl rfl) (fun w hI => size_g s (by omega) _)) rfl ?_
        rintro _ _ _ ⟨rfl, rfl, rfl⟩
        refine WL.ydg rfl (Yd.move rfl) rfl ?_
        refine WL.ydg rfl (Yd.move rfl) rfl ?_
        refine WL.sog rfl (SO.callP Try.call43 rfl (fun w hI => used_g (PlanOut d).1 a3 _ c3 D9 _ hP hI.imm hd3)) rfl ?_
        rintro _ _ _ ⟨rfl, rfl, rfl⟩
        refine WL.sog rfl (SO.call (Enters.val Try.call42 rfl rfl) (fun w hI => size_g (usedR (PlanOut d).1) (by omega) _)) rfl ?_
        rintro _ _ _ ⟨rfl, rfl, rfl⟩
        refine WL.ydg rfl (Yd.gtr rfl rfl) rfl ?_
        refine WL.know 188 (.bool false) rfl (congrArg Value.bool (decide_eq_false (by have h9 := hmin _ hul huc; unfold bef at h9; omega))) ?_
        refine WL.yd (Yd.pickF rfl rfl) rfl ?_
        refine WL.nil ?_
        refine WP.thenC ?_
        refine WC.condF rfl ?_
        refine WC.skip ?_
        refine WP.thenC ?_
        refine WC.seq ?_
        refine WC.seq ?_
        refine WC.ofFr [(20, _), (19, _), (18, _), (2, _), (3, _), (9, _)] ⟨rfl, rfl, rfl, rfl, rfl, rfl, trivial⟩ ?_
        refine WC.region ?_
        refine WL.yd (Yd.fieldAddr FA25_1 rfl) rfl ?_
        refine WL.yd (Yd.load1 Try.isAgg22 rfl (by first | exact (Rd.imm hbD rfl) | exact ((hP.pl.at k (by omega)).rd 0 rfl) | exact ((hP8.pl.at k (by omega)).rd 0 rfl) | exact ((hP.pl.at k (by omega)).rd 1 rfl) | exact ((hP8.pl.at k (by omega)).rd 1 rfl))) rfl ?_
        refine WL.yd (Yd.lenS rfl Try.underlying22 rfl) rfl ?_
        refine WL.yd (Yd.move rfl) rfl ?_
        refine WL.nil ?_
        refine WP.thenC ?_
        refine WC.block ?_
        refine WC.loopF (fun k : Nat => [(2, .int .u8 (b : Int)), (9, nt s), (18, .func (.func 41) #[] (List.toArray [pt b3])), (19, nt (2 ^ d.dippers.length - 1)), (20, .func (.func 42) #[] #[]), (192, nt d.dippers.length), (193, nt k)]) (fun k => k ≤ d.dippers.length) (fun k => d.dippers.length - k) 0 (by omega) (by exact ⟨rfl, rfl, rfl, rfl, rfl, rfl, rfl, trivial⟩) ?_
        intro k hk
        refine WC.seq ?_
        refine WC.ofFr [(2, _), (9, _), (18, _), (19, _), (20, _), (192, _), (193, _)] ⟨rfl, rfl, rfl, rfl, rfl, rfl, rfl, trivial⟩ ?_
        refine WC.region ?_
        refine WL.yd (Yd.lss rfl rfl) rfl ?_
        refine WL.nil ?_
        refine WP.thenC ?_
        refine WC.seq ?_
        refine WC.cond rfl (fun c194 => ?_) (fun c194 => ?_)
        · try simp only [decide_eq_true_eq, decide_eq_false_iff_not, Bool.not_eq_true', Bool.not_eq_false', Int.not_lt, Int.not_le, Bool.not_true, Bool.not_false] at c194
          refine WC.skip ?_
          refine WP.thenC ?_
          refine WC.seq ?_
          refine WC.block ?_
          refine WC.seq ?_
          refine WC.ofFr [(2, _), (9, _), (18, _), (19, _), (20, _), (192, _), (193, _)] ⟨rfl, rfl, rfl, rfl, rfl, rfl, rfl, trivial⟩ ?_
          refine WC.region ?_
          refine WL.yd (Yd.move rfl) rfl ?_
          refine WL.yd (Yd.assign rfl) rfl ?_
          refine WL.nil ?_
          refine WP.thenC ?_
          refine WC.seq ?_
          refine WC.ofFr [(21, _), (2, _), (9, _), (18, _), (19, _), (20, _), (192, _), (193, _)] ⟨rfl, rfl, rfl, rfl, rfl, rfl, rfl, rfl, trivial⟩ ?_
          refine WC.region ?_
          refine WL.yd (Yd.move rfl) rfl ?_
          refine WL.yd (Yd.move rfl) rfl ?_
          refine WL.yd (Yd.shr rfl rfl (by omega)) rfl ?_
          refine WL.yd (Yd.and1 rfl rfl) rfl ?_
          refine WL.yd (Yd.eql rfl rfl) rfl ?_
          refine WL.yd (Yd.move rfl) rfl ?_
          refine WL.ofFr [(201, _), (21, _), (2, _), (9, _), (18, _), (19, _), (20, _), (192, _), (193, _)] ⟨rfl, rfl, rfl, rfl, rfl, rfl, rfl, rfl, rfl, trivial⟩ ?_
          refine WL.cutD 7 2 208 (.bool false) ?_ ?_
          · skip
            refine WL.part 201 rfl (fun g201 => ?_) (fun g201 => ?_)
            · try simp only [decide_eq_true_eq, decide_eq_false_iff_not, Bool.not_eq_true', Bool.not_eq_false', Int.not_lt, Int.not_le, Bool.not_true, Bool.not_false] at g201
              refine WL.ydg rfl (Yd.move rfl) rfl ?_
              refine WL.ydg rfl (Yd.move rfl) rfl ?_
              refine WL.ydg rfl (Yd.move rfl) rfl ?_
              refine WL.ydg rfl (Yd.shl rfl rfl (by omega) (shlI k (by omega))) rfl ?_
              refine WL.ydg rfl (Yd.andN (by omega) (by have := Nat.pow_lt_pow_right (a := 2) (by omega) (show k < 5 by omega); omega) rfl rfl) rfl ?_
              refine WL.sog rfl (SO.call (Enters.val Try.call41 rfl rfl) (fun w hI => enough_g d a1 _ c1 a2 _ c2 D9 _ hR hI.imm hv (anB s (2 ^ k)) (Nat.le_trans (anB_le _ _) (by omega)) b3 hbD)) rfl ?_
              rintro _ _ _ ⟨rfl, rfl, rfl⟩
              refine WL.know 207 (.bool false) rfl (congrArg Value.bool (by cases hc : byCan d (anB s (2 ^ k)) with | false => rfl | true => exact absurd (show bef (anB s (2 ^ k)) s from .inl (anB_less (by omega) (by omega) ((bit_nat s k (by omega)).1 g201)).2) (hmin _ (by have := anB_le s (2 ^ k); omega) hc))) ?_
              refine WL.yd (Yd.pickT rfl rfl) rfl ?_
              refine WL.nil ?_
              exact WP.cutEnd ⟨rfl, rfl, rfl, rfl, rfl, rfl, rfl, rfl, trivial⟩
            · try simp only [decide_eq_true_eq, decide_eq_false_iff_not, Bool.not_eq_true', Bool.not_eq_false', Int.not_lt, Int.not_le, Bool.not_true, Bool.not_false] at g201
              refine WL.skip rfl rfl ?_
              refine WL.skip rfl rfl ?_
              refine WL.skip rfl rfl ?_
              refine WL.skip rfl rfl ?_
              refine WL.skip rfl rfl ?_
              refine WL.skip rfl rfl ?_
              refine WL.yd (Yd.pickF rfl rfl) rfl ?_
              refine WL.nil ?_
              exact WP.cutEnd ⟨rfl, rfl, rfl, rfl, rfl, rfl, rfl, rfl, trivial⟩
          · skip
            refine WL.nil ?_
            refine WP.thenC ?_
            refine WC.condF rfl ?_
            refine WC.skip ?_
            refine WP.blkNormal ?_
            refine WP.thenC ?_
            refine WC.ofFr [(2, _), (9, _), (18, _), (19, _), (20, _), (192, _), (193, _)] ⟨rfl, rfl, rfl, rfl, rfl, rfl, rfl, trivial⟩ ?_
            refine WC.region ?_
            refine WL.yd (Yd.add rfl rfl (wr64 ⟨by omega, by omega⟩)) rfl ?_
            refine WL.yd (Yd.move rfl) rfl ?_
            refine WL.nil ?_
            exact WP.againF (k + 1) (by omega) (by omega) ⟨rfl, rfl, rfl, rfl, rfl, rfl, rfl, trivial⟩ (fun _ h => h) (fun h => h)
        · try simp only [decide_eq_true_eq, decide_eq_false_iff_not, Bool.not_eq_true', Bool.not_eq_false', Int.not_lt, Int.not_le, Bool.not_true, Bool.not_false] at c194
          refine WC.exit ?_
          refine WP.thenExit ?_
          refine WP.thenExit ?_
          refine WP.blkHit ?_
          refine WP.thenC ?_
          refine WC.seq ?_
          refine WC.ofFr [(2, _), (9, _), (18, _), (19, _), (20, _)] ⟨rfl, rfl, rfl, rfl, rfl, trivial⟩ ?_
          refine WC.region ?_
          refine WL.yd (Yd.move rfl) rfl ?_
          refine WL.yd (Yd.conv Try.underlying5 Try.underlying3 rfl (wr64 ⟨by omega, by omega⟩)) rfl ?_
          refine WL.yd (Yd.move rfl) rfl ?_
          refine WL.yd (Yd.andM (n := d.dippers.length) hb h5 rfl rfl) rfl ?_
          refine WL.yd (Yd.assign rfl) rfl ?_
          refine WL.nil ?_
          refine WP.thenC ?_
          refine WC.seq ?_
          refine WC.ofFr [(22, _), (9, _), (18, _), (20, _)] ⟨rfl, rfl, rfl, rfl, trivial⟩ ?_
          refine WC.region ?_
          refine WL.yd (Yd.move rfl) rfl ?_
          refine WL.yd (Yd.move rfl) rfl ?_
          refine WL.so (SO.call (Enters.val Try.call41 rfl rfl) (fun w hI => enough_g d a1 _ c1 a2 _ c2 D9 _ hR hI.imm hv (b % 2 ^ d.dippers.length) (by omega) b3 hbD)) rfl ?_
          rintro _ _ _ ⟨rfl, rfl, rfl⟩
          refine WL.yd (Yd.not rfl) rfl ?_
          refine WL.yd (Yd.move rfl) rfl ?_
          refine WL.ofFr [(218, _), (22, _), (9, _), (20, _)] ⟨rfl, rfl, rfl, rfl, trivial⟩ ?_
          refine WL.cutD 22 4 240 (.bool true) ?_ ?_
          · skip
            refine WL.part 218 rfl (fun g218 => ?_) (fun g218 => ?_)
            · try simp only [decide_eq_true_eq, decide_eq_false_iff_not, Bool.not_eq_true', Bool.not_eq_false', Int.not_lt, Int.not_le, Bool.not_true, Bool.not_false] at g218
              refine WL.skip rfl rfl ?_
              refine WL.skip rfl rfl ?_
              refine WL.skip rfl rfl ?_
              refine WL.skip rfl rfl ?_
              refine WL.skip rfl rfl ?_
              refine WL.skip rfl rfl ?_
              refine WL.skip rfl rfl ?_
              refine WL.yd (Yd.pickT rfl rfl) rfl ?_
              refine WL.yd (Yd.move rfl) rfl ?_
              refine WL.skip rfl rfl ?_
              refine WL.skip rfl rfl ?_
              refine WL.skip rfl rfl ?_
              refine WL.skip rfl rfl ?_
              refine WL.skip rfl rfl ?_
              refine WL.skip rfl rfl ?_
              refine WL.skip rfl rfl ?_
              refine WL.skip rfl rfl ?_
              refine WL.skipU rfl rfl ?_
              refine WL.skipU rfl rfl ?_
              refine WL.skipU rfl rfl ?_
              refine WL.skip rfl rfl ?_
              refine WL.yd (Yd.pickT rfl rfl) rfl ?_
              refine WL.nil ?_
              exact WP.cutEnd ⟨rfl, trivial⟩
            · try simp only [decide_eq_true_eq, decide_eq_false_iff_not, Bool.not_eq_true', Bool.not_eq_false', Int.not_lt, Int.not_le, Bool.not_true, Bool.not_false] at g218
              refine WL.ydg rfl (Yd.move rfl) rfl ?_
              refine WL.ydg rfl (Yd.move rfl) rfl ?_
              refine WL.sog rfl (SO.call (Enters.val Try.call42 rfl rfl) (fun w hI => size_g (b % 2 ^ d.dippers.length) (by omega) _)) rfl ?_
              rintro _ _ _ ⟨rfl, rfl, rfl⟩
              refine WL.ydg rfl (Yd.move rfl) rfl ?_
              refine WL.ydg rfl (Yd.move rfl) rfl ?_
              refine WL.sog rfl (SO.call (Enters.val Try.call42 rfl rfl) (fun w hI => size_g s (by omega) _)) rfl ?_
              rintro _ _ _ ⟨rfl, rfl, rfl⟩
              refine WL.ydg rfl (Yd.gtr rfl rfl) rfl ?_
              refine WL.yd (Yd.pickF rfl rfl) rfl ?_
              refine WL.yd (Yd.move rfl) rfl ?_
              refine WL.part 227 rfl (fun g227 => ?_) (fun g227 => ?_)
              · try simp only [decide_eq_true_eq, decide_eq_false_iff_not, Bool.not_eq_true', Bool.not_eq_false', Int.not_lt, Int.not_le, Bool.not_true, Bool.not_false] at g227
                refine WL.skip rfl rfl ?_
                refine WL.skip rfl rfl ?_
                refine WL.skip rfl rfl ?_
                refine WL.skip rfl rfl ?_
                refine WL.skip rfl rfl ?_
                refine WL.skip rfl rfl ?_
                refine WL.skip rfl rfl ?_
                refine WL.skip rfl rfl ?_
                refine WL.skipU rfl rfl ?_
                refine WL.skipU rfl rfl ?_
                refine WL.skipU rfl rfl ?_
                refine WL.skip rfl rfl ?_
                refine WL.yd (Yd.pickT rfl rfl) rfl ?_
                refine WL.nil ?_
                exact WP.cutEnd ⟨rfl, trivial⟩
              · try simp only [decide_eq_true_eq, decide_eq_false_iff_not, Bool.not_eq_true', Bool.not_eq_false', Int.not_lt, Int.not_le, Bool.not_true, Bool.not_false] at g227
                refine WL.ydg rfl (Yd.move rfl) rfl ?_
                refine WL.ydg rfl (Yd.move rfl) rfl ?_
                refine WL.sog rfl (SO.call (Enters.val Try.call42 rfl rfl) (fun w hI => size_g (b % 2 ^ d.dippers.length) (by omega) _)) rfl ?_
                rintro _ _ _ ⟨rfl, rfl, rfl⟩
                refine WL.ydg rfl (Yd.move rfl) rfl ?_
                refine WL.ydg rfl (Yd.move rfl) rfl ?_
                refine WL.sog rfl (SO.call (Enters.val Try.call42 rfl rfl) (fun w hI => size_g s (by omega) _)) rfl ?_
                rintro _ _ _ ⟨rfl, rfl, rfl⟩
                refine WL.ydg rfl (Yd.eql rfl rfl) rfl ?_
                refine WL.ydg rfl (Yd.move rfl) rfl ?_
                refine WL.part 235 rfl (fun g235 => ?_) (fun g235 => ?_)
                · try simp only [decide_eq_true_eq, decide_eq_false_iff_not, Bool.not_eq_true', Bool.not_eq_false', Int.not_lt, Int.not_le, Bool.not_true, Bool.not_false] at g235
                  refine WL.ydg rfl (Yd.move rfl) rfl ?_
                  refine WL.ydg rfl (Yd.move rfl) rfl ?_
                  refine WL.ydg rfl (Yd.geq rfl rfl) rfl ?_
                  refine WL.know 238 (.bool true) rfl (congrArg Value.bool (decide_eq_true (by have h9 := hmin _ hown2 g218; unfold bef at h9; omega))) ?_
                  refine WL.ydg rfl (Yd.pickT rfl rfl) rfl ?_
                  refine WL.yd (Yd.pickF rfl rfl) rfl ?_
                  refine WL.nil ?_
                  exact WP.cutEnd ⟨rfl, trivial⟩
                · try simp only [decide_eq_true_eq, decide_eq_false_iff_not, Bool.not_eq_true', Bool.not_eq_false', Int.not_lt, Int.not_le, Bool.not_true, Bool.not_false] at g235
                  exact absurd (show bef _ s from .inl (by omega)) (hmin _ hown2 g218)
          · skip
            refine WL.yd (Yd.move rfl) rfl ?_
            refine WL.sog rfl (SO.callP Try.call14 rfl (fun w hI => alive_g _ _ hI.imm)) rfl ?_
            rintro _ _ _ ⟨rfl, rfl, rfl⟩
            refine WL.know 242 (.bool true) rfl rfl ?_
            refine WL.yd (Yd.pickT rfl rfl) rfl ?_
            refine WL.yd (Yd.assign rfl) rfl ?_
            refine WL.nil ?_
            refine WP.thenC ?_
            refine WC.ret ?_
            refine WP.ret1 rfl rfl Try.results9 (RV.tmp rfl) (fun w hI => ⟨rfl, hI.keep⟩)
      · skip
        refine WC.seq ?_
        refine WC.ofFr [(12, _), (11, _), (9, _), (8, _), (7, _), (6, _), (3, _), (2, _)] ⟨rfl, rfl, rfl, rfl, rfl, rfl, rfl, rfl, trivial⟩ ?_
        refine WC.region ?_
        refine WL.yd (Yd.move rfl) rfl ?_
        refine WL.nil ?_
        refine WP.thenC ?_
        refine WC.cond rfl (fun c68 => ?_) (fun c68 => ?_)
        · try simp only [decide_eq_true_eq, decide_eq_false_iff_not, Bool.not_eq_true', Bool.not_eq_false', Int.not_lt, Int.not_le, Bool.not_true, Bool.not_false] at c68
          have hmi : madeIs d = true := by simpa using c68
          have hown := made_ok hv by_ 0 hmi
          obtain rfl : n8 = d.bathers.length := by have := hP8.pl.len'; rw [hown.2] at this; exact this
          have hrn := right_n hv hown.1 hown.2
          have hgl := planP_good hv hpl
          have hll := hgl.1
          refine WC.seq ?_
          refine WC.ofFr [(11, _), (9, _), (8, _), (7, _), (6, _), (3, _), (2, _)] ⟨rfl, rfl, rfl, rfl, rfl, rfl, rfl, trivial⟩ ?_
          refine WC.region ?_
          refine WL.yd (Yd.loadN Try.isAgg25 Try.sizeOf25 rfl (vs := [_, _, _]) rfl (by first | exact RdN.own (k := 0) (n := 3) rfl rfl | exact (hP.pl.at k (by omega)).rdn 0 2 rfl | exact (hP8.pl.at k (by omega)).rdn 0 2 rfl)) rfl ?_
          refine WL.yd (Yd.move rfl) rfl ?_
          refine WL.so (SO.callP Try.call17 rfl (fun w hI => Right_g d a1 _ c1 a2 _ c2 _ w hR hI.imm (madeL d by_ 0) a8 _ c8 hP8)) rfl ?_
          rintro _ _ _ ⟨rfl, rfl, rfl⟩
          refine WL.yd (Yd.move rfl) rfl ?_
          refine WL.yd (Yd.extract rfl rfl) rfl ?_
          refine WL.yd (Yd.extract rfl rfl) rfl ?_
          refine WL.yd (Yd.assign rfl) rfl ?_
          refine WL.yd (Yd.assign rfl) rfl ?_
          refine WL.nil ?_
          refine WP.thenC ?_
          refine WC.seq ?_
          refine WC.seq ?_
          refine WC.ofFr [(14, _), (13, _), (11, _), (9, _), (8, _), (7, _), (6, _), (3, _), (2, _)] ⟨rfl, rfl, rfl, rfl, rfl, rfl, rfl, rfl, rfl, trivial⟩ ?_
          refine WC.region ?_
          refine WL.yd (Yd.move rfl) rfl ?_
          refine WL.yd (Yd.neq rfl rfl) rfl ?_
          refine WL.know 76 (.bool false) rfl (congrArg Value.bool (by rw [hrn.1]; decide)) ?_
          refine WL.yd (Yd.move rfl) rfl ?_
          refine WL.ydg rfl (Yd.move rfl) rfl ?_
          refine WL.ydg rfl (Yd.eql rfl rfl) rfl ?_
          refine WL.ydg rfl (Yd.move rfl) rfl ?_
          refine WL.ofFr [(80, _), (77, _), (13, _), (11, _), (9, _), (8, _), (7, _), (6, _), (3, _), (2, _)] ⟨rfl, rfl, rfl, rfl, rfl, rfl, rfl, rfl, rfl, rfl, trivial⟩ ?_
          refine WL.cutD 4 2 84 (.bool false) ?_ ?_
          · skip
            refine WL.part 80 rfl (fun g80 => ?_) (fun g80 => ?_)
            · try simp only [decide_eq_true_eq, decide_eq_false_iff_not, Bool.not_eq_true', Bool.not_eq_false', Int.not_lt, Int.not_le, Bool.not_true, Bool.not_false] at g80
              refine WL.ydg rfl (Yd.move rfl) rfl ?_
              refine WL.ydg rfl (Yd.neq rfl rfl) rfl ?_
              refine WL.know 82 (.bool false) rfl (congrArg Value.bool (by rw [he]; decide)) ?_
              refine WL.ydg rfl (Yd.pickT rfl rfl) rfl ?_
              refine WL.yd (Yd.pickF rfl rfl) rfl ?_
              refine WL.nil ?_
              exact WP.cutEnd ⟨rfl, rfl, rfl, rfl, rfl, rfl, rfl, rfl, rfl, trivial⟩
            · try simp only [decide_eq_true_eq, decide_eq_false_iff_not, Bool.not_eq_true', Bool.not_eq_false', Int.not_lt, Int.not_le, Bool.not_true, Bool.not_false] at g80
              refine WL.skip rfl rfl ?_
              refine WL.skip rfl rfl ?_
              refine WL.ydg rfl (Yd.pickF rfl rfl) rfl ?_
              refine WL.yd (Yd.pickF rfl rfl) rfl ?_
              refine WL.nil ?_
              exact WP.cutEnd ⟨rfl, rfl, rfl, rfl, rfl, rfl, rfl, rfl, rfl, trivial⟩
          · skip
            refine WL.nil ?_
            refine WP.thenC ?_
            refine WC.condF rfl ?_
            refine WC.skip ?_
            refine WP.thenC ?_
            refine WC.seq ?_
            refine WC.ofFr [(13, _), (11, _), (9, _), (8, _), (7, _), (6, _), (3, _), (2, _)] ⟨rfl, rfl, rfl, rfl, rfl, rfl, rfl, rfl, trivial⟩ ?_
            refine WC.region ?_
            refine WL.yd (Yd.move rfl) rfl ?_
            refine WL.yd (Yd.eql rfl rfl) rfl ?_
            refine WL.yd (Yd.move rfl) rfl ?_
            refine WL.part 87 rfl (fun g87 => ?_) (fun g87 => ?_)
            · try simp only [decide_eq_true_eq, decide_eq_false_iff_not, Bool.not_eq_true', Bool.not_eq_false', Int.not_lt, Int.not_le, Bool.not_true, Bool.not_false] at g87
              refine WL.ydg rfl (Yd.move rfl) rfl ?_
              refine WL.ydg rfl (Yd.lenS rfl Try.underlying26 rfl) rfl ?_
              refine WL.ydg rfl (Yd.move rfl) rfl ?_
              refine WL.ydg rfl (Yd.lenS rfl Try.underlying26 rfl) rfl ?_
              refine WL.ydg rfl (Yd.eql rfl rfl) rfl ?_
              refine WL.know 92 (.bool true) rfl (congrArg Value.bool (decide_eq_true (by omega))) ?_
              refine WL.yd (Yd.pickT rfl rfl) rfl ?_
              refine WL.nil ?_
              refine WP.thenC ?_
              refine WC.condT rfl ?_
              refine WC.seq ?_
              refine WC.ofFr [(11, _), (9, _), (8, _), (7, _), (6, _), (3, _), (2, _)] ⟨rfl, rfl, rfl, rfl, rfl, rfl, rfl, trivial⟩ ?_
              refine WC.region ?_
              refine WL.yd (Yd.move rfl) rfl ?_
              refine WL.yd (Yd.lenS rfl Try.underlying26 rfl) rfl ?_
              refine WL.yd (Yd.move rfl) rfl ?_
              refine WL.nil ?_
              refine WP.thenC ?_
              refine WC.block ?_
              refine WC.loopF (fun k : Nat => [(2, .int .u8 (b : Int)), (3, pt b3), (7, .slice a3 ((PlanOut d).1).length c3), (8, it (PlanOut d).2), (9, nt s), (11, .slice a8 d.bathers.length c8), (95, nt ((PlanOut d).1).length), (96, nt k)]) (fun k => k ≤ ((PlanOut d).1).length ∧ ∀ i, i < k → gt (PlanOut d).1 i = gt (madeL d by_ 0) i) (fun k => ((PlanOut d).1).length - k) 0 ⟨by omega, fun i hi => by omega⟩ (by exact ⟨rfl, rfl, rfl, rfl, rfl, rfl, rfl, rfl, trivial⟩) ?_
              rintro k ⟨hk, heq⟩
              refine WC.seq ?_
              refine WC.ofFr [(2, _), (3, _), (7, _), (8, _), (9, _), (11, _), (95, _), (96, _)] ⟨rfl, rfl, rfl, rfl, rfl, rfl, rfl, rfl, trivial⟩ ?_
              refine WC.region ?_
              refine WL.yd (Yd.lss rfl rfl) rfl ?_
              refine WL.nil ?_
              refine WP.thenC ?_
              refine WC.seq ?_
              refine WC.cond rfl (fun c97 => ?_) (fun c97 => ?_)
              · try simp only [decide_eq_true_eq, decide_eq_false_iff_not, Bool.not_eq_true', Bool.not_eq_false', Int.not_lt, Int.not_le, Bool.not_true, Bool.not_false] at c97
                refine WC.skip ?_
                refine WP.thenC ?_
                refine WC.seq ?_
                refine WC.block ?_
                refine WC.seq ?_
                refine WC.ofFr [(2, _), (3, _), (7, _), (8, _), (9, _), (11, _), (95, _), (96, _)] ⟨rfl, rfl, rfl, rfl, rfl, rfl, rfl, rfl, trivial⟩ ?_
                refine WC.region ?_
                refine WL.yd (Yd.move rfl) rfl ?_
                refine WL.yd (Yd.assign rfl) rfl ?_
                refine WL.nil ?_
                refine WP.thenC ?_
                refine WC.seq ?_
                refine WC.ofFr [(15, _), (2, _), (3, _), (7, _), (8, _), (9, _), (11, _), (95, _), (96, _)] ⟨rfl, rfl, rfl, rfl, rfl, rfl, rfl, rfl, rfl, trivial⟩ ?_
                refine WC.tail 8 [0, 1, 2, 3, 4, 5, 6, 7] rfl (by kernel_rfl) (by kernel_rfl)  ?_
                refine WQ.q rfl (Yd.qt (Yd.move rfl)) rfl ?_
                refine WQ.q rfl (Yd.qt (Yd.move rfl)) rfl ?_
                refine WQ.q rfl (Yd.qt (Yd.indexS Try.underlying26 Try.sizeOf61 rfl rfl (by omega) (by omega) (by first | exact hP.pl.addr k (by omega) | exact hP8.pl.addr k (by omega)))) rfl ?_
                refine WQ.q rfl (Yd.qt (Yd.loadN Try.isAgg61 Try.sizeOf61 rfl (vs := [_, _]) rfl (by first | exact RdN.own (k := 0) (n := 2) rfl rfl | exact (hP.pl.at k (by omega)).rdn 0 2 rfl | exact (hP8.pl.at k (by omega)).rdn 0 2 rfl))) rfl ?_
                refine WQ.q rfl (Yd.qt (Yd.move rfl)) rfl ?_
                refine WQ.q rfl (Yd.qt (Yd.move rfl)) rfl ?_
                refine WQ.q rfl (Yd.qt (Yd.indexS Try.underlying26 Try.sizeOf61 rfl rfl (by omega) (by omega) (by first | exact hP.pl.addr k (by omega) | exact hP8.pl.addr k (by omega)))) rfl ?_
                refine WQ.q rfl (Yd.qt (Yd.loadN Try.isAgg61 Try.sizeOf61 rfl (vs := [_, _]) rfl (by first | exact RdN.own (k := 0) (n := 2) rfl rfl | exact (hP.pl.at k (by omega)).rdn 0 2 rfl | exact (hP8.pl.at k (by omega)).rdn 0 2 rfl))) rfl ?_
                refine WQ.tail ?_
                refine WL.yd (Yd.neS Try.eqGuardType61 (eq61 _ _ _ _) rfl rfl) rfl ?_
                refine WL.nil ?_
                refine WP.thenC ?_
                refine WC.cond rfl (fun c107 => ?_) (fun c107 => ?_)
                · try simp only [decide_eq_true_eq, decide_eq_false_iff_not, Bool.not_eq_true', Bool.not_eq_false', Int.not_lt, Int.not_le, Bool.not_true, Bool.not_false] at c107
                  have hne : gt (PlanOut d).1 k ≠ gt (madeL d by_ 0) k := c107
                  have hlt := plan_first hv hpl (by first | exact hgo | exact (good_fine hown.1 hown.2 false).1 (hrn.2.1.1 (by omega))) k (by omega) heq hne
                  refine WC.seq ?_
                  refine WC.seq ?_
                  refine WC.ofFr [(15, _), (2, _), (3, _), (7, _), (8, _), (9, _), (11, _), (95, _), (96, _)] ⟨rfl, rfl, rfl, rfl, rfl, rfl, rfl, rfl, rfl, trivial⟩ ?_
                  refine WC.tail 34 [0, 1, 2, 3, 4, 5, 6, 7, 8, 9, 10, 11, 12, 13, 14, 15, 16, 17, 18, 19, 20, 21, 22, 23, 24, 25, 26, 27, 28, 29, 30, 31, 32, 33] rfl (by kernel_rfl) (by kernel_rfl)  ?_
                  refine WQ.q rfl (Yd.qt (Yd.move rfl)) rfl ?_
                  refine WQ.q rfl (Yd.qt (Yd.move rfl)) rfl ?_
                  refine WQ.q rfl (Yd.qt (Yd.indexS Try.underlying26 Try.sizeOf61 rfl rfl (by omega) (by omega) (by first | exact hP.pl.addr k (by omega) | exact hP8.pl.addr k (by omega)))) rfl ?_
                  refine WQ.q rfl (Yd.qt (Yd.fieldAddr FA61_0 rfl)) rfl ?_
                  refine WQ.q rfl (Yd.qt (Yd.load1 Try.isAgg3 rfl (by first | exact Rd.own (k := 0) rfl rfl | exact (Rd.imm hbD rfl) | exact ((hP.pl.at k (by omega)).rd 0 rfl) | exact ((hP8.pl.at k (by omega)).rd 0 rfl) | exact ((hP.pl.at k (by omega)).rd 1 rfl) | exact ((hP8.pl.at k (by omega)).rd 1 rfl)))) rfl ?_
                  refine WQ.q rfl (Yd.qt (Yd.move rfl)) rfl ?_
                  refine WQ.q rfl (Yd.qt (Yd.move rfl)) rfl ?_
                  refine WQ.q rfl (Yd.qt (Yd.indexS Try.underlying26 Try.sizeOf61 rfl rfl (by omega) (by omega) (by first | exact hP.pl.addr k (by omega) | exact hP8.pl.addr k (by omega)))) rfl ?_
                  refine WQ.q rfl (Yd.qt (Yd.fieldAddr FA61_0 rfl)) rfl ?_
                  refine WQ.q rfl (Yd.qt (Yd.load1 Try.isAgg3 rfl (by first | exact Rd.own (k := 0) rfl rfl | exact (Rd.imm hbD rfl) | exact ((hP.pl.at k (by omega)).rd 0 rfl) | exact ((hP8.pl.at k (by omega)).rd 0 rfl) | exact ((hP.pl.at k (by omega)).rd 1 rfl) | exact ((hP8.pl.at k (by omega)).rd 1 rfl)))) rfl ?_
                  refine WQ.q rfl (Yd.qt (Yd.gtr rfl rfl)) rfl ?_
                  refine WQ.know 118 (.bool false) rfl (congrArg Value.bool (decide_eq_false (by unfold plLt at hlt; omega))) ?_
                  refine WQ.q rfl (Yd.qt (Yd.move rfl)) rfl ?_
                  refine WQ.qg rfl rfl (Yd.qt (Yd.move rfl)) rfl ?_
                  refine WQ.qg rfl rfl (Yd.qt (Yd.move rfl)) rfl ?_
                  refine WQ.qg rfl rfl (Yd.qt (Yd.indexS Try.underlying26 Try.sizeOf61 rfl rfl (by omega) (by omega) (by first | exact hP.pl.addr k (by omega) | exact hP8.pl.addr k (by omega)))) rfl ?_
                  refine WQ.qg rfl rfl (Yd.qt (Yd.fieldAddr FA61_0 rfl)) rfl ?_
                  refine WQ.qg rfl rfl (Yd.qt (Yd.load1 Try.isAgg3 rfl (by first | exact Rd.own (k := 0) rfl rfl | exact (Rd.imm hbD rfl) | exact ((hP.pl.at k (by omega)).rd 0 rfl) | exact ((hP8.pl.at k (by omega)).rd 0 rfl) | exact ((hP.pl.at k (by omega)).rd 1 rfl) | exact ((hP8.pl.at k (by omega)).rd 1 rfl)))) rfl ?_
                  refine WQ.qg rfl rfl (Yd.qt (Yd.move rfl)) rfl ?_
                  refine WQ.qg rfl rfl (Yd.qt (Yd.move rfl)) rfl ?_
                  refine WQ.qg rfl rfl (Yd.qt (Yd.indexS Try.underlying26 Try.sizeOf61 rfl rfl (by omega) (by omega) (by first | exact hP.pl.addr k (by omega) | exact hP8.pl.addr k (by omega)))) rfl ?_
                  refine WQ.qg rfl rfl (Yd.qt (Yd.fieldAddr FA61_0 rfl)) rfl ?_
                  refine WQ.qg rfl rfl (Yd.qt (Yd.load1 Try.isAgg3 rfl (by first | exact Rd.own (k := 0) rfl rfl | exact (Rd.imm hbD rfl) | exact ((hP.pl.at k (by omega)).rd 0 rfl) | exact ((hP8.pl.at k (by omega)).rd 0 rfl) | exact ((hP.pl.at k (by omega)).rd 1 rfl) | exact ((hP8.pl.at k (by omega)).rd 1 rfl)))) rfl ?_
                  refine WQ.qg rfl rfl (Yd.qt (Yd.eql rfl rfl)) rfl ?_
                  refine WQ.qg rfl rfl (Yd.qt (Yd.move rfl)) rfl ?_
                  refine WQ.part 131 rfl (fun g131 => ?_) (fun g131 => ?_)
                  · try simp only [decide_eq_true_eq, decide_eq_false_iff_not, Bool.not_eq_true', Bool.not_eq_false', Int.not_lt, Int.not_le, Bool.not_true, Bool.not_false] at g131
                    refine WQ.qg rfl rfl (Yd.qt (Yd.move rfl)) rfl ?_
                    refine WQ.qg rfl rfl (Yd.qt (Yd.move rfl)) rfl ?_
                    refine WQ.qg rfl rfl (Yd.qt (Yd.indexS Try.underlying26 Try.sizeOf61 rfl rfl (by omega) (by omega) (by first | exact hP.pl.addr k (by omega) | exact hP8.pl.addr k (by omega)))) rfl ?_
                    refine WQ.qg rfl rfl (Yd.qt (Yd.fieldAddr FA61_1 rfl)) rfl ?_
                    refine WQ.qg rfl rfl (Yd.qt (Yd.load1 Try.isAgg3 rfl (by first | exact Rd.own (k := 0) rfl rfl | exact (Rd.imm hbD rfl) | exact ((hP.pl.at k (by omega)).rd 0 rfl) | exact ((hP8.pl.at k (by omega)).rd 0 rfl) | exact ((hP.pl.at k (by omega)).rd 1 rfl) | exact ((hP8.pl.at k (by omega)).rd 1 rfl)))) rfl ?_
                    refine WQ.qg rfl rfl (Yd.qt (Yd.move rfl)) rfl ?_
                    refine WQ.qg rfl rfl (Yd.qt (Yd.move rfl)) rfl ?_
                    refine WQ.qg rfl rfl (Yd.qt (Yd.indexS Try.underlying26 Try.sizeOf61 rfl rfl (by omega) (by omega) (by first | exact hP.pl.addr k (by omega) | exact hP8.pl.addr k (by omega)))) rfl ?_
                    refine WQ.qg rfl rfl (Yd.qt (Yd.fieldAddr FA61_1 rfl)) rfl ?_
                    refine WQ.qg rfl rfl (Yd.qt (Yd.load1 Try.isAgg3 rfl (by first | exact Rd.own (k := 0) rfl rfl | exact (Rd.imm hbD rfl) | exact ((hP.pl.at k (by omega)).rd 0 rfl) | exact ((hP8.pl.at k (by omega)).rd 0 rfl) | exact ((hP.pl.at k (by omega)).rd 1 rfl) | exact ((hP8.pl.at k (by omega)).rd 1 rfl)))) rfl ?_
                    refine WQ.tail ?_
                    refine WL.ydg rfl (Yd.gtr rfl rfl) rfl ?_
                    refine WL.know 142 (.bool false) rfl (congrArg Value.bool (decide_eq_false (by unfold plLt at hlt; omega))) ?_
                    refine WL.ydg rfl (Yd.pickT rfl rfl) rfl ?_
                    refine WL.yd (Yd.pickF rfl rfl) rfl ?_
                    refine WL.nil ?_
                    refine WP.thenC ?_
                    refine WC.condF rfl ?_
                    refine WC.skip ?_
                    refine WP.thenC ?_
                    refine WC.exit ?_
                    refine WP.blkMiss rfl ?_
                    refine WP.thenExit ?_
                    refine WP.thenExit ?_
                    refine WP.blkHit ?_
                    exact WP.join () trivial (fun aa ww h => at_less h ⟨rfl, rfl, rfl, rfl, rfl, trivial⟩ (fun e he => by rw [List.mem_singleton.1 he]; exact List.mem_cons_self ..) (fun _ => by simp))
                  · try simp only [decide_eq_true_eq, decide_eq_false_iff_not, Bool.not_eq_true', Bool.not_eq_false', Int.not_lt, Int.not_le, Bool.not_true, Bool.not_false] at g131
                    refine WQ.skip rfl rfl rfl ?_
                    refine WQ.skip rfl rfl rfl ?_
                    refine WQ.skip rfl rfl rfl ?_
                    refine WQ.skip rfl rfl rfl ?_
                    refine WQ.skip rfl rfl rfl ?_
                    refine WQ.skip rfl rfl rfl ?_
                    refine WQ.skip rfl rfl rfl ?_
                    refine WQ.skip rfl rfl rfl ?_
                    refine WQ.skip rfl rfl rfl ?_
                    refine WQ.skip rfl rfl rfl ?_
                    refine WQ.tail ?_
                    refine WL.skip rfl rfl ?_
                    refine WL.ydg rfl (Yd.pickF rfl rfl) rfl ?_
                    refine WL.yd (Yd.pickF rfl rfl) rfl ?_
                    refine WL.nil ?_
                    refine WP.thenC ?_
                    refine WC.condF rfl ?_
                    refine WC.skip ?_
                    refine WP.thenC ?_
                    refine WC.exit ?_
                    refine WP.blkMiss rfl ?_
                    refine WP.thenExit ?_
                    refine WP.thenExit ?_
                    refine WP.blkHit ?_
                    exact WP.join () trivial (fun aa ww h => at_less h ⟨rfl, rfl, rfl, rfl, rfl, trivial⟩ (fun e he => by rw [List.mem_singleton.1 he]; exact List.mem_cons_self ..) (fun _ => by simp))
                · try simp only [decide_eq_true_eq, decide_eq_false_iff_not, Bool.not_eq_true', Bool.not_eq_false', Int.not_lt, Int.not_le, Bool.not_true, Bool.not_false] at c107
                  have heq9 : gt (PlanOut d).1 k = gt (madeL d by_ 0) k := c107
                  refine WC.skip ?_
                  refine WP.blkNormal ?_
                  refine WP.thenC ?_
                  refine WC.ofFr [(2, _), (3, _), (7, _), (8, _), (9, _), (11, _), (95, _), (96, _)] ⟨rfl, rfl, rfl, rfl, rfl, rfl, rfl, rfl, trivial⟩ ?_
                  refine WC.region ?_
                  refine WL.yd (Yd.add rfl rfl (wr64 ⟨by omega, by omega⟩)) rfl ?_
                  refine WL.yd (Yd.move rfl) rfl ?_
                  refine WL.nil ?_
                  exact WP.againF (k + 1) ⟨by omega, ext_round heq heq9⟩ (by omega) ⟨rfl, rfl, rfl, rfl, rfl, rfl, rfl, rfl, trivial⟩ (fun _ h => h) (fun h => h)
              · try simp only [decide_eq_true_eq, decide_eq_false_iff_not, Bool.not_eq_true', Bool.not_eq_false', Int.not_lt, Int.not_le, Bool.not_true, Bool.not_false] at c97
                refine WC.exit ?_
                refine WP.thenExit ?_
                refine WP.thenExit ?_
                refine WP.blkHit ?_
                exact WP.join () trivial (fun aa ww h => at_less h ⟨rfl, rfl, rfl, rfl, rfl, trivial⟩ (fun e he => by rw [List.mem_singleton.1 he]; exact List.mem_cons_self ..) (fun _ => by simp))
            · try simp only [decide_eq_true_eq, decide_eq_false_iff_not, Bool.not_eq_true', Bool.not_eq_false', Int.not_lt, Int.not_le, Bool.not_true, Bool.not_false] at g87
              refine WL.skip rfl rfl ?_
              refine WL.skip rfl rfl ?_
              refine WL.skip rfl rfl ?_
              refine WL.skip rfl rfl ?_
              refine WL.skip rfl rfl ?_
              refine WL.yd (Yd.pickF rfl rfl) rfl ?_
              refine WL.nil ?_
              refine WP.thenC ?_
              refine WC.condF rfl ?_
              refine WC.skip ?_
              exact WP.join () trivial (fun aa ww h => at_less h ⟨rfl, rfl, rfl, rfl, rfl, trivial⟩ (fun e he => by rw [List.mem_singleton.1 he]; exact List.mem_cons_self ..) (fun _ => by simp))
        · try simp only [decide_eq_true_eq, decide_eq_false_iff_not, Bool.not_eq_true', Bool.not_eq_false', Int.not_lt, Int.not_le, Bool.not_true, Bool.not_false] at c68
          refine WC.skip ?_
          exact WP.join () trivial (fun aa ww h => at_less h ⟨rfl, rfl, rfl, rfl, rfl, trivial⟩ (fun e he => by rw [List.mem_singleton.1 he]; exact List.mem_cons_self ..) (fun _ => by simp))

theorem first9_g (d : Dips) (a1 : Option Addr) (n1 c1 : Nat) (a2 : Option Addr) (n2 c2 : Nat) (D : Imm) (w : World) (hS1 : SlL D 3 (d.dippers.map dipperC) a1 n1) (hS2 : SlL D 3 (d.bathers.map batherC) a2 n2) (hH : Holds D w) (by_ : List Int) (a4 : Option Addr) (n4 c4 : Nat) (hS4 : SlL D 1 (by_.map u16C) a4 n4) (hby : ∀ i, i < by_.length → 0 ≤ gt by_ i ∧ gt by_ i ≤ 65535) (b : Nat) (hb : b < 256) : Gives Try.prog 9 [.agg #[it d.hours, .slice a1 n1 c1, .slice a2 n2 c2], .slice a4 n4 c4, .int .u8 (b : Int)] w (.bool true) := by
  cases hv : dipsB d with
  | false => exact first9_1 d a1 n1 c1 a2 n2 c2 D w hS1 hS2 hH by_ a4 n4 c4 hS4 hby b hb hv
  | true =>
    rcases few_n hv with ⟨h1, h2, h3, h4⟩ | ⟨h1, h2, s, h3, h4, h5, h6⟩
    · exact first9_a d a1 n1 c1 a2 n2 c2 D w hS1 hS2 hH by_ a4 n4 c4 hS4 hby b hb hv h1 h2 h3 h4
    · exact first9_b d a1 n1 c1 a2 n2 c2 D w hS1 hS2 hH by_ a4 n4 c4 hS4 hby b hb hv h1 h2 s h3 h4 h5 h6

end Go.Proofs.Ytidjdonppfegiaa
