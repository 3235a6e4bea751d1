import Derived.Test.YtkhmmefgllbobaaXZK
set_option linter.unusedSimpArgs false
set_option linter.unusedVariables false
set_option linter.all false
set_option maxRecDepth 100000
set_option maxHeartbeats 1000000
namespace Go.Proofs.Ytkhmmefgllbobaa
open Go.W Go.Po

theorem every80_g (p : Post) (a1 : Option Addr) (n1 c1 : Nat) (a2 : Option Addr) (n2 c2 : Nat) (D : Imm) (w : World) (hR : PostR D p a1 n1 a2 n2) (hH : Holds D w) (hv : postB p = true) : Gives Try.prog 80 [.agg #[it p.post.lo, it p.post.hi, .slice a1 n1 c1, .slice a2 n2 c2]] w (nt (everyS p)) := by
  unfold Gives
  obtain rfl := hR.bath.len'
  obtain rfl := hR.claim.len'
  have hl1 := hR.len1
  have hl2 := hR.len2
  have h8 := (post_num hv).2.2.1
  have h256 : 2 ^ p.claims.length ≤ 2 ^ 8 := Nat.pow_le_pow_right (by omega) h8
  refine enter Try.func80 rfl 8 Try.ntmps80 (Nat.le_of_ble_eq_true rfl) (Inv.start hH) ?_
  refine WC.seq ?_
  refine WC.ofFr [(0, _)] ⟨rfl, trivial⟩ ?_
  refine WC.region ?_
  refine WL.so (SO.box rfl rfl) rfl ?_
  rintro _ _ _ ⟨b1, hb1, rfl, rfl, rfl⟩
  refine WL.yd (Yd.assign rfl) rfl ?_
  refine WL.nil ?_
  refine WP.thenC ?_
  refine WC.seq ?_
  refine WC.ofFr [(2, _), (1, _)] ⟨rfl, rfl, trivial⟩ ?_
  refine WC.region ?_
  refine WL.yd (Yd.fieldAddr FA27_2 rfl) rfl ?_
  refine WL.yd (Yd.load1 Try.isAgg25 rfl (by first | exact Rd.own (k := 0) rfl rfl)) rfl ?_
  refine WL.yd (Yd.lenS rfl Try.underlying25 rfl) rfl ?_
  refine WL.so (SO.callP Try.call66 rfl (fun w hI => power_g p.claims.length _ (by omega))) rfl ?_
  rintro _ _ _ ⟨rfl, rfl, rfl⟩
  refine WL.yd (Yd.subN (j := 1) rfl rfl Nat.one_le_two_pow (by omega)) rfl ?_
  refine WL.yd (Yd.assign rfl) rfl ?_
  refine WL.nil ?_
  refine WP.thenC ?_
  refine WC.ret ?_
  refine WP.ret1 rfl rfl Try.results80 (RV.tmp rfl) (fun w hI => ⟨rfl, hI.keep⟩)

theorem every_le {p : Post} (hv : postB p = true) : everyS p ≤ 255 := by
  have h8 := (post_num hv).2.2.1
  have h256 : 2 ^ p.claims.length ≤ 2 ^ 8 := Nat.pow_le_pow_right (by omega) h8
  unfold everyS; omega

theorem truths95_g (p : Post) (a1 : Option Addr) (n1 c1 : Nat) (a2 : Option Addr) (n2 c2 : Nat) (D : Imm) (w : World) (hR : PostR D p a1 n1 a2 n2) (hH : Holds D w) (hv : postB p = true) : Makes Try.prog 95 [.agg #[it p.post.lo, it p.post.hi, .slice a1 n1 c1, .slice a2 n2 c2]] w D (fun v D' => ∃ a n c, v = .slice a n c ∧ TruM D' (T p) a n ∧ n ≤ 4750104241) := by
  unfold Makes
  obtain rfl := hR.bath.len'
  obtain rfl := hR.claim.len'
  have hl1 := hR.len1
  have hl2 := hR.len2
  have hev := every_le hv
  refine enter Try.func95 rfl 7 Try.ntmps95 (Nat.le_of_ble_eq_true rfl) (Inv.start hH) ?_
  refine WC.seq ?_
  refine WC.ofFr [(0, _)] ⟨rfl, trivial⟩ ?_
  refine WC.region ?_
  refine WL.so (SO.box rfl rfl) rfl ?_
  rintro _ _ _ ⟨b1, hb1, rfl, rfl, rfl⟩
  refine WL.yd (Yd.assign rfl) rfl ?_
  refine WL.nil ?_
  refine WP.thenC ?_
  refine WC.seq ?_
  refine WC.ofFr [(2, _), (1, _)] ⟨rfl, rfl, trivial⟩ ?_
  refine WC.tail 3 [0, 1, 2] rfl (by kernel_rfl) (by kernel_rfl)  ?_
  refine WQ.q rfl (Yd.qt (Yd.loadN Try.isAgg27 Try.sizeOf27 rfl (vs := [_, _, _, _]) rfl (by first | exact RdN.own (k := 0) (n := 4) rfl rfl))) rfl ?_
  refine WQ.q rfl (Yd.qt (Yd.loadN Try.isAgg27 Try.sizeOf27 rfl (vs := [_, _, _, _]) rfl (by first | exact RdN.own (k := 0) (n := 4) rfl rfl))) rfl ?_
  refine WQ.q rfl (Qt.callP Try.call80 rfl (fun w hI => every80_g p a1 _ c1 a2 _ c2 _ w hR hI.imm hv)) rfl ?_
  refine WQ.tail ?_
  refine WL.so (SO.makes (Enters.func Try.call109 rfl) (fun w hI => truM_g p (everyS p) (by omega) hv a1 _ c1 a2 _ c2 _ w hR hI.imm)) rfl ?_
  rintro _ D6 _ ⟨hX6, ⟨a6, n6, c6, rfl, hM, hn6⟩, rfl⟩
  refine WL.yd (Yd.assign rfl) rfl ?_
  refine WL.nil ?_
  refine WP.thenC ?_
  refine WC.ret ?_
  refine WP.ret1 rfl rfl Try.results95 (RV.tmp rfl) (fun w1 hI => ⟨_, D6, rfl, hI.keep, hI.imm, hX6, a6, n6, c6, rfl, hM, hn6⟩)

theorem told52_1 (p : Post) (a1 : Option Addr) (n1 c1 : Nat) (a2 : Option Addr) (n2 c2 : Nat) (D : Imm) (w : World) (hR : PostR D p a1 n1 a2 n2) (hH : Holds D w) (v : Bool) (hv : postB p = false) : Gives Try.prog 52 [.agg #[it p.post.lo, it p.post.hi, .slice a1 n1 c1, .slice a2 n2 c2], .bool v] w (.tuple #[.slice none 0 0, it (toldE p v)]) := by
  unfold Gives
  obtain rfl := hR.bath.len'
  obtain rfl := hR.claim.len'
  have hl1 := hR.len1
  have hl2 := hR.len2
  have hO : toldE p v = 1 := told_arg hv v
  refine enter Try.func52 rfl 18 Try.ntmps52 (Nat.le_of_ble_eq_true rfl) (Inv.start hH) ?_
  refine WC.seq ?_
  refine WC.ofFr [(0, _), (1, _)] ⟨rfl, rfl, trivial⟩ ?_
  refine WC.region ?_
  refine WL.so (SO.box rfl rfl) rfl ?_
  rintro _ _ _ ⟨b2, hb2, rfl, rfl, rfl⟩
  refine WL.yd (Yd.assign rfl) rfl ?_
  refine WL.yd (Yd.assign rfl) rfl ?_
  refine WL.nil ?_
  refine WP.thenC ?_
  refine WC.seq ?_
  refine WC.seq ?_
  refine WC.ofFr [(5, _), (4, _), (2, _), (1, _)] ⟨rfl, rfl, rfl, rfl, trivial⟩ ?_
  refine WC.region ?_
  refine WL.yd (Yd.loadN Try.isAgg27 Try.sizeOf27 rfl (vs := [_, _, _, _]) rfl (by first | exact RdN.own (k := 0) (n := 4) rfl rfl)) rfl ?_
  refine WL.so (SO.callP Try.call39 rfl (fun w hI => rpost_g p a1 _ c1 a2 _ c2 _ w hR hI.imm)) rfl ?_
  rintro _ _ _ ⟨rfl, rfl, rfl⟩
  refine WL.know 8 (.bool false) rfl (congrArg Value.bool hv) ?_
  refine WL.yd (Yd.not rfl) rfl ?_
  refine WL.nil ?_
  refine WP.thenC ?_
  refine WC.condT rfl ?_
  refine WC.seq ?_
  refine WC.ofFr [(5, _), (4, _), (2, _), (1, _)] ⟨rfl, rfl, rfl, rfl, trivial⟩ ?_
  refine WC.region ?_
  refine WL.yd (Yd.assign rfl) rfl ?_
  refine WL.yd (Yd.assign rfl) rfl ?_
  refine WL.nil ?_
  refine WP.thenC ?_
  refine WC.ret ?_
  refine WP.thenRet ?_
  refine WP.ret2 rfl rfl Try.results52 (RV.tmp rfl) (RV.tmp rfl) (fun w hI => ⟨by rw [hO], hI.keep⟩)

theorem told52_2 (p : Post) (a1 : Option Addr) (n1 c1 : Nat) (a2 : Option Addr) (n2 c2 : Nat) (D : Imm) (w : World) (hR : PostR D p a1 n1 a2 n2) (hH : Holds D w) (v : Bool) (hv : postB p = true) (hvv : v = false) : Gives Try.prog 52 [.agg #[it p.post.lo, it p.post.hi, .slice a1 n1 c1, .slice a2 n2 c2], .bool v] w (.tuple #[.slice none 0 0, it (toldE p v)]) := by
  unfold Gives
  obtain rfl := hR.bath.len'
  obtain rfl := hR.claim.len'
  have hl1 := hR.len1
  have hl2 := hR.len2
  have hO : toldE p v = 2 := by rw [hvv]; exact told_range hv
  refine enter Try.func52 rfl 18 Try.ntmps52 (Nat.le_of_ble_eq_true rfl) (Inv.start hH) ?_
  refine WC.seq ?_
  refine WC.ofFr [(0, _), (1, _)] ⟨rfl, rfl, trivial⟩ ?_
  refine WC.region ?_
  refine WL.so (SO.box rfl rfl) rfl ?_
  rintro _ _ _ ⟨b2, hb2, rfl, rfl, rfl⟩
  refine WL.yd (Yd.assign rfl) rfl ?_
  refine WL.yd (Yd.assign rfl) rfl ?_
  refine WL.nil ?_
  refine WP.thenC ?_
  refine WC.seq ?_
  refine WC.seq ?_
  refine WC.ofFr [(5, _), (4, _), (2, _), (1, _)] ⟨rfl, rfl, rfl, rfl, trivial⟩ ?_
  refine WC.region ?_
  refine WL.yd (Yd.loadN Try.isAgg27 Try.sizeOf27 rfl (vs := [_, _, _, _]) rfl (by first | exact RdN.own (k := 0) (n := 4) rfl rfl)) rfl ?_
  refine WL.so (SO.callP Try.call39 rfl (fun w hI => rpost_g p a1 _ c1 a2 _ c2 _ w hR hI.imm)) rfl ?_
  rintro _ _ _ ⟨rfl, rfl, rfl⟩
  refine WL.know 8 (.bool true) rfl (congrArg Value.bool hv) ?_
  refine WL.yd (Yd.not rfl) rfl ?_
  refine WL.nil ?_
  refine WP.thenC ?_
  refine WC.condF rfl ?_
  refine WC.skip ?_
  refine WP.thenC ?_
  refine WC.seq ?_
  refine WC.seq ?_
  refine WC.ofFr [(5, _), (4, _), (2, _), (1, _)] ⟨rfl, rfl, rfl, rfl, trivial⟩ ?_
  refine WC.region ?_
  refine WL.yd (Yd.move rfl) rfl ?_
  refine WL.know 10 (.bool false) rfl (congrArg Value.bool hvv) ?_
  refine WL.yd (Yd.not rfl) rfl ?_
  refine WL.nil ?_
  refine WP.thenC ?_
  refine WC.condT rfl ?_
  refine WC.seq ?_
  refine WC.ofFr [(5, _), (4, _), (2, _)] ⟨rfl, rfl, rfl, trivial⟩ ?_
  refine WC.region ?_
  refine WL.yd (Yd.assign rfl) rfl ?_
  refine WL.yd (Yd.assign rfl) rfl ?_
  refine WL.nil ?_
  refine WP.thenC ?_
  refine WC.ret ?_
  refine WP.thenRet ?_
  refine WP.ret2 rfl rfl Try.results52 (RV.tmp rfl) (RV.tmp rfl) (fun w hI => ⟨by rw [hO], hI.keep⟩)

theorem told52_10 (p : Post) (a1 : Option Addr) (n1 c1 : Nat) (a2 : Option Addr) (n2 c2 : Nat) (D : Imm) (w : World) (hR : PostR D p a1 n1 a2 n2) (hH : Holds D w) (v : Bool) (hv : postB p = true) (hvv : v = true) (hok : okA p = false) : Gives Try.prog 52 [.agg #[it p.post.lo, it p.post.hi, .slice a1 n1 c1, .slice a2 n2 c2], .bool v] w (.tuple #[.slice none 0 0, it (toldE p v)]) := by
  unfold Gives
  obtain rfl := hR.bath.len'
  obtain rfl := hR.claim.len'
  have hl1 := hR.len1
  have hl2 := hR.len2
  have hO : toldE p v = 10 := told_bad hv hok hvv
  have hz : ¬ (((T p).length : Int) > 0) := of_decide_eq_false ((T_ok hv).symm.trans hok)
  refine enter Try.func52 rfl 18 Try.ntmps52 (Nat.le_of_ble_eq_true rfl) (Inv.start hH) ?_
  refine WC.seq ?_
  refine WC.ofFr [(0, _), (1, _)] ⟨rfl, rfl, trivial⟩ ?_
  refine WC.region ?_
  refine WL.so (SO.box rfl rfl) rfl ?_
  rintro _ _ _ ⟨b2, hb2, rfl, rfl, rfl⟩
  refine WL.yd (Yd.assign rfl) rfl ?_
  refine WL.yd (Yd.assign rfl) rfl ?_
  refine WL.nil ?_
  refine WP.thenC ?_
  refine WC.seq ?_
  refine WC.seq ?_
  refine WC.ofFr [(5, _), (4, _), (2, _), (1, _)] ⟨rfl, rfl, rfl, rfl, trivial⟩ ?_
  refine WC.region ?_
  refine WL.yd (Yd.loadN Try.isAgg27 Try.sizeOf27 rfl (vs := [_, _, _, _]) rfl (by first | exact RdN.own (k := 0) (n := 4) rfl rfl)) rfl ?_
  refine WL.so (SO.callP Try.call39 rfl (fun w hI => rpost_g p a1 _ c1 a2 _ c2 _ w hR hI.imm)) rfl ?_
  rintro _ _ _ ⟨rfl, rfl, rfl⟩
  refine WL.know 8 (.bool true) rfl (congrArg Value.bool hv) ?_
  refine WL.yd (Yd.not rfl) rfl ?_
  refine WL.nil ?_
  refine WP.thenC ?_
  refine WC.condF rfl ?_
  refine WC.skip ?_
  refine WP.thenC ?_
  refine WC.seq ?_
  refine WC.seq ?_
  refine WC.ofFr [(5, _), (4, _), (2, _), (1, _)] ⟨rfl, rfl, rfl, rfl, trivial⟩ ?_
  refine WC.region ?_
  refine WL.yd (Yd.move rfl) rfl ?_
  refine WL.know 10 (.bool true) rfl (congrArg Value.bool hvv) ?_
  refine WL.yd (Yd.not rfl) rfl ?_
  refine WL.nil ?_
  refine WP.thenC ?_
  refine WC.condF rfl ?_
  refine WC.skip ?_
  refine WP.thenC ?_
  refine WC.seq ?_
  refine WC.ofFr [(5, _), (4, _), (2, _)] ⟨rfl, rfl, rfl, trivial⟩ ?_
  refine WC.region ?_
  refine WL.yd (Yd.loadN Try.isAgg27 Try.sizeOf27 rfl (vs := [_, _, _, _]) rfl (by first | exact RdN.own (k := 0) (n := 4) rfl rfl)) rfl ?_
  refine WL.so (SO.makes (Enters.func Try.call95 rfl) (fun w hI => truths95_g p a1 _ c1 a2 _ c2 _ w hR hI.imm hv)) rfl ?_
  rintro _ D6 _ ⟨hX6, ⟨a6, n6, c6, rfl, hM, hn6⟩, rfl⟩
  have hml := hM.len
  refine WL.yd (Yd.assign rfl) rfl ?_
  refine WL.nil ?_
  refine WP.thenC ?_
  refine WC.seq ?_
  refine WC.seq ?_
  refine WC.ofFr [(6, _), (5, _), (4, _)] ⟨rfl, rfl, rfl, trivial⟩ ?_
  refine WC.region ?_
  refine WL.yd (Yd.move rfl) rfl ?_
  refine WL.yd (Yd.lenS rfl Try.underlying80 rfl) rfl ?_
  refine WL.yd (Yd.eql rfl rfl) rfl ?_
  refine WL.know 16 (.bool true) rfl (congrArg Value.bool (decide_eq_true (by omega))) ?_
  refine WL.nil ?_
  refine WP.thenC ?_
  refine WC.condT rfl ?_
  refine WC.seq ?_
  refine WC.ofFr [(6, _), (5, _), (4, _)] ⟨rfl, rfl, rfl, trivial⟩ ?_
  refine WC.region ?_
  refine WL.yd (Yd.assign rfl) rfl ?_
  refine WL.yd (Yd.assign rfl) rfl ?_
  refine WL.nil ?_
  refine WP.thenC ?_
  refine WC.ret ?_
  refine WP.thenRet ?_
  refine WP.ret2 rfl rfl Try.results52 (RV.tmp rfl) (RV.tmp rfl) (fun w hI => ⟨by rw [hO], hI.keep⟩)

theorem told52_ok (p : Post) (a1 : Option Addr) (n1 c1 : Nat) (a2 : Option Addr) (n2 c2 : Nat) (D : Imm) (w : World) (hR : PostR D p a1 n1 a2 n2) (hH : Holds D w) (v : Bool) (hv : postB p = true) (hvv : v = true) (hok : okA p = true) : Makes Try.prog 52 [.agg #[it p.post.lo, it p.post.hi, .slice a1 n1 c1, .slice a2 n2 c2], .bool v] w D (fun r D' => ∃ a n c, r = .tuple #[.slice a n c, it 0] ∧ TruM D' (T p) a n ∧ n ≤ 4750104241) := by
  unfold Makes
  obtain rfl := hR.bath.len'
  obtain rfl := hR.claim.len'
  have hl1 := hR.len1
  have hl2 := hR.len2
  have hpos := T_pos hv hok
  refine enter Try.func52 rfl 18 Try.ntmps52 (Nat.le_of_ble_eq_true rfl) (Inv.start hH) ?_
  refine WC.seq ?_
  refine WC.ofFr [(0, _), (1, _)] ⟨rfl, rfl, trivial⟩ ?_
  refine WC.region ?_
  refine WL.so (SO.box rfl rfl) rfl ?_
  rintro _ _ _ ⟨b2, hb2, rfl, rfl, rfl⟩
  refine WL.yd (Yd.assign rfl) rfl ?_
  refine WL.yd (Yd.assign rfl) rfl ?_
  refine WL.nil ?_
  refine WP.thenC ?_
  refine WC.seq ?_
  refine WC.seq ?_
  refine WC.ofFr [(5, _), (4, _), (2, _), (1, _)] ⟨rfl, rfl, rfl, rfl, trivial⟩ ?_
  refine WC.region ?_
  refine WL.yd (Yd.loadN Try.isAgg27 Try.sizeOf27 rfl (vs := [_, _, _, _]) rfl (by first | exact RdN.own (k := 0) (n := 4) rfl rfl)) rfl ?_
  refine WL.so (SO.callP Try.call39 rfl (fun w hI => rpost_g p a1 _ c1 a2 _ c2 _ w hR hI.imm)) rfl ?_
  rintro _ _ _ ⟨rfl, rfl, rfl⟩
  refine WL.know 8 (.bool true) rfl (congrArg Value.bool hv) ?_
  refine WL.yd (Yd.not rfl) rfl ?_
  refine WL.nil ?_
  refine WP.thenC ?_
  refine WC.condF rfl ?_
  refine WC.skip ?_
  refine WP.thenC ?_
  refine WC.seq ?_
  refine WC.seq ?_
  refine WC.ofFr [(5, _), (4, _), (2, _), (1, _)] ⟨rfl, rfl, rfl, rfl, trivial⟩ ?_
  refine WC.region ?_
  refine WL.yd (Yd.move rfl) rfl ?_
  refine WL.know 10 (.bool true) rfl (congrArg Value.bool hvv) ?_
  refine WL.yd (Yd.not rfl) rfl ?_
  refine WL.nil ?_
  refine WP.thenC ?_
  refine WC.condF rfl ?_
  refine WC.skip ?_
  refine WP.thenC ?_
  refine WC.seq ?_
  refine WC.ofFr [(5, _), (4, _), (2, _)] ⟨rfl, rfl, rfl, trivial⟩ ?_
  refine WC.region ?_
  refine WL.yd (Yd.loadN Try.isAgg27 Try.sizeOf27 rfl (vs := [_, _, _, _]) rfl (by first | exact RdN.own (k := 0) (n := 4) rfl rfl)) rfl ?_
  refine WL.so (SO.makes (Enters.func Try.call95 rfl) (fun w hI => truths95_g p a1 _ c1 a2 _ c2 _ w hR hI.imm hv)) rfl ?_
  rintro _ D6 _ ⟨hX6, ⟨a6, n6, c6, rfl, hM, hn6⟩, rfl⟩
  have hml := hM.len
  refine WL.yd (Yd.assign rfl) rfl ?_
  refine WL.nil ?_
  refine WP.thenC ?_
  refine WC.seq ?_
  refine WC.seq ?_
  refine WC.ofFr [(6, _), (5, _), (4, _)] ⟨rfl, rfl, rfl, trivial⟩ ?_
  refine WC.region ?_
  refine WL.yd (Yd.move rfl) rfl ?_
  refine WL.yd (Yd.lenS rfl Try.underlying80 rfl) rfl ?_
  refine WL.yd (Yd.eql rfl rfl) rfl ?_
  refine WL.know 16 (.bool false) rfl (congrArg Value.bool (decide_eq_false (by omega))) ?_
  refine WL.nil ?_
  refine WP.thenC ?_
  refine WC.condF rfl ?_
  refine WC.skip ?_
  refine WP.thenC ?_
  refine WC.seq ?_
  refine WC.ofFr [(6, _), (5, _), (4, _)] ⟨rfl, rfl, rfl, trivial⟩ ?_
  refine WC.region ?_
  refine WL.yd (Yd.move rfl) rfl ?_
  refine WL.yd (Yd.assign rfl) rfl ?_
  refine WL.yd (Yd.assign rfl) rfl ?_
  refine WL.nil ?_
  refine WP.thenC ?_
  refine WC.ret ?_
  refine WP.ret2 rfl rfl Try.results52 (RV.tmp rfl) (RV.tmp rfl) (fun w1 hI => ⟨_, D6, rfl, hI.keep, hI.imm, hX6, a6, n6, c6, rfl, hM, hn6⟩)

theorem told52_no (p : Post) (a1 : Option Addr) (n1 c1 : Nat) (a2 : Option Addr) (n2 c2 : Nat) (D : Imm) (w : World) (hR : PostR D p a1 n1 a2 n2) (hH : Holds D w) (v : Bool) (h : toldE p v ≠ 0) : Gives Try.prog 52 [.agg #[it p.post.lo, it p.post.hi, .slice a1 n1 c1, .slice a2 n2 c2], .bool v] w (.tuple #[.slice none 0 0, it (toldE p v)]) := by
  cases hv : postB p with
  | false => exact told52_1 p a1 n1 c1 a2 n2 c2 D w hR hH v hv
  | true =>
    cases hvv : v with
    | false => exact hvv ▸ told52_2 p a1 n1 c1 a2 n2 c2 D w hR hH v hv hvv
    | true =>
      cases hok : okA p with
      | false => exact hvv ▸ told52_10 p a1 n1 c1 a2 n2 c2 D w hR hH v hv hvv hok
      | true => exact absurd (by rw [hvv]; exact told_zero hv hok) h
theorem told_split {p : Post} {v : Bool} (h : toldE p v = 0) : postB p = true ∧ v = true ∧ okA p = true := by
  unfold toldE at h
  cases hv : postB p with
  | false => rw [if_pos hv] at h; cases h
  | true =>
    rw [if_neg (by rw [hv]; simp)] at h
    cases v with
    | false => rw [if_pos rfl] at h; cases h
    | true =>
      rw [if_neg (by simp)] at h
      cases hok : okA p with
      | false => rw [if_pos hok] at h; cases h
      | true => exact ⟨rfl, rfl, rfl⟩
/-- what is read off the first k of all truths -/
def lstTo (L : List (List Int)) (f : List Int → Int) (k : Nat) : List Int := (List.range k).map fun i => f (gt L i)
theorem lstTo_len (L : List (List Int)) (f : List Int → Int) (k : Nat) : (lstTo L f k).length = k := by simp [lstTo]
theorem lstTo_flat (L : List (List Int)) (f : List Int → Int) (k : Nat) : (lstTo L f (k + 1)).flatMap intC = (lstTo L f k).flatMap intC ++ intC (f (gt L k)) := by
  unfold lstTo; rw [List.range_succ, List.map_append, List.flatMap_append]; simp
theorem lstTo_all (L : List (List Int)) (f : List Int → Int) : lstTo L f L.length = L.map f := by
  unfold lstTo
  apply List.ext_getElem
  · simp
  · intro i h1 h2
    simp at h1
    simp [gt, List.getD, h1]
def cntTo (L : List (List Int)) (f : List Int → Bool) (k : Nat) : Nat := (List.range k).countP fun i => f (gt L i)
theorem cntTo_all (L : List (List Int)) (f : List Int → Bool) : cntTo L f L.length = L.countP f := countP_gt L f
theorem cntTo_yes {L : List (List Int)} {f : List Int → Bool} {k : Nat} (h : f (gt L k) = true) : cntTo L f (k + 1) = cntTo L f k + 1 := by
  unfold cntTo; rw [List.range_succ, List.countP_append, List.countP_cons, List.countP_nil, if_pos h]
theorem cntTo_no {L : List (List Int)} {f : List Int → Bool} {k : Nat} (h : f (gt L k) = false) : cntTo L f (k + 1) = cntTo L f k := by
  unfold cntTo; rw [List.range_succ, List.countP_append, List.countP_cons, List.countP_nil, if_neg (by rw [h]; simp)]; rfl
theorem cntTo_le (L : List (List Int)) (f : List Int → Bool) (k : Nat) : cntTo L f k ≤ k := by
  unfold cntTo
  have := List.countP_le_length (p := fun i => f (gt L i)) (l := List.range k)
  rwa [List.length_range] at this
def plcF (n : Int) (x : List Int) : Int := gt x (n + 1).toNat
def nrF (a b : Int) (x : List Int) : Int := max (gt x (a + 1).toNat - gt x (b + 1).toNat) (-(gt x (a + 1).toNat - gt x (b + 1).toNat))
def mnF (p : Post) (x : List Int) : Int := ((manyB p x p.bathers.length : Nat) : Int)

theorem hull_g (l : List Int) (a : Option Addr) (n c : Nat) (D : Imm) (w : World) (hS : SlL D 1 (l.map intC) a n) (hn : n ≤ 4750104241) (h0 : 0 < n) (hH : Holds D w) : Gives Try.prog 55 [.slice a n c] w (.agg #[it (minTo l l.length), it (maxTo l l.length)]) := by
  unfold Gives
  obtain rfl := hS.len'
  refine enter Try.func55 rfl 34 Try.ntmps55 (Nat.le_of_ble_eq_true rfl) (Inv.start hH) ?_
  refine WC.seq ?_
  refine WC.ofFr [(0, _)] ⟨rfl, trivial⟩ ?_
  refine WC.region ?_
  refine WL.so (SO.alloc Try.zeroValue23 rfl) rfl ?_
  rintro _ _ _ ⟨b2, hb2, rfl, rfl, rfl⟩
  refine WL.nil ?_
  refine WP.thenC ?_
  refine WC.seq ?_
  refine WC.ofFr [(2, _), (0, _)] ⟨rfl, rfl, trivial⟩ ?_
  refine WC.draw [(0, true), (1, true), (2, true), (3, true), (4, true), (5, true), (6, true), (7, false), (8, false)] (by kernel_rfl) (by kernel_rfl) (QuietPanic.then QuietPanic.body) ?_
  refine WA.yd rfl (Yd.move rfl) rfl ?_
  refine WA.yd rfl (Yd.indexS Try.underlying52 Try.sizeOf3 rfl rfl (by omega) (by omega) (by first | exact hS.addr 0 (by omega))) rfl ?_
  refine WA.yd rfl (Yd.load1 Try.isAgg3 rfl (by first | exact Rd.own (k := 0) rfl rfl | exact ((hS.at 0 (by omega)).rd 0 rfl))) rfl ?_
  refine WA.yd rfl (Yd.move rfl) rfl ?_
  refine WA.yd rfl (Yd.indexS Try.underlying52 Try.sizeOf3 rfl rfl (by omega) (by omega) (by first | exact hS.addr 0 (by omega))) rfl ?_
  refine WA.yd rfl (Yd.load1 Try.isAgg3 rfl (by first | exact Rd.own (k := 0) rfl rfl | exact ((hS.at 0 (by omega)).rd 0 rfl))) rfl ?_
  refine WA.yd rfl (Yd.build SA23 rfl (cs := [_, _]) rfl) rfl ?_
  refine WA.so rfl (SO.alloc Try.zeroValue23 rfl) rfl ?_
  rintro _ _ _ ⟨b3, hb3, rfl, rfl, rfl⟩
  refine ⟨fun _ hI => hI.tail, ?_⟩
  refine WA.so rfl (SO.store 0 rfl Try.sizeOf23 rfl rfl rfl rfl (Nat.le_of_ble_eq_true rfl) (oneB_spec rfl)) rfl ?_
  rintro _ _ _ ⟨rfl, rfl, rfl⟩
  refine ⟨fun _ hI => hI.tail, ?_⟩
  refine WA.nil ?_
  refine WP.thenC ?_
  refine WC.seq ?_
  refine WC.seq ?_
  refine WC.ofFr [(3, _), (2, _), (0, _)] ⟨rfl, rfl, rfl, trivial⟩ ?_
  refine WC.region ?_
  refine WL.yd (Yd.assign rfl) rfl ?_
  refine WL.nil ?_
  refine WP.thenC ?_
  refine WC.block ?_
  refine WC.loop (fun k : Nat => [(0, .slice a l.length c), (2, pt b2), (3, pt b3), (4, nt k)]) (fun k => [(b3, .cells (List.toArray [it (minTo l k), it (maxTo l k)]) 23 (0, 0)), (b2, .cells (List.toArray [it 0, it 0]) 23 (0, 0))]) (fun _ => D) (fun k => k ≤ l.length) (fun k => l.length - k) 0 (by omega) (fun a w h => at_fr h ⟨rfl, rfl, rfl, rfl, trivial⟩) ?_
  intro k hk
  refine WC.seq ?_
  refine WC.seq ?_
  refine WC.ofFr [(0, _), (2, _), (3, _), (4, _)] ⟨rfl, rfl, rfl, rfl, trivial⟩ ?_
  refine WC.region ?_
  refine WL.yd (Yd.move rfl) rfl ?_
  refine WL.yd (Yd.move rfl) rfl ?_
  refine WL.yd (Yd.lenS rfl Try.underlying52 rfl) rfl ?_
  refine WL.yd (Yd.lss rfl rfl) rfl ?_
  refine WL.nil ?_
  refine WP.thenC ?_
  refine WC.cond rfl (fun c15 => ?_) (fun c15 => ?_)
  · try simp only [zq1, zq2, zq3, zq4, zq5, zq6, zq7, zq8] at c15
    refine WC.skip ?_
    refine WP.thenC ?_
    refine WC.seq ?_
    refine WC.block ?_
    refine WC.ofFr [(0, _), (2, _), (3, _), (4, _)] ⟨rfl, rfl, rfl, rfl, trivial⟩ ?_
    refine WC.drawH [] (by kernel_rfl) (fun _ hI => Inv.nil hI) ?_
    refine WH.yd (i := 0) (by kernel_rfl) (fun _ o v c a w _ h => (QuietPanic.blk (QuietPanic.then (QuietPanic.then (QuietPanic.blk (QuietPanic.then QuietPanic.body))))) c o.dst v a w h) rfl (Yd.fieldAddr FA23_0 rfl) rfl ?_
    refine WH.yd (i := 2) (by kernel_rfl) (fun _ o v c a w _ h => (QuietPanic.blk (QuietPanic.then (QuietPanic.then (QuietPanic.blk (QuietPanic.then QuietPanic.body))))) c o.dst v a w h) rfl (Yd.move rfl) rfl ?_
    refine WH.yd (i := 3) (by kernel_rfl) (fun _ o v c a w _ h => (QuietPanic.blk (QuietPanic.then (QuietPanic.then (QuietPanic.blk (QuietPanic.then QuietPanic.body))))) c o.dst v a w h) rfl (Yd.move rfl) rfl ?_
    refine WH.yd (i := 4) (by kernel_rfl) (fun _ o v c a w _ h => (QuietPanic.blk (QuietPanic.then (QuietPanic.then (QuietPanic.blk (QuietPanic.then QuietPanic.body))))) c o.dst v a w h) rfl (Yd.indexS Try.underlying52 Try.sizeOf3 rfl rfl (by omega) (by omega) (by first | exact hS.addr k (by omega))) rfl ?_
    refine WH.yd (i := 5) (by kernel_rfl) (fun _ o v c a w _ h => (QuietPanic.blk (QuietPanic.then (QuietPanic.then (QuietPanic.blk (QuietPanic.then QuietPanic.body))))) c o.dst v a w h) rfl (Yd.load1 Try.isAgg3 rfl (by first | exact Rd.own (k := 0) rfl rfl | exact Rd.own (k := 1) rfl rfl | exact ((hS.at k (by omega)).rd 0 rfl))) rfl ?_
    refine WH.yd (i := 7) (by kernel_rfl) (fun _ o v c a w _ h => (QuietPanic.blk (QuietPanic.then (QuietPanic.then (QuietPanic.blk (QuietPanic.then QuietPanic.body))))) c o.dst v a w h) rfl (Yd.fieldAddr FA23_1 rfl) rfl ?_
    refine WH.yd (i := 9) (by kernel_rfl) (fun _ o v c a w _ h => (QuietPanic.blk (QuietPanic.then (QuietPanic.then (QuietPanic.blk (QuietPanic.then QuietPanic.body))))) c o.dst v a w h) rfl (Yd.move rfl) rfl ?_
    refine WH.yd (i := 10) (by kernel_rfl) (fun _ o v c a w _ h => (QuietPanic.blk (QuietPanic.then (QuietPanic.then (QuietPanic.blk (QuietPanic.then QuietPanic.body))))) c o.dst v a w h) rfl (Yd.move rfl) rfl ?_
    refine WH.yd (i := 11) (by kernel_rfl) (fun _ o v c a w _ h => (QuietPanic.blk (QuietPanic.then (QuietPanic.then (QuietPanic.blk (QuietPanic.then QuietPanic.body))))) c o.dst v a w h) rfl (Yd.indexS Try.underlying52 Try.sizeOf3 rfl rfl (by omega) (by omega) (by first | exact hS.addr k (by omega))) rfl ?_
    refine WH.yd (i := 12) (by kernel_rfl) (fun _ o v c a w _ h => (QuietPanic.blk (QuietPanic.then (QuietPanic.then (QuietPanic.blk (QuietPanic.then QuietPanic.body))))) c o.dst v a w h) rfl (Yd.load1 Try.isAgg3 rfl (by first | exact Rd.own (k := 0) rfl rfl | exact Rd.own (k := 1) rfl rfl | exact ((hS.at k (by omega)).rd 0 rfl))) rfl ?_
    refine WH.two (i := 1) (j := 8) (by kernel_rfl) ?_ ?_
    · refine WHo.yd rfl (Yd.load1 Try.isAgg3 rfl (by first | exact Rd.own (k := 0) rfl rfl | exact Rd.own (k := 1) rfl rfl | exact ((hS.at k (by omega)).rd 0 rfl))) rfl ?_
      refine WH.yd (i := 6) (by kernel_rfl) (fun _ o v c a w _ h => (QuietPanic.blk (QuietPanic.then (QuietPanic.then (QuietPanic.blk (QuietPanic.then QuietPanic.body))))) c o.dst v a w h) rfl (Yd.min2 rfl rfl) rfl ?_
      refine WH.one (i := 8) (by kernel_rfl) (WHo.yd rfl (Yd.load1 Try.isAgg3 rfl (by first | exact Rd.own (k := 0) rfl rfl | exact Rd.own (k := 1) rfl rfl | exact ((hS.at k (by omega)).rd 0 rfl))) rfl ?_)
      refine WH.yd (i := 13) (by kernel_rfl) (fun _ o v c a w _ h => (QuietPanic.blk (QuietPanic.then (QuietPanic.then (QuietPanic.blk (QuietPanic.then QuietPanic.body))))) c o.dst v a w h) rfl (Yd.max2 rfl rfl) rfl ?_
      refine WH.yd (i := 14) (by kernel_rfl) (fun _ o v c a w _ h => (QuietPanic.blk (QuietPanic.then (QuietPanic.then (QuietPanic.blk (QuietPanic.then QuietPanic.body))))) c o.dst v a w h) rfl (Yd.build SA23 rfl (cs := [_, _]) rfl) rfl ?_
      refine WH.one (i := 15) (by kernel_rfl) (WHo.so rfl (SO.store 0 rfl Try.sizeOf23 rfl rfl rfl rfl (Nat.le_of_ble_eq_true rfl) (oneB_spec rfl)) rfl ?_)
      rintro _ _ _ ⟨rfl, rfl, rfl⟩
      refine ⟨(fun _ hI => Inv.nil hI), ?_⟩
      refine WH.nil (by kernel_rfl) ?_
      refine WP.blkNormal ?_
      refine WP.thenC ?_
      refine WC.ofFr [(0, _), (2, _), (3, _), (4, _)] ⟨rfl, rfl, rfl, rfl, trivial⟩ ?_
      refine WC.region ?_
      refine WL.yd (Yd.move rfl) rfl ?_
      refine WL.yd (Yd.add rfl rfl (wr64 ⟨by omega, by omega⟩)) rfl ?_
      refine WL.yd (Yd.assign rfl) rfl ?_
      refine WL.nil ?_
      exact WP.again (k + 1) (by omega) (by omega) (fun aa ww h => at_fr h ⟨rfl, rfl, rfl, rfl, trivial⟩)
    · refine WHo.yd rfl (Yd.load1 Try.isAgg3 rfl (by first | exact Rd.own (k := 0) rfl rfl | exact Rd.own (k := 1) rfl rfl | exact ((hS.at k (by omega)).rd 0 rfl))) rfl ?_
      refine WH.yd (i := 13) (by kernel_rfl) (fun _ o v c a w _ h => (QuietPanic.blk (QuietPanic.then (QuietPanic.then (QuietPanic.blk (QuietPanic.then QuietPanic.body))))) c o.dst v a w h) rfl (Yd.max2 rfl rfl) rfl ?_
      refine WH.one (i := 1) (by kernel_rfl) (WHo.yd rfl (Yd.load1 Try.isAgg3 rfl (by first | exact Rd.own (k := 0) rfl rfl | exact Rd.own (k := 1) rfl rfl | exact ((hS.at k (by omega)).rd 0 rfl))) rfl ?_)
      refine WH.yd (i := 6) (by kernel_rfl) (fun _ o v c a w _ h => (QuietPanic.blk (QuietPanic.then (QuietPanic.then (QuietPanic.blk (QuietPanic.then QuietPanic.body))))) c o.dst v a w h) rfl (Yd.min2 rfl rfl) rfl ?_
      refine WH.yd (i := 14) (by kernel_rfl) (fun _ o v c a w _ h => (QuietPanic.blk (QuietPanic.then (QuietPanic.then (QuietPanic.blk (QuietPanic.then QuietPanic.body))))) c o.dst v a w h) rfl (Yd.build SA23 rfl (cs := [_, _]) rfl) rfl ?_
      refine WH.one (i := 15) (by kernel_rfl) (WHo.so rfl (SO.store 0 rfl Try.sizeOf23 rfl rfl rfl rfl (Nat.le_of_ble_eq_true rfl) (oneB_spec rfl)) rfl ?_)
      rintro _ _ _ ⟨rfl, rfl, rfl⟩
      refine ⟨(fun _ hI => Inv.nil hI), ?_⟩
      refine WH.nil (by kernel_rfl) ?_
      refine WP.blkNormal ?_
      refine WP.thenC ?_
      refine WC.ofFr [(0, _), (2, _), (3, _), (4, _)] ⟨rfl, rfl, rfl, rfl, trivial⟩ ?_
      refine WC.region ?_
      refine WL.yd (Yd.move rfl) rfl ?_
      refine WL.yd (Yd.add rfl rfl (wr64 ⟨by omega, by omega⟩)) rfl ?_
      refine WL.yd (Yd.assign rfl) rfl ?_
      refine WL.nil ?_
      exact WP.again (k + 1) (by omega) (by omega) (fun aa ww h => at_fr h ⟨rfl, rfl, rfl, rfl, trivial⟩)
  · try simp only [zq1, zq2, zq3, zq4, zq5, zq6, zq7, zq8] at c15
    refine WC.exit ?_
    refine WP.thenExit ?_
    refine WP.thenExit ?_
    refine WP.blkHit ?_
    refine WP.thenC ?_
    refine WC.seq ?_
    refine WC.ofFr [(2, _), (3, _)] ⟨rfl, rfl, trivial⟩ ?_
    refine WC.region ?_
    refine WL.yd (Yd.loadN Try.isAgg23 Try.sizeOf23 rfl (vs := [_, _]) rfl (by first | exact RdN.own (k := 0) (n := 2) rfl rfl | exact RdN.own (k := 1) (n := 2) rfl rfl)) rfl ?_
    refine WL.so (SO.store 1 rfl Try.sizeOf23 rfl rfl rfl rfl (Nat.le_of_ble_eq_true rfl) (oneB_spec rfl)) rfl ?_
    rintro _ _ _ ⟨rfl, rfl, rfl⟩
    refine WL.nil ?_
    refine WP.thenC ?_
    refine WC.ret ?_
    refine WP.ret1 rfl rfl Try.results55 (RV.cellN Try.isAgg23 Try.sizeOf23 rfl (vs := [_, _]) rfl (by first | exact RdN.own (k := 0) (n := 2) rfl rfl | exact RdN.own (k := 1) (n := 2) rfl rfl)) (fun w hI => ⟨by rw [show k = l.length by omega], hI.keep⟩)

theorem grade58_g (n m : Int) (w : World) : Gives Try.prog 58 [it n, it m] w (it (gradeR n m)) := by
  unfold Gives
  refine enter Try.func58 rfl 10 Try.ntmps58 (Nat.le_of_ble_eq_true rfl) (Inv.start (D := fun _ => none) (by intro _ _ h; cases h)) ?_
  refine WC.seq ?_
  refine WC.ofFr [(0, _), (1, _)] ⟨rfl, rfl, trivial⟩ ?_
  refine WC.region ?_
  refine WL.yd (Yd.assign rfl) rfl ?_
  refine WL.nil ?_
  refine WP.thenC ?_
  refine WC.seq ?_
  refine WC.seq ?_
  refine WC.ofFr [(4, _), (0, _), (1, _)] ⟨rfl, rfl, rfl, trivial⟩ ?_
  refine WC.region ?_
  refine WL.yd (Yd.move rfl) rfl ?_
  refine WL.yd (Yd.move rfl) rfl ?_
  refine WL.yd (Yd.eql rfl rfl) rfl ?_
  refine WL.nil ?_
  refine WP.thenC ?_
  refine WC.cond rfl (fun c7 => ?_) (fun c7 => ?_)
  · try simp only [zq1, zq2, zq3, zq4, zq5, zq6, zq7, zq8] at c7
    refine WC.seq ?_
    refine WC.ofFr [(4, _), (0, _)] ⟨rfl, rfl, trivial⟩ ?_
    refine WC.region ?_
    refine WL.yd (Yd.assign rfl) rfl ?_
    refine WL.nil ?_
    refine WP.thenC ?_
    refine WC.ret ?_
    refine WP.thenRet ?_
    refine WP.ret1 rfl rfl Try.results58 (RV.tmp rfl) (fun w hI => ⟨by rw [gradeR, if_pos c7], hI.keep⟩)
  · try simp only [zq1, zq2, zq3, zq4, zq5, zq6, zq7, zq8] at c7
    refine WC.skip ?_
    refine WP.thenC ?_
    refine WC.seq ?_
    refine WC.seq ?_
    refine WC.ofFr [(4, _), (0, _)] ⟨rfl, rfl, trivial⟩ ?_
    refine WC.region ?_
    refine WL.yd (Yd.move rfl) rfl ?_
    refine WL.yd (Yd.eql rfl rfl) rfl ?_
    refine WL.nil ?_
    refine WP.thenC ?_
    refine WC.cond rfl (fun c9 => ?_) (fun c9 => ?_)
    · try simp only [zq1, zq2, zq3, zq4, zq5, zq6, zq7, zq8] at c9
      refine WC.seq ?_
      refine WC.ofFr [(4, _)] ⟨rfl, trivial⟩ ?_
      refine WC.region ?_
      refine WL.yd (Yd.assign rfl) rfl ?_
      refine WL.nil ?_
      refine WP.thenC ?_
      refine WC.ret ?_
      refine WP.thenRet ?_
      refine WP.ret1 rfl rfl Try.results58 (RV.tmp rfl) (fun w hI => ⟨by rw [gradeR, if_neg c7, if_pos c9], hI.keep⟩)
    · try simp only [zq1, zq2, zq3, zq4, zq5, zq6, zq7, zq8] at c9
      refine WC.skip ?_
      refine WP.thenC ?_
      refine WC.seq ?_
      refine WC.ofFr [(4, _)] ⟨rfl, trivial⟩ ?_
      refine WC.region ?_
      refine WL.yd (Yd.assign rfl) rfl ?_
      refine WL.nil ?_
      refine WP.thenC ?_
      refine WC.ret ?_
      refine WP.ret1 rfl rfl Try.results58 (RV.tmp rfl) (fun w hI => ⟨by rw [gradeR, if_neg c7, if_neg c9], hI.keep⟩)

theorem break65_g (p : Post) (a1 : Option Addr) (n1 c1 : Nat) (a2 : Option Addr) (n2 c2 : Nat) (D : Imm) (w : World) (hR : PostR D p a1 n1 a2 n2) (hH : Holds D w) (x : List Int) (a3 : Option Addr) (n3 c3 : Nat) (hS3 : SlL D 1 (x.map intC) a3 n3) (hn3 : n3 ≤ 1000) (hx3 : n3 = p.bathers.length + 1) (i : Nat) (hi : i < p.bathers.length) : Gives Try.prog 65 [.agg #[it p.post.lo, it p.post.hi, .slice a1 n1 c1, .slice a2 n2 c2], .slice a3 n3 c3, nt i] w (.bool (breakB p x i)) := by
  unfold Gives
  obtain rfl := hR.bath.len'
  obtain rfl := hR.claim.len'
  have hl1 := hR.len1
  have hl2 := hR.len2
  refine enter Try.func65 rfl 20 Try.ntmps65 (Nat.le_of_ble_eq_true rfl) (Inv.start hH) ?_
  refine WC.seq ?_
  refine WC.ofFr [(0, _), (1, _), (2, _)] ⟨rfl, rfl, rfl, trivial⟩ ?_
  refine WC.region ?_
  refine WL.so (SO.box rfl rfl) rfl ?_
  rintro _ _ _ ⟨b3, hb3, rfl, rfl, rfl⟩
  refine WL.yd (Yd.assign rfl) rfl ?_
  refine WL.nil ?_
  refine WP.thenC ?_
  refine WC.seq ?_
  refine WC.ofFr [(6, _), (3, _), (1, _), (2, _)] ⟨rfl, rfl, rfl, rfl, trivial⟩ ?_
  refine WC.tail 12 [0, 1, 2, 3, 4, 5, 6, 7, 8, 9, 10, 11] rfl (by kernel_rfl) (by kernel_rfl)  ?_
  refine WQ.q rfl (Yd.qt (Yd.move rfl)) rfl ?_
  refine WQ.q rfl (Yd.qt (Yd.move rfl)) rfl ?_
  refine WQ.q rfl (Qt.callP Try.call54 rfl (fun w hI => at54_g x a3 _ c3 _ w hS3 hn3 hI.imm (i : Int) (by omega) (by omega))) rfl ?_
  refine WQ.q rfl (Yd.qt (Yd.move rfl)) rfl ?_
  refine WQ.q rfl (Qt.callP Try.call54 rfl (fun w hI => at54_g x a3 _ c3 _ w hS3 hn3 hI.imm (-1) (by omega) (by omega))) rfl ?_
  refine WQ.q rfl (Yd.qt (Yd.lss rfl rfl)) rfl ?_
  refine WQ.q rfl (Yd.qt (Yd.fieldAddr FA27_1 rfl)) rfl ?_
  refine WQ.q rfl (Yd.qt (Yd.load1 Try.isAgg24 rfl (by first | exact Rd.own (k := 0) rfl rfl | exact ((hR.bath.at i (by omega)).rd 0 rfl)))) rfl ?_
  refine WQ.q rfl (Yd.qt (Yd.move rfl)) rfl ?_
  refine WQ.q rfl (Yd.qt (Yd.indexS Try.underlying24 Try.sizeOf56 rfl rfl (by omega) (by omega) (by first | exact hR.bath.addr i (by omega)))) rfl ?_
  refine WQ.q rfl (Yd.qt (Yd.fieldAddr FA56_0 rfl)) rfl ?_
  refine WQ.q rfl (Yd.qt (Yd.load1 Try.isAgg4 rfl (by first | exact Rd.own (k := 0) rfl rfl | exact ((hR.bath.at i (by omega)).rd 0 rfl)))) rfl ?_
  refine WQ.tail ?_
  refine WL.yd (Yd.neB Try.underlying4 rfl rfl) rfl ?_
  refine WL.yd (Yd.assign rfl) rfl ?_
  refine WL.nil ?_
  refine WP.thenC ?_
  refine WC.ret ?_
  refine WP.ret1 rfl rfl Try.results65 (RV.tmp rfl) (fun w hI => ⟨rfl, hI.keep⟩)

theorem many69_g (p : Post) (a1 : Option Addr) (n1 c1 : Nat) (a2 : Option Addr) (n2 c2 : Nat) (D : Imm) (w : World) (hR : PostR D p a1 n1 a2 n2) (hH : Holds D w) (x : List Int) (a3 : Option Addr) (n3 c3 : Nat) (hS3 : SlL D 1 (x.map intC) a3 n3) (hn3 : n3 ≤ 1000) (hx3 : n3 = p.bathers.length + 1) : Gives Try.prog 69 [.agg #[it p.post.lo, it p.post.hi, .slice a1 n1 c1, .slice a2 n2 c2], .slice a3 n3 c3] w (nt (manyB p x p.bathers.length)) := by
  unfold Gives
  obtain rfl := hR.bath.len'
  obtain rfl := hR.claim.len'
  have hl1 := hR.len1
  have hl2 := hR.len2
  refine enter Try.func69 rfl 21 Try.ntmps69 (Nat.le_of_ble_eq_true rfl) (Inv.start hH) ?_
  refine WC.seq ?_
  refine WC.ofFr [(0, _), (1, _)] ⟨rfl, rfl, trivial⟩ ?_
  refine WC.region ?_
  refine WL.so (SO.box rfl rfl) rfl ?_
  rintro _ _ _ ⟨b2, hb2, rfl, rfl, rfl⟩
  refine WL.yd (Yd.assign rfl) rfl ?_
  refine WL.nil ?_
  refine WP.thenC ?_
  refine WC.seq ?_
  refine WC.ofFr [(4, _), (2, _), (1, _)] ⟨rfl, rfl, rfl, trivial⟩ ?_
  refine WC.region ?_
  refine WL.yd (Yd.assign rfl) rfl ?_
  refine WL.nil ?_
  refine WP.thenC ?_
  refine WC.seq ?_
  refine WC.seq ?_
  refine WC.ofFr [(5, _), (4, _), (2, _), (1, _)] ⟨rfl, rfl, rfl, rfl, trivial⟩ ?_
  refine WC.region ?_
  refine WL.yd (Yd.assign rfl) rfl ?_
  refine WL.nil ?_
  refine WP.thenC ?_
  refine WC.block ?_
  refine WC.loopF (fun k : Nat => [(1, .slice a3 n3 c3), (2, pt b2), (5, nt (manyB p x k)), (6, nt k)]) (fun k => k ≤ p.bathers.length) (fun k => p.bathers.length - k) 0 (by omega) (by exact ⟨rfl, rfl, rfl, rfl, trivial⟩) ?_
  intro k hk
  refine WC.seq ?_
  refine WC.seq ?_
  refine WC.ofFr [(1, _), (2, _), (5, _), (6, _)] ⟨rfl, rfl, rfl, rfl, trivial⟩ ?_
  refine WC.region ?_
  refine WL.yd (Yd.move rfl) rfl ?_
  refine WL.yd (Yd.fieldAddr FA27_1 rfl) rfl ?_
  refine WL.yd (Yd.load1 Try.isAgg24 rfl (by first | exact Rd.own (k := 0) rfl rfl)) rfl ?_
  refine WL.yd (Yd.lenS rfl Try.underlying24 rfl) rfl ?_
  refine WL.yd (Yd.lss rfl rfl) rfl ?_
  refine WL.nil ?_
  refine WP.thenC ?_
  refine WC.cond rfl (fun c11 => ?_) (fun c11 => ?_)
  · try simp only [zq1, zq2, zq3, zq4, zq5, zq6, zq7, zq8] at c11
    have hml : manyB p x k ≤ k := by
      unfold manyB
      have := List.countP_le_length (p := breakB p x) (l := List.range k)
      rwa [List.length_range] at this
    refine WC.skip ?_
    refine WP.thenC ?_
    refine WC.seq ?_
    refine WC.block ?_
    refine WC.seq ?_
    refine WC.ofFr [(1, _), (2, _), (5, _), (6, _)] ⟨rfl, rfl, rfl, rfl, trivial⟩ ?_
    refine WC.region ?_
    refine WL.yd (Yd.loadN Try.isAgg27 Try.sizeOf27 rfl (vs := [_, _, _, _]) rfl (by first | exact RdN.own (k := 0) (n := 4) rfl rfl)) rfl ?_
    refine WL.yd (Yd.move rfl) rfl ?_
    refine WL.yd (Yd.move rfl) rfl ?_
    refine WL.so (SO.callP Try.call65 rfl (fun w hI => break65_g p a1 _ c1 a2 _ c2 _ w hR hI.imm x a3 _ c3 hS3 hn3 hx3 k (by omega))) rfl ?_
    rintro _ _ _ ⟨rfl, rfl, rfl⟩
    refine WL.nil ?_
    refine WP.thenC ?_
    refine WC.cond rfl (fun c17 => ?_) (fun c17 => ?_)
    · try simp only [zq1, zq2, zq3, zq4, zq5, zq6, zq7, zq8] at c17
      have hms : manyB p x (k + 1) = manyB p x k + 1 := by rw [manyB_succ, if_pos c17]
      refine WC.ofFr [(1, _), (2, _), (5, _), (6, _)] ⟨rfl, rfl, rfl, rfl, trivial⟩ ?_
      refine WC.region ?_
      refine WL.yd (Yd.move rfl) rfl ?_
      refine WL.yd (Yd.add rfl rfl (wr64 ⟨by omega, by omega⟩)) rfl ?_
      refine WL.yd (Yd.assign rfl) rfl ?_
      refine WL.nil ?_
      refine WP.blkNormal ?_
      refine WP.thenC ?_
      refine WC.ofFr [(5, _), (1, _), (2, _), (6, _)] ⟨rfl, rfl, rfl, rfl, trivial⟩ ?_
      refine WC.region ?_
      refine WL.yd (Yd.move rfl) rfl ?_
      refine WL.yd (Yd.add rfl rfl (wr64 ⟨by omega, by omega⟩)) rfl ?_
      refine WL.yd (Yd.assign rfl) rfl ?_
      refine WL.nil ?_
      refine WP.againF (k + 1) (by omega) (by omega) ?_ (fun _ h => h) (fun h => h)
      rw [hms]
      exact ⟨rfl, rfl, rfl, rfl, trivial⟩
    · try simp only [zq1, zq2, zq3, zq4, zq5, zq6, zq7, zq8] at c17
      have hms : manyB p x (k + 1) = manyB p x k := by rw [manyB_succ, if_neg (by rw [c17]; simp)]; rfl
      refine WC.skip ?_
      refine WP.blkNormal ?_
      refine WP.thenC ?_
      refine WC.ofFr [(1, _), (2, _), (5, _), (6, _)] ⟨rfl, rfl, rfl, rfl, trivial⟩ ?_
      refine WC.region ?_
      refine WL.yd (Yd.move rfl) rfl ?_
      refine WL.yd (Yd.add rfl rfl (wr64 ⟨by omega, by omega⟩)) rfl ?_
      refine WL.yd (Yd.assign rfl) rfl ?_
      refine WL.nil ?_
      refine WP.againF (k + 1) (by omega) (by omega) ?_ (fun _ h => h) (fun h => h)
      rw [hms]
      exact ⟨rfl, rfl, rfl, rfl, trivial⟩
  · try simp only [zq1, zq2, zq3, zq4, zq5, zq6, zq7, zq8] at c11
    refine WC.exit ?_
    refine WP.thenExit ?_
    refine WP.thenExit ?_
    refine WP.blkHit ?_
    refine WP.thenC ?_
    refine WC.seq ?_
    refine WC.ofFr [(5, _)] ⟨rfl, trivial⟩ ?_
    refine WC.region ?_
    refine WL.yd (Yd.move rfl) rfl ?_
    refine WL.yd (Yd.assign rfl) rfl ?_
    refine WL.nil ?_
    refine WP.thenC ?_
    refine WC.ret ?_
    refine WP.ret1 rfl rfl Try.results69 (RV.tmp rfl) (fun w hI => ⟨by rw [show k = p.bathers.length by omega], hI.keep⟩)

theorem rplace_no (p : Post) (a1 : Option Addr) (n1 c1 : Nat) (a2 : Option Addr) (n2 c2 : Nat) (D : Imm) (w : World) (hR : PostR D p a1 n1 a2 n2) (hH : Holds D w) (n : Int) (h : toldE p (whoP p n) ≠ 0) : Gives Try.prog 16 [.agg #[it p.post.lo, it p.post.hi, .slice a1 n1 c1, .slice a2 n2 c2], it n] w (.tuple #[.agg #[it (PlaceOut p n).1.lo, it (PlaceOut p n).1.hi], it (PlaceOut p n).2]) := by
  unfold Gives
  obtain rfl := hR.bath.len'
  obtain rfl := hR.claim.len'
  have hl1 := hR.len1
  have hl2 := hR.len2
  have hO : PlaceOut p n = (⟨0, 0⟩, toldE p (whoP p n)) := if_pos h
  refine enter Try.func16 rfl 39 Try.ntmps16 (Nat.le_of_ble_eq_true rfl) (Inv.start hH) ?_
  refine WC.seq ?_
  refine WC.ofFr [(0, _), (1, _)] ⟨rfl, rfl, trivial⟩ ?_
  refine WC.region ?_
  refine WL.so (SO.box rfl rfl) rfl ?_
  rintro _ _ _ ⟨b2, hb2, rfl, rfl, rfl⟩
  refine WL.so (SO.alloc Try.zeroValue23 rfl) rfl ?_
  rintro _ _ _ ⟨b4, hb4, rfl, rfl, rfl⟩
  refine WL.yd (Yd.assign rfl) rfl ?_
  refine WL.nil ?_
  refine WP.thenC ?_
  refine WC.seq ?_
  refine WC.ofFr [(5, _), (4, _), (2, _), (1, _)] ⟨rfl, rfl, rfl, rfl, trivial⟩ ?_
  refine WC.tail 9 [0, 1, 2, 3, 4, 5, 6, 7, 8] rfl (by kernel_rfl) (by kernel_rfl)  ?_
  refine WQ.q rfl (Yd.qt (Yd.loadN Try.isAgg27 Try.sizeOf27 rfl (vs := [_, _, _, _]) rfl (by first | exact RdN.own (k := 0) (n := 4) rfl rfl | exact RdN.own (k := 1) (n := 4) rfl rfl))) rfl ?_
  refine WQ.q rfl (Yd.qt (Yd.loadN Try.isAgg27 Try.sizeOf27 rfl (vs := [_, _, _, _]) rfl (by first | exact RdN.own (k := 0) (n := 4) rfl rfl | exact RdN.own (k := 1) (n := 4) rfl rfl))) rfl ?_
  refine WQ.q rfl (Yd.qt (Yd.move rfl)) rfl ?_
  refine WQ.q rfl (Qt.callP Try.call53 rfl (fun w hI => rwho_g p a1 _ c1 a2 _ c2 n _ rfl hl1)) rfl ?_
  refine WQ.q rfl (Qt.callP Try.call52 rfl (fun w hI => told52_no p a1 _ c1 a2 _ c2 _ w hR hI.imm (whoP p n) h)) rfl ?_
  refine WQ.q rfl (Yd.qt (Yd.move rfl)) rfl ?_
  refine WQ.q rfl (Yd.qt (Yd.extract rfl rfl)) rfl ?_
  refine WQ.q rfl (Yd.qt (Yd.extract rfl rfl)) rfl ?_
  refine WQ.q rfl (Yd.qt (Yd.assign rfl)) rfl ?_
  refine WQ.tail ?_
  refine WL.yd (Yd.assign rfl) rfl ?_
  refine WL.nil ?_
  refine WP.thenC ?_
  refine WC.seq ?_
  refine WC.seq ?_
  refine WC.ofFr [(7, _), (6, _), (5, _), (4, _), (1, _)] ⟨rfl, rfl, rfl, rfl, rfl, trivial⟩ ?_
  refine WC.region ?_
  refine WL.yd (Yd.move rfl) rfl ?_
  refine WL.yd (Yd.neq rfl rfl) rfl ?_
  refine WL.know 19 (.bool true) rfl (congrArg Value.bool (decide_eq_true h)) ?_
  refine WL.nil ?_
  refine WP.thenC ?_
  refine WC.condT rfl ?_
  refine WC.seq ?_
  refine WC.ofFr [(7, _), (6, _), (5, _), (4, _), (1, _)] ⟨rfl, rfl, rfl, rfl, rfl, trivial⟩ ?_
  refine WC.region ?_
  refine WL.yd (Yd.build SA23 rfl (cs := [_, _]) rfl) rfl ?_
  refine WL.yd (Yd.move rfl) rfl ?_
  refine WL.so (SO.store 0 rfl Try.sizeOf23 rfl rfl rfl rfl (Nat.le_of_ble_eq_true rfl) (oneB_spec rfl)) rfl ?_
  rintro _ _ _ ⟨rfl, rfl, rfl⟩
  refine WL.yd (Yd.assign rfl) rfl ?_
  refine WL.nil ?_
  refine WP.thenC ?_
  refine WC.ret ?_
  refine WP.thenRet ?_
  refine WP.ret2 rfl rfl Try.results16 (RV.cellN Try.isAgg23 Try.sizeOf23 rfl (vs := [_, _]) rfl (by first | exact RdN.own (k := 0) (n := 2) rfl rfl | exact RdN.own (k := 1) (n := 2) rfl rfl)) (RV.tmp rfl) (fun w hI => ⟨by rw [hO]; rfl, hI.keep⟩)

theorem rplace_ok (p : Post) (a1 : Option Addr) (n1 c1 : Nat) (a2 : Option Addr) (n2 c2 : Nat) (D : Imm) (w : World) (hR : PostR D p a1 n1 a2 n2) (hH : Holds D w) (n : Int) (hv : postB p = true) (hvv : whoP p n = true) (hok : okA p = true) : Gives Try.prog 16 [.agg #[it p.post.lo, it p.post.hi, .slice a1 n1 c1, .slice a2 n2 c2], it n] w (.tuple #[.agg #[it (PlaceOut p n).1.lo, it (PlaceOut p n).1.hi], it (PlaceOut p n).2]) := by
  unfold Gives
  obtain rfl := hR.bath.len'
  obtain rfl := hR.claim.len'
  have hl1 := hR.len1
  have hl2 := hR.len2
  have hpos := T_pos hv hok
  have h5 := (post_num hv).2.1
  have hTL : (T p).length ≤ 4750104241 := by
    have := tr_le hv (everyS p) (p.bathers.length + 1) [] (by simp)
    have h41 : 41 ^ (p.bathers.length + 1) ≤ 41 ^ 6 := Nat.pow_le_pow_right (by omega) (by omega)
    exact Nat.le_trans this h41
  have hO : PlaceOut p n = (⟨minTo ((T p).map (plcF n)) ((T p).map (plcF n)).length, maxTo ((T p).map (plcF n)) ((T p).map (plcF n)).length⟩, 0) := by rw [place_out hv hok hvv, (plc_hull hv hok hvv).1.symm, (plc_hull hv hok hvv).2.symm] <;> rfl
  refine enter Try.func16 rfl 39 Try.ntmps16 (Nat.le_of_ble_eq_true rfl) (Inv.start hH) ?_
  refine WC.seq ?_
  refine WC.ofFr [(0, _), (1, _)] ⟨rfl, rfl, trivial⟩ ?_
  refine WC.region ?_
  refine WL.so (SO.box rfl rfl) rfl ?_
  rintro _ _ _ ⟨b2, hb2, rfl, rfl, rfl⟩
  refine WL.so (SO.alloc Try.zeroValue23 rfl) rfl ?_
  rintro _ _ _ ⟨b4, hb4, rfl, rfl, rfl⟩
  refine WL.yd (Yd.assign rfl) rfl ?_
  refine WL.nil ?_
  refine WP.thenC ?_
  refine WC.seq ?_
  refine WC.ofFr [(5, _), (4, _), (2, _), (1, _)] ⟨rfl, rfl, rfl, rfl, trivial⟩ ?_
  refine WC.draw [(0, true), (1, true), (2, true), (3, false), (4, false), (5, true), (6, true), (7, true), (8, true), (9, true)] (by kernel_rfl) (by kernel_rfl) (QuietPanic.then QuietPanic.body) ?_
  refine WA.yd rfl (Yd.loadN Try.isAgg27 Try.sizeOf27 rfl (vs := [_, _, _, _]) rfl (by first | exact RdN.own (k := 0) (n := 4) rfl rfl | exact RdN.own (k := 1) (n := 4) rfl rfl)) rfl ?_
  refine WA.yd rfl (Yd.loadN Try.isAgg27 Try.sizeOf27 rfl (vs := [_, _, _, _]) rfl (by first | exact RdN.own (k := 0) (n := 4) rfl rfl | exact RdN.own (k := 1) (n := 4) rfl rfl)) rfl ?_
  refine WA.yd rfl (Yd.move rfl) rfl ?_
  refine WA.so rfl (SO.callP Try.call53 rfl (fun w hI => rwho_g p a1 _ c1 a2 _ c2 n _ rfl hl1)) rfl ?_
  rintro _ _ _ ⟨rfl, rfl, rfl⟩
  refine ⟨fun _ hI => hI, ?_⟩
  refine WA.so rfl (SO.makes (Enters.func Try.call52 rfl) (fun w hI => told52_ok p a1 _ c1 a2 _ c2 _ w hR hI.imm (whoP p n) hv hvv hok)) rfl ?_
  rintro _ D6 _ ⟨hX6, ⟨a6, n6, c6, rfl, hM, hn6⟩, rfl⟩
  obtain rfl := hM.len
  replace hR := hR.ext hX6
  refine ⟨fun _ hI => hI.shrink hX6.old, ?_⟩
  refine WA.yd rfl (Yd.move rfl) rfl ?_
  refine WA.yd rfl (Yd.extract rfl rfl) rfl ?_
  refine WA.yd rfl (Yd.extract rfl rfl) rfl ?_
  refine WA.yd rfl (Yd.assign rfl) rfl ?_
  refine WA.yd rfl (Yd.assign rfl) rfl ?_
  refine WA.nil ?_
  refine WP.thenC ?_
  refine WC.seq ?_
  refine WC.seq ?_
  refine WC.ofFr [(7, _), (6, _), (5, _), (4, _), (1, _)] ⟨rfl, rfl, rfl, rfl, rfl, trivial⟩ ?_
  refine WC.region ?_
  refine WL.yd (Yd.move rfl) rfl ?_
  refine WL.yd (Yd.neq rfl rfl) rfl ?_
  refine WL.know 19 (.bool false) rfl (congrArg Value.bool (decide_eq_false (by simp))) ?_
  refine WL.nil ?_
  refine WP.thenC ?_
  refine WC.condF rfl ?_
  refine WC.skip ?_
  refine WP.thenC ?_
  refine WC.seq ?_
  refine WC.ofFr [(6, _), (5, _), (4, _), (1, _)] ⟨rfl, rfl, rfl, rfl, trivial⟩ ?_
  refine WC.region ?_
  refine WL.yd (Yd.assign rfl) rfl ?_
  refine WL.nil ?_
  refine WP.thenC ?_
  refine WC.seq ?_
  refine WC.seq ?_
  refine WC.ofFr [(8, _), (6, _), (5, _), (4, _), (1, _)] ⟨rfl, rfl, rfl, rfl, rfl, trivial⟩ ?_
  refine WC.region ?_
  refine WL.yd (Yd.assign rfl) rfl ?_
  refine WL.nil ?_
  refine WP.thenC ?_
  refine WC.block ?_
  refine WC.loop (fun y : Nat × Option Ow => [(1, it n), (4, pt b4), (6, .slice a6 (T p).length c6), (8, owV y.2 y.1), (9, nt y.1)]) (fun y => (b4, .cells (List.toArray [it 0, it 0]) 23 (0, 0)) :: (b2, .cells (List.toArray [it p.post.lo, it p.post.hi, .slice a1 p.bathers.length c1, .slice a2 p.claims.length c2]) 27 (0, 0)) :: owH y.2 3 ((lstTo (T p) (plcF n) y.1).flatMap intC) []) (fun _ => D6) (fun y => y.1 ≤ (T p).length ∧ owP w y.2 y.1 1) (fun y => (T p).length - y.1) (0, none) ⟨by omega, rfl⟩ (fun a w h => at_fr h ⟨rfl, rfl, rfl, rfl, rfl, trivial⟩) ?_
  rintro ⟨k, o⟩ ⟨hk, ho⟩
  dsimp only at hk ho
  refine WC.seq ?_
  refine WC.seq ?_
  refine WC.ofFr [(1, _), (4, _), (6, _), (8, _), (9, _)] ⟨rfl, rfl, rfl, rfl, rfl, trivial⟩ ?_
  refine WC.region ?_
  refine WL.yd (Yd.move rfl) rfl ?_
  refine WL.yd (Yd.move rfl) rfl ?_
  refine WL.yd (Yd.lenS rfl Try.underlying80 rfl) rfl ?_
  refine WL.yd (Yd.lss rfl rfl) rfl ?_
  refine WL.nil ?_
  refine WP.thenC ?_
  refine WC.cond rfl (fun c25 => ?_) (fun c25 => ?_)
  · try simp only [zq1, zq2, zq3, zq4, zq5, zq6, zq7, zq8] at c25
    obtain ⟨hadr, ae, ne, ce, hrd, hx⟩ := hM.at_ k (by omega)
    have hxs := (T_mem hv).1 (gt_mem (l := T p) (i := k) (by omega))
    have hxn := hx.len'
    refine WC.skip ?_
    refine WP.thenC ?_
    refine WC.seq ?_
    refine WC.block ?_
    refine WC.ofFr [(1, _), (4, _), (6, _), (8, _), (9, _)] ⟨rfl, rfl, rfl, rfl, rfl, trivial⟩ ?_
    refine WC.region ?_
    refine WL.yd (Yd.move rfl) rfl ?_
    refine WL.yd (Yd.move rfl) rfl ?_
    refine WL.yd (Yd.move rfl) rfl ?_
    refine WL.yd (Yd.indexS Try.underlying80 Try.sizeOf52 rfl rfl (by omega) (by omega) (by first | exact hadr)) rfl ?_
    refine WL.yd (Yd.load1 Try.isAgg52 rfl (by first | exact Rd.own (k := 0) rfl rfl | exact Rd.own (k := 1) rfl rfl | exact Rd.own (k := 2) rfl rfl | exact (hrd.rd 0 rfl))) rfl ?_
    refine WL.yd (Yd.move rfl) rfl ?_
    refine WL.so (SO.callP Try.call54 rfl (fun w hI => at54_g (gt (T p) k) ae _ ce _ w hx (by omega) hI.imm n (of_decide_eq_true hvv).1 (by have := of_decide_eq_true hvv; omega))) rfl ?_
    rintro _ _ _ ⟨rfl, rfl, rfl⟩
    refine WL.so (SO.buildSlice Try.underlying52 Try.sizeOf3 Try.zeroValue3 rfl rfl rfl rfl (cs := [_]) rfl) rfl ?_
    rintro _ _ _ ⟨b35, hb35, rfl, rfl, rfl⟩
    refine WL.so (SO.appendOw (o := o) (len := k) (n := 1) (xs := (lstTo (T p) (plcF n) k).flatMap intC) (ys := intC ((plcF n) (gt (T p) k))) (size := 1) [] [_, _, _] [] rfl rfl Try.underlying52 Try.sizeOf3 Try.typeInfo3 Try.zeroValue3 rfl rfl rfl rfl ⟨rfl, .inr ⟨_, _, _, rfl, RdN.own (k := 0) (n := 1) rfl rfl⟩⟩ (oneB_spec rfl) ho (by rw [flat_len intC_len, lstTo_len]) (by omega) (by show (2 * (_ + _) + 1000) * 8 ≤ 2 ^ 48; omega) (by omega)) rfl ?_
    rintro _ _ _ ⟨u1, hu1, rfl, rfl, rfl⟩
    refine WL.yd (Yd.assign rfl) rfl ?_
    refine WL.nil ?_
    refine WP.blkNormal ?_
    refine WP.thenC ?_
    refine WC.ofFr [(8, _), (1, _), (4, _), (6, _), (9, _)] ⟨rfl, rfl, rfl, rfl, rfl, trivial⟩ ?_
    refine WC.region ?_
    refine WL.yd (Yd.move rfl) rfl ?_
    refine WL.yd (Yd.add rfl rfl (wr64 ⟨by omega, by omega⟩)) rfl ?_
    refine WL.yd (Yd.assign rfl) rfl ?_
    refine WL.nil ?_
    refine WP.again (⟨k + 1, some u1⟩ : Nat × Option Ow) ⟨by simp only; omega, hu1⟩ (by simp only; omega) (fun aa ww h => ?_)
    show At _ [(1, it n), (4, pt b4), (6, .slice a6 (T p).length c6), (8, owV (some u1) (k + 1)), (9, nt (k + 1))] D6 ((b4, .cells (List.toArray [it 0, it 0]) 23 (0, 0)) :: (b2, .cells (List.toArray [it p.post.lo, it p.post.hi, .slice a1 p.bathers.length c1, .slice a2 p.claims.length c2]) 27 (0, 0)) :: owH (some u1) 3 ((lstTo (T p) (plcF n) (k + 1)).flatMap intC) []) aa ww
    rw [lstTo_flat]
    exact at_less h ⟨rfl, rfl, rfl, rfl, rfl, trivial⟩ (fun _ h => .tail _ (h)) (fun h => (List.nodup_cons.1 h).2)
  · try simp only [zq1, zq2, zq3, zq4, zq5, zq6, zq7, zq8] at c25
    refine WC.exit ?_
    refine WP.thenExit ?_
    refine WP.thenExit ?_
    refine WP.blkHit ?_
    refine WP.thenC ?_
    refine WC.seq ?_
    obtain rfl : k = (T p).length := by omega
    rw [owV_eqP ho]
    refine WC.freezeOw (f := intC) intC_len [_, _] [] o 3 (lstTo (T p) (plcF n) (T p).length) rfl (by rw [lstTo_len]; exact ho) rfl (fun D8 hX8 hS8 => ?_)
    rw [lstTo_all, List.length_map] at hS8
    refine (?_ : WC Try.prog _ _ D8 [_, _] _ _)
    refine WC.ofFr [(4, _), (8, _)] ⟨rfl, rfl, trivial⟩ ?_
    refine WC.region ?_
    refine WL.yd (Yd.move rfl) rfl ?_
    refine WL.so (SO.callP Try.call55 rfl (fun w hI => hull_g ((T p).map (plcF n)) (owAt o) _ (owCp o (T p).length) _ w hS8 (by omega) hpos hI.imm)) rfl ?_
    rintro _ _ _ ⟨rfl, rfl, rfl⟩
    refine WL.so (SO.store 0 rfl Try.sizeOf23 rfl rfl rfl rfl (Nat.le_of_ble_eq_true rfl) (oneB_spec rfl)) rfl ?_
    rintro _ _ _ ⟨rfl, rfl, rfl⟩
    refine WL.yd (Yd.assign rfl) rfl ?_
    refine WL.nil ?_
    refine WP.thenC ?_
    refine WC.ret ?_
    refine WP.ret2 rfl rfl Try.results16 (RV.cellN Try.isAgg23 Try.sizeOf23 rfl (vs := [_, _]) rfl (by first | exact RdN.own (k := 0) (n := 2) rfl rfl | exact RdN.own (k := 1) (n := 2) rfl rfl)) (RV.tmp rfl) (fun w hI => ⟨by rw [hO] <;> rfl, hI.keep⟩)

end Go.Proofs.Ytkhmmefgllbobaa
namespace Go.Proofs.Ytkhmmefgllbobaa
open Go.W Go.Po

theorem rnear_no (p : Post) (a1 : Option Addr) (n1 c1 : Nat) (a2 : Option Addr) (n2 c2 : Nat) (D : Imm) (w : World) (hR : PostR D p a1 n1 a2 n2) (hH : Holds D w) (a b : Int) (h : toldE p (whoP p a && whoP p b) ≠ 0) : Gives Try.prog 20 [.agg #[it p.post.lo, it p.post.hi, .slice a1 n1 c1, .slice a2 n2 c2], it a, it b] w (.tuple #[.agg #[it (NearOut p a b).1.lo, it (NearOut p a b).1.hi], it (NearOut p a b).2]) := by
  unfold Gives
  obtain rfl := hR.bath.len'
  obtain rfl := hR.claim.len'
  have hl1 := hR.len1
  have hl2 := hR.len2
  have hO : NearOut p a b = (⟨0, 0⟩, toldE p (whoP p a && whoP p b)) := if_pos h
  refine enter Try.func20 rfl 58 Try.ntmps20 (Nat.le_of_ble_eq_true rfl) (Inv.start hH) ?_
  refine WC.seq ?_
  refine WC.ofFr [(0, _), (1, _), (2, _)] ⟨rfl, rfl, rfl, trivial⟩ ?_
  refine WC.region ?_
  refine WL.so (SO.box rfl rfl) rfl ?_
  rintro _ _ _ ⟨b3, hb3, rfl, rfl, rfl⟩
  refine WL.so (SO.alloc Try.zeroValue23 rfl) rfl ?_
  rintro _ _ _ ⟨b6, hb6, rfl, rfl, rfl⟩
  refine WL.yd (Yd.assign rfl) rfl ?_
  refine WL.nil ?_
  refine WP.thenC ?_
  refine WC.seq ?_
  refine WC.ofFr [(7, _), (6, _), (3, _), (1, _), (2, _)] ⟨rfl, rfl, rfl, rfl, rfl, trivial⟩ ?_
  refine WC.tail 14 [0, 1, 2, 3, 4, 5, 6, 7, 8, 9, 10, 11, 12, 13] rfl (by kernel_rfl) (by kernel_rfl)  ?_
  refine WQ.q rfl (Yd.qt (Yd.loadN Try.isAgg27 Try.sizeOf27 rfl (vs := [_, _, _, _]) rfl (by first | exact RdN.own (k := 0) (n := 4) rfl rfl | exact RdN.own (k := 1) (n := 4) rfl rfl))) rfl ?_
  refine WQ.q rfl (Yd.qt (Yd.loadN Try.isAgg27 Try.sizeOf27 rfl (vs := [_, _, _, _]) rfl (by first | exact RdN.own (k := 0) (n := 4) rfl rfl | exact RdN.own (k := 1) (n := 4) rfl rfl))) rfl ?_
  refine WQ.q rfl (Yd.qt (Yd.move rfl)) rfl ?_
  refine WQ.q rfl (Qt.callP Try.call53 rfl (fun w hI => rwho_g p a1 _ c1 a2 _ c2 a _ rfl hl1)) rfl ?_
  refine WQ.q rfl (Yd.qt (Yd.move rfl)) rfl ?_
  refine WQ.part 18 rfl (fun g18 => ?_) (fun g18 => ?_)
  · try simp only [zq1, zq2, zq3, zq4, zq5, zq6, zq7, zq8] at g18
    refine WQ.qg rfl rfl (Yd.qt (Yd.loadN Try.isAgg27 Try.sizeOf27 rfl (vs := [_, _, _, _]) rfl (by first | exact RdN.own (k := 0) (n := 4) rfl rfl | exact RdN.own (k := 1) (n := 4) rfl rfl))) rfl ?_
    refine WQ.qg rfl rfl (Yd.qt (Yd.move rfl)) rfl ?_
    refine WQ.qg rfl rfl (Qt.callP Try.call53 rfl (fun w hI => rwho_g p a1 _ c1 a2 _ c2 b _ rfl hl1)) rfl ?_
    refine WQ.q rfl (Yd.qt (Yd.pickT rfl rfl)) rfl ?_
    refine WQ.q rfl (Qt.callP Try.call52 rfl (fun w hI => Gives.cv (.tuple #[.slice none 0 0, it (toldE p (whoP p a && whoP p b))]) (told52_no p a1 _ c1 a2 _ c2 _ w hR hI.imm _ (by first | (rw [show whoP p a = true from g18, Bool.true_and] at h; exact h) | (rw [show whoP p a = false from g18, Bool.false_and] at h; exact h))) (by first | rw [show (whoP p a && whoP p b) = whoP p b by rw [show whoP p a = true from g18]; rfl] | rw [show (whoP p a && whoP p b) = false by rw [show whoP p a = false from g18]; rfl]))) rfl ?_
    refine WQ.q rfl (Yd.qt (Yd.move rfl)) rfl ?_
    refine WQ.q rfl (Yd.qt (Yd.extract rfl rfl)) rfl ?_
    refine WQ.q rfl (Yd.qt (Yd.extract rfl rfl)) rfl ?_
    refine WQ.q rfl (Yd.qt (Yd.assign rfl)) rfl ?_
    refine WQ.tail ?_
    refine WL.yd (Yd.assign rfl) rfl ?_
    refine WL.nil ?_
    refine WP.thenC ?_
    refine WC.seq ?_
    refine WC.seq ?_
    refine WC.ofFr [(9, _), (8, _), (7, _), (6, _), (1, _), (2, _)] ⟨rfl, rfl, rfl, rfl, rfl, rfl, trivial⟩ ?_
    refine WC.region ?_
    refine WL.yd (Yd.move rfl) rfl ?_
    refine WL.yd (Yd.neq rfl rfl) rfl ?_
    refine WL.know 27 (.bool true) rfl (congrArg Value.bool (decide_eq_true h)) ?_
    refine WL.nil ?_
    refine WP.thenC ?_
    refine WC.condT rfl ?_
    refine WC.seq ?_
    refine WC.ofFr [(9, _), (8, _), (7, _), (6, _), (1, _), (2, _)] ⟨rfl, rfl, rfl, rfl, rfl, rfl, trivial⟩ ?_
    refine WC.region ?_
    refine WL.yd (Yd.build SA23 rfl (cs := [_, _]) rfl) rfl ?_
    refine WL.yd (Yd.move rfl) rfl ?_
    refine WL.so (SO.store 0 rfl Try.sizeOf23 rfl rfl rfl rfl (Nat.le_of_ble_eq_true rfl) (oneB_spec rfl)) rfl ?_
    rintro _ _ _ ⟨rfl, rfl, rfl⟩
    refine WL.yd (Yd.assign rfl) rfl ?_
    refine WL.nil ?_
    refine WP.thenC ?_
    refine WC.ret ?_
    refine WP.thenRet ?_
    refine WP.ret2 rfl rfl Try.results20 (RV.cellN Try.isAgg23 Try.sizeOf23 rfl (vs := [_, _]) rfl (by first | exact RdN.own (k := 0) (n := 2) rfl rfl | exact RdN.own (k := 1) (n := 2) rfl rfl)) (RV.tmp rfl) (fun w hI => ⟨by rw [hO]; rfl, hI.keep⟩)
  · try simp only [zq1, zq2, zq3, zq4, zq5, zq6, zq7, zq8] at g18
    refine WQ.skip rfl rfl rfl ?_
    refine WQ.skip rfl rfl rfl ?_
    refine WQ.skip rfl rfl rfl ?_
    refine WQ.q rfl (Yd.qt (Yd.pickF rfl rfl)) rfl ?_
    refine WQ.q rfl (Qt.callP Try.call52 rfl (fun w hI => Gives.cv (.tuple #[.slice none 0 0, it (toldE p (whoP p a && whoP p b))]) (told52_no p a1 _ c1 a2 _ c2 _ w hR hI.imm _ (by first | (rw [show whoP p a = true from g18, Bool.true_and] at h; exact h) | (rw [show whoP p a = false from g18, Bool.false_and] at h; exact h))) (by first | rw [show (whoP p a && whoP p b) = whoP p b by rw [show whoP p a = true from g18]; rfl] | rw [show (whoP p a && whoP p b) = false by rw [show whoP p a = false from g18]; rfl]))) rfl ?_
    refine WQ.q rfl (Yd.qt (Yd.move rfl)) rfl ?_
    refine WQ.q rfl (Yd.qt (Yd.extract rfl rfl)) rfl ?_
    refine WQ.q rfl (Yd.qt (Yd.extract rfl rfl)) rfl ?_
    refine WQ.q rfl (Yd.qt (Yd.assign rfl)) rfl ?_
    refine WQ.tail ?_
    refine WL.yd (Yd.assign rfl) rfl ?_
    refine WL.nil ?_
    refine WP.thenC ?_
    refine WC.seq ?_
    refine WC.seq ?_
    refine WC.ofFr [(9, _), (8, _), (7, _), (6, _), (1, _), (2, _)] ⟨rfl, rfl, rfl, rfl, rfl, rfl, trivial⟩ ?_
    refine WC.region ?_
    refine WL.yd (Yd.move rfl) rfl ?_
    refine WL.yd (Yd.neq rfl rfl) rfl ?_
    refine WL.know 27 (.bool true) rfl (congrArg Value.bool (decide_eq_true h)) ?_
    refine WL.nil ?_
    refine WP.thenC ?_
    refine WC.condT rfl ?_
    refine WC.seq ?_
    refine WC.ofFr [(9, _), (8, _), (7, _), (6, _), (1, _), (2, _)] ⟨rfl, rfl, rfl, rfl, rfl, rfl, trivial⟩ ?_
    refine WC.region ?_
    refine WL.yd (Yd.build SA23 rfl (cs := [_, _]) rfl) rfl ?_
    refine WL.yd (Yd.move rfl) rfl ?_
    refine WL.so (SO.store 0 rfl Try.sizeOf23 rfl rfl rfl rfl (Nat.le_of_ble_eq_true rfl) (oneB_spec rfl)) rfl ?_
    rintro _ _ _ ⟨rfl, rfl, rfl⟩
    refine WL.yd (Yd.assign rfl) rfl ?_
    refine WL.nil ?_
    refine WP.thenC ?_
    refine WC.ret ?_
    refine WP.thenRet ?_
    refine WP.ret2 rfl rfl Try.results20 (RV.cellN Try.isAgg23 Try.sizeOf23 rfl (vs := [_, _]) rfl (by first | exact RdN.own (k := 0) (n := 2) rfl rfl | exact RdN.own (k := 1) (n := 2) rfl rfl)) (RV.tmp rfl) (fun w hI => ⟨by rw [hO]; rfl, hI.keep⟩)

theorem rnear_ok (p : Post) (a1 : Option Addr) (n1 c1 : Nat) (a2 : Option Addr) (n2 c2 : Nat) (D : Imm) (w : World) (hR : PostR D p a1 n1 a2 n2) (hH : Holds D w) (a b : Int) (hv : postB p = true) (ha : whoP p a = true) (hb : whoP p b = true) (hok : okA p = true) : Gives Try.prog 20 [.agg #[it p.post.lo, it p.post.hi, .slice a1 n1 c1, .slice a2 n2 c2], it a, it b] w (.tuple #[.agg #[it (NearOut p a b).1.lo, it (NearOut p a b).1.hi], it (NearOut p a b).2]) := by
  unfold Gives
  obtain rfl := hR.bath.len'
  obtain rfl := hR.claim.len'
  have hl1 := hR.len1
  have hl2 := hR.len2
  have hpos := T_pos hv hok
  have h5 := (post_num hv).2.1
  have hTL : (T p).length ≤ 4750104241 := by
    have := tr_le hv (everyS p) (p.bathers.length + 1) [] (by simp)
    have h41 : 41 ^ (p.bathers.length + 1) ≤ 41 ^ 6 := Nat.pow_le_pow_right (by omega) (by omega)
    exact Nat.le_trans this h41
  have hO : NearOut p a b = (⟨minTo ((T p).map (nrF a b)) ((T p).map (nrF a b)).length, maxTo ((T p).map (nrF a b)) ((T p).map (nrF a b)).length⟩, 0) := by rw [near_out hv hok ha hb, show nearS (-GA p (ix b) (ix a)) (GA p (ix a) (ix b)) = nearG p a b from rfl, show nearG p a b = ⟨(nearG p a b).lo, (nearG p a b).hi⟩ from rfl, (nr_hull hv hok ha hb).1.symm, (nr_hull hv hok ha hb).2.symm]; rfl
  refine enter Try.func20 rfl 58 Try.ntmps20 (Nat.le_of_ble_eq_true rfl) (Inv.start hH) ?_
  refine WC.seq ?_
  refine WC.ofFr [(0, _), (1, _), (2, _)] ⟨rfl, rfl, rfl, trivial⟩ ?_
  refine WC.region ?_
  refine WL.so (SO.box rfl rfl) rfl ?_
  rintro _ _ _ ⟨b3, hb3, rfl, rfl, rfl⟩
  refine WL.so (SO.alloc Try.zeroValue23 rfl) rfl ?_
  rintro _ _ _ ⟨b6, hb6, rfl, rfl, rfl⟩
  refine WL.yd (Yd.assign rfl) rfl ?_
  refine WL.nil ?_
  refine WP.thenC ?_
  refine WC.seq ?_
  refine WC.ofFr [(7, _), (6, _), (3, _), (1, _), (2, _)] ⟨rfl, rfl, rfl, rfl, rfl, trivial⟩ ?_
  refine WC.draw [(0, true), (1, true), (2, true), (3, false), (4, true), (5, true), (6, true), (7, false), (8, true), (9, false), (10, true), (11, true), (12, true), (13, true), (14, true)] (by kernel_rfl) (by kernel_rfl) (QuietPanic.then QuietPanic.body) ?_
  refine WA.yd rfl (Yd.loadN Try.isAgg27 Try.sizeOf27 rfl (vs := [_, _, _, _]) rfl (by first | exact RdN.own (k := 0) (n := 4) rfl rfl | exact RdN.own (k := 1) (n := 4) rfl rfl)) rfl ?_
  refine WA.yd rfl (Yd.loadN Try.isAgg27 Try.sizeOf27 rfl (vs := [_, _, _, _]) rfl (by first | exact RdN.own (k := 0) (n := 4) rfl rfl | exact RdN.own (k := 1) (n := 4) rfl rfl)) rfl ?_
  refine WA.yd rfl (Yd.move rfl) rfl ?_
  refine WA.so rfl (SO.callP Try.call53 rfl (fun w hI => rwho_g p a1 _ c1 a2 _ c2 a _ rfl hl1)) rfl ?_
  rintro _ _ _ ⟨rfl, rfl, rfl⟩
  refine ⟨fun _ hI => hI, ?_⟩
  refine WA.know 17 (.bool true) rfl (congrArg Value.bool ha) ?_
  refine WA.yd rfl (Yd.move rfl) rfl ?_
  refine WA.ydg rfl rfl (Yd.loadN Try.isAgg27 Try.sizeOf27 rfl (vs := [_, _, _, _]) rfl (by first | exact RdN.own (k := 0) (n := 4) rfl rfl | exact RdN.own (k := 1) (n := 4) rfl rfl)) rfl ?_
  refine WA.ydg rfl rfl (Yd.move rfl) rfl ?_
  refine WA.sog rfl rfl (SO.callP Try.call53 rfl (fun w hI => rwho_g p a1 _ c1 a2 _ c2 b _ rfl hl1)) rfl ?_
  rintro _ _ _ ⟨rfl, rfl, rfl⟩
  refine ⟨fun _ hI => hI, ?_⟩
  refine WA.yd rfl (Yd.pickT rfl rfl) rfl ?_
  refine WA.so rfl (SO.makes (Enters.func Try.call52 rfl) (fun w hI => told52_ok p a1 _ c1 a2 _ c2 _ w hR hI.imm (whoP p b) hv hb hok)) rfl ?_
  rintro _ D6 _ ⟨hX6, ⟨a6, n6, c6, rfl, hM, hn6⟩, rfl⟩
  obtain rfl := hM.len
  replace hR := hR.ext hX6
  refine ⟨fun _ hI => hI.shrink hX6.old, ?_⟩
  refine WA.yd rfl (Yd.move rfl) rfl ?_
  refine WA.yd rfl (Yd.extract rfl rfl) rfl ?_
  refine WA.yd rfl (Yd.extract rfl rfl) rfl ?_
  refine WA.yd rfl (Yd.assign rfl) rfl ?_
  refine WA.yd rfl (Yd.assign rfl) rfl ?_
  refine WA.nil ?_
  refine WP.thenC ?_
  refine WC.seq ?_
  refine WC.seq ?_
  refine WC.ofFr [(9, _), (8, _), (7, _), (6, _), (1, _), (2, _)] ⟨rfl, rfl, rfl, rfl, rfl, rfl, trivial⟩ ?_
  refine WC.region ?_
  refine WL.yd (Yd.move rfl) rfl ?_
  refine WL.yd (Yd.neq rfl rfl) rfl ?_
  refine WL.know 27 (.bool false) rfl (congrArg Value.bool (decide_eq_false (by simp))) ?_
  refine WL.nil ?_
  refine WP.thenC ?_
  refine WC.condF rfl ?_
  refine WC.skip ?_
  refine WP.thenC ?_
  refine WC.seq ?_
  refine WC.ofFr [(8, _), (7, _), (6, _), (1, _), (2, _)] ⟨rfl, rfl, rfl, rfl, rfl, trivial⟩ ?_
  refine WC.region ?_
  refine WL.yd (Yd.assign rfl) rfl ?_
  refine WL.nil ?_
  refine WP.thenC ?_
  refine WC.seq ?_
  refine WC.seq ?_
  refine WC.ofFr [(10, _), (8, _), (7, _), (6, _), (1, _), (2, _)] ⟨rfl, rfl, rfl, rfl, rfl, rfl, trivial⟩ ?_
  refine WC.region ?_
  refine WL.yd (Yd.assign rfl) rfl ?_
  refine WL.nil ?_
  refine WP.thenC ?_
  refine WC.block ?_
  refine WC.loop (fun y : Nat × Option Ow => [(1, it a), (2, it b), (6, pt b6), (8, .slice a6 (T p).length c6), (10, owV y.2 y.1), (11, nt y.1)]) (fun y => (b6, .cells (List.toArray [it 0, it 0]) 23 (0, 0)) :: (b3, .cells (List.toArray [it p.post.lo, it p.post.hi, .slice a1 p.bathers.length c1, .slice a2 p.claims.length c2]) 27 (0, 0)) :: owH y.2 3 ((lstTo (T p) (nrF a b) y.1).flatMap intC) []) (fun _ => D6) (fun y => y.1 ≤ (T p).length ∧ owP w y.2 y.1 1) (fun y => (T p).length - y.1) (0, none) ⟨by omega, rfl⟩ (fun a w h => at_fr h ⟨rfl, rfl, rfl, rfl, rfl, rfl, trivial⟩) ?_
  rintro ⟨k, o⟩ ⟨hk, ho⟩
  dsimp only at hk ho
  refine WC.seq ?_
  refine WC.seq ?_
  refine WC.ofFr [(1, _), (2, _), (6, _), (8, _), (10, _), (11, _)] ⟨rfl, rfl, rfl, rfl, rfl, rfl, trivial⟩ ?_
  refine WC.region ?_
  refine WL.yd (Yd.move rfl) rfl ?_
  refine WL.yd (Yd.move rfl) rfl ?_
  refine WL.yd (Yd.lenS rfl Try.underlying80 rfl) rfl ?_
  refine WL.yd (Yd.lss rfl rfl) rfl ?_
  refine WL.nil ?_
  refine WP.thenC ?_
  refine WC.cond rfl (fun c33 => ?_) (fun c33 => ?_)
  · try simp only [zq1, zq2, zq3, zq4, zq5, zq6, zq7, zq8] at c33
    obtain ⟨hadr, ae, ne, ce, hrd, hx⟩ := hM.at_ k (by omega)
    have hxs := (T_mem hv).1 (gt_mem (l := T p) (i := k) (by omega))
    have hxn := hx.len'
    have hga := sol_num hv hxs.2 ha
    have hgb := sol_num hv hxs.2 hb
    rw [fnOf_ix (of_decide_eq_true ha).1] at hga
    rw [fnOf_ix (of_decide_eq_true hb).1] at hgb
    refine WC.skip ?_
    refine WP.thenC ?_
    refine WC.seq ?_
    refine WC.block ?_
    refine WC.seq ?_
    refine WC.ofFr [(1, _), (2, _), (6, _), (8, _), (10, _), (11, _)] ⟨rfl, rfl, rfl, rfl, rfl, rfl, trivial⟩ ?_
    refine WC.tail 11 [0, 1, 2, 3, 4, 5, 6, 7, 8, 9, 10] rfl (by kernel_rfl) (by kernel_rfl)  ?_
    refine WQ.q rfl (Yd.qt (Yd.move rfl)) rfl ?_
    refine WQ.q rfl (Yd.qt (Yd.move rfl)) rfl ?_
    refine WQ.q rfl (Yd.qt (Yd.indexS Try.underlying80 Try.sizeOf52 rfl rfl (by omega) (by omega) (by first | exact hadr))) rfl ?_
    refine WQ.q rfl (Yd.qt (Yd.load1 Try.isAgg52 rfl (by first | exact Rd.own (k := 0) rfl rfl | exact Rd.own (k := 1) rfl rfl | exact Rd.own (k := 2) rfl rfl | exact (hrd.rd 0 rfl)))) rfl ?_
    refine WQ.q rfl (Yd.qt (Yd.move rfl)) rfl ?_
    refine WQ.q rfl (Qt.callP Try.call54 rfl (fun w hI => at54_g (gt (T p) k) ae _ ce _ w hx (by omega) hI.imm a (of_decide_eq_true ha).1 (by have := of_decide_eq_true ha; omega))) rfl ?_
    refine WQ.q rfl (Yd.qt (Yd.move rfl)) rfl ?_
    refine WQ.q rfl (Yd.qt (Yd.move rfl)) rfl ?_
    refine WQ.q rfl (Yd.qt (Yd.indexS Try.underlying80 Try.sizeOf52 rfl rfl (by omega) (by omega) (by first | exact hadr))) rfl ?_
    refine WQ.q rfl (Yd.qt (Yd.load1 Try.isAgg52 rfl (by first | exact Rd.own (k := 0) rfl rfl | exact Rd.own (k := 1) rfl rfl | exact Rd.own (k := 2) rfl rfl | exact (hrd.rd 0 rfl)))) rfl ?_
    refine WQ.q rfl (Yd.qt (Yd.move rfl)) rfl ?_
    refine WQ.tail ?_
    refine WL.so (SO.callP Try.call54 rfl (fun w hI => at54_g (gt (T p) k) ae _ ce _ w hx (by omega) hI.imm b (of_decide_eq_true hb).1 (by have := of_decide_eq_true hb; omega))) rfl ?_
    rintro _ _ _ ⟨rfl, rfl, rfl⟩
    refine WL.yd (Yd.sub rfl rfl (wr64 ⟨by omega, by omega⟩)) rfl ?_
    refine WL.yd (Yd.assign rfl) rfl ?_
    refine WL.nil ?_
    refine WP.thenC ?_
    refine WC.ofFr [(12, _), (1, _), (2, _), (6, _), (8, _), (10, _), (11, _)] ⟨rfl, rfl, rfl, rfl, rfl, rfl, rfl, trivial⟩ ?_
    refine WC.region ?_
    refine WL.yd (Yd.move rfl) rfl ?_
    refine WL.yd (Yd.move rfl) rfl ?_
    refine WL.yd (Yd.move rfl) rfl ?_
    refine WL.yd (Yd.neg rfl (wr64 ⟨by omega, by omega⟩)) rfl ?_
    refine WL.yd (Yd.max2 rfl rfl) rfl ?_
    refine WL.so (SO.buildSlice Try.underlying52 Try.sizeOf3 Try.zeroValue3 rfl rfl rfl rfl (cs := [_]) rfl) rfl ?_
    rintro _ _ _ ⟨b54, hb54, rfl, rfl, rfl⟩
    refine WL.so (SO.appendOw (o := o) (len := k) (n := 1) (xs := (lstTo (T p) (nrF a b) k).flatMap intC) (ys := intC ((nrF a b) (gt (T p) k))) (size := 1) [] [_, _, _] [] rfl rfl Try.underlying52 Try.sizeOf3 Try.typeInfo3 Try.zeroValue3 rfl rfl rfl rfl ⟨rfl, .inr ⟨_, _, _, rfl, RdN.own (k := 0) (n := 1) rfl rfl⟩⟩ (oneB_spec rfl) ho (by rw [flat_len intC_len, lstTo_len]) (by omega) (by show (2 * (_ + _) + 1000) * 8 ≤ 2 ^ 48; omega) (by omega)) rfl ?_
    rintro _ _ _ ⟨u1, hu1, rfl, rfl, rfl⟩
    refine WL.yd (Yd.assign rfl) rfl ?_
    refine WL.nil ?_
    refine WP.blkNormal ?_
    refine WP.thenC ?_
    refine WC.ofFr [(10, _), (1, _), (2, _), (6, _), (8, _), (11, _)] ⟨rfl, rfl, rfl, rfl, rfl, rfl, trivial⟩ ?_
    refine WC.region ?_
    refine WL.yd (Yd.move rfl) rfl ?_
    refine WL.yd (Yd.add rfl rfl (wr64 ⟨by omega, by omega⟩)) rfl ?_
    refine WL.yd (Yd.assign rfl) rfl ?_
    refine WL.nil ?_
    refine WP.again (⟨k + 1, some u1⟩ : Nat × Option Ow) ⟨by simp only; omega, hu1⟩ (by simp only; omega) (fun aa ww h => ?_)
    show At _ [(1, it a), (2, it b), (6, pt b6), (8, .slice a6 (T p).length c6), (10, owV (some u1) (k + 1)), (11, nt (k + 1))] D6 ((b6, .cells (List.toArray [it 0, it 0]) 23 (0, 0)) :: (b3, .cells (List.toArray [it p.post.lo, it p.post.hi, .slice a1 p.bathers.length c1, .slice a2 p.claims.length c2]) 27 (0, 0)) :: owH (some u1) 3 ((lstTo (T p) (nrF a b) (k + 1)).flatMap intC) []) aa ww
    rw [lstTo_flat]
    exact at_less h ⟨rfl, rfl, rfl, rfl, rfl, rfl, trivial⟩ (fun _ h => .tail _ (h)) (fun h => (List.nodup_cons.1 h).2)
  · try simp only [zq1, zq2, zq3, zq4, zq5, zq6, zq7, zq8] at c33
    refine WC.exit ?_
    refine WP.thenExit ?_
    refine WP.thenExit ?_
    refine WP.blkHit ?_
    refine WP.thenC ?_
    refine WC.seq ?_
    obtain rfl : k = (T p).length := by omega
    rw [owV_eqP ho]
    refine WC.freezeOw (f := intC) intC_len [_, _] [] o 3 (lstTo (T p) (nrF a b) (T p).length) rfl (by rw [lstTo_len]; exact ho) rfl (fun D8 hX8 hS8 => ?_)
    rw [lstTo_all, List.length_map] at hS8
    refine (?_ : WC Try.prog _ _ D8 [_, _] _ _)
    refine WC.ofFr [(6, _), (10, _)] ⟨rfl, rfl, trivial⟩ ?_
    refine WC.region ?_
    refine WL.yd (Yd.move rfl) rfl ?_
    refine WL.so (SO.callP Try.call55 rfl (fun w hI => hull_g ((T p).map (nrF a b)) (owAt o) _ (owCp o (T p).length) _ w hS8 (by omega) hpos hI.imm)) rfl ?_
    rintro _ _ _ ⟨rfl, rfl, rfl⟩
    refine WL.so (SO.store 0 rfl Try.sizeOf23 rfl rfl rfl rfl (Nat.le_of_ble_eq_true rfl) (oneB_spec rfl)) rfl ?_
    rintro _ _ _ ⟨rfl, rfl, rfl⟩
    refine WL.yd (Yd.assign rfl) rfl ?_
    refine WL.nil ?_
    refine WP.thenC ?_
    refine WC.ret ?_
    refine WP.ret2 rfl rfl Try.results20 (RV.cellN Try.isAgg23 Try.sizeOf23 rfl (vs := [_, _]) rfl (by first | exact RdN.own (k := 0) (n := 2) rfl rfl | exact RdN.own (k := 1) (n := 2) rfl rfl)) (RV.tmp rfl) (fun w hI => ⟨by rw [hO] <;> rfl, hI.keep⟩)

theorem rfewest_no (p : Post) (a1 : Option Addr) (n1 c1 : Nat) (a2 : Option Addr) (n2 c2 : Nat) (D : Imm) (w : World) (hR : PostR D p a1 n1 a2 n2) (hH : Holds D w)  (h : toldE p true ≠ 0) : Gives Try.prog 26 [.agg #[it p.post.lo, it p.post.hi, .slice a1 n1 c1, .slice a2 n2 c2]] w (.tuple #[.agg #[it (FewestOut p).1.lo, it (FewestOut p).1.hi], it (FewestOut p).2]) := by
  unfold Gives
  obtain rfl := hR.bath.len'
  obtain rfl := hR.claim.len'
  have hl1 := hR.len1
  have hl2 := hR.len2
  have hO : FewestOut p = (⟨0, 0⟩, toldE p true) := if_pos h
  refine enter Try.func26 rfl 34 Try.ntmps26 (Nat.le_of_ble_eq_true rfl) (Inv.start hH) ?_
  refine WC.seq ?_
  refine WC.ofFr [(0, _)] ⟨rfl, trivial⟩ ?_
  refine WC.region ?_
  refine WL.so (SO.box rfl rfl) rfl ?_
  rintro _ _ _ ⟨b1, hb1, rfl, rfl, rfl⟩
  refine WL.so (SO.alloc Try.zeroValue23 rfl) rfl ?_
  rintro _ _ _ ⟨b2, hb2, rfl, rfl, rfl⟩
  refine WL.yd (Yd.assign rfl) rfl ?_
  refine WL.nil ?_
  refine WP.thenC ?_
  refine WC.seq ?_
  refine WC.ofFr [(3, _), (2, _), (1, _)] ⟨rfl, rfl, rfl, trivial⟩ ?_
  refine WC.region ?_
  refine WL.yd (Yd.loadN Try.isAgg27 Try.sizeOf27 rfl (vs := [_, _, _, _]) rfl (by first | exact RdN.own (k := 0) (n := 4) rfl rfl | exact RdN.own (k := 1) (n := 4) rfl rfl)) rfl ?_
  refine WL.so (SO.callP Try.call52 rfl (fun w hI => told52_no p a1 _ c1 a2 _ c2 _ w hR hI.imm true h)) rfl ?_
  rintro _ _ _ ⟨rfl, rfl, rfl⟩
  refine WL.yd (Yd.move rfl) rfl ?_
  refine WL.yd (Yd.extract rfl rfl) rfl ?_
  refine WL.yd (Yd.extract rfl rfl) rfl ?_
  refine WL.yd (Yd.assign rfl) rfl ?_
  refine WL.yd (Yd.assign rfl) rfl ?_
  refine WL.nil ?_
  refine WP.thenC ?_
  refine WC.seq ?_
  refine WC.seq ?_
  refine WC.ofFr [(5, _), (4, _), (3, _), (2, _), (1, _)] ⟨rfl, rfl, rfl, rfl, rfl, trivial⟩ ?_
  refine WC.region ?_
  refine WL.yd (Yd.move rfl) rfl ?_
  refine WL.yd (Yd.neq rfl rfl) rfl ?_
  refine WL.know 14 (.bool true) rfl (congrArg Value.bool (decide_eq_true h)) ?_
  refine WL.nil ?_
  refine WP.thenC ?_
  refine WC.condT rfl ?_
  refine WC.seq ?_
  refine WC.ofFr [(5, _), (4, _), (3, _), (2, _), (1, _)] ⟨rfl, rfl, rfl, rfl, rfl, trivial⟩ ?_
  refine WC.region ?_
  refine WL.yd (Yd.build SA23 rfl (cs := [_, _]) rfl) rfl ?_
  refine WL.yd (Yd.move rfl) rfl ?_
  refine WL.so (SO.store 0 rfl Try.sizeOf23 rfl rfl rfl rfl (Nat.le_of_ble_eq_true rfl) (oneB_spec rfl)) rfl ?_
  rintro _ _ _ ⟨rfl, rfl, rfl⟩
  refine WL.yd (Yd.assign rfl) rfl ?_
  refine WL.nil ?_
  refine WP.thenC ?_
  refine WC.ret ?_
  refine WP.thenRet ?_
  refine WP.ret2 rfl rfl Try.results26 (RV.cellN Try.isAgg23 Try.sizeOf23 rfl (vs := [_, _]) rfl (by first | exact RdN.own (k := 0) (n := 2) rfl rfl | exact RdN.own (k := 1) (n := 2) rfl rfl)) (RV.tmp rfl) (fun w hI => ⟨by rw [hO]; rfl, hI.keep⟩)

theorem rfewest_ok (p : Post) (a1 : Option Addr) (n1 c1 : Nat) (a2 : Option Addr) (n2 c2 : Nat) (D : Imm) (w : World) (hR : PostR D p a1 n1 a2 n2) (hH : Holds D w)  (hv : postB p = true)  (hok : okA p = true) : Gives Try.prog 26 [.agg #[it p.post.lo, it p.post.hi, .slice a1 n1 c1, .slice a2 n2 c2]] w (.tuple #[.agg #[it (FewestOut p).1.lo, it (FewestOut p).1.hi], it (FewestOut p).2]) := by
  unfold Gives
  obtain rfl := hR.bath.len'
  obtain rfl := hR.claim.len'
  have hl1 := hR.len1
  have hl2 := hR.len2
  have hpos := T_pos hv hok
  have h5 := (post_num hv).2.1
  have hTL : (T p).length ≤ 4750104241 := by
    have := tr_le hv (everyS p) (p.bathers.length + 1) [] (by simp)
    have h41 : 41 ^ (p.bathers.length + 1) ≤ 41 ^ 6 := Nat.pow_le_pow_right (by omega) (by omega)
    exact Nat.le_trans this h41
  have hO : FewestOut p = (⟨minTo ((T p).map (mnF p)) ((T p).map (mnF p)).length, maxTo ((T p).map (mnF p)) ((T p).map (mnF p)).length⟩, 0) := by rw [few_out hv hok, (mn_hull hv hok).1.symm, (mn_hull hv hok).2.symm]; rfl
  refine enter Try.func26 rfl 34 Try.ntmps26 (Nat.le_of_ble_eq_true rfl) (Inv.start hH) ?_
  refine WC.seq ?_
  refine WC.ofFr [(0, _)] ⟨rfl, trivial⟩ ?_
  refine WC.region ?_
  refine WL.so (SO.box rfl rfl) rfl ?_
  rintro _ _ _ ⟨b1, hb1, rfl, rfl, rfl⟩
  refine WL.so (SO.alloc Try.zeroValue23 rfl) rfl ?_
  rintro _ _ _ ⟨b2, hb2, rfl, rfl, rfl⟩
  refine WL.yd (Yd.assign rfl) rfl ?_
  refine WL.nil ?_
  refine WP.thenC ?_
  refine WC.seq ?_
  refine WC.ofFr [(3, _), (2, _), (1, _)] ⟨rfl, rfl, rfl, trivial⟩ ?_
  refine WC.region ?_
  refine WL.yd (Yd.loadN Try.isAgg27 Try.sizeOf27 rfl (vs := [_, _, _, _]) rfl (by first | exact RdN.own (k := 0) (n := 4) rfl rfl | exact RdN.own (k := 1) (n := 4) rfl rfl)) rfl ?_
  refine WL.so (SO.makes (Enters.func Try.call52 rfl) (fun w hI => told52_ok p a1 _ c1 a2 _ c2 _ w hR hI.imm true hv rfl hok)) rfl ?_
  rintro _ D6 _ ⟨hX6, ⟨a6, n6, c6, rfl, hM, hn6⟩, rfl⟩
  obtain rfl := hM.len
  replace hR := hR.ext hX6
  refine WL.yd (Yd.move rfl) rfl ?_
  refine WL.yd (Yd.extract rfl rfl) rfl ?_
  refine WL.yd (Yd.extract rfl rfl) rfl ?_
  refine WL.yd (Yd.assign rfl) rfl ?_
  refine WL.yd (Yd.assign rfl) rfl ?_
  refine WL.nil ?_
  refine WP.thenC ?_
  refine WC.seq ?_
  refine WC.seq ?_
  refine WC.ofFr [(5, _), (4, _), (3, _), (2, _), (1, _)] ⟨rfl, rfl, rfl, rfl, rfl, trivial⟩ ?_
  refine WC.region ?_
  refine WL.yd (Yd.move rfl) rfl ?_
  refine WL.yd (Yd.neq rfl rfl) rfl ?_
  refine WL.know 14 (.bool false) rfl (congrArg Value.bool (decide_eq_false (by simp))) ?_
  refine WL.nil ?_
  refine WP.thenC ?_
  refine WC.condF rfl ?_
  refine WC.skip ?_
  refine WP.thenC ?_
  refine WC.seq ?_
  refine WC.ofFr [(4, _), (3, _), (2, _), (1, _)] ⟨rfl, rfl, rfl, rfl, trivial⟩ ?_
  refine WC.region ?_
  refine WL.yd (Yd.assign rfl) rfl ?_
  refine WL.nil ?_
  refine WP.thenC ?_
  refine WC.seq ?_
  refine WC.seq ?_
  refine WC.ofFr [(6, _), (4, _), (3, _), (2, _), (1, _)] ⟨rfl, rfl, rfl, rfl, rfl, trivial⟩ ?_
  refine WC.region ?_
  refine WL.yd (Yd.assign rfl) rfl ?_
  refine WL.nil ?_
  refine WP.thenC ?_
  refine WC.block ?_
  refine WC.loop (fun y : Nat × Option Ow => [(1, pt b1), (2, pt b2), (4, .slice a6 (T p).length c6), (6, owV y.2 y.1), (7, nt y.1)]) (fun y => (b2, .cells (List.toArray [it 0, it 0]) 23 (0, 0)) :: (b1, .cells (List.toArray [it p.post.lo, it p.post.hi, .slice a1 p.bathers.length c1, .slice a2 p.claims.length c2]) 27 (0, 0)) :: owH y.2 3 ((lstTo (T p) (mnF p) y.1).flatMap intC) []) (fun _ => D6) (fun y => y.1 ≤ (T p).length ∧ owP w y.2 y.1 1) (fun y => (T p).length - y.1) (0, none) ⟨by omega, rfl⟩ (fun a w h => at_fr h ⟨rfl, rfl, rfl, rfl, rfl, trivial⟩) ?_
  rintro ⟨k, o⟩ ⟨hk, ho⟩
  dsimp only at hk ho
  refine WC.seq ?_
  refine WC.seq ?_
  refine WC.ofFr [(1, _), (2, _), (4, _), (6, _), (7, _)] ⟨rfl, rfl, rfl, rfl, rfl, trivial⟩ ?_
  refine WC.region ?_
  refine WL.yd (Yd.move rfl) rfl ?_
  refine WL.yd (Yd.move rfl) rfl ?_
  refine WL.yd (Yd.lenS rfl Try.underlying80 rfl) rfl ?_
  refine WL.yd (Yd.lss rfl rfl) rfl ?_
  refine WL.nil ?_
  refine WP.thenC ?_
  refine WC.cond rfl (fun c20 => ?_) (fun c20 => ?_)
  · try simp only [zq1, zq2, zq3, zq4, zq5, zq6, zq7, zq8] at c20
    obtain ⟨hadr, ae, ne, ce, hrd, hx⟩ := hM.at_ k (by omega)
    have hxs := (T_mem hv).1 (gt_mem (l := T p) (i := k) (by omega))
    have hxn := hx.len'
    refine WC.skip ?_
    refine WP.thenC ?_
    refine WC.seq ?_
    refine WC.block ?_
    refine WC.ofFr [(1, _), (2, _), (4, _), (6, _), (7, _)] ⟨rfl, rfl, rfl, rfl, rfl, trivial⟩ ?_
    refine WC.drawO [_, _] [(0, true), (1, true), (2, true), (3, true), (4, true), (5, true), (6, false), (7, false), (8, false), (9, true)] (by kernel_rfl) (by kernel_rfl) (QuietPanic.blk (QuietPanic.then (QuietPanic.then (QuietPanic.blk (QuietPanic.then QuietPanic.body))))) (fun _ hI => Inv.left (l1 := [_, _]) hI) ?_
    refine WA.yd rfl (Yd.move rfl) rfl ?_
    refine WA.yd rfl (Yd.loadN Try.isAgg27 Try.sizeOf27 rfl (vs := [_, _, _, _]) rfl (by first | exact RdN.own (k := 0) (n := 4) rfl rfl | exact RdN.own (k := 1) (n := 4) rfl rfl | exact RdN.own (k := 2) (n := 4) rfl rfl)) rfl ?_
    refine WA.yd rfl (Yd.move rfl) rfl ?_
    refine WA.yd rfl (Yd.move rfl) rfl ?_
    refine WA.yd rfl (Yd.indexS Try.underlying80 Try.sizeOf52 rfl rfl (by omega) (by omega) (by first | exact hadr)) rfl ?_
    refine WA.yd rfl (Yd.load1 Try.isAgg52 rfl (by first | exact Rd.own (k := 0) rfl rfl | exact Rd.own (k := 1) rfl rfl | exact Rd.own (k := 2) rfl rfl | exact (hrd.rd 0 rfl))) rfl ?_
    refine WA.so rfl (SO.callP Try.call69 rfl (fun w hI => many69_g p a1 _ c1 a2 _ c2 _ w hR hI.imm (gt (T p) k) ae _ ce hx (by omega) (by omega))) rfl ?_
    rintro _ _ _ ⟨rfl, rfl, rfl⟩
    refine ⟨fun _ hI => Inv.left (l1 := [_, _]) hI, ?_⟩
    refine WA.so rfl (SO.buildSlice Try.underlying52 Try.sizeOf3 Try.zeroValue3 rfl rfl rfl rfl (cs := [_]) rfl) rfl ?_
    rintro _ _ _ ⟨b30, hb30, rfl, rfl, rfl⟩
    refine ⟨fun _ hI => Inv.left (l1 := [_, _]) hI.tail, ?_⟩
    refine WA.so rfl (SO.appendOw (o := o) (len := k) (n := 1) (xs := (lstTo (T p) (mnF p) k).flatMap intC) (ys := intC ((mnF p) (gt (T p) k))) (size := 1) [] [_, _, _] [] rfl rfl Try.underlying52 Try.sizeOf3 Try.typeInfo3 Try.zeroValue3 rfl rfl rfl rfl ⟨rfl, .inr ⟨_, _, _, rfl, RdN.own (k := 0) (n := 1) rfl rfl⟩⟩ (oneB_spec rfl) ho (by rw [flat_len intC_len, lstTo_len]) (by omega) (by show (2 * (_ + _) + 1000) * 8 ≤ 2 ^ 48; omega) (by omega)) rfl ?_
    rintro _ _ _ ⟨u1, hu1, rfl, rfl, rfl⟩
    refine ⟨fun _ hI => Inv.left (l1 := [_, _]) hI.tail, ?_⟩
    refine WA.yd rfl (Yd.assign rfl) rfl ?_
    refine WA.nil ?_
    refine WP.blkNormal ?_
    refine WP.thenC ?_
    refine WC.ofFr [(6, _), (1, _), (2, _), (4, _), (7, _)] ⟨rfl, rfl, rfl, rfl, rfl, trivial⟩ ?_
    refine WC.region ?_
    refine WL.yd (Yd.move rfl) rfl ?_
    refine WL.yd (Yd.add rfl rfl (wr64 ⟨by omega, by omega⟩)) rfl ?_
    refine WL.yd (Yd.assign rfl) rfl ?_
    refine WL.nil ?_
    refine WP.again (⟨k + 1, some u1⟩ : Nat × Option Ow) ⟨by simp only; omega, hu1⟩ (by simp only; omega) (fun aa ww h => ?_)
    show At _ [(1, pt b1), (2, pt b2), (4, .slice a6 (T p).length c6), (6, owV (some u1) (k + 1)), (7, nt (k + 1))] D6 ((b2, .cells (List.toArray [it 0, it 0]) 23 (0, 0)) :: (b1, .cells (List.toArray [it p.post.lo, it p.post.hi, .slice a1 p.bathers.length c1, .slice a2 p.claims.length c2]) 27 (0, 0)) :: owH (some u1) 3 ((lstTo (T p) (mnF p) (k + 1)).flatMap intC) []) aa ww
    rw [lstTo_flat]
    exact at_less h ⟨rfl, rfl, rfl, rfl, rfl, trivial⟩ (fun _ h => .tail _ (h)) (fun h => (List.nodup_cons.1 h).2)
  · try simp only [zq1, zq2, zq3, zq4, zq5, zq6, zq7, zq8] at c20
    refine WC.exit ?_
    refine WP.thenExit ?_
    refine WP.thenExit ?_
    refine WP.blkHit ?_
    refine WP.thenC ?_
    refine WC.seq ?_
    obtain rfl : k = (T p).length := by omega
    rw [owV_eqP ho]
    refine WC.freezeOw (f := intC) intC_len [_, _] [] o 3 (lstTo (T p) (mnF p) (T p).length) rfl (by rw [lstTo_len]; exact ho) rfl (fun D8 hX8 hS8 => ?_)
    rw [lstTo_all, List.length_map] at hS8
    refine (?_ : WC Try.prog _ _ D8 [_, _] _ _)
    refine WC.ofFr [(2, _), (6, _)] ⟨rfl, rfl, trivial⟩ ?_
    refine WC.region ?_
    refine WL.yd (Yd.move rfl) rfl ?_
    refine WL.so (SO.callP Try.call55 rfl (fun w hI => hull_g ((T p).map (mnF p)) (owAt o) _ (owCp o (T p).length) _ w hS8 (by omega) hpos hI.imm)) rfl ?_
    rintro _ _ _ ⟨rfl, rfl, rfl⟩
    refine WL.so (SO.store 0 rfl Try.sizeOf23 rfl rfl rfl rfl (Nat.le_of_ble_eq_true rfl) (oneB_spec rfl)) rfl ?_
    rintro _ _ _ ⟨rfl, rfl, rfl⟩
    refine WL.yd (Yd.assign rfl) rfl ?_
    refine WL.nil ?_
    refine WP.thenC ?_
    refine WC.ret ?_
    refine WP.ret2 rfl rfl Try.results26 (RV.cellN Try.isAgg23 Try.sizeOf23 rfl (vs := [_, _]) rfl (by first | exact RdN.own (k := 0) (n := 2) rfl rfl | exact RdN.own (k := 1) (n := 2) rfl rfl)) (RV.tmp rfl) (fun w hI => ⟨by rw [hO] <;> rfl, hI.keep⟩)

theorem rbefore_no (p : Post) (a1 : Option Addr) (n1 c1 : Nat) (a2 : Option Addr) (n2 c2 : Nat) (D : Imm) (w : World) (hR : PostR D p a1 n1 a2 n2) (hH : Holds D w) (a b : Int) (h : toldE p (whoP p a && whoP p b) ≠ 0) : Gives Try.prog 18 [.agg #[it p.post.lo, it p.post.hi, .slice a1 n1 c1, .slice a2 n2 c2], it a, it b] w (.tuple #[it (BeforeOut p a b).1, it (BeforeOut p a b).2]) := by
  unfold Gives
  obtain rfl := hR.bath.len'
  obtain rfl := hR.claim.len'
  have hl1 := hR.len1
  have hl2 := hR.len2
  have hO : BeforeOut p a b = (0, toldE p (whoP p a && whoP p b)) := if_pos h
  refine enter Try.func18 rfl 53 Try.ntmps18 (Nat.le_of_ble_eq_true rfl) (Inv.start hH) ?_
  refine WC.seq ?_
  refine WC.ofFr [(0, _), (1, _), (2, _)] ⟨rfl, rfl, rfl, trivial⟩ ?_
  refine WC.region ?_
  refine WL.so (SO.box rfl rfl) rfl ?_
  rintro _ _ _ ⟨b3, hb3, rfl, rfl, rfl⟩
  refine WL.yd (Yd.assign rfl) rfl ?_
  refine WL.yd (Yd.assign rfl) rfl ?_
  refine WL.nil ?_
  refine WP.thenC ?_
  refine WC.seq ?_
  refine WC.ofFr [(7, _), (6, _), (3, _), (1, _), (2, _)] ⟨rfl, rfl, rfl, rfl, rfl, trivial⟩ ?_
  refine WC.tail 14 [0, 1, 2, 3, 4, 5, 6, 7, 8, 9, 10, 11, 12, 13] rfl (by kernel_rfl) (by kernel_rfl)  ?_
  refine WQ.q rfl (Yd.qt (Yd.loadN Try.isAgg27 Try.sizeOf27 rfl (vs := [_, _, _, _]) rfl (by first | exact RdN.own (k := 0) (n := 4) rfl rfl))) rfl ?_
  refine WQ.q rfl (Yd.qt (Yd.loadN Try.isAgg27 Try.sizeOf27 rfl (vs := [_, _, _, _]) rfl (by first | exact RdN.own (k := 0) (n := 4) rfl rfl))) rfl ?_
  refine WQ.q rfl (Yd.qt (Yd.move rfl)) rfl ?_
  refine WQ.q rfl (Qt.callP Try.call53 rfl (fun w hI => rwho_g p a1 _ c1 a2 _ c2 a _ rfl hl1)) rfl ?_
  refine WQ.q rfl (Yd.qt (Yd.move rfl)) rfl ?_
  refine WQ.part 17 rfl (fun g17 => ?_) (fun g17 => ?_)
  · try simp only [zq1, zq2, zq3, zq4, zq5, zq6, zq7, zq8] at g17
    refine WQ.qg rfl rfl (Yd.qt (Yd.loadN Try.isAgg27 Try.sizeOf27 rfl (vs := [_, _, _, _]) rfl (by first | exact RdN.own (k := 0) (n := 4) rfl rfl))) rfl ?_
    refine WQ.qg rfl rfl (Yd.qt (Yd.move rfl)) rfl ?_
    refine WQ.qg rfl rfl (Qt.callP Try.call53 rfl (fun w hI => rwho_g p a1 _ c1 a2 _ c2 b _ rfl hl1)) rfl ?_
    refine WQ.q rfl (Yd.qt (Yd.pickT rfl rfl)) rfl ?_
    refine WQ.q rfl (Qt.callP Try.call52 rfl (fun w hI => Gives.cv (.tuple #[.slice none 0 0, it (toldE p (whoP p a && whoP p b))]) (told52_no p a1 _ c1 a2 _ c2 _ w hR hI.imm _ (by first | (rw [show whoP p a = true from g17, Bool.true_and] at h; exact h) | (rw [show whoP p a = false from g17, Bool.false_and] at h; exact h))) (by first | rw [show (whoP p a && whoP p b) = whoP p b by rw [show whoP p a = true from g17]; rfl] | rw [show (whoP p a && whoP p b) = false by rw [show whoP p a = false from g17]; rfl]))) rfl ?_
    refine WQ.q rfl (Yd.qt (Yd.move rfl)) rfl ?_
    refine WQ.q rfl (Yd.qt (Yd.extract rfl rfl)) rfl ?_
    refine WQ.q rfl (Yd.qt (Yd.extract rfl rfl)) rfl ?_
    refine WQ.q rfl (Yd.qt (Yd.assign rfl)) rfl ?_
    refine WQ.tail ?_
    refine WL.yd (Yd.assign rfl) rfl ?_
    refine WL.nil ?_
    refine WP.thenC ?_
    refine WC.seq ?_
    refine WC.seq ?_
    refine WC.ofFr [(9, _), (8, _), (7, _), (6, _), (1, _), (2, _)] ⟨rfl, rfl, rfl, rfl, rfl, rfl, trivial⟩ ?_
    refine WC.region ?_
    refine WL.yd (Yd.move rfl) rfl ?_
    refine WL.yd (Yd.neq rfl rfl) rfl ?_
    refine WL.know 26 (.bool true) rfl (congrArg Value.bool (decide_eq_true h)) ?_
    refine WL.nil ?_
    refine WP.thenC ?_
    refine WC.condT rfl ?_
    refine WC.seq ?_
    refine WC.ofFr [(9, _), (8, _), (7, _), (6, _), (1, _), (2, _)] ⟨rfl, rfl, rfl, rfl, rfl, rfl, trivial⟩ ?_
    refine WC.region ?_
    refine WL.yd (Yd.move rfl) rfl ?_
    refine WL.yd (Yd.assign rfl) rfl ?_
    refine WL.yd (Yd.assign rfl) rfl ?_
    refine WL.nil ?_
    refine WP.thenC ?_
    refine WC.ret ?_
    refine WP.thenRet ?_
    refine WP.ret2 rfl rfl Try.results18 (RV.tmp rfl) (RV.tmp rfl) (fun w hI => ⟨by rw [hO]; rfl, hI.keep⟩)
  · try simp only [zq1, zq2, zq3, zq4, zq5, zq6, zq7, zq8] at g17
    refine WQ.skip rfl rfl rfl ?_
    refine WQ.skip rfl rfl rfl ?_
    refine WQ.skip rfl rfl rfl ?_
    refine WQ.q rfl (Yd.qt (Yd.pickF rfl rfl)) rfl ?_
    refine WQ.q rfl (Qt.callP Try.call52 rfl (fun w hI => Gives.cv (.tuple #[.slice none 0 0, it (toldE p (whoP p a && whoP p b))]) (told52_no p a1 _ c1 a2 _ c2 _ w hR hI.imm _ (by first | (rw [show whoP p a = true from g17, Bool.true_and] at h; exact h) | (rw [show whoP p a = false from g17, Bool.false_and] at h; exact h))) (by first | rw [show (whoP p a && whoP p b) = whoP p b by rw [show whoP p a = true from g17]; rfl] | rw [show (whoP p a && whoP p b) = false by rw [show whoP p a = false from g17]; rfl]))) rfl ?_
    refine WQ.q rfl (Yd.qt (Yd.move rfl)) rfl ?_
    refine WQ.q rfl (Yd.qt (Yd.extract rfl rfl)) rfl ?_
    refine WQ.q rfl (Yd.qt (Yd.extract rfl rfl)) rfl ?_
    refine WQ.q rfl (Yd.qt (Yd.assign rfl)) rfl ?_
    refine WQ.tail ?_
    refine WL.yd (Yd.assign rfl) rfl ?_
    refine WL.nil ?_
    refine WP.thenC ?_
    refine WC.seq ?_
    refine WC.seq ?_
    refine WC.ofFr [(9, _), (8, _), (7, _), (6, _), (1, _), (2, _)] ⟨rfl, rfl, rfl, rfl, rfl, rfl, trivial⟩ ?_
    refine WC.region ?_
    refine WL.yd (Yd.move rfl) rfl ?_
    refine WL.yd (Yd.neq rfl rfl) rfl ?_
    refine WL.know 26 (.bool true) rfl (congrArg Value.bool (decide_eq_true h)) ?_
    refine WL.nil ?_
    refine WP.thenC ?_
    refine WC.condT rfl ?_
    refine WC.seq ?_
    refine WC.ofFr [(9, _), (8, _), (7, _), (6, _), (1, _), (2, _)] ⟨rfl, rfl, rfl, rfl, rfl, rfl, trivial⟩ ?_
    refine WC.region ?_
    refine WL.yd (Yd.move rfl) rfl ?_
    refine WL.yd (Yd.assign rfl) rfl ?_
    refine WL.yd (Yd.assign rfl) rfl ?_
    refine WL.nil ?_
    refine WP.thenC ?_
    refine WC.ret ?_
    refine WP.thenRet ?_
    refine WP.ret2 rfl rfl Try.results18 (RV.tmp rfl) (RV.tmp rfl) (fun w hI => ⟨by rw [hO]; rfl, hI.keep⟩)

theorem rbefore_ok (p : Post) (a1 : Option Addr) (n1 c1 : Nat) (a2 : Option Addr) (n2 c2 : Nat) (D : Imm) (w : World) (hR : PostR D p a1 n1 a2 n2) (hH : Holds D w) (a b : Int) (hv : postB p = true) (ha : whoP p a = true) (hb : whoP p b = true) (hok : okA p = true) : Gives Try.prog 18 [.agg #[it p.post.lo, it p.post.hi, .slice a1 n1 c1, .slice a2 n2 c2], it a, it b] w (.tuple #[it (BeforeOut p a b).1, it (BeforeOut p a b).2]) := by
  unfold Gives
  obtain rfl := hR.bath.len'
  obtain rfl := hR.claim.len'
  have hl1 := hR.len1
  have hl2 := hR.len2
  have h5 := (post_num hv).2.1
  have hTL : (T p).length ≤ 4750104241 := by
    have := tr_le hv (everyS p) (p.bathers.length + 1) [] (by simp)
    have h41 : 41 ^ (p.bathers.length + 1) ≤ 41 ^ 6 := Nat.pow_le_pow_right (by omega) (by omega)
    exact Nat.le_trans this h41
  have hO : BeforeOut p a b = (gradeR ((cntTo (T p) (befB a b) (T p).length : Nat) : Int) ((T p).length : Int), 0) := by rw [before_out hv hok ha hb, cntTo_all, bef_grade hv hok ha hb]; rfl
  refine enter Try.func18 rfl 53 Try.ntmps18 (Nat.le_of_ble_eq_true rfl) (Inv.start hH) ?_
  refine WC.seq ?_
  refine WC.ofFr [(0, _), (1, _), (2, _)] ⟨rfl, rfl, rfl, trivial⟩ ?_
  refine WC.region ?_
  refine WL.so (SO.box rfl rfl) rfl ?_
  rintro _ _ _ ⟨b3, hb3, rfl, rfl, rfl⟩
  refine WL.yd (Yd.assign rfl) rfl ?_
  refine WL.yd (Yd.assign rfl) rfl ?_
  refine WL.nil ?_
  refine WP.thenC ?_
  refine WC.seq ?_
  refine WC.ofFr [(7, _), (6, _), (3, _), (1, _), (2, _)] ⟨rfl, rfl, rfl, rfl, rfl, trivial⟩ ?_
  refine WC.draw [(0, true), (1, true), (2, true), (3, false), (4, true), (5, true), (6, true), (7, false), (8, true), (9, false), (10, true), (11, true), (12, true), (13, true), (14, true)] (by kernel_rfl) (by kernel_rfl) (QuietPanic.then QuietPanic.body) ?_
  refine WA.yd rfl (Yd.loadN Try.isAgg27 Try.sizeOf27 rfl (vs := [_, _, _, _]) rfl (by first | exact RdN.own (k := 0) (n := 4) rfl rfl)) rfl ?_
  refine WA.yd rfl (Yd.loadN Try.isAgg27 Try.sizeOf27 rfl (vs := [_, _, _, _]) rfl (by first | exact RdN.own (k := 0) (n := 4) rfl rfl)) rfl ?_
  refine WA.yd rfl (Yd.move rfl) rfl ?_
  refine WA.so rfl (SO.callP Try.call53 rfl (fun w hI => rwho_g p a1 _ c1 a2 _ c2 a _ rfl hl1)) rfl ?_
  rintro _ _ _ ⟨rfl, rfl, rfl⟩
  refine ⟨fun _ hI => hI, ?_⟩
  refine WA.know 16 (.bool true) rfl (congrArg Value.bool ha) ?_
  refine WA.yd rfl (Yd.move rfl) rfl ?_
  refine WA.ydg rfl rfl (Yd.loadN Try.isAgg27 Try.sizeOf27 rfl (vs := [_, _, _, _]) rfl (by first | exact RdN.own (k := 0) (n := 4) rfl rfl)) rfl ?_
  refine WA.ydg rfl rfl (Yd.move rfl) rfl ?_
  refine WA.sog rfl rfl (SO.callP Try.call53 rfl (fun w hI => rwho_g p a1 _ c1 a2 _ c2 b _ rfl hl1)) rfl ?_
  rintro _ _ _ ⟨rfl, rfl, rfl⟩
  refine ⟨fun _ hI => hI, ?_⟩
  refine WA.yd rfl (Yd.pickT rfl rfl) rfl ?_
  refine WA.so rfl (SO.makes (Enters.func Try.call52 rfl) (fun w hI => told52_ok p a1 _ c1 a2 _ c2 _ w hR hI.imm (whoP p b) hv hb hok)) rfl ?_
  rintro _ D6 _ ⟨hX6, ⟨a6, n6, c6, rfl, hM, hn6⟩, rfl⟩
  obtain rfl := hM.len
  replace hR := hR.ext hX6
  refine ⟨fun _ hI => hI.shrink hX6.old, ?_⟩
  refine WA.yd rfl (Yd.move rfl) rfl ?_
  refine WA.yd rfl (Yd.extract rfl rfl) rfl ?_
  refine WA.yd rfl (Yd.extract rfl rfl) rfl ?_
  refine WA.yd rfl (Yd.assign rfl) rfl ?_
  refine WA.yd rfl (Yd.assign rfl) rfl ?_
  refine WA.nil ?_
  refine WP.thenC ?_
  refine WC.seq ?_
  refine WC.seq ?_
  refine WC.ofFr [(9, _), (8, _), (7, _), (6, _), (1, _), (2, _)] ⟨rfl, rfl, rfl, rfl, rfl, rfl, trivial⟩ ?_
  refine WC.region ?_
  refine WL.yd (Yd.move rfl) rfl ?_
  refine WL.yd (Yd.neq rfl rfl) rfl ?_
  refine WL.know 26 (.bool false) rfl (congrArg Value.bool (decide_eq_false (by simp))) ?_
  refine WL.nil ?_
  refine WP.thenC ?_
  refine WC.condF rfl ?_
  refine WC.skip ?_
  refine WP.thenC ?_
  refine WC.seq ?_
  refine WC.ofFr [(8, _), (7, _), (6, _), (1, _), (2, _)] ⟨rfl, rfl, rfl, rfl, rfl, trivial⟩ ?_
  refine WC.region ?_
  refine WL.yd (Yd.assign rfl) rfl ?_
  refine WL.nil ?_
  refine WP.thenC ?_
  refine WC.seq ?_
  refine WC.seq ?_
  refine WC.ofFr [(10, _), (8, _), (7, _), (6, _), (1, _), (2, _)] ⟨rfl, rfl, rfl, rfl, rfl, rfl, trivial⟩ ?_
  refine WC.region ?_
  refine WL.yd (Yd.assign rfl) rfl ?_
  refine WL.nil ?_
  refine WP.thenC ?_
  refine WC.block ?_
  refine WC.loopF (fun k : Nat => [(1, it a), (2, it b), (8, .slice a6 (T p).length c6), (10, nt (cntTo (T p) (befB a b) k)), (11, nt k)]) (fun k => k ≤ (T p).length) (fun k => (T p).length - k) 0 (by omega) (by exact ⟨rfl, rfl, rfl, rfl, rfl, trivial⟩) ?_
  intro k hk
  refine WC.seq ?_
  refine WC.seq ?_
  refine WC.ofFr [(1, _), (2, _), (8, _), (10, _), (11, _)] ⟨rfl, rfl, rfl, rfl, rfl, trivial⟩ ?_
  refine WC.region ?_
  refine WL.yd (Yd.move rfl) rfl ?_
  refine WL.yd (Yd.move rfl) rfl ?_
  refine WL.yd (Yd.lenS rfl Try.underlying80 rfl) rfl ?_
  refine WL.yd (Yd.lss rfl rfl) rfl ?_
  refine WL.nil ?_
  refine WP.thenC ?_
  refine WC.cond rfl (fun c31 => ?_) (fun c31 => ?_)
  · try simp only [zq1, zq2, zq3, zq4, zq5, zq6, zq7, zq8] at c31
    obtain ⟨hadr, ae, ne, ce, hrd, hx⟩ := hM.at_ k (by omega)
    have hxs := (T_mem hv).1 (gt_mem (l := T p) (i := k) (by omega))
    have hxn := hx.len'
    have hcl := cntTo_le (T p) (befB a b) k
    refine WC.skip ?_
    refine WP.thenC ?_
    refine WC.seq ?_
    refine WC.block ?_
    refine WC.seq ?_
    refine WC.ofFr [(1, _), (2, _), (8, _), (10, _), (11, _)] ⟨rfl, rfl, rfl, rfl, rfl, trivial⟩ ?_
    refine WC.tail 11 [0, 1, 2, 3, 4, 5, 6, 7, 8, 9, 10] rfl (by kernel_rfl) (by kernel_rfl)  ?_
    refine WQ.q rfl (Yd.qt (Yd.move rfl)) rfl ?_
    refine WQ.q rfl (Yd.qt (Yd.move rfl)) rfl ?_
    refine WQ.q rfl (Yd.qt (Yd.indexS Try.underlying80 Try.sizeOf52 rfl rfl (by omega) (by omega) (by first | exact hadr))) rfl ?_
    refine WQ.q rfl (Yd.qt (Yd.load1 Try.isAgg52 rfl (by first | exact Rd.own (k := 0) rfl rfl | exact (hrd.rd 0 rfl)))) rfl ?_
    refine WQ.q rfl (Yd.qt (Yd.move rfl)) rfl ?_
    refine WQ.q rfl (Qt.callP Try.call54 rfl (fun w hI => at54_g (gt (T p) k) ae _ ce _ w hx (by omega) hI.imm a (of_decide_eq_true ha).1 (by have := of_decide_eq_true ha; omega))) rfl ?_
    refine WQ.q rfl (Yd.qt (Yd.move rfl)) rfl ?_
    refine WQ.q rfl (Yd.qt (Yd.move rfl)) rfl ?_
    refine WQ.q rfl (Yd.qt (Yd.indexS Try.underlying80 Try.sizeOf52 rfl rfl (by omega) (by omega) (by first | exact hadr))) rfl ?_
    refine WQ.q rfl (Yd.qt (Yd.load1 Try.isAgg52 rfl (by first | exact Rd.own (k := 0) rfl rfl | exact (hrd.rd 0 rfl)))) rfl ?_
    refine WQ.q rfl (Yd.qt (Yd.move rfl)) rfl ?_
    refine WQ.tail ?_
    refine WL.so (SO.callP Try.call54 rfl (fun w hI => at54_g (gt (T p) k) ae _ ce _ w hx (by omega) hI.imm b (of_decide_eq_true hb).1 (by have := of_decide_eq_true hb; omega))) rfl ?_
    rintro _ _ _ ⟨rfl, rfl, rfl⟩
    refine WL.yd (Yd.lss rfl rfl) rfl ?_
    refine WL.nil ?_
    refine WP.thenC ?_
    refine WC.cond rfl (fun c46 => ?_) (fun c46 => ?_)
    · try simp only [zq1, zq2, zq3, zq4, zq5, zq6, zq7, zq8] at c46
      have hcs := cntTo_yes (L := T p) (f := befB a b) (k := k) (decide_eq_true c46)
      refine WC.ofFr [(1, _), (2, _), (8, _), (10, _), (11, _)] ⟨rfl, rfl, rfl, rfl, rfl, trivial⟩ ?_
      refine WC.region ?_
      refine WL.yd (Yd.move rfl) rfl ?_
      refine WL.yd (Yd.add rfl rfl (wr64 ⟨by omega, by omega⟩)) rfl ?_
      refine WL.yd (Yd.assign rfl) rfl ?_
      refine WL.nil ?_
      refine WP.blkNormal ?_
      refine WP.thenC ?_
      refine WC.ofFr [(10, _), (1, _), (2, _), (8, _), (11, _)] ⟨rfl, rfl, rfl, rfl, rfl, trivial⟩ ?_
      refine WC.region ?_
      refine WL.yd (Yd.move rfl) rfl ?_
      refine WL.yd (Yd.add rfl rfl (wr64 ⟨by omega, by omega⟩)) rfl ?_
      refine WL.yd (Yd.assign rfl) rfl ?_
      refine WL.nil ?_
      refine WP.againF (k + 1) (by omega) (by omega) ?_ (fun _ h => h) (fun h => h)
      rw [hcs]
      exact ⟨rfl, rfl, rfl, rfl, rfl, trivial⟩
    · try simp only [zq1, zq2, zq3, zq4, zq5, zq6, zq7, zq8] at c46
      have hcs := cntTo_no (L := T p) (f := befB a b) (k := k) (decide_eq_false (by omega))
      refine WC.skip ?_
      refine WP.blkNormal ?_
      refine WP.thenC ?_
      refine WC.ofFr [(1, _), (2, _), (8, _), (10, _), (11, _)] ⟨rfl, rfl, rfl, rfl, rfl, trivial⟩ ?_
      refine WC.region ?_
      refine WL.yd (Yd.move rfl) rfl ?_
      refine WL.yd (Yd.add rfl rfl (wr64 ⟨by omega, by omega⟩)) rfl ?_
      refine WL.yd (Yd.assign rfl) rfl ?_
      refine WL.nil ?_
      refine WP.againF (k + 1) (by omega) (by omega) ?_ (fun _ h => h) (fun h => h)
      rw [hcs]
      exact ⟨rfl, rfl, rfl, rfl, rfl, trivial⟩
  · try simp only [zq1, zq2, zq3, zq4, zq5, zq6, zq7, zq8] at c31
    refine WC.exit ?_
    refine WP.thenExit ?_
    refine WP.thenExit ?_
    refine WP.blkHit ?_
    refine WP.thenC ?_
    refine WC.seq ?_
    refine WC.ofFr [(8, _), (10, _)] ⟨rfl, rfl, trivial⟩ ?_
    refine WC.region ?_
    refine WL.yd (Yd.move rfl) rfl ?_
    refine WL.yd (Yd.move rfl) rfl ?_
    refine WL.yd (Yd.lenS rfl Try.underlying80 rfl) rfl ?_
    refine WL.so (SO.callP Try.call58 rfl (fun w hI => grade58_g _ _ _)) rfl ?_
    rintro _ _ _ ⟨rfl, rfl, rfl⟩
    refine WL.yd (Yd.assign rfl) rfl ?_
    refine WL.yd (Yd.assign rfl) rfl ?_
    refine WL.nil ?_
    refine WP.thenC ?_
    refine WC.ret ?_
    refine WP.ret2 rfl rfl Try.results18 (RV.tmp rfl) (RV.tmp rfl) (fun w hI => ⟨by rw [hO, show k = (T p).length by omega], hI.keep⟩)

theorem rkept_no (p : Post) (a1 : Option Addr) (n1 c1 : Nat) (a2 : Option Addr) (n2 c2 : Nat) (D : Imm) (w : World) (hR : PostR D p a1 n1 a2 n2) (hH : Holds D w)  (h : toldE p true ≠ 0) : Gives Try.prog 24 [.agg #[it p.post.lo, it p.post.hi, .slice a1 n1 c1, .slice a2 n2 c2]] w (.tuple #[it (KeptOut p).1, it (KeptOut p).2]) := by
  unfold Gives
  obtain rfl := hR.bath.len'
  obtain rfl := hR.claim.len'
  have hl1 := hR.len1
  have hl2 := hR.len2
  have hO : KeptOut p = (0, toldE p true) := if_pos h
  refine enter Try.func24 rfl 35 Try.ntmps24 (Nat.le_of_ble_eq_true rfl) (Inv.start hH) ?_
  refine WC.seq ?_
  refine WC.ofFr [(0, _)] ⟨rfl, trivial⟩ ?_
  refine WC.region ?_
  refine WL.so (SO.box rfl rfl) rfl ?_
  rintro _ _ _ ⟨b1, hb1, rfl, rfl, rfl⟩
  refine WL.yd (Yd.assign rfl) rfl ?_
  refine WL.yd (Yd.assign rfl) rfl ?_
  refine WL.nil ?_
  refine WP.thenC ?_
  refine WC.seq ?_
  refine WC.ofFr [(3, _), (2, _), (1, _)] ⟨rfl, rfl, rfl, trivial⟩ ?_
  refine WC.region ?_
  refine WL.yd (Yd.loadN Try.isAgg27 Try.sizeOf27 rfl (vs := [_, _, _, _]) rfl (by first | exact RdN.own (k := 0) (n := 4) rfl rfl)) rfl ?_
  refine WL.so (SO.callP Try.call52 rfl (fun w hI => told52_no p a1 _ c1 a2 _ c2 _ w hR hI.imm true h)) rfl ?_
  rintro _ _ _ ⟨rfl, rfl, rfl⟩
  refine WL.yd (Yd.move rfl) rfl ?_
  refine WL.yd (Yd.extract rfl rfl) rfl ?_
  refine WL.yd (Yd.extract rfl rfl) rfl ?_
  refine WL.yd (Yd.assign rfl) rfl ?_
  refine WL.yd (Yd.assign rfl) rfl ?_
  refine WL.nil ?_
  refine WP.thenC ?_
  refine WC.seq ?_
  refine WC.seq ?_
  refine WC.ofFr [(5, _), (4, _), (3, _), (2, _), (1, _)] ⟨rfl, rfl, rfl, rfl, rfl, trivial⟩ ?_
  refine WC.region ?_
  refine WL.yd (Yd.move rfl) rfl ?_
  refine WL.yd (Yd.neq rfl rfl) rfl ?_
  refine WL.know 14 (.bool true) rfl (congrArg Value.bool (decide_eq_true h)) ?_
  refine WL.nil ?_
  refine WP.thenC ?_
  refine WC.condT rfl ?_
  refine WC.seq ?_
  refine WC.ofFr [(5, _), (4, _), (3, _), (2, _), (1, _)] ⟨rfl, rfl, rfl, rfl, rfl, trivial⟩ ?_
  refine WC.region ?_
  refine WL.yd (Yd.move rfl) rfl ?_
  refine WL.yd (Yd.assign rfl) rfl ?_
  refine WL.yd (Yd.assign rfl) rfl ?_
  refine WL.nil ?_
  refine WP.thenC ?_
  refine WC.ret ?_
  refine WP.thenRet ?_
  refine WP.ret2 rfl rfl Try.results24 (RV.tmp rfl) (RV.tmp rfl) (fun w hI => ⟨by rw [hO]; rfl, hI.keep⟩)

theorem rkept_ok (p : Post) (a1 : Option Addr) (n1 c1 : Nat) (a2 : Option Addr) (n2 c2 : Nat) (D : Imm) (w : World) (hR : PostR D p a1 n1 a2 n2) (hH : Holds D w)  (hv : postB p = true)  (hok : okA p = true) : Gives Try.prog 24 [.agg #[it p.post.lo, it p.post.hi, .slice a1 n1 c1, .slice a2 n2 c2]] w (.tuple #[it (KeptOut p).1, it (KeptOut p).2]) := by
  unfold Gives
  obtain rfl := hR.bath.len'
  obtain rfl := hR.claim.len'
  have hl1 := hR.len1
  have hl2 := hR.len2
  have h5 := (post_num hv).2.1
  have hTL : (T p).length ≤ 4750104241 := by
    have := tr_le hv (everyS p) (p.bathers.length + 1) [] (by simp)
    have h41 : 41 ^ (p.bathers.length + 1) ≤ 41 ^ 6 := Nat.pow_le_pow_right (by omega) (by omega)
    exact Nat.le_trans this h41
  have hO : KeptOut p = (gradeR ((cntTo (T p) (keptB p) (T p).length : Nat) : Int) ((T p).length : Int), 0) := by rw [kept_out hv hok, cntTo_all, kept_grade hv hok]
  refine enter Try.func24 rfl 35 Try.ntmps24 (Nat.le_of_ble_eq_true rfl) (Inv.start hH) ?_
  refine WC.seq ?_
  refine WC.ofFr [(0, _)] ⟨rfl, trivial⟩ ?_
  refine WC.region ?_
  refine WL.so (SO.box rfl rfl) rfl ?_
  rintro _ _ _ ⟨b1, hb1, rfl, rfl, rfl⟩
  refine WL.yd (Yd.assign rfl) rfl ?_
  refine WL.yd (Yd.assign rfl) rfl ?_
  refine WL.nil ?_
  refine WP.thenC ?_
  refine WC.seq ?_
  refine WC.ofFr [(3, _), (2, _), (1, _)] ⟨rfl, rfl, rfl, trivial⟩ ?_
  refine WC.region ?_
  refine WL.yd (Yd.loadN Try.isAgg27 Try.sizeOf27 rfl (vs := [_, _, _, _]) rfl (by first | exact RdN.own (k := 0) (n := 4) rfl rfl)) rfl ?_
  refine WL.so (SO.makes (Enters.func Try.call52 rfl) (fun w hI => told52_ok p a1 _ c1 a2 _ c2 _ w hR hI.imm true hv rfl hok)) rfl ?_
  rintro _ D6 _ ⟨hX6, ⟨a6, n6, c6, rfl, hM, hn6⟩, rfl⟩
  obtain rfl := hM.len
  replace hR := hR.ext hX6
  refine WL.yd (Yd.move rfl) rfl ?_
  refine WL.yd (Yd.extract rfl rfl) rfl ?_
  refine WL.yd (Yd.extract rfl rfl) rfl ?_
  refine WL.yd (Yd.assign rfl) rfl ?_
  refine WL.yd (Yd.assign rfl) rfl ?_
  refine WL.nil ?_
  refine WP.thenC ?_
  refine WC.seq ?_
  refine WC.seq ?_
  refine WC.ofFr [(5, _), (4, _), (3, _), (2, _), (1, _)] ⟨rfl, rfl, rfl, rfl, rfl, trivial⟩ ?_
  refine WC.region ?_
  refine WL.yd (Yd.move rfl) rfl ?_
  refine WL.yd (Yd.neq rfl rfl) rfl ?_
  refine WL.know 14 (.bool false) rfl (congrArg Value.bool (decide_eq_false (by simp))) ?_
  refine WL.nil ?_
  refine WP.thenC ?_
  refine WC.condF rfl ?_
  refine WC.skip ?_
  refine WP.thenC ?_
  refine WC.seq ?_
  refine WC.ofFr [(4, _), (3, _), (2, _), (1, _)] ⟨rfl, rfl, rfl, rfl, trivial⟩ ?_
  refine WC.region ?_
  refine WL.yd (Yd.assign rfl) rfl ?_
  refine WL.nil ?_
  refine WP.thenC ?_
  refine WC.seq ?_
  refine WC.seq ?_
  refine WC.ofFr [(6, _), (4, _), (3, _), (2, _), (1, _)] ⟨rfl, rfl, rfl, rfl, rfl, trivial⟩ ?_
  refine WC.region ?_
  refine WL.yd (Yd.assign rfl) rfl ?_
  refine WL.nil ?_
  refine WP.thenC ?_
  refine WC.block ?_
  refine WC.loopF (fun k : Nat => [(1, pt b1), (4, .slice a6 (T p).length c6), (6, nt (cntTo (T p) (keptB p) k)), (7, nt k)]) (fun k => k ≤ (T p).length) (fun k => (T p).length - k) 0 (by omega) (by exact ⟨rfl, rfl, rfl, rfl, trivial⟩) ?_
  intro k hk
  refine WC.seq ?_
  refine WC.seq ?_
  refine WC.ofFr [(1, _), (4, _), (6, _), (7, _)] ⟨rfl, rfl, rfl, rfl, trivial⟩ ?_
  refine WC.region ?_
  refine WL.yd (Yd.move rfl) rfl ?_
  refine WL.yd (Yd.move rfl) rfl ?_
  refine WL.yd (Yd.lenS rfl Try.underlying80 rfl) rfl ?_
  refine WL.yd (Yd.lss rfl rfl) rfl ?_
  refine WL.nil ?_
  refine WP.thenC ?_
  refine WC.cond rfl (fun c19 => ?_) (fun c19 => ?_)
  · try simp only [zq1, zq2, zq3, zq4, zq5, zq6, zq7, zq8] at c19
    obtain ⟨hadr, ae, ne, ce, hrd, hx⟩ := hM.at_ k (by omega)
    have hxs := (T_mem hv).1 (gt_mem (l := T p) (i := k) (by omega))
    have hxn := hx.len'
    have hcl := cntTo_le (T p) (keptB p) k
    refine WC.skip ?_
    refine WP.thenC ?_
    refine WC.seq ?_
    refine WC.block ?_
    refine WC.seq ?_
    refine WC.ofFr [(1, _), (4, _), (6, _), (7, _)] ⟨rfl, rfl, rfl, rfl, trivial⟩ ?_
    refine WC.tail 5 [0, 1, 2, 3, 4] rfl (by kernel_rfl) (by kernel_rfl)  ?_
    refine WQ.q rfl (Yd.qt (Yd.loadN Try.isAgg27 Try.sizeOf27 rfl (vs := [_, _, _, _]) rfl (by first | exact RdN.own (k := 0) (n := 4) rfl rfl))) rfl ?_
    refine WQ.q rfl (Yd.qt (Yd.move rfl)) rfl ?_
    refine WQ.q rfl (Yd.qt (Yd.move rfl)) rfl ?_
    refine WQ.q rfl (Yd.qt (Yd.indexS Try.underlying80 Try.sizeOf52 rfl rfl (by omega) (by omega) (by first | exact hadr))) rfl ?_
    refine WQ.q rfl (Yd.qt (Yd.load1 Try.isAgg52 rfl (by first | exact Rd.own (k := 0) rfl rfl | exact (hrd.rd 0 rfl)))) rfl ?_
    refine WQ.tail ?_
    refine WL.so (SO.callP Try.call69 rfl (fun w hI => many69_g p a1 _ c1 a2 _ c2 _ w hR hI.imm (gt (T p) k) ae _ ce hx (by omega) (by omega))) rfl ?_
    rintro _ _ _ ⟨rfl, rfl, rfl⟩
    refine WL.yd (Yd.eql rfl rfl) rfl ?_
    refine WL.nil ?_
    refine WP.thenC ?_
    refine WC.cond rfl (fun c28 => ?_) (fun c28 => ?_)
    · try simp only [zq1, zq2, zq3, zq4, zq5, zq6, zq7, zq8] at c28
      have hcs := cntTo_yes (L := T p) (f := keptB p) (k := k) (decide_eq_true c28)
      refine WC.ofFr [(1, _), (4, _), (6, _), (7, _)] ⟨rfl, rfl, rfl, rfl, trivial⟩ ?_
      refine WC.region ?_
      refine WL.yd (Yd.move rfl) rfl ?_
      refine WL.yd (Yd.add rfl rfl (wr64 ⟨by omega, by omega⟩)) rfl ?_
      refine WL.yd (Yd.assign rfl) rfl ?_
      refine WL.nil ?_
      refine WP.blkNormal ?_
      refine WP.thenC ?_
      refine WC.ofFr [(6, _), (1, _), (4, _), (7, _)] ⟨rfl, rfl, rfl, rfl, trivial⟩ ?_
      refine WC.region ?_
      refine WL.yd (Yd.move rfl) rfl ?_
      refine WL.yd (Yd.add rfl rfl (wr64 ⟨by omega, by omega⟩)) rfl ?_
      refine WL.yd (Yd.assign rfl) rfl ?_
      refine WL.nil ?_
      refine WP.againF (k + 1) (by omega) (by omega) ?_ (fun _ h => h) (fun h => h)
      rw [hcs]
      exact ⟨rfl, rfl, rfl, rfl, trivial⟩
    · try simp only [zq1, zq2, zq3, zq4, zq5, zq6, zq7, zq8] at c28
      have hcs := cntTo_no (L := T p) (f := keptB p) (k := k) (decide_eq_false c28)
      refine WC.skip ?_
      refine WP.blkNormal ?_
      refine WP.thenC ?_
      refine WC.ofFr [(1, _), (4, _), (6, _), (7, _)] ⟨rfl, rfl, rfl, rfl, trivial⟩ ?_
      refine WC.region ?_
      refine WL.yd (Yd.move rfl) rfl ?_
      refine WL.yd (Yd.add rfl rfl (wr64 ⟨by omega, by omega⟩)) rfl ?_
      refine WL.yd (Yd.assign rfl) rfl ?_
      refine WL.nil ?_
      refine WP.againF (k + 1) (by omega) (by omega) ?_ (fun _ h => h) (fun h => h)
      rw [hcs]
      exact ⟨rfl, rfl, rfl, rfl, trivial⟩
  · try simp only [zq1, zq2, zq3, zq4, zq5, zq6, zq7, zq8] at c19
    refine WC.exit ?_
    refine WP.thenExit ?_
    refine WP.thenExit ?_
    refine WP.blkHit ?_
    refine WP.thenC ?_
    refine WC.seq ?_
    refine WC.ofFr [(4, _), (6, _)] ⟨rfl, rfl, trivial⟩ ?_
    refine WC.region ?_
    refine WL.yd (Yd.move rfl) rfl ?_
    refine WL.yd (Yd.move rfl) rfl ?_
    refine WL.yd (Yd.lenS rfl Try.underlying80 rfl) rfl ?_
    refine WL.so (SO.callP Try.call58 rfl (fun w hI => grade58_g _ _ _)) rfl ?_
    rintro _ _ _ ⟨rfl, rfl, rfl⟩
    refine WL.yd (Yd.assign rfl) rfl ?_
    refine WL.yd (Yd.assign rfl) rfl ?_
    refine WL.nil ?_
    refine WP.thenC ?_
    refine WC.ret ?_
    refine WP.ret2 rfl rfl Try.results24 (RV.tmp rfl) (RV.tmp rfl) (fun w hI => ⟨by rw [hO, show k = (T p).length by omega], hI.keep⟩)

end Go.Proofs.Ytkhmmefgllbobaa
