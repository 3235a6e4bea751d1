import Derived.Test.YtkhmmefgllbobaaXZB
set_option linter.unusedSimpArgs false
set_option linter.unusedVariables false
set_option linter.all false
namespace Go.Proofs.Ytkhmmefgllbobaa
open Go.W Go.Po

set_option maxRecDepth 100000 in
set_option maxHeartbeats 1000000 in
theorem side_g (p : Post) (a1 : Option Addr) (n1 c1 : Nat) (a2 : Option Addr) (n2 c2 : Nat) (D : Imm) (w : World) (hR : PostR D p a1 n1 a2 n2) (hH : Holds D w) (b i : Nat) (br : Bool) (hi : i < p.bathers.length) (hP : D b = some (.cells (List.toArray [it p.post.lo, it p.post.hi, .slice a1 n1 c1, .slice a2 n2 c2]) 27 (0, 0))) : Gives Try.prog 43 [nt i, .bool br, pt b] w (.agg #[nt i, it (-1), .bool ((gt p.bathers i).lady == br)]) := by
  unfold Gives
  obtain rfl := hR.bath.len'
  obtain rfl := hR.claim.len'
  have hl1 := hR.len1
  have hl2 := hR.len2
  refine enter Try.func43 rfl 16 Try.ntmps43 (Nat.le_of_ble_eq_true rfl) (Inv.start hH) ?_
  refine WC.seq ?_
  refine WC.ofFr [(0, _), (1, _), (2, _)] ⟨rfl, rfl, rfl, trivial⟩ ?_
  refine WC.region ?_
  refine WL.so (SO.alloc Try.zeroValue47 rfl) rfl ?_
  rintro _ _ _ ⟨b5, hb5, rfl, rfl, rfl⟩ -- NEW
  refine WL.nil ?_
  refine WP.thenC ?_
  refine WC.seq ?_
  refine WC.ofFr [(5, _), (0, _), (1, _), (2, _)] ⟨rfl, rfl, rfl, rfl, trivial⟩ ?_
  refine WC.region ?_
  refine WL.yd (Yd.move rfl) rfl ?_
  refine WL.yd (Yd.fieldAddr FA27_1 rfl) rfl ?_
  refine WL.yd (Yd.load1 Try.isAgg24 rfl (by first | exact Rd.own (k := 0) rfl rfl | exact (Rd.imm hP rfl) | exact ((hR.bath.at i (by omega)).rd 0 rfl))) rfl ?_
  refine WL.yd (Yd.move rfl) rfl ?_
  refine WL.yd (Yd.indexS Try.underlying24 Try.sizeOf56 rfl rfl (by omega) (by omega) (by first | exact hR.bath.addr i (by omega))) rfl ?_
  refine WL.yd (Yd.fieldAddr FA56_0 rfl) rfl ?_
  refine WL.yd (Yd.load1 Try.isAgg4 rfl (by first | exact Rd.own (k := 0) rfl rfl | exact (Rd.imm hP rfl) | exact ((hR.bath.at i (by omega)).rd 0 rfl))) rfl ?_
  refine WL.yd (Yd.move rfl) rfl ?_
  refine WL.yd (Yd.eqB Try.underlying4 rfl rfl) rfl ?_
  refine WL.yd (Yd.build SA47 rfl (cs := [_, _, _]) rfl) rfl ?_
  refine WL.so (SO.store 0 rfl Try.sizeOf47 rfl rfl rfl rfl (Nat.le_of_ble_eq_true rfl) (oneB_spec rfl)) rfl ?_
  rintro _ _ _ ⟨rfl, rfl, rfl⟩
  refine WL.nil ?_
  refine WP.thenC ?_
  refine WC.ret ?_
  refine WP.ret1 rfl rfl Try.results43 (RV.cellN Try.isAgg47 Try.sizeOf47 rfl (vs := [_, _, _]) rfl (by first | exact RdN.own (k := 0) (n := 3) rfl rfl)) (fun w hI => ⟨rfl, hI.keep⟩)

set_option maxRecDepth 100000 in
set_option maxHeartbeats 1000000 in
theorem breaks9_l (lo hi : Int) (a1 : Option Addr) (n1 c1 : Nat) (a2 : Option Addr) (n2 c2 : Nat)  (D : Imm) (w : World) (hH : Holds D w) (hl : max (n1 : Int) (n2 : Int) > 40) : Gives Try.prog 9 [.agg #[it lo, it hi, .slice a1 n1 c1, .slice a2 n2 c2]] w (.bool true) := by
  unfold Gives
  refine enter Try.func9 rfl 205 Try.ntmps9 (Nat.le_of_ble_eq_true rfl) (Inv.start hH) ?_
  refine WC.seq ?_
  refine WC.ofFr [(0, _)] ⟨rfl, trivial⟩ ?_
  refine WC.region ?_
  refine WL.so (SO.box rfl rfl) rfl ?_
  rintro _ _ _ ⟨b1, hb1, rfl, rfl, rfl⟩ -- NEW
  refine WL.yd (Yd.assign rfl) rfl ?_
  refine WL.nil ?_
  refine WP.thenC ?_
  refine WC.seq ?_
  refine WC.seq ?_
  refine WC.ofFr [(2, _), (1, _)] ⟨rfl, rfl, trivial⟩ ?_
  refine WC.region ?_
  refine WL.yd (Yd.loadN Try.isAgg27 Try.sizeOf27 rfl (vs := [_, _, _, _]) rfl (by first | exact RdN.own (k := 0) (n := 4) rfl rfl)) rfl ?_
  refine WL.so (SO.callP Try.call38 rfl (fun w hI => long_g _ _ _ _ _ _ _ _ _)) rfl ?_
  rintro _ _ _ ⟨rfl, rfl, rfl⟩
  refine WL.know 25 (.bool true) rfl (congrArg Value.bool (decide_eq_true hl)) ?_
  refine WL.yd (Yd.move rfl) rfl ?_
  refine WL.skip rfl rfl ?_
  refine WL.skip rfl rfl ?_
  refine WL.skip rfl rfl ?_
  refine WL.yd (Yd.pickT rfl rfl) rfl ?_
  refine WL.yd (Yd.move rfl) rfl ?_
  refine WL.skip rfl rfl ?_
  refine WL.skip rfl rfl ?_
  refine WL.skip rfl rfl ?_
  refine WL.skip rfl rfl ?_
  refine WL.yd (Yd.pickT rfl rfl) rfl ?_
  refine WL.nil ?_
  refine WP.thenC ?_
  refine WC.condT rfl ?_
  refine WC.seq ?_
  refine WC.ofFr [(2, _), (1, _)] ⟨rfl, rfl, trivial⟩ ?_
  refine WC.region ?_
  refine WL.so (SO.callP Try.call14 rfl (fun w hI => alive_g _ _ hI.imm)) rfl ?_
  rintro _ _ _ ⟨rfl, rfl, rfl⟩
  refine WL.yd (Yd.assign rfl) rfl ?_
  refine WL.nil ?_
  refine WP.thenC ?_
  refine WC.ret ?_
  refine WP.thenRet ?_
  refine WP.ret1 rfl rfl Try.results9 (RV.tmp rfl) (fun w hI => ⟨rfl, hI.keep⟩)

set_option maxRecDepth 100000 in
set_option maxHeartbeats 1000000 in
theorem breaks9_a (p : Post) (a1 : Option Addr) (n1 c1 : Nat) (a2 : Option Addr) (n2 c2 : Nat) (D : Imm) (w : World) (hR : PostR D p a1 n1 a2 n2) (hH : Holds D w)  (hl : ¬ (max (n1 : Int) (n2 : Int) > 40)) (hv : postB p = false) : Gives Try.prog 9 [.agg #[it p.post.lo, it p.post.hi, .slice a1 n1 c1, .slice a2 n2 c2]] w (.bool true) := by
  unfold Gives
  obtain rfl := hR.bath.len'
  obtain rfl := hR.claim.len'
  have hl1 := hR.len1
  have hl2 := hR.len2
  refine enter Try.func9 rfl 205 Try.ntmps9 (Nat.le_of_ble_eq_true rfl) (Inv.start hH) ?_
  refine WC.seq ?_
  refine WC.ofFr [(0, _)] ⟨rfl, trivial⟩ ?_
  refine WC.region ?_
  refine WL.so (SO.box rfl rfl) rfl ?_
  rintro _ _ _ ⟨b1, hb1, rfl, rfl, rfl⟩ -- NEW
  refine WL.yd (Yd.assign rfl) rfl ?_
  refine WL.nil ?_
  refine WP.thenC ?_
  refine WC.seq ?_
  refine WC.seq ?_
  refine WC.ofFr [(2, _), (1, _)] ⟨rfl, rfl, trivial⟩ ?_
  refine WC.region ?_
  refine WL.yd (Yd.loadN Try.isAgg27 Try.sizeOf27 rfl (vs := [_, _, _, _]) rfl (by first | exact RdN.own (k := 0) (n := 4) rfl rfl)) rfl ?_
  refine WL.so (SO.callP Try.call38 rfl (fun w hI => long_g _ _ _ _ _ _ _ _ _)) rfl ?_
  rintro _ _ _ ⟨rfl, rfl, rfl⟩
  refine WL.know 25 (.bool false) rfl (congrArg Value.bool (decide_eq_false hl)) ?_
  refine WL.yd (Yd.move rfl) rfl ?_
  refine WL.ydg rfl (Yd.loadN Try.isAgg27 Try.sizeOf27 rfl (vs := [_, _, _, _]) rfl (by first | exact RdN.own (k := 0) (n := 4) rfl rfl)) rfl ?_
  refine WL.sog rfl (SO.callP Try.call39 rfl (fun w hI => rpost_g p a1 _ c1 a2 _ c2 _ w hR hI.imm)) rfl ?_
  rintro _ _ _ ⟨rfl, rfl, rfl⟩
  refine WL.know 28 (.bool false) rfl (congrArg Value.bool hv) ?_
  refine WL.ydg rfl (Yd.not rfl) rfl ?_
  refine WL.yd (Yd.pickF rfl rfl) rfl ?_
  refine WL.yd (Yd.move rfl) rfl ?_
  refine WL.skip rfl rfl ?_
  refine WL.skip rfl rfl ?_
  refine WL.skip rfl rfl ?_
  refine WL.skip rfl rfl ?_
  refine WL.yd (Yd.pickT rfl rfl) rfl ?_
  refine WL.nil ?_
  refine WP.thenC ?_
  refine WC.condT rfl ?_
  refine WC.seq ?_
  refine WC.ofFr [(2, _), (1, _)] ⟨rfl, rfl, trivial⟩ ?_
  refine WC.region ?_
  refine WL.so (SO.callP Try.call14 rfl (fun w hI => alive_g _ _ hI.imm)) rfl ?_
  rintro _ _ _ ⟨rfl, rfl, rfl⟩
  refine WL.yd (Yd.assign rfl) rfl ?_
  refine WL.nil ?_
  refine WP.thenC ?_
  refine WC.ret ?_
  refine WP.thenRet ?_
  refine WP.ret1 rfl rfl Try.results9 (RV.tmp rfl) (fun w hI => ⟨rfl, hI.keep⟩)

set_option maxRecDepth 100000 in
set_option maxHeartbeats 1000000 in
theorem breaks9_m (p : Post) (a1 : Option Addr) (n1 c1 : Nat) (a2 : Option Addr) (n2 c2 : Nat) (D : Imm) (w : World) (hR : PostR D p a1 n1 a2 n2) (hH : Holds D w)  (hl : ¬ (max (n1 : Int) (n2 : Int) > 40)) (hv : postB p = true) (hm : 4 ≤ p.claims.length) : Gives Try.prog 9 [.agg #[it p.post.lo, it p.post.hi, .slice a1 n1 c1, .slice a2 n2 c2]] w (.bool true) := by
  unfold Gives
  obtain rfl := hR.bath.len'
  obtain rfl := hR.claim.len'
  have hl1 := hR.len1
  have hl2 := hR.len2
  refine enter Try.func9 rfl 205 Try.ntmps9 (Nat.le_of_ble_eq_true rfl) (Inv.start hH) ?_
  refine WC.seq ?_
  refine WC.ofFr [(0, _)] ⟨rfl, trivial⟩ ?_
  refine WC.region ?_
  refine WL.so (SO.box rfl rfl) rfl ?_
  rintro _ _ _ ⟨b1, hb1, rfl, rfl, rfl⟩ -- NEW
  refine WL.yd (Yd.assign rfl) rfl ?_
  refine WL.nil ?_
  refine WP.thenC ?_
  refine WC.seq ?_
  refine WC.seq ?_
  refine WC.ofFr [(2, _), (1, _)] ⟨rfl, rfl, trivial⟩ ?_
  refine WC.region ?_
  refine WL.yd (Yd.loadN Try.isAgg27 Try.sizeOf27 rfl (vs := [_, _, _, _]) rfl (by first | exact RdN.own (k := 0) (n := 4) rfl rfl)) rfl ?_
  refine WL.so (SO.callP Try.call38 rfl (fun w hI => long_g _ _ _ _ _ _ _ _ _)) rfl ?_
  rintro _ _ _ ⟨rfl, rfl, rfl⟩
  refine WL.know 25 (.bool false) rfl (congrArg Value.bool (decide_eq_false hl)) ?_
  refine WL.yd (Yd.move rfl) rfl ?_
  refine WL.ydg rfl (Yd.loadN Try.isAgg27 Try.sizeOf27 rfl (vs := [_, _, _, _]) rfl (by first | exact RdN.own (k := 0) (n := 4) rfl rfl)) rfl ?_
  refine WL.sog rfl (SO.callP Try.call39 rfl (fun w hI => rpost_g p a1 _ c1 a2 _ c2 _ w hR hI.imm)) rfl ?_
  rintro _ _ _ ⟨rfl, rfl, rfl⟩
  refine WL.know 28 (.bool true) rfl (congrArg Value.bool hv) ?_
  refine WL.ydg rfl (Yd.not rfl) rfl ?_
  refine WL.yd (Yd.pickF rfl rfl) rfl ?_
  refine WL.yd (Yd.move rfl) rfl ?_
  refine WL.ydg rfl (Yd.fieldAddr FA27_2 rfl) rfl ?_
  refine WL.ydg rfl (Yd.load1 Try.isAgg25 rfl (by first | exact Rd.own (k := 0) rfl rfl)) rfl ?_
  refine WL.ydg rfl (Yd.lenS rfl Try.underlying25 rfl) rfl ?_
  refine WL.ydg rfl (Yd.gtr rfl rfl) rfl ?_
  refine WL.know 35 (.bool true) rfl (congrArg Value.bool (decide_eq_true (by omega))) ?_
  refine WL.yd (Yd.pickF rfl rfl) rfl ?_
  refine WL.nil ?_
  refine WP.thenC ?_
  refine WC.condT rfl ?_
  refine WC.seq ?_
  refine WC.ofFr [(2, _), (1, _)] ⟨rfl, rfl, trivial⟩ ?_
  refine WC.region ?_
  refine WL.so (SO.callP Try.call14 rfl (fun w hI => alive_g _ _ hI.imm)) rfl ?_
  rintro _ _ _ ⟨rfl, rfl, rfl⟩
  refine WL.yd (Yd.assign rfl) rfl ?_
  refine WL.nil ?_
  refine WP.thenC ?_
  refine WC.ret ?_
  refine WP.thenRet ?_
  refine WP.ret1 rfl rfl Try.results9 (RV.tmp rfl) (fun w hI => ⟨rfl, hI.keep⟩)

set_option maxRecDepth 100000 in
set_option maxHeartbeats 1000000 in
theorem breaks9_b (p : Post) (a1 : Option Addr) (n1 c1 : Nat) (a2 : Option Addr) (n2 c2 : Nat) (D : Imm) (w : World) (hR : PostR D p a1 n1 a2 n2) (hH : Holds D w) (hl : ¬ (max (n1 : Int) (n2 : Int) > 40)) (hv : postB p = true) (hm : p.claims.length ≤ 3) (hok : okA p = false) : Gives Try.prog 9 [.agg #[it p.post.lo, it p.post.hi, .slice a1 n1 c1, .slice a2 n2 c2]] w (.bool true) := by
  unfold Gives
  obtain rfl := hR.bath.len'
  obtain rfl := hR.claim.len'
  have hl1 := hR.len1
  have hl2 := hR.len2
  refine enter Try.func9 rfl 205 Try.ntmps9 (Nat.le_of_ble_eq_true rfl) (Inv.start hH) ?_
  refine WC.seq ?_
  refine WC.ofFr [(0, _)] ⟨rfl, trivial⟩ ?_
  refine WC.region ?_
  refine WL.so (SO.box rfl rfl) rfl ?_
  rintro _ _ _ ⟨b1, hb1, rfl, rfl, rfl⟩ -- NEW
  refine WL.yd (Yd.assign rfl) rfl ?_
  refine WL.nil ?_
  refine WP.thenC ?_
  refine WC.seq ?_
  refine WC.seq ?_
  refine WC.ofFr [(2, _), (1, _)] ⟨rfl, rfl, trivial⟩ ?_
  refine WC.region ?_
  refine WL.yd (Yd.loadN Try.isAgg27 Try.sizeOf27 rfl (vs := [_, _, _, _]) rfl (by first | exact RdN.own (k := 0) (n := 4) rfl rfl)) rfl ?_
  refine WL.so (SO.callP Try.call38 rfl (fun w hI => long_g _ _ _ _ _ _ _ _ _)) rfl ?_
  rintro _ _ _ ⟨rfl, rfl, rfl⟩
  refine WL.know 25 (.bool false) rfl (congrArg Value.bool (decide_eq_false hl)) ?_
  refine WL.yd (Yd.move rfl) rfl ?_
  refine WL.ydg rfl (Yd.loadN Try.isAgg27 Try.sizeOf27 rfl (vs := [_, _, _, _]) rfl (by first | exact RdN.own (k := 0) (n := 4) rfl rfl)) rfl ?_
  refine WL.sog rfl (SO.callP Try.call39 rfl (fun w hI => rpost_g p a1 _ c1 a2 _ c2 _ w hR hI.imm)) rfl ?_
  rintro _ _ _ ⟨rfl, rfl, rfl⟩
  refine WL.know 28 (.bool true) rfl (congrArg Value.bool hv) ?_
  refine WL.ydg rfl (Yd.not rfl) rfl ?_
  refine WL.yd (Yd.pickF rfl rfl) rfl ?_
  refine WL.yd (Yd.move rfl) rfl ?_
  refine WL.ydg rfl (Yd.fieldAddr FA27_2 rfl) rfl ?_
  refine WL.ydg rfl (Yd.load1 Try.isAgg25 rfl (by first | exact Rd.own (k := 0) rfl rfl)) rfl ?_
  refine WL.ydg rfl (Yd.lenS rfl Try.underlying25 rfl) rfl ?_
  refine WL.ydg rfl (Yd.gtr rfl rfl) rfl ?_
  refine WL.know 35 (.bool false) rfl (congrArg Value.bool (decide_eq_false (by omega))) ?_
  refine WL.yd (Yd.pickF rfl rfl) rfl ?_
  refine WL.nil ?_
  refine WP.thenC ?_
  refine WC.condF rfl ?_
  refine WC.skip ?_
  refine WP.thenC ?_
  refine WC.seq ?_
  refine WC.ofFr [(2, _), (1, _)] ⟨rfl, rfl, trivial⟩ ?_
  refine WC.region ?_
  refine WL.yd (Yd.loadN Try.isAgg27 Try.sizeOf27 rfl (vs := [_, _, _, _]) rfl (by first | exact RdN.own (k := 0) (n := 4) rfl rfl)) rfl ?_
  refine WL.so (SO.callP Try.call21 rfl (fun w hI => Gives.cv (.tuple #[it 0, it 0, it 10]) (Breaks_g p a1 _ c1 a2 _ c2 _ w hR hI.imm) (by rw [breaks_bad hv hok]))) rfl ?_
  rintro _ _ _ ⟨rfl, rfl, rfl⟩
  refine WL.yd (Yd.move rfl) rfl ?_
  refine WL.yd (Yd.extract rfl rfl) rfl ?_
  refine WL.yd (Yd.extract rfl rfl) rfl ?_
  refine WL.yd (Yd.extract rfl rfl) rfl ?_
  refine WL.yd (Yd.assign rfl) rfl ?_
  refine WL.yd (Yd.assign rfl) rfl ?_
  refine WL.yd (Yd.assign rfl) rfl ?_
  refine WL.nil ?_
  refine WP.thenC ?_
  refine WC.seq ?_
  refine WC.ofFr [(5, _), (4, _), (3, _), (2, _), (1, _)] ⟨rfl, rfl, rfl, rfl, rfl, trivial⟩ ?_
  refine WC.region ?_
  refine WL.yd (Yd.loadN Try.isAgg27 Try.sizeOf27 rfl (vs := [_, _, _, _]) rfl (by first | exact RdN.own (k := 0) (n := 4) rfl rfl)) rfl ?_
  refine WL.so (SO.callP Try.call23 rfl (fun w hI => Gives.cv (.tuple #[it 0, it 10]) (Kept_g p a1 _ c1 a2 _ c2 _ w hR hI.imm) (by rw [kept_bad hv hok]))) rfl ?_
  rintro _ _ _ ⟨rfl, rfl, rfl⟩
  refine WL.yd (Yd.move rfl) rfl ?_
  refine WL.yd (Yd.extract rfl rfl) rfl ?_
  refine WL.yd (Yd.extract rfl rfl) rfl ?_
  refine WL.yd (Yd.assign rfl) rfl ?_
  refine WL.yd (Yd.assign rfl) rfl ?_
  refine WL.nil ?_
  refine WP.thenC ?_
  refine WC.seq ?_
  refine WC.ofFr [(7, _), (6, _), (5, _), (4, _), (3, _), (2, _), (1, _)] ⟨rfl, rfl, rfl, rfl, rfl, rfl, rfl, trivial⟩ ?_
  refine WC.region ?_
  refine WL.yd (Yd.loadN Try.isAgg27 Try.sizeOf27 rfl (vs := [_, _, _, _]) rfl (by first | exact RdN.own (k := 0) (n := 4) rfl rfl)) rfl ?_
  refine WL.so (SO.callP Try.call25 rfl (fun w hI => Gives.cv (.tuple #[.agg #[it 0, it 0], it 10]) (Fewest_g p a1 _ c1 a2 _ c2 _ w hR hI.imm) (by rw [few_bad hv hok]))) rfl ?_
  rintro _ _ _ ⟨rfl, rfl, rfl⟩
  refine WL.yd (Yd.move rfl) rfl ?_
  refine WL.yd (Yd.extract rfl rfl) rfl ?_
  refine WL.yd (Yd.extract rfl rfl) rfl ?_
  refine WL.so (SO.alloc Try.zeroValue23 rfl) rfl ?_
  rintro _ _ _ ⟨b8, hb8, rfl, rfl, rfl⟩ -- NEW
  refine WL.so (SO.store 0 rfl Try.sizeOf23 rfl rfl rfl rfl (Nat.le_of_ble_eq_true rfl) (oneB_spec rfl)) rfl ?_
  rintro _ _ _ ⟨rfl, rfl, rfl⟩
  refine WL.yd (Yd.assign rfl) rfl ?_
  refine WL.nil ?_
  refine WP.thenC ?_
  refine WC.seq ?_
  refine WC.seq ?_
  refine WC.ofFr [(9, _), (8, _), (7, _), (6, _), (5, _), (4, _), (3, _), (2, _), (1, _)] ⟨rfl, rfl, rfl, rfl, rfl, rfl, rfl, rfl, rfl, trivial⟩ ?_
  refine WC.region ?_
  refine WL.yd (Yd.move rfl) rfl ?_
  refine WL.yd (Yd.move rfl) rfl ?_
  refine WL.yd (Yd.neq rfl rfl) rfl ?_
  refine WL.know 56 (.bool false) rfl (congrArg Value.bool (decide_eq_false (by simp))) ?_
  refine WL.yd (Yd.move rfl) rfl ?_
  refine WL.ydg rfl (Yd.move rfl) rfl ?_
  refine WL.ydg rfl (Yd.move rfl) rfl ?_
  refine WL.ydg rfl (Yd.neq rfl rfl) rfl ?_
  refine WL.know 60 (.bool false) rfl (congrArg Value.bool (decide_eq_false (by simp))) ?_
  refine WL.yd (Yd.pickF rfl rfl) rfl ?_
  refine WL.nil ?_
  refine WP.thenC ?_
  refine WC.condF rfl ?_
  refine WC.skip ?_
  refine WP.thenC ?_
  refine WC.seq ?_
  refine WC.seq ?_
  refine WC.ofFr [(8, _), (6, _), (5, _), (4, _), (3, _), (2, _), (1, _)] ⟨rfl, rfl, rfl, rfl, rfl, rfl, rfl, trivial⟩ ?_
  refine WC.region ?_
  refine WL.yd (Yd.move rfl) rfl ?_
  refine WL.yd (Yd.neq rfl rfl) rfl ?_
  refine WL.know 63 (.bool true) rfl (congrArg Value.bool (by decide)) ?_
  refine WL.nil ?_
  refine WP.thenC ?_
  refine WC.condT rfl ?_
  refine WC.seq ?_
  refine WC.ofFr [(8, _), (6, _), (5, _), (4, _), (3, _), (2, _), (1, _)] ⟨rfl, rfl, rfl, rfl, rfl, rfl, rfl, trivial⟩ ?_
  refine WC.region ?_
  refine WL.yd (Yd.move rfl) rfl ?_
  refine WL.yd (Yd.eql rfl rfl) rfl ?_
  refine WL.know 65 (.bool true) rfl (congrArg Value.bool (by decide)) ?_
  refine WL.yd (Yd.move rfl) rfl ?_
  refine WL.ydg rfl (Yd.move rfl) rfl ?_
  refine WL.ydg rfl (Yd.eql rfl rfl) rfl ?_
  refine WL.know 68 (.bool true) rfl (congrArg Value.bool (by decide)) ?_
  refine WL.yd (Yd.pickT rfl rfl) rfl ?_
  refine WL.yd (Yd.move rfl) rfl ?_
  refine WL.ydg rfl (Yd.move rfl) rfl ?_
  refine WL.ydg rfl (Yd.eql rfl rfl) rfl ?_
  refine WL.know 72 (.bool true) rfl (congrArg Value.bool (by decide)) ?_
  refine WL.yd (Yd.pickT rfl rfl) rfl ?_
  refine WL.yd (Yd.move rfl) rfl ?_
  refine WL.ydg rfl (Yd.move rfl) rfl ?_
  refine WL.ydg rfl (Yd.eql rfl rfl) rfl ?_
  refine WL.know 76 (.bool true) rfl (congrArg Value.bool (by decide)) ?_
  refine WL.yd (Yd.pickT rfl rfl) rfl ?_
  refine WL.yd (Yd.move rfl) rfl ?_
  refine WL.ydg rfl (Yd.loadN Try.isAgg23 Try.sizeOf23 rfl (vs := [_, _]) rfl (by first | exact RdN.own (k := 0) (n := 2) rfl rfl | exact RdN.own (k := 1) (n := 2) rfl rfl)) rfl ?_
  refine WL.ydg rfl (Yd.build SA23 rfl (cs := [_, _]) rfl) rfl ?_
  refine WL.ydg rfl (Yd.eqS Try.eqGuardType23 (eq23 _ _ _ _) rfl rfl) rfl ?_
  refine WL.know 81 (.bool true) rfl (congrArg Value.bool (decide_eq_true rfl)) ?_
  refine WL.yd (Yd.pickT rfl rfl) rfl ?_
  refine WL.yd (Yd.move rfl) rfl ?_
  refine WL.sog rfl (SO.callP Try.call14 rfl (fun w hI => alive_g _ _ hI.imm)) rfl ?_
  rintro _ _ _ ⟨rfl, rfl, rfl⟩
  refine WL.know 84 (.bool true) rfl rfl ?_
  refine WL.yd (Yd.pickT rfl rfl) rfl ?_
  refine WL.yd (Yd.assign rfl) rfl ?_
  refine WL.nil ?_
  refine WP.thenC ?_
  refine WC.ret ?_
  refine WP.thenRet ?_
  refine WP.ret1 rfl rfl Try.results9 (RV.tmp rfl) (fun w hI => ⟨rfl, hI.keep⟩)

set_option maxRecDepth 100000 in
set_option maxHeartbeats 1000000 in
theorem breaks9_o (p : Post) (a1 : Option Addr) (n1 c1 : Nat) (a2 : Option Addr) (n2 c2 : Nat) (D : Imm) (w : World) (hR : PostR D p a1 n1 a2 n2) (hH : Holds D w) (hl : ¬ (max (n1 : Int) (n2 : Int) > 40)) (hv : postB p = true) (hm : p.claims.length ≤ 3) (hok : okA p = true) : Gives Try.prog 9 [.agg #[it p.post.lo, it p.post.hi, .slice a1 n1 c1, .slice a2 n2 c2]] w (.bool true) := by
  unfold Gives
  obtain rfl := hR.bath.len'
  obtain rfl := hR.claim.len'
  have hl1 := hR.len1
  have hl2 := hR.len2
  refine enter Try.func9 rfl 205 Try.ntmps9 (Nat.le_of_ble_eq_true rfl) (Inv.start hH) ?_
  refine WC.seq ?_
  refine WC.ofFr [(0, _)] ⟨rfl, trivial⟩ ?_
  refine WC.region ?_
  refine WL.so (SO.box rfl rfl) rfl ?_
  rintro _ _ _ ⟨b1, hb1, rfl, rfl, rfl⟩ -- NEW
  refine WL.yd (Yd.assign rfl) rfl ?_
  refine WL.nil ?_
  refine WP.thenC ?_
  refine WC.seq ?_
  refine WC.seq ?_
  refine WC.ofFr [(2, _), (1, _)] ⟨rfl, rfl, trivial⟩ ?_
  refine WC.region ?_
  refine WL.yd (Yd.loadN Try.isAgg27 Try.sizeOf27 rfl (vs := [_, _, _, _]) rfl (by first | exact RdN.own (k := 0) (n := 4) rfl rfl | exact (RdN.imm (n := 4) hP rfl))) rfl ?_
  refine WL.so (SO.callP Try.call38 rfl (fun w hI => long_g _ _ _ _ _ _ _ _ _)) rfl ?_
  rintro _ _ _ ⟨rfl, rfl, rfl⟩
  refine WL.know 25 (.bool false) rfl (congrArg Value.bool (decide_eq_false hl)) ?_
  refine WL.yd (Yd.move rfl) rfl ?_
  refine WL.ydg rfl (Yd.loadN Try.isAgg27 Try.sizeOf27 rfl (vs := [_, _, _, _]) rfl (by first | exact RdN.own (k := 0) (n := 4) rfl rfl | exact (RdN.imm (n := 4) hP rfl))) rfl ?_
  refine WL.sog rfl (SO.callP Try.call39 rfl (fun w hI => rpost_g p a1 _ c1 a2 _ c2 _ w hR hI.imm)) rfl ?_
  rintro _ _ _ ⟨rfl, rfl, rfl⟩
  refine WL.know 28 (.bool true) rfl (congrArg Value.bool hv) ?_
  refine WL.ydg rfl (Yd.not rfl) rfl ?_
  refine WL.yd (Yd.pickF rfl rfl) rfl ?_
  refine WL.yd (Yd.move rfl) rfl ?_
  refine WL.ydg rfl (Yd.fieldAddr FA27_2 rfl) rfl ?_
  refine WL.ydg rfl (Yd.load1 Try.isAgg25 rfl (by first | exact Rd.own (k := 0) rfl rfl | exact (Rd.imm hP rfl))) rfl ?_
  refine WL.ydg rfl (Yd.lenS rfl Try.underlying25 rfl) rfl ?_
  refine WL.ydg rfl (Yd.gtr rfl rfl) rfl ?_
  refine WL.know 35 (.bool false) rfl (congrArg Value.bool (decide_eq_false (by omega))) ?_
  refine WL.yd (Yd.pickF rfl rfl) rfl ?_
  refine WL.nil ?_
  refine WP.thenC ?_
  refine WC.condF rfl ?_
  refine WC.skip ?_
  refine WP.thenC ?_
  refine WC.seq ?_
  refine WC.ofFr [(2, _), (1, _)] ⟨rfl, rfl, trivial⟩ ?_
  refine WC.region ?_
  refine WL.yd (Yd.loadN Try.isAgg27 Try.sizeOf27 rfl (vs := [_, _, _, _]) rfl (by first | exact RdN.own (k := 0) (n := 4) rfl rfl | exact (RdN.imm (n := 4) hP rfl))) rfl ?_
  refine WL.so (SO.callP Try.call21 rfl (fun w hI => Gives.cv (.tuple #[nt (allS p), nt (someS p), it 0]) (Breaks_g p a1 _ c1 a2 _ c2 _ w hR hI.imm) (by rw [breaks_out hv hok]))) rfl ?_
  rintro _ _ _ ⟨rfl, rfl, rfl⟩
  refine WL.yd (Yd.move rfl) rfl ?_
  refine WL.yd (Yd.extract rfl rfl) rfl ?_
  refine WL.yd (Yd.extract rfl rfl) rfl ?_
  refine WL.yd (Yd.extract rfl rfl) rfl ?_
  refine WL.yd (Yd.assign rfl) rfl ?_
  refine WL.yd (Yd.assign rfl) rfl ?_
  refine WL.yd (Yd.assign rfl) rfl ?_
  refine WL.nil ?_
  refine WP.thenC ?_
  refine WC.seq ?_
  refine WC.ofFr [(5, _), (4, _), (3, _), (2, _), (1, _)] ⟨rfl, rfl, rfl, rfl, rfl, trivial⟩ ?_
  refine WC.region ?_
  refine WL.yd (Yd.loadN Try.isAgg27 Try.sizeOf27 rfl (vs := [_, _, _, _]) rfl (by first | exact RdN.own (k := 0) (n := 4) rfl rfl | exact (RdN.imm (n := 4) hP rfl))) rfl ?_
  refine WL.so (SO.callP Try.call23 rfl (fun w hI => Gives.cv (.tuple #[it (keptG p), it 0]) (Kept_g p a1 _ c1 a2 _ c2 _ w hR hI.imm) (by rw [kept_out hv hok]))) rfl ?_
  rintro _ _ _ ⟨rfl, rfl, rfl⟩
  refine WL.yd (Yd.move rfl) rfl ?_
  refine WL.yd (Yd.extract rfl rfl) rfl ?_
  refine WL.yd (Yd.extract rfl rfl) rfl ?_
  refine WL.yd (Yd.assign rfl) rfl ?_
  refine WL.yd (Yd.assign rfl) rfl ?_
  refine WL.nil ?_
  refine WP.thenC ?_
  refine WC.seq ?_
  refine WC.ofFr [(7, _), (6, _), (5, _), (4, _), (3, _), (2, _), (1, _)] ⟨rfl, rfl, rfl, rfl, rfl, rfl, rfl, trivial⟩ ?_
  refine WC.region ?_
  refine WL.yd (Yd.loadN Try.isAgg27 Try.sizeOf27 rfl (vs := [_, _, _, _]) rfl (by first | exact RdN.own (k := 0) (n := 4) rfl rfl | exact (RdN.imm (n := 4) hP rfl))) rfl ?_
  refine WL.so (SO.callP Try.call25 rfl (fun w hI => Gives.cv (.tuple #[.agg #[it (loF p), it (hiF p)], it 0]) (Fewest_g p a1 _ c1 a2 _ c2 _ w hR hI.imm) (by rw [few_out hv hok]))) rfl ?_
  rintro _ _ _ ⟨rfl, rfl, rfl⟩
  refine WL.yd (Yd.move rfl) rfl ?_
  refine WL.yd (Yd.extract rfl rfl) rfl ?_
  refine WL.yd (Yd.extract rfl rfl) rfl ?_
  refine WL.so (SO.alloc Try.zeroValue23 rfl) rfl ?_
  rintro _ _ _ ⟨b8, hb8, rfl, rfl, rfl⟩ -- NEW
  refine WL.so (SO.store 0 rfl Try.sizeOf23 rfl rfl rfl rfl (Nat.le_of_ble_eq_true rfl) (oneB_spec rfl)) rfl ?_
  rintro _ _ _ ⟨rfl, rfl, rfl⟩
  refine WL.yd (Yd.assign rfl) rfl ?_
  refine WL.nil ?_
  refine WP.thenC ?_
  refine WC.seq ?_
  refine WC.seq ?_
  refine WC.ofFr [(9, _), (8, _), (7, _), (6, _), (5, _), (4, _), (3, _), (2, _), (1, _)] ⟨rfl, rfl, rfl, rfl, rfl, rfl, rfl, rfl, rfl, trivial⟩ ?_
  refine WC.region ?_
  refine WL.yd (Yd.move rfl) rfl ?_
  refine WL.yd (Yd.move rfl) rfl ?_
  refine WL.yd (Yd.neq rfl rfl) rfl ?_
  refine WL.know 56 (.bool false) rfl (congrArg Value.bool (decide_eq_false (by simp))) ?_
  refine WL.yd (Yd.move rfl) rfl ?_
  refine WL.ydg rfl (Yd.move rfl) rfl ?_
  refine WL.ydg rfl (Yd.move rfl) rfl ?_
  refine WL.ydg rfl (Yd.neq rfl rfl) rfl ?_
  refine WL.know 60 (.bool false) rfl (congrArg Value.bool (decide_eq_false (by simp))) ?_
  refine WL.yd (Yd.pickF rfl rfl) rfl ?_
  refine WL.nil ?_
  refine WP.thenC ?_
  refine WC.condF rfl ?_
  refine WC.skip ?_
  refine WP.thenC ?_
  refine WC.seq ?_
  refine WC.seq ?_
  refine WC.ofFr [(8, _), (6, _), (5, _), (4, _), (3, _), (2, _), (1, _)] ⟨rfl, rfl, rfl, rfl, rfl, rfl, rfl, trivial⟩ ?_
  refine WC.region ?_
  refine WL.yd (Yd.move rfl) rfl ?_
  refine WL.yd (Yd.neq rfl rfl) rfl ?_
  refine WL.know 63 (.bool false) rfl (congrArg Value.bool (decide_eq_false (by simp))) ?_
  refine WL.nil ?_
  refine WP.thenC ?_
  refine WC.condF rfl ?_
  refine WC.skip ?_
  refine WP.thenC ?_
  refine WC.seq ?_
  refine WC.freezeK 1 rfl (fun hn1 => ?_)
  have hX1 : DExt w D (D.add b1 (.cells (List.toArray [it p.post.lo, it p.post.hi, .slice a1 p.bathers.length c1, .slice a2 p.claims.length c2]) 27 (0, 0))) := (DExt.refl w D).add hn1 hb1
  have hP : (D.add b1 (.cells (List.toArray [it p.post.lo, it p.post.hi, .slice a1 p.bathers.length c1, .slice a2 p.claims.length c2]) 27 (0, 0))) b1 = some (.cells (List.toArray [it p.post.lo, it p.post.hi, .slice a1 p.bathers.length c1, .slice a2 p.claims.length c2]) 27 (0, 0)) := Imm.add_self _ _ _
  replace hR := hR.ext hX1
  refine (?_ : WC Try.prog _ _ (D.add b1 (.cells (List.toArray [it p.post.lo, it p.post.hi, .slice a1 p.bathers.length c1, .slice a2 p.claims.length c2]) 27 (0, 0))) [_] _ _)
  generalize D.add b1 (.cells (List.toArray [it p.post.lo, it p.post.hi, .slice a1 p.bathers.length c1, .slice a2 p.claims.length c2]) 27 (0, 0)) = D1 at hX1 hP hR ⊢
  refine WC.ofFr [(8, _), (6, _), (4, _), (3, _), (2, _), (1, _)] ⟨rfl, rfl, rfl, rfl, rfl, rfl, trivial⟩ ?_
  refine WC.region ?_
  refine WL.yd (Yd.func rfl rfl) rfl ?_
  refine WL.yd (Yd.assign rfl) rfl ?_
  refine WL.nil ?_
  refine WP.thenC ?_
  refine WC.seq ?_
  refine WC.seq ?_
  refine WC.ofFr [(10, _), (8, _), (6, _), (4, _), (3, _), (2, _), (1, _)] ⟨rfl, rfl, rfl, rfl, rfl, rfl, rfl, trivial⟩ ?_
  refine WC.region ?_
  refine WL.yd (Yd.fieldAddr FA27_1 rfl) rfl ?_
  refine WL.yd (Yd.load1 Try.isAgg24 rfl (by first | exact Rd.own (k := 0) rfl rfl | exact (Rd.imm hP rfl))) rfl ?_
  refine WL.yd (Yd.lenS rfl Try.underlying24 rfl) rfl ?_
  refine WL.yd (Yd.move rfl) rfl ?_
  refine WL.nil ?_
  refine WP.thenC ?_
  refine WC.block ?_
  refine WC.loopF (fun k : Nat => [(1, pt b1), (3, nt (allS p)), (4, nt (someS p)), (6, it (keptG p)), (8, pt b8), (10, .func (.func 43) #[] #[pt b1]), (88, .slice a1 p.bathers.length c1), (89, nt p.bathers.length), (90, nt k)]) (fun k => k ≤ p.bathers.length) (fun k => p.bathers.length - k) 0 (by omega) (by exact ⟨rfl, rfl, rfl, rfl, rfl, rfl, rfl, rfl, rfl, trivial⟩) ?_
  intro k hk
  have h5 := (post_num hv).2.1
  refine WC.seq ?_
  refine WC.ofFr [(1, _), (3, _), (4, _), (6, _), (8, _), (10, _), (88, _), (89, _), (90, _)] ⟨rfl, rfl, rfl, rfl, rfl, rfl, rfl, rfl, rfl, trivial⟩ ?_
  refine WC.region ?_
  refine WL.yd (Yd.lss rfl rfl) rfl ?_
  refine WL.nil ?_
  refine WP.thenC ?_
  refine WC.seq ?_
  refine WC.cond rfl (fun c91 => ?_) (fun c91 => ?_)
  · try simp only [zq1, zq2, zq3, zq4, zq5, zq6, zq7, zq8] at c91
    have hkn : k < p.bathers.length := by omega
    refine WC.skip ?_
    refine WP.thenC ?_
    refine WC.seq ?_
    refine WC.block ?_
    refine WC.seq ?_
    refine WC.ofFr [(1, _), (3, _), (4, _), (6, _), (8, _), (10, _), (88, _), (89, _), (90, _)] ⟨rfl, rfl, rfl, rfl, rfl, rfl, rfl, rfl, rfl, trivial⟩ ?_
    refine WC.region ?_
    refine WL.yd (Yd.move rfl) rfl ?_
    refine WL.yd (Yd.assign rfl) rfl ?_
    refine WL.nil ?_
    refine WP.thenC ?_
    refine WC.seq ?_
    refine WC.ofFr [(11, _), (1, _), (3, _), (4, _), (6, _), (8, _), (10, _), (88, _), (89, _), (90, _)] ⟨rfl, rfl, rfl, rfl, rfl, rfl, rfl, rfl, rfl, rfl, trivial⟩ ?_
    refine WC.draw [(0, true), (1, true), (2, true), (3, false), (4, false), (5, false), (6, true), (7, true), (8, true), (9, true), (10, true)] (by kernel_rfl) (by kernel_rfl) (QuietPanic.then (QuietPanic.blk (QuietPanic.then (QuietPanic.then (QuietPanic.blk (QuietPanic.then QuietPanic.body)))))) ?_
    refine WA.yd rfl (Yd.loadN Try.isAgg27 Try.sizeOf27 rfl (vs := [_, _, _, _]) rfl (by first | exact RdN.own (k := 0) (n := 4) rfl rfl | exact (RdN.imm (n := 4) hP rfl))) rfl ?_
    refine WA.yd rfl (Yd.move rfl) rfl ?_
    refine WA.yd rfl (Yd.move rfl) rfl ?_
    refine WA.so rfl (SO.call (Enters.val Try.call43 rfl rfl) (fun w hI => side_g p a1 _ c1 a2 _ c2 _ _ hR hI.imm b1 k false hkn hP)) rfl ?_
    rintro _ _ _ ⟨rfl, rfl, rfl⟩
    refine ⟨fun _ hI => hI, ?_⟩
    refine WA.so rfl (SO.makes (Enters.func Try.call41 rfl) (fun w hI => with_g p a1 _ c1 a2 _ c2 _ w hR hI.imm (sideC p k false))) rfl ?_
    rintro _ D6 _ ⟨hX6, ⟨a6, c6, rfl, hR6⟩, rfl⟩
    replace hR6 := hR6 (by omega)
    replace hR := hR.ext hX6
    replace hP := hX6.old _ _ hP
    refine ⟨fun _ hI => hI.shrink hX6.old, ?_⟩
    refine WA.so rfl (SO.callP Try.call29 rfl (fun w hI => Clash_g (withP p (sideC p k false)) a1 _ c1 a6 _ c6 _ w hR6 hI.imm)) rfl ?_
    rintro _ _ _ ⟨rfl, rfl, rfl⟩
    refine ⟨fun _ hI => hI.shrink hX6.old, ?_⟩
    refine WA.yd rfl (Yd.move rfl) rfl ?_
    refine WA.yd rfl (Yd.extract rfl rfl) rfl ?_
    refine WA.yd rfl (Yd.extract rfl rfl) rfl ?_
    refine WA.yd rfl (Yd.assign rfl) rfl ?_
    refine WA.yd rfl (Yd.assign rfl) rfl ?_
    refine WA.nil ?_
    refine WP.thenC ?_
    refine WC.seq ?_
    refine WC.ofFr [(13, _), (11, _), (1, _), (3, _), (4, _), (6, _), (8, _), (10, _), (88, _), (89, _), (90, _)] ⟨rfl, rfl, rfl, rfl, rfl, rfl, rfl, rfl, rfl, rfl, rfl, trivial⟩ ?_
    refine WC.draw [(0, true), (1, true), (2, true), (3, false), (4, false), (5, false), (6, true), (7, true), (8, true), (9, true), (10, true)] (by kernel_rfl) (by kernel_rfl) (QuietPanic.then (QuietPanic.blk (QuietPanic.then (QuietPanic.then (QuietPanic.blk (QuietPanic.then QuietPanic.body)))))) ?_
    refine WA.yd rfl (Yd.loadN Try.isAgg27 Try.sizeOf27 rfl (vs := [_, _, _, _]) rfl (by first | exact RdN.own (k := 0) (n := 4) rfl rfl | exact (RdN.imm (n := 4) hP rfl))) rfl ?_
    refine WA.yd rfl (Yd.move rfl) rfl ?_
    refine WA.yd rfl (Yd.move rfl) rfl ?_
    refine WA.so rfl (SO.call (Enters.val Try.call43 rfl rfl) (fun w hI => side_g p a1 _ c1 a2 _ c2 _ _ hR hI.imm b1 k true hkn hP)) rfl ?_
    rintro _ _ _ ⟨rfl, rfl, rfl⟩
    refine ⟨fun _ hI => hI, ?_⟩
    refine WA.so rfl (SO.makes (Enters.func Try.call41 rfl) (fun w hI => with_g p a1 _ c1 a2 _ c2 _ w hR hI.imm (sideC p k true))) rfl ?_
    rintro _ D7 _ ⟨hX7, ⟨a7, c7, rfl, hR7⟩, rfl⟩
    replace hR7 := hR7 (by omega)
    replace hR := hR.ext hX7
    replace hP := hX7.old _ _ hP
    refine ⟨fun _ hI => hI.shrink hX7.old, ?_⟩
    refine WA.so rfl (SO.callP Try.call29 rfl (fun w hI => Clash_g (withP p (sideC p k true)) a1 _ c1 a7 _ c7 _ w hR7 hI.imm)) rfl ?_
    rintro _ _ _ ⟨rfl, rfl, rfl⟩
    refine ⟨fun _ hI => hI.shrink hX7.old, ?_⟩
    refine WA.yd rfl (Yd.move rfl) rfl ?_
    refine WA.yd rfl (Yd.extract rfl rfl) rfl ?_
    refine WA.yd rfl (Yd.extract rfl rfl) rfl ?_
    refine WA.yd rfl (Yd.assign rfl) rfl ?_
    refine WA.yd rfl (Yd.assign rfl) rfl ?_
    refine WA.nil ?_
    refine WP.thenC ?_
    refine WC.seq ?_
    refine WC.ofFr [(15, _), (13, _), (11, _), (1, _), (3, _), (4, _), (6, _), (8, _), (10, _), (88, _), (89, _), (90, _)] ⟨rfl, rfl, rfl, rfl, rfl, rfl, rfl, rfl, rfl, rfl, rfl, rfl, trivial⟩ ?_
    refine WC.region ?_
    refine WL.yd (Yd.move rfl) rfl ?_
    refine WL.yd (Yd.move rfl) rfl ?_
    refine WL.yd (Yd.shrN rfl rfl (by omega)) rfl ?_
    refine WL.yd (Yd.and1N rfl rfl) rfl ?_
    refine WL.yd (Yd.eql rfl rfl) rfl ?_
    refine WL.yd (Yd.move rfl) rfl ?_
    refine WL.yd (Yd.eql rfl rfl) rfl ?_
    refine WL.yd (Yd.neB Try.underlying4 rfl rfl) rfl ?_
    refine WL.know 118 (.bool false) rfl (congrArg Value.bool (bne_iff' (Iff.trans nat_one (bit_all hv (by omega) hkn)))) ?_
    refine WL.yd (Yd.move rfl) rfl ?_
    refine WL.ydg rfl (Yd.move rfl) rfl ?_
    refine WL.ydg rfl (Yd.move rfl) rfl ?_
    refine WL.ydg rfl (Yd.shrN rfl rfl (by omega)) rfl ?_
    refine WL.ydg rfl (Yd.and1N rfl rfl) rfl ?_
    refine WL.ydg rfl (Yd.eql rfl rfl) rfl ?_
    refine WL.ydg rfl (Yd.move rfl) rfl ?_
    refine WL.ydg rfl (Yd.eql rfl rfl) rfl ?_
    refine WL.ydg rfl (Yd.neB Try.underlying4 rfl rfl) rfl ?_
    refine WL.know 127 (.bool false) rfl (congrArg Value.bool (bne_iff' (Iff.trans nat_one (bit_some hv (by omega) hkn)))) ?_
    refine WL.yd (Yd.pickF rfl rfl) rfl ?_
    refine WL.nil ?_
    refine WP.thenC ?_
    refine WC.condF rfl ?_
    refine WC.skip ?_
    refine WP.blkNormal ?_
    refine WP.thenC ?_
    refine WC.ofFr [(1, _), (3, _), (4, _), (6, _), (8, _), (10, _), (88, _), (89, _), (90, _)] ⟨rfl, rfl, rfl, rfl, rfl, rfl, rfl, rfl, rfl, trivial⟩ ?_
    refine WC.region ?_
    refine WL.yd (Yd.add rfl rfl (wr64 ⟨by omega, by omega⟩)) rfl ?_
    refine WL.yd (Yd.move rfl) rfl ?_
    refine WL.nil ?_
    exact WP.againS (k + 1) (by omega) (by omega) ⟨rfl, rfl, rfl, rfl, rfl, rfl, rfl, rfl, rfl, trivial⟩ (fun _ h => h) (fun h => h) (hX6.trans hX7 (Nat.le_refl _)).old
  · try simp only [zq1, zq2, zq3, zq4, zq5, zq6, zq7, zq8] at c91
    refine WC.exit ?_
    refine WP.thenExit ?_
    refine WP.thenExit ?_
    refine WP.blkHit ?_
    refine WP.thenC ?_
    refine WC.seq ?_
    have h5 := (post_num hv).2.1
    have hpw : 2 ^ p.bathers.length ≤ 2 ^ 5 := Nat.pow_le_pow_right (by omega) h5
    refine WC.ofFr [(1, _), (4, _), (6, _), (8, _), (10, _)] ⟨rfl, rfl, rfl, rfl, rfl, trivial⟩ ?_
    refine WC.region ?_
    refine WL.yd (Yd.assign rfl) rfl ?_
    refine WL.yd (Yd.assign rfl) rfl ?_
    refine WL.nil ?_
    refine WP.thenC ?_
    refine WC.seq ?_
    refine WC.ofFr [(17, _), (16, _), (1, _), (4, _), (6, _), (8, _), (10, _)] ⟨rfl, rfl, rfl, rfl, rfl, rfl, rfl, trivial⟩ ?_
    refine WC.region ?_
    refine WL.yd (Yd.assign rfl) rfl ?_
    refine WL.nil ?_
    refine WP.thenC ?_
    refine WC.seq ?_
    refine WC.seq ?_
    refine WC.ofFr [(18, _), (17, _), (16, _), (1, _), (4, _), (6, _), (8, _), (10, _)] ⟨rfl, rfl, rfl, rfl, rfl, rfl, rfl, rfl, trivial⟩ ?_
    refine WC.region ?_
    refine WL.yd (Yd.fieldAddr FA27_1 rfl) rfl ?_
    refine WL.yd (Yd.load1 Try.isAgg24 rfl (by first | exact Rd.own (k := 0) rfl rfl | exact (Rd.imm hP rfl))) rfl ?_
    refine WL.yd (Yd.lenS rfl Try.underlying24 rfl) rfl ?_
    refine WL.yd (Yd.shl rfl rfl (by omega) (shlN_w p.bathers.length (by omega))) rfl ?_
    refine WL.yd (Yd.move rfl) rfl ?_
    refine WL.nil ?_
    refine WP.thenC ?_
    refine WC.block ?_
    refine WC.loopF (fun k : Nat => [(1, pt b1), (4, nt (someS p)), (6, it (keptG p)), (8, pt b8), (10, .func (.func 43) #[] #[pt b1]), (16, it (lmTo p k).1), (17, it (lmTo p k).2), (18, .func (.func 36) #[] #[]), (133, nt (2 ^ p.bathers.length)), (134, nt k)]) (fun k => k ≤ 2 ^ p.bathers.length) (fun k => 2 ^ p.bathers.length - k) 0 (Nat.zero_le _) (by exact ⟨rfl, rfl, rfl, rfl, rfl, rfl, rfl, rfl, rfl, rfl, trivial⟩) ?_
    clear hk
    intro k hk
    refine WC.seq ?_
    refine WC.ofFr [(1, _), (4, _), (6, _), (8, _), (10, _), (16, _), (17, _), (18, _), (133, _), (134, _)] ⟨rfl, rfl, rfl, rfl, rfl, rfl, rfl, rfl, rfl, rfl, trivial⟩ ?_
    refine WC.region ?_
    refine WL.yd (Yd.lss rfl rfl) rfl ?_
    refine WL.nil ?_
    refine WP.thenC ?_
    refine WC.seq ?_
    refine WC.cond rfl (fun c135 => ?_) (fun c135 => ?_)
    · try simp only [zq1, zq2, zq3, zq4, zq5, zq6, zq7, zq8] at c135
      refine WC.skip ?_
      refine WP.thenC ?_
      refine WC.seq ?_
      refine WC.block ?_
      refine WC.seq ?_
      refine WC.ofFr [(1, _), (4, _), (6, _), (8, _), (10, _), (16, _), (17, _), (18, _), (133, _), (134, _)] ⟨rfl, rfl, rfl, rfl, rfl, rfl, rfl, rfl, rfl, rfl, trivial⟩ ?_
      refine WC.region ?_
      refine WL.yd (Yd.move rfl) rfl ?_
      refine WL.yd (Yd.assign rfl) rfl ?_
      refine WL.nil ?_
      refine WP.thenC ?_
      refine WC.seq ?_
      refine WC.ofFr [(19, _), (1, _), (4, _), (6, _), (8, _), (10, _), (16, _), (17, _), (18, _), (133, _), (134, _)] ⟨rfl, rfl, rfl, rfl, rfl, rfl, rfl, rfl, rfl, rfl, rfl, trivial⟩ ?_
      refine WC.region ?_
      refine WL.yd (Yd.loadN Try.isAgg27 Try.sizeOf27 rfl (vs := [_, _, _, _]) rfl (by first | exact RdN.own (k := 0) (n := 4) rfl rfl | exact (RdN.imm (n := 4) hP rfl))) rfl ?_
      refine WL.so (SO.alloc Try.zeroValue27 rfl) rfl ?_
      rintro _ _ _ ⟨b20, hb20, rfl, rfl, rfl⟩ -- NEW
      refine WL.so (SO.store 0 rfl Try.sizeOf27 rfl rfl rfl rfl (Nat.le_of_ble_eq_true rfl) (oneB_spec rfl)) rfl ?_
      rintro _ _ _ ⟨rfl, rfl, rfl⟩
      refine WL.nil ?_
      refine WP.thenC ?_
      refine WC.seq ?_
      refine WC.seq ?_
      refine WC.ofFr [(20, _), (19, _), (1, _), (4, _), (6, _), (8, _), (10, _), (16, _), (17, _), (18, _), (133, _), (134, _)] ⟨rfl, rfl, rfl, rfl, rfl, rfl, rfl, rfl, rfl, rfl, rfl, rfl, trivial⟩ ?_
      refine WC.region ?_
      refine WL.yd (Yd.fieldAddr FA27_1 rfl) rfl ?_
      refine WL.yd (Yd.load1 Try.isAgg24 rfl (by first | exact Rd.own (k := 0) rfl rfl | exact Rd.own (k := 1) rfl rfl | exact (Rd.imm hP rfl))) rfl ?_
      refine WL.yd (Yd.lenS rfl Try.underlying24 rfl) rfl ?_
      refine WL.yd (Yd.move rfl) rfl ?_
      refine WL.nil ?_
      refine WP.thenC ?_
      refine WC.block ?_
      refine WC.loop (fun y : Nat × Imm × Option Addr × Nat => [(1, pt b1), (4, nt (someS p)), (6, it (keptG p)), (8, pt b8), (10, .func (.func 43) #[] #[pt b1]), (16, it (lmTo p k).1), (17, it (lmTo p k).2), (18, .func (.func 36) #[] #[]), (133, nt (2 ^ p.bathers.length)), (134, nt k), (19, nt k), (20, pt b20), (140, nt p.bathers.length), (141, nt y.1)]) (fun y => [(b20, .cells (List.toArray [it (sidesP p k y.1).post.lo, it (sidesP p k y.1).post.hi, .slice a1 p.bathers.length c1, .slice y.2.2.1 (p.claims.length + y.1) y.2.2.2]) 27 (0, 0)), (b8, .cells (List.toArray [it (loF p), it (hiF p)]) 23 (0, 0))]) (fun y => y.2.1) (fun y => y.1 ≤ p.bathers.length ∧ DExt w D1 y.2.1 ∧ PostR y.2.1 (sidesP p k y.1) a1 p.bathers.length y.2.2.1 (p.claims.length + y.1)) (fun y => p.bathers.length - y.1) (0, D1, a2, c2) ⟨by omega, DExt.refl _ _, hR⟩ (fun a w h => at_fr h ⟨rfl, rfl, rfl, rfl, rfl, rfl, rfl, rfl, rfl, rfl, rfl, rfl, rfl, rfl, trivial⟩) ?_
      rintro ⟨i, D8, a8, c8⟩ ⟨hi, hX8, hR8⟩
      dsimp only at hi hX8 hR8
      have hRD := hR.ext hX8
      have hPD := hX8.old _ _ hP
      refine WC.seq ?_
      refine WC.ofFr [(1, _), (4, _), (6, _), (8, _), (10, _), (16, _), (17, _), (18, _), (133, _), (134, _), (19, _), (20, _), (140, _), (141, _)] ⟨rfl, rfl, rfl, rfl, rfl, rfl, rfl, rfl, rfl, rfl, rfl, rfl, rfl, rfl, trivial⟩ ?_
      refine WC.region ?_
      refine WL.yd (Yd.lss rfl rfl) rfl ?_
      refine WL.nil ?_
      refine WP.thenC ?_
      refine WC.seq ?_
      refine WC.cond rfl (fun c142 => ?_) (fun c142 => ?_)
      · try simp only [zq1, zq2, zq3, zq4, zq5, zq6, zq7, zq8] at c142
        refine WC.skip ?_
        refine WP.thenC ?_
        refine WC.seq ?_
        refine WC.block ?_
        refine WC.seq ?_
        refine WC.ofFr [(1, _), (4, _), (6, _), (8, _), (10, _), (16, _), (17, _), (18, _), (133, _), (134, _), (19, _), (20, _), (140, _), (141, _)] ⟨rfl, rfl, rfl, rfl, rfl, rfl, rfl, rfl, rfl, rfl, rfl, rfl, rfl, rfl, trivial⟩ ?_
        refine WC.region ?_
        refine WL.yd (Yd.move rfl) rfl ?_
        refine WL.yd (Yd.assign rfl) rfl ?_
        refine WL.nil ?_
        refine WP.thenC ?_
        refine WC.ofFr [(21, _), (1, _), (4, _), (6, _), (8, _), (10, _), (16, _), (17, _), (18, _), (133, _), (134, _), (19, _), (20, _), (140, _), (141, _)] ⟨rfl, rfl, rfl, rfl, rfl, rfl, rfl, rfl, rfl, rfl, rfl, rfl, rfl, rfl, rfl, trivial⟩ ?_
        refine WC.tail 9 [0, 1, 2, 3, 4, 5, 6, 7, 8] rfl (by kernel_rfl) (by kernel_rfl)  ?_
        refine WQ.q rfl (Yd.qt (Yd.loadN Try.isAgg27 Try.sizeOf27 rfl (vs := [_, _, _, _]) rfl (by first | exact RdN.own (k := 0) (n := 4) rfl rfl | exact RdN.own (k := 1) (n := 4) rfl rfl | exact (RdN.imm (n := 4) hP rfl)))) rfl ?_
        refine WQ.q rfl (Yd.qt (Yd.move rfl)) rfl ?_
        refine WQ.q rfl (Yd.qt (Yd.move rfl)) rfl ?_
        refine WQ.q rfl (Yd.qt (Yd.move rfl)) rfl ?_
        refine WQ.q rfl (Yd.qt (Yd.move rfl)) rfl ?_
        refine WQ.q rfl (Yd.qt (Yd.shrN rfl rfl (by omega))) rfl ?_
        refine WQ.q rfl (Yd.qt (Yd.and1N rfl rfl)) rfl ?_
        refine WQ.q rfl (Yd.qt (Yd.eql rfl rfl)) rfl ?_
        refine WQ.q rfl (Qt.call (Enters.val Try.call43 rfl rfl) (fun w hI => side_g p a1 _ c1 a2 _ c2 _ _ hRD hI.imm b1 i _ (by omega) hPD)) rfl ?_
        refine WQ.tail ?_
        refine WL.so (SO.makes (Enters.func Try.call41 rfl) (fun w hI => with_g (sidesP p k i) a1 _ c1 a8 _ c8 _ w hR8 hI.imm (sideC p i (decide (((k / 2 ^ i % 2 : Nat) : Int) = 1))))) rfl ?_
        rintro _ D9 _ ⟨hX9, ⟨a9, c9, rfl, hR9⟩, rfl⟩
        replace hR9 := hR9 (by omega)
        refine WL.so (SO.store 0 rfl Try.sizeOf27 rfl rfl rfl rfl (Nat.le_of_ble_eq_true rfl) (oneB_spec rfl)) rfl ?_
        rintro _ _ _ ⟨rfl, rfl, rfl⟩
        refine WL.nil ?_
        refine WP.blkNormal ?_
        refine WP.thenC ?_
        refine WC.ofFr [(1, _), (4, _), (6, _), (8, _), (10, _), (16, _), (17, _), (18, _), (133, _), (134, _), (19, _), (20, _), (140, _), (141, _)] ⟨rfl, rfl, rfl, rfl, rfl, rfl, rfl, rfl, rfl, rfl, rfl, rfl, rfl, rfl, trivial⟩ ?_
        refine WC.region ?_
        refine WL.yd (Yd.add rfl rfl (wr64 ⟨by omega, by omega⟩)) rfl ?_
        refine WL.yd (Yd.move rfl) rfl ?_
        refine WL.nil ?_
        exact WP.again (⟨i + 1, D9, a9, c9⟩ : Nat × Imm × Option Addr × Nat) ⟨by simp only; omega, hX8.trans hX9 (Nat.le_refl _), hR9⟩ (by simp only; omega) (fun aa ww h => at_fr h ⟨rfl, rfl, rfl, rfl, rfl, rfl, rfl, rfl, rfl, rfl, rfl, rfl, rfl, rfl, trivial⟩)
      · try simp only [zq1, zq2, zq3, zq4, zq5, zq6, zq7, zq8] at c142
        refine WC.exit ?_
        refine WP.thenExit ?_
        refine WP.thenExit ?_
        refine WP.blkHit ?_
        refine WP.thenC ?_
        refine WC.seq ?_
        obtain rfl : i = p.bathers.length := by omega
        refine WC.ofFr [(1, _), (4, _), (6, _), (8, _), (10, _), (16, _), (17, _), (18, _), (133, _), (134, _), (19, _), (20, _)] ⟨rfl, rfl, rfl, rfl, rfl, rfl, rfl, rfl, rfl, rfl, rfl, rfl, trivial⟩ ?_
        refine WC.region ?_
        refine WL.yd (Yd.loadN Try.isAgg27 Try.sizeOf27 rfl (vs := [_, _, _, _]) rfl (by first | exact RdN.own (k := 0) (n := 4) rfl rfl | exact RdN.own (k := 1) (n := 4) rfl rfl | exact (RdN.imm (n := 4) hP rfl))) rfl ?_
        refine WL.so (SO.callP Try.call29 rfl (fun w hI => Clash_g (sidesP p k p.bathers.length) a1 _ c1 a8 _ c8 _ w hR8 hI.imm)) rfl ?_
        rintro _ _ _ ⟨rfl, rfl, rfl⟩
        refine WL.yd (Yd.move rfl) rfl ?_
        refine WL.yd (Yd.extract rfl rfl) rfl ?_
        refine WL.yd (Yd.extract rfl rfl) rfl ?_
        refine WL.yd (Yd.assign rfl) rfl ?_
        refine WL.yd (Yd.assign rfl) rfl ?_
        refine WL.nil ?_
        refine WP.thenC ?_
        refine WC.seq ?_
        refine WC.ofFr [(23, _), (1, _), (4, _), (6, _), (8, _), (10, _), (16, _), (17, _), (18, _), (133, _), (134, _), (19, _)] ⟨rfl, rfl, rfl, rfl, rfl, rfl, rfl, rfl, rfl, rfl, rfl, rfl, trivial⟩ ?_
        refine WC.region ?_
        refine WL.yd (Yd.move rfl) rfl ?_
        refine WL.yd (Yd.eql rfl rfl) rfl ?_
        refine WL.nil ?_
        refine WP.thenC ?_
        refine WC.cond rfl (fun c161 => ?_) (fun c161 => ?_)
        · try simp only [zq1, zq2, zq3, zq4, zq5, zq6, zq7, zq8] at c161
          have elm : lmTo p (k + 1) = (min (lmTo p k).1 (pop k : Nat), max (lmTo p k).2 (pop k : Nat)) := if_pos (decide_eq_true c161)
          refine WC.ofFr [(1, _), (4, _), (6, _), (8, _), (10, _), (16, _), (17, _), (18, _), (133, _), (134, _), (19, _)] ⟨rfl, rfl, rfl, rfl, rfl, rfl, rfl, rfl, rfl, rfl, rfl, trivial⟩ ?_
          refine WC.region ?_
          refine WL.yd (Yd.move rfl) rfl ?_
          refine WL.yd (Yd.move rfl) rfl ?_
          refine WL.yd (Yd.move rfl) rfl ?_
          refine WL.so (SO.call (Enters.val Try.call36 rfl rfl) (fun w hI => size_g k (by omega) _)) rfl ?_
          rintro _ _ _ ⟨rfl, rfl, rfl⟩
          refine WL.yd (Yd.min2 rfl rfl) rfl ?_
          refine WL.yd (Yd.move rfl) rfl ?_
          refine WL.yd (Yd.move rfl) rfl ?_
          refine WL.yd (Yd.move rfl) rfl ?_
          refine WL.so (SO.call (Enters.val Try.call36 rfl rfl) (fun w hI => size_g k (by omega) _)) rfl ?_
          rintro _ _ _ ⟨rfl, rfl, rfl⟩
          refine WL.yd (Yd.max2 rfl rfl) rfl ?_
          refine WL.yd (Yd.assign rfl) rfl ?_
          refine WL.yd (Yd.assign rfl) rfl ?_
          refine WL.nil ?_
          refine WP.blkNormal ?_
          refine WP.thenC ?_
          refine WC.ofFr [(17, _), (16, _), (1, _), (4, _), (6, _), (8, _), (10, _), (18, _), (133, _), (134, _)] ⟨rfl, rfl, rfl, rfl, rfl, rfl, rfl, rfl, rfl, rfl, trivial⟩ ?_
          refine WC.region ?_
          refine WL.yd (Yd.add rfl rfl (wr64 ⟨by omega, by omega⟩)) rfl ?_
          refine WL.yd (Yd.move rfl) rfl ?_
          refine WL.nil ?_
          refine WP.againS (k + 1) (by omega) (by omega) ?_ (fun _ h => .tail _ h) (fun h => (List.nodup_cons.1 h).2) hX8.old
          rw [elm]
          exact ⟨rfl, rfl, rfl, rfl, rfl, rfl, rfl, rfl, rfl, rfl, trivial⟩
        · try simp only [zq1, zq2, zq3, zq4, zq5, zq6, zq7, zq8] at c161
          have elm : lmTo p (k + 1) = lmTo p k := if_neg (fun h => c161 (of_decide_eq_true h))
          refine WC.skip ?_
          refine WP.blkNormal ?_
          refine WP.thenC ?_
          refine WC.ofFr [(1, _), (4, _), (6, _), (8, _), (10, _), (16, _), (17, _), (18, _), (133, _), (134, _)] ⟨rfl, rfl, rfl, rfl, rfl, rfl, rfl, rfl, rfl, rfl, trivial⟩ ?_
          refine WC.region ?_
          refine WL.yd (Yd.add rfl rfl (wr64 ⟨by omega, by omega⟩)) rfl ?_
          refine WL.yd (Yd.move rfl) rfl ?_
          refine WL.nil ?_
          refine WP.againS (k + 1) (by omega) (by omega) ?_ (fun _ h => .tail _ h) (fun h => (List.nodup_cons.1 h).2) hX8.old
          rw [elm]
          exact ⟨rfl, rfl, rfl, rfl, rfl, rfl, rfl, rfl, rfl, rfl, trivial⟩
    · try simp only [zq1, zq2, zq3, zq4, zq5, zq6, zq7, zq8] at c135
      refine WC.exit ?_
      refine WP.thenExit ?_
      refine WP.thenExit ?_
      refine WP.blkHit ?_
      refine WP.thenC ?_
      refine WC.seq ?_
      obtain rfl : k = 2 ^ p.bathers.length := by omega
      rw [lm_eq hv hm hok]
      refine WC.ofFr [(4, _), (6, _), (8, _), (16, _), (17, _)] ⟨rfl, rfl, rfl, rfl, rfl, trivial⟩ ?_
      refine WC.tail 27 [0, 1, 2, 3, 4, 5, 6, 7, 8, 9, 10, 11, 12, 13, 14, 15, 16, 17, 18, 19, 20, 21, 22, 23, 24, 25, 26] rfl (by kernel_rfl) (by kernel_rfl)  ?_
      refine WQ.q rfl (Yd.qt (Yd.loadN Try.isAgg23 Try.sizeOf23 rfl (vs := [_, _]) rfl (by first | exact RdN.own (k := 0) (n := 2) rfl rfl | exact (RdN.imm (n := 4) hP rfl)))) rfl ?_
      refine WQ.q rfl (Yd.qt (Yd.move rfl)) rfl ?_
      refine WQ.q rfl (Yd.qt (Yd.move rfl)) rfl ?_
      refine WQ.q rfl (Qt.callP Try.call32 rfl (fun w hI => lspan_g _ _ _)) rfl ?_
      refine WQ.q rfl (Yd.qt (Yd.eqS Try.eqGuardType23 (eq23 _ _ _ _) rfl rfl)) rfl ?_
      refine WQ.know 177 (.bool true) rfl (congrArg Value.bool (decide_eq_true rfl)) ?_
      refine WQ.q rfl (Yd.qt (Yd.move rfl)) rfl ?_
      refine WQ.qg rfl rfl (Yd.qt (Yd.move rfl)) rfl ?_
      refine WQ.qg rfl rfl (Yd.qt (Yd.eql rfl rfl)) rfl ?_
      refine WQ.qg rfl rfl (Yd.qt (Yd.fieldAddr FA23_1 rfl)) rfl ?_
      refine WQ.qg rfl rfl (Yd.qt (Yd.load1 Try.isAgg3 rfl (by first | exact Rd.own (k := 0) rfl rfl | exact (Rd.imm hP rfl)))) rfl ?_
      refine WQ.qg rfl rfl (Yd.qt (Yd.eql rfl rfl)) rfl ?_
      refine WQ.qg rfl rfl (Yd.qt (Yd.eqB Try.underlying4 rfl rfl)) rfl ?_
      refine WQ.know 184 (.bool true) rfl (congrArg Value.bool (beq_iff' (kept_two hv hok))) ?_
      refine WQ.q rfl (Yd.qt (Yd.pickT rfl rfl)) rfl ?_
      refine WQ.q rfl (Yd.qt (Yd.move rfl)) rfl ?_
      refine WQ.qg rfl rfl (Yd.qt (Yd.move rfl)) rfl ?_
      refine WQ.qg rfl rfl (Yd.qt (Yd.eql rfl rfl)) rfl ?_
      refine WQ.qg rfl rfl (Yd.qt (Yd.fieldAddr FA23_0 rfl)) rfl ?_
      refine WQ.qg rfl rfl (Yd.qt (Yd.load1 Try.isAgg3 rfl (by first | exact Rd.own (k := 0) rfl rfl | exact (Rd.imm hP rfl)))) rfl ?_
      refine WQ.qg rfl rfl (Yd.qt (Yd.gtr rfl rfl)) rfl ?_
      refine WQ.qg rfl rfl (Yd.qt (Yd.eqB Try.underlying4 rfl rfl)) rfl ?_
      refine WQ.know 192 (.bool true) rfl (congrArg Value.bool (beq_iff' (kept_zero hv hok))) ?_
      refine WQ.q rfl (Yd.qt (Yd.pickT rfl rfl)) rfl ?_
      refine WQ.q rfl (Yd.qt (Yd.move rfl)) rfl ?_
      refine WQ.qg rfl rfl (Yd.qt (Yd.move rfl)) rfl ?_
      refine WQ.qg rfl rfl (Yd.qt (Yd.eql rfl rfl)) rfl ?_
      refine WQ.qg rfl rfl (Yd.qt (Yd.fieldAddr FA23_1 rfl)) rfl ?_
      refine WQ.qg rfl rfl (Yd.qt (Yd.load1 Try.isAgg3 rfl (by first | exact Rd.own (k := 0) rfl rfl | exact (Rd.imm hP rfl)))) rfl ?_
      refine WQ.qg rfl rfl (Yd.qt (Yd.eql rfl rfl)) rfl ?_
      refine WQ.tail ?_
      refine WL.ydg rfl (Yd.eqB Try.underlying4 rfl rfl) rfl ?_
      refine WL.know 200 (.bool true) rfl (congrArg Value.bool (beq_iff' (some_zero hv hok))) ?_
      refine WL.yd (Yd.pickT rfl rfl) rfl ?_
      refine WL.yd (Yd.move rfl) rfl ?_
      refine WL.sog rfl (SO.callP Try.call14 rfl (fun w hI => alive_g _ _ hI.imm)) rfl ?_
      rintro _ _ _ ⟨rfl, rfl, rfl⟩
      refine WL.know 203 (.bool true) rfl rfl ?_
      refine WL.yd (Yd.pickT rfl rfl) rfl ?_
      refine WL.yd (Yd.assign rfl) rfl ?_
      refine WL.nil ?_
      refine WP.thenC ?_
      refine WC.ret ?_
      refine WP.ret1 rfl rfl Try.results9 (RV.tmp rfl) (fun w hI => ⟨rfl, hI.keep⟩)

theorem breaks9_g (p : Post) (a1 : Option Addr) (n1 c1 : Nat) (a2 : Option Addr) (n2 c2 : Nat) (D : Imm) (w : World) (s1 : SlL D 3 (p.bathers.map bathC) a1 n1) (s2 : SlL D 3 (p.claims.map claimC) a2 n2) (hH : Holds D w) : Gives Try.prog 9 [.agg #[it p.post.lo, it p.post.hi, .slice a1 n1 c1, .slice a2 n2 c2]] w (.bool true) := by
  by_cases hl : max (n1 : Int) (n2 : Int) > 40
  · exact breaks9_l _ _ a1 n1 c1 a2 n2 c2 D w hH hl
  · have hR : PostR D p a1 n1 a2 n2 := ⟨s1, s2, by omega, by omega⟩
    cases hv : postB p with
    | false => exact breaks9_a p a1 n1 c1 a2 n2 c2 D w hR hH hl hv
    | true =>
      by_cases hm : 4 ≤ p.claims.length
      · exact breaks9_m p a1 n1 c1 a2 n2 c2 D w hR hH hl hv hm
      · cases hok : okA p with
        | false => exact breaks9_b p a1 n1 c1 a2 n2 c2 D w hR hH hl hv (by omega) hok
        | true => exact breaks9_o p a1 n1 c1 a2 n2 c2 D w hR hH hl hv (by omega) hok

end Go.Proofs.Ytkhmmefgllbobaa
