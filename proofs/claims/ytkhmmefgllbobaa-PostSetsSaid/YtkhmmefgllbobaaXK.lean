import Derived.Test.YtkhmmefgllbobaaXJ
import Derived.Test.YtkhmmefgllbobaaXB
set_option linter.unusedSimpArgs false
set_option linter.unusedVariables false
set_option linter.all false
namespace Go.Proofs.Ytkhmmefgllbobaa
open Go.W Go.Po
theorem SA27 : StructAt Try.prog 27 [.int .i64 0, .int .i64 0, .slice none 0 0, .slice none 0 0] [(0, 2), (2, 1), (3, 1)] := ⟨⟨_, Try.zeroValue27, rfl⟩, _, Try.underlying27, fun w => by simp [Try.sizeOf23, Try.sizeOf24, Try.sizeOf25]⟩
theorem SA47 : StructAt Try.prog 47 [.int .i64 0, .int .i64 0, .bool false] [(0, 1), (1, 1), (2, 1)] := ⟨⟨_, Try.zeroValue47, rfl⟩, _, Try.underlying47, fun w => by simp [Try.sizeOf3, Try.sizeOf4]⟩
theorem SA56 : StructAt Try.prog 56 [.bool false, .int .i64 0, .int .i64 0] [(0, 1), (1, 2)] := ⟨⟨_, Try.zeroValue56, rfl⟩, _, Try.underlying56, fun w => by simp [Try.sizeOf4, Try.sizeOf23]⟩
set_option maxRecDepth 100000 in
set_option maxHeartbeats 1000000 in
theorem lspan_g (lo hi : Int) (w : World) : Gives Try.prog 32 [it lo, it hi] w (.agg #[it lo, it hi]) := by
  unfold Gives
  refine enter Try.func32 rfl 8 Try.ntmps32 (Nat.le_of_ble_eq_true rfl) (Inv.start (D := fun _ => none) (by intro _ _ h; cases h)) ?_
  refine WC.seq ?_
  refine WC.ofFr [(0, _), (1, _)] ⟨rfl, rfl, trivial⟩ ?_
  refine WC.region ?_
  refine WL.so (SO.alloc Try.zeroValue23 rfl) rfl ?_
  rintro _ _ _ ⟨b4, hb4, rfl, rfl, rfl⟩ -- NEW
  refine WL.nil ?_
  refine WP.thenC ?_
  refine WC.seq ?_
  refine WC.ofFr [(4, _), (0, _), (1, _)] ⟨rfl, rfl, rfl, trivial⟩ ?_
  refine WC.region ?_
  refine WL.yd (Yd.move rfl) rfl ?_
  refine WL.yd (Yd.move rfl) rfl ?_
  refine WL.yd (Yd.build SA23 rfl (cs := [_, _]) rfl) rfl ?_
  refine WL.so (SO.store 0 rfl Try.sizeOf23 rfl rfl rfl rfl (Nat.le_of_ble_eq_true rfl) (oneB_spec rfl)) rfl ?_
  rintro _ _ _ ⟨rfl, rfl, rfl⟩
  refine WL.nil ?_
  refine WP.thenC ?_
  refine WC.ret ?_
  refine WP.ret1 rfl rfl Try.results32 (RV.cellN Try.isAgg23 Try.sizeOf23 rfl (vs := [_, _]) rfl (by first | exact RdN.own (k := 0) (n := 2) rfl rfl)) (fun w hI => ⟨rfl, hI.keep⟩)

set_option maxRecDepth 100000 in
set_option maxHeartbeats 1000000 in
theorem lbef_g (a b : Int) (w : World) : Gives Try.prog 33 [it a, it b] w (.agg #[it a, it b, .bool false]) := by
  unfold Gives
  refine enter Try.func33 rfl 8 Try.ntmps33 (Nat.le_of_ble_eq_true rfl) (Inv.start (D := fun _ => none) (by intro _ _ h; cases h)) ?_
  refine WC.seq ?_
  refine WC.ofFr [(0, _), (1, _)] ⟨rfl, rfl, trivial⟩ ?_
  refine WC.region ?_
  refine WL.so (SO.alloc Try.zeroValue47 rfl) rfl ?_
  rintro _ _ _ ⟨b4, hb4, rfl, rfl, rfl⟩ -- NEW
  refine WL.nil ?_
  refine WP.thenC ?_
  refine WC.seq ?_
  refine WC.ofFr [(4, _), (0, _), (1, _)] ⟨rfl, rfl, rfl, trivial⟩ ?_
  refine WC.region ?_
  refine WL.yd (Yd.move rfl) rfl ?_
  refine WL.yd (Yd.move rfl) rfl ?_
  refine WL.yd (Yd.build SA47 rfl (cs := [_, _, _]) rfl) rfl ?_
  refine WL.so (SO.store 0 rfl Try.sizeOf47 rfl rfl rfl rfl (Nat.le_of_ble_eq_true rfl) (oneB_spec rfl)) rfl ?_
  rintro _ _ _ ⟨rfl, rfl, rfl⟩
  refine WL.nil ?_
  refine WP.thenC ?_
  refine WC.ret ?_
  refine WP.ret1 rfl rfl Try.results33 (RV.cellN Try.isAgg47 Try.sizeOf47 rfl (vs := [_, _, _]) rfl (by first | exact RdN.own (k := 0) (n := 3) rfl rfl)) (fun w hI => ⟨rfl, hI.keep⟩)

set_option maxRecDepth 100000 in
set_option maxHeartbeats 1000000 in
theorem lnot_g (a b : Int) (w : World) : Gives Try.prog 42 [it a, it b] w (.agg #[it a, it b, .bool true]) := by
  unfold Gives
  refine enter Try.func42 rfl 8 Try.ntmps42 (Nat.le_of_ble_eq_true rfl) (Inv.start (D := fun _ => none) (by intro _ _ h; cases h)) ?_
  refine WC.seq ?_
  refine WC.ofFr [(0, _), (1, _)] ⟨rfl, rfl, trivial⟩ ?_
  refine WC.region ?_
  refine WL.so (SO.alloc Try.zeroValue47 rfl) rfl ?_
  rintro _ _ _ ⟨b4, hb4, rfl, rfl, rfl⟩ -- NEW
  refine WL.nil ?_
  refine WP.thenC ?_
  refine WC.seq ?_
  refine WC.ofFr [(4, _), (0, _), (1, _)] ⟨rfl, rfl, rfl, trivial⟩ ?_
  refine WC.region ?_
  refine WL.yd (Yd.move rfl) rfl ?_
  refine WL.yd (Yd.move rfl) rfl ?_
  refine WL.yd (Yd.build SA47 rfl (cs := [_, _, _]) rfl) rfl ?_
  refine WL.so (SO.store 0 rfl Try.sizeOf47 rfl rfl rfl rfl (Nat.le_of_ble_eq_true rfl) (oneB_spec rfl)) rfl ?_
  rintro _ _ _ ⟨rfl, rfl, rfl⟩
  refine WL.nil ?_
  refine WP.thenC ?_
  refine WC.ret ?_
  refine WP.ret1 rfl rfl Try.results42 (RV.cellN Try.isAgg47 Try.sizeOf47 rfl (vs := [_, _, _]) rfl (by first | exact RdN.own (k := 0) (n := 3) rfl rfl)) (fun w hI => ⟨rfl, hI.keep⟩)

set_option maxRecDepth 100000 in
set_option maxHeartbeats 1000000 in
theorem llady_g (lo hi : Int) (w : World) : Gives Try.prog 85 [it lo, it hi] w (.agg #[.bool true, it lo, it hi]) := by
  unfold Gives
  refine enter Try.func85 rfl 9 Try.ntmps85 (Nat.le_of_ble_eq_true rfl) (Inv.start (D := fun _ => none) (by intro _ _ h; cases h)) ?_
  refine WC.seq ?_
  refine WC.ofFr [(0, _), (1, _)] ⟨rfl, rfl, trivial⟩ ?_
  refine WC.region ?_
  refine WL.so (SO.alloc Try.zeroValue56 rfl) rfl ?_
  rintro _ _ _ ⟨b4, hb4, rfl, rfl, rfl⟩ -- NEW
  refine WL.nil ?_
  refine WP.thenC ?_
  refine WC.seq ?_
  refine WC.ofFr [(4, _), (0, _), (1, _)] ⟨rfl, rfl, rfl, trivial⟩ ?_
  refine WC.region ?_
  refine WL.yd (Yd.move rfl) rfl ?_
  refine WL.yd (Yd.move rfl) rfl ?_
  refine WL.so (SO.callP Try.call32 rfl (fun w hI => lspan_g _ _ _)) rfl ?_
  rintro _ _ _ ⟨rfl, rfl, rfl⟩
  refine WL.yd (Yd.build SA56 rfl (cs := [_, _, _]) rfl) rfl ?_
  refine WL.so (SO.store 0 rfl Try.sizeOf56 rfl rfl rfl rfl (Nat.le_of_ble_eq_true rfl) (oneB_spec rfl)) rfl ?_
  rintro _ _ _ ⟨rfl, rfl, rfl⟩
  refine WL.nil ?_
  refine WP.thenC ?_
  refine WC.ret ?_
  refine WP.ret1 rfl rfl Try.results85 (RV.cellN Try.isAgg56 Try.sizeOf56 rfl (vs := [_, _, _]) rfl (by first | exact RdN.own (k := 0) (n := 3) rfl rfl)) (fun w hI => ⟨rfl, hI.keep⟩)

set_option maxRecDepth 100000 in
set_option maxHeartbeats 1000000 in
theorem lman_g (lo hi : Int) (w : World) : Gives Try.prog 86 [it lo, it hi] w (.agg #[.bool false, it lo, it hi]) := by
  unfold Gives
  refine enter Try.func86 rfl 9 Try.ntmps86 (Nat.le_of_ble_eq_true rfl) (Inv.start (D := fun _ => none) (by intro _ _ h; cases h)) ?_
  refine WC.seq ?_
  refine WC.ofFr [(0, _), (1, _)] ⟨rfl, rfl, trivial⟩ ?_
  refine WC.region ?_
  refine WL.so (SO.alloc Try.zeroValue56 rfl) rfl ?_
  rintro _ _ _ ⟨b4, hb4, rfl, rfl, rfl⟩ -- NEW
  refine WL.nil ?_
  refine WP.thenC ?_
  refine WC.seq ?_
  refine WC.ofFr [(4, _), (0, _), (1, _)] ⟨rfl, rfl, rfl, trivial⟩ ?_
  refine WC.region ?_
  refine WL.yd (Yd.move rfl) rfl ?_
  refine WL.yd (Yd.move rfl) rfl ?_
  refine WL.so (SO.callP Try.call32 rfl (fun w hI => lspan_g _ _ _)) rfl ?_
  rintro _ _ _ ⟨rfl, rfl, rfl⟩
  refine WL.yd (Yd.build SA56 rfl (cs := [_, _, _]) rfl) rfl ?_
  refine WL.so (SO.store 0 rfl Try.sizeOf56 rfl rfl rfl rfl (Nat.le_of_ble_eq_true rfl) (oneB_spec rfl)) rfl ?_
  rintro _ _ _ ⟨rfl, rfl, rfl⟩
  refine WL.nil ?_
  refine WP.thenC ?_
  refine WC.ret ?_
  refine WP.ret1 rfl rfl Try.results86 (RV.cellN Try.isAgg56 Try.sizeOf56 rfl (vs := [_, _, _]) rfl (by first | exact RdN.own (k := 0) (n := 3) rfl rfl)) (fun w hI => ⟨rfl, hI.keep⟩)

def sampP (l : List PClaim) : Post := ⟨⟨10, 12⟩, [⟨true, ⟨5, 11⟩⟩, ⟨false, ⟨9, 14⟩⟩, ⟨true, ⟨8, 13⟩⟩], [⟨1, 2, false⟩, ⟨-1, 2, true⟩, ⟨0, -1, false⟩] ++ l⟩
theorem claimC_ones : ∀ x : PClaim, ∀ v ∈ claimC x, v.oneCell' = true := fun x v hv => by
  simp only [claimC, List.mem_cons, List.mem_nil_iff, or_false] at hv
  rcases hv with rfl | rfl | rfl <;> rfl

set_option maxRecDepth 100000 in
set_option maxHeartbeats 1000000 in
theorem sample_g (l : List PClaim) (a : Option Addr) (n c : Nat) (D : Imm) (w : World) (hS : SlL D 3 (l.map claimC) a n) (h0 : l = [] → a = none) (hn : n ≤ 1) (hH : Holds D w) : Makes Try.prog 31 [.slice a n c] w D (fun v D' => ∃ a1 c1 a2 c2, v = .agg #[it 10, it 12, .slice a1 3 c1, .slice a2 (3 + n) c2] ∧ PostR D' (sampP l) a1 3 a2 (3 + n)) := by
  unfold Makes
  refine enter Try.func31 rfl 15 Try.ntmps31 (Nat.le_of_ble_eq_true rfl) (Inv.start hH) ?_
  refine WC.seq ?_
  refine WC.ofFr [(0, _)] ⟨rfl, trivial⟩ ?_
  refine WC.region ?_
  refine WL.so (SO.alloc Try.zeroValue27 rfl) rfl ?_
  rintro _ _ _ ⟨b2, hb2, rfl, rfl, rfl⟩ -- NEW
  refine WL.nil ?_
  refine WP.thenC ?_
  refine WC.seq ?_
  refine WC.ofFr [(2, _), (0, _)] ⟨rfl, rfl, trivial⟩ ?_
  refine WC.region ?_
  refine WL.so (SO.callP Try.call32 rfl (fun w hI => lspan_g _ _ _)) rfl ?_
  rintro _ _ _ ⟨rfl, rfl, rfl⟩
  refine WL.so (SO.callP Try.call85 rfl (fun w hI => llady_g _ _ _)) rfl ?_
  rintro _ _ _ ⟨rfl, rfl, rfl⟩
  refine WL.so (SO.callP Try.call86 rfl (fun w hI => lman_g _ _ _)) rfl ?_
  rintro _ _ _ ⟨rfl, rfl, rfl⟩
  refine WL.so (SO.callP Try.call85 rfl (fun w hI => llady_g _ _ _)) rfl ?_
  rintro _ _ _ ⟨rfl, rfl, rfl⟩
  refine WL.so (SO.buildSlice Try.underlying24 Try.sizeOf56 Try.zeroValue56 rfl rfl rfl rfl (cs := [_, _, _, _, _, _, _, _, _]) rfl) rfl ?_
  rintro _ _ _ ⟨b7, hb7, rfl, rfl, rfl⟩ -- NEW
  refine WL.so (SO.callP Try.call33 rfl (fun w hI => lbef_g _ _ _)) rfl ?_
  rintro _ _ _ ⟨rfl, rfl, rfl⟩
  refine WL.so (SO.callP Try.call42 rfl (fun w hI => lnot_g _ _ _)) rfl ?_
  rintro _ _ _ ⟨rfl, rfl, rfl⟩
  refine WL.so (SO.callP Try.call33 rfl (fun w hI => lbef_g _ _ _)) rfl ?_
  rintro _ _ _ ⟨rfl, rfl, rfl⟩
  refine WL.so (SO.buildSlice Try.underlying25 Try.sizeOf47 Try.zeroValue47 rfl rfl rfl rfl (cs := [_, _, _, _, _, _, _, _, _]) rfl) rfl ?_
  rintro _ _ _ ⟨b11, hb11, rfl, rfl, rfl⟩ -- NEW
  refine WL.yd (Yd.move rfl) rfl ?_
  refine WL.so (SO.appendSome (o := ⟨b11, 3, []⟩) (len := 3) (n := n) (xs := ([⟨1, 2, false⟩, ⟨-1, 2, true⟩, ⟨0, -1, false⟩] : List PClaim).flatMap claimC) (ys := l.flatMap claimC) (size := 3) [] [_, _] rfl rfl Try.underlying25 Try.sizeOf47 Try.typeInfo47 Try.zeroValue47 rfl rfl rfl rfl (hS.rdS claimC_len h0) (fun v hv => by obtain ⟨x, _, hx⟩ := List.mem_flatMap.1 hv; exact claimC_ones x v hx) ⟨hb11, Nat.le_refl 3, rfl⟩ rfl (by show (2 * (_ + _) + 1000) * 24 ≤ 2 ^ 48; omega) (by omega)) rfl ?_
  rintro _ _ _ ⟨u1, hu1, rfl, rfl, rfl⟩
  refine WL.yd (Yd.build SA27 rfl (cs := [_, _, _, _]) rfl) rfl ?_
  refine WL.so (SO.store 2 rfl Try.sizeOf27 rfl rfl rfl rfl (Nat.le_of_ble_eq_true rfl) (oneB_spec rfl)) rfl ?_
  rintro _ _ _ ⟨rfl, rfl, rfl⟩
  refine WL.nil ?_
  refine WP.thenC ?_
  refine WC.ret ?_
  refine WP.ret1 rfl rfl Try.results31 (RV.cellN Try.isAgg27 Try.sizeOf27 rfl (vs := [_, _, _, _]) rfl (by first | exact RdN.own (k := 0) (n := 4) rfl rfl | exact RdN.own (k := 1) (n := 4) rfl rfl | exact RdN.own (k := 2) (n := 4) rfl rfl)) (fun w1 hI => ?_)
  have hf := hI.freeze
  have hf2 := hf.freeze
  have hn1 := hI.apart _ _ (List.mem_of_getElem? (i := 0) rfl)
  have hX1 := fun o => (DExt.refl w D).add (o := o) hn1 hu1.1
  have hn7 := hf.apart _ _ (List.mem_of_getElem? (i := 0) rfl)
  have hX7 := fun o => (DExt.refl w (D.add u1.b _)).add (o := o) hn7 hb7
  obtain rfl := hS.len'
  refine ⟨_, _, rfl, hI.keep, hf2.imm, (hX1 _).trans (hX7 _) (Nat.le_refl _), some ⟨b7, 0, none⟩, 3, some ⟨u1.b, 0, none⟩, u1.cap, rfl, ?_, ?_, by decide, by omega⟩
  · exact SlL.ofBlock (f := bathC) (m := 3) (t := 56) (fz := (0, 0)) (l := (sampP l).bathers) (rest := []) bathC_len (Imm.add_self _ _ _)
  · have e : (sampP l).claims.length = 3 + l.length := by simp [sampP]; omega
    rw [← e]
    exact SlL.ofBlock (f := claimC) (m := 3) (t := 47) (fz := (0, 0)) (l := (sampP l).claims) (rest := u1.rest) claimC_len (b := u1.b) ((hX7 _).old _ _ (by rw [show (sampP l).claims = ([⟨1, 2, false⟩, ⟨-1, 2, true⟩, ⟨0, -1, false⟩] : List PClaim) ++ l from rfl, List.flatMap_append]; exact Imm.add_self _ _ _))

theorem al1 : PlaceOut (sampP []) 1 = (⟨9, 11⟩, 0) := by kernel_rfl
theorem al2 : BeforeOut (sampP []) 2 (-1) = (1, 0) := by kernel_rfl
theorem al3 : NearOut (sampP []) 0 (-1) = (⟨1, 7⟩, 0) := by kernel_rfl
theorem al4 : BreaksOut (sampP []) = (2, 6, 0) := by kernel_rfl
theorem al5 : KeptOut (sampP []) = (0, 0) := by kernel_rfl
theorem al6 : FewestOut (sampP []) = (⟨1, 2⟩, 0) := by kernel_rfl
theorem al7 : FalseOut (sampP [⟨2, 1, false⟩]) = (1, 1, 0) := by kernel_rfl
theorem al8 : ClashOut (sampP [⟨2, 1, false⟩]) = (9, 0) := by kernel_rfl
theorem al9 : BeforeOut (sampP []) 1 (-1) = (2, 0) := by kernel_rfl

end Go.Proofs.Ytkhmmefgllbobaa
namespace Go.Proofs.Ytkhmmefgllbobaa
open Go.W Go.Po

theorem eq23 (a b c d : Int) : ∀ w, (Op.equalIn 10000 23 (.agg #[.int .i64 a, .int .i64 b]) (.agg #[.int .i64 c, .int .i64 d])).run Try.prog w = .ok (decide ((⟨a, b⟩ : Sp) = ⟨c, d⟩)) w := by
  intro w
  have h1 : (Op.equalIn 10000 23 (.agg #[.int .i64 a, .int .i64 b]) (.agg #[.int .i64 c, .int .i64 d])).run Try.prog w = .ok (a == c && b == d) w := by
    simp [go_sem, Op.eqFields]
    by_cases h : a = c <;> by_cases h' : b = d <;> simp [h, h']
  have h2 : (a == c && b == d) = decide ((⟨a, b⟩ : Sp) = ⟨c, d⟩) := by
    rw [Bool.eq_iff_iff]; simp only [Bool.and_eq_true, beq_iff_eq, decide_eq_true_eq, Sp.mk.injEq]
  rw [h1, h2]
theorem one_sl {D : Imm} {b : Nat} {t : TypeId} {fz : Nat × Nat} (x : PClaim) (hD : D b = some (.cells (claimC x).toArray t fz)) : SlL D 3 ([x].map claimC) (some ⟨b, 0, none⟩) 1 :=
  SlL.ofBlock (f := claimC) (l := [x]) (rest := []) claimC_len (by rw [List.append_nil, List.flatMap_cons, List.flatMap_nil, List.append_nil]; exact hD)

set_option maxRecDepth 100000 in
set_option maxHeartbeats 1000000 in
theorem alive_g (D : Imm) (w : World) (hH : Holds D w) : Gives Try.prog 14 [] w (.bool true) := by
  unfold Gives
  refine enter Try.func14 rfl 153 Try.ntmps14 (Nat.le_of_ble_eq_true rfl) (Inv.start hH) ?_
  refine WC.seq ?_
  refine WC.ofFr [] trivial ?_
  refine WC.region ?_
  refine WL.yd (Yd.assign rfl) rfl ?_
  refine WL.nil ?_
  refine WP.thenC ?_
  refine WC.seq ?_
  refine WC.ofFr [(0, _)] ⟨rfl, trivial⟩ ?_
  refine WC.region ?_
  refine WL.so (SO.makes (Enters.func Try.call31 rfl) (fun w hI => sample_g [] none 0 0 _ w ⟨rfl, fun i r hr => by simp at hr⟩ (fun _ => rfl) (by decide) hI.imm)) rfl ?_
  rintro _ D1 _ ⟨hX1, ⟨a1_1, c1_1, a2_1, c2_1, rfl, hR1⟩, rfl⟩
  refine WL.so (SO.callP Try.call15 rfl (fun w hI => Gives.cv (.tuple #[.agg #[it 9, it 11], it 0]) (Place_g (sampP []) a1_1 _ c1_1 a2_1 _ c2_1 _ w hR1 hI.imm 1) (by rw [al1]))) rfl ?_
  rintro _ _ _ ⟨rfl, rfl, rfl⟩
  refine WL.yd (Yd.move rfl) rfl ?_
  refine WL.yd (Yd.extract rfl rfl) rfl ?_
  refine WL.yd (Yd.extract rfl rfl) rfl ?_
  refine WL.so (SO.alloc Try.zeroValue23 rfl) rfl ?_
  rintro _ _ _ ⟨b1, hb1, rfl, rfl, rfl⟩ -- NEW
  refine WL.so (SO.store 0 rfl Try.sizeOf23 rfl rfl rfl rfl (Nat.le_of_ble_eq_true rfl) (oneB_spec rfl)) rfl ?_
  rintro _ _ _ ⟨rfl, rfl, rfl⟩
  refine WL.yd (Yd.assign rfl) rfl ?_
  refine WL.nil ?_
  refine WP.thenC ?_
  refine WC.seq ?_
  refine WC.ofFr [(2, _), (1, _), (0, _)] ⟨rfl, rfl, rfl, trivial⟩ ?_
  refine WC.region ?_
  refine WL.so (SO.makes (Enters.func Try.call31 rfl) (fun w hI => sample_g [] none 0 0 _ w ⟨rfl, fun i r hr => by simp at hr⟩ (fun _ => rfl) (by decide) hI.imm)) rfl ?_
  rintro _ D2 _ ⟨hX2, ⟨a1_2, c1_2, a2_2, c2_2, rfl, hR2⟩, rfl⟩
  refine WL.so (SO.callP Try.call17 rfl (fun w hI => Gives.cv (.tuple #[it 1, it 0]) (Before_g (sampP []) a1_2 _ c1_2 a2_2 _ c2_2 _ w hR2 hI.imm 2 (-1)) (by rw [al2]))) rfl ?_
  rintro _ _ _ ⟨rfl, rfl, rfl⟩
  refine WL.yd (Yd.move rfl) rfl ?_
  refine WL.yd (Yd.extract rfl rfl) rfl ?_
  refine WL.yd (Yd.extract rfl rfl) rfl ?_
  refine WL.yd (Yd.assign rfl) rfl ?_
  refine WL.yd (Yd.assign rfl) rfl ?_
  refine WL.nil ?_
  refine WP.thenC ?_
  refine WC.seq ?_
  refine WC.ofFr [(4, _), (3, _), (2, _), (1, _), (0, _)] ⟨rfl, rfl, rfl, rfl, rfl, trivial⟩ ?_
  refine WC.region ?_
  refine WL.so (SO.makes (Enters.func Try.call31 rfl) (fun w hI => sample_g [] none 0 0 _ w ⟨rfl, fun i r hr => by simp at hr⟩ (fun _ => rfl) (by decide) hI.imm)) rfl ?_
  rintro _ D3 _ ⟨hX3, ⟨a1_3, c1_3, a2_3, c2_3, rfl, hR3⟩, rfl⟩
  refine WL.so (SO.callP Try.call19 rfl (fun w hI => Gives.cv (.tuple #[.agg #[it 1, it 7], it 0]) (Near_g (sampP []) a1_3 _ c1_3 a2_3 _ c2_3 _ w hR3 hI.imm 0 (-1)) (by rw [al3]))) rfl ?_
  rintro _ _ _ ⟨rfl, rfl, rfl⟩
  refine WL.yd (Yd.move rfl) rfl ?_
  refine WL.yd (Yd.extract rfl rfl) rfl ?_
  refine WL.yd (Yd.extract rfl rfl) rfl ?_
  refine WL.so (SO.alloc Try.zeroValue23 rfl) rfl ?_
  rintro _ _ _ ⟨b5, hb5, rfl, rfl, rfl⟩ -- NEW
  refine WL.so (SO.store 0 rfl Try.sizeOf23 rfl rfl rfl rfl (Nat.le_of_ble_eq_true rfl) (oneB_spec rfl)) rfl ?_
  rintro _ _ _ ⟨rfl, rfl, rfl⟩
  refine WL.yd (Yd.assign rfl) rfl ?_
  refine WL.nil ?_
  refine WP.thenC ?_
  refine WC.seq ?_
  refine WC.ofFr [(6, _), (5, _), (4, _), (3, _), (2, _), (1, _), (0, _)] ⟨rfl, rfl, rfl, rfl, rfl, rfl, rfl, trivial⟩ ?_
  refine WC.region ?_
  refine WL.so (SO.makes (Enters.func Try.call31 rfl) (fun w hI => sample_g [] none 0 0 _ w ⟨rfl, fun i r hr => by simp at hr⟩ (fun _ => rfl) (by decide) hI.imm)) rfl ?_
  rintro _ D4 _ ⟨hX4, ⟨a1_4, c1_4, a2_4, c2_4, rfl, hR4⟩, rfl⟩
  refine WL.so (SO.callP Try.call21 rfl (fun w hI => Gives.cv (.tuple #[it 2, it 6, it 0]) (Breaks_g (sampP []) a1_4 _ c1_4 a2_4 _ c2_4 _ w hR4 hI.imm) (by rw [al4]))) rfl ?_
  rintro _ _ _ ⟨rfl, rfl, rfl⟩
  refine WL.yd (Yd.move rfl) rfl ?_
  refine WL.yd (Yd.extract rfl rfl) rfl ?_
  refine WL.yd (Yd.extract rfl rfl) rfl ?_
  refine WL.yd (Yd.extract rfl rfl) rfl ?_
  refine WL.yd (Yd.assign rfl) rfl ?_
  refine WL.yd (Yd.assign rfl) rfl ?_
  refine WL.yd (Yd.assign rfl) rfl ?_
  refine WL.nil ?_
  refine WP.thenC ?_
  refine WC.seq ?_
  refine WC.ofFr [(9, _), (8, _), (7, _), (6, _), (5, _), (4, _), (3, _), (2, _), (1, _), (0, _)] ⟨rfl, rfl, rfl, rfl, rfl, rfl, rfl, rfl, rfl, rfl, trivial⟩ ?_
  refine WC.region ?_
  refine WL.so (SO.makes (Enters.func Try.call31 rfl) (fun w hI => sample_g [] none 0 0 _ w ⟨rfl, fun i r hr => by simp at hr⟩ (fun _ => rfl) (by decide) hI.imm)) rfl ?_
  rintro _ D5 _ ⟨hX5, ⟨a1_5, c1_5, a2_5, c2_5, rfl, hR5⟩, rfl⟩
  refine WL.so (SO.callP Try.call23 rfl (fun w hI => Gives.cv (.tuple #[it 0, it 0]) (Kept_g (sampP []) a1_5 _ c1_5 a2_5 _ c2_5 _ w hR5 hI.imm) (by rw [al5]))) rfl ?_
  rintro _ _ _ ⟨rfl, rfl, rfl⟩
  refine WL.yd (Yd.move rfl) rfl ?_
  refine WL.yd (Yd.extract rfl rfl) rfl ?_
  refine WL.yd (Yd.extract rfl rfl) rfl ?_
  refine WL.yd (Yd.assign rfl) rfl ?_
  refine WL.yd (Yd.assign rfl) rfl ?_
  refine WL.nil ?_
  refine WP.thenC ?_
  refine WC.seq ?_
  refine WC.ofFr [(11, _), (10, _), (9, _), (8, _), (7, _), (6, _), (5, _), (4, _), (3, _), (2, _), (1, _), (0, _)] ⟨rfl, rfl, rfl, rfl, rfl, rfl, rfl, rfl, rfl, rfl, rfl, rfl, trivial⟩ ?_
  refine WC.region ?_
  refine WL.so (SO.makes (Enters.func Try.call31 rfl) (fun w hI => sample_g [] none 0 0 _ w ⟨rfl, fun i r hr => by simp at hr⟩ (fun _ => rfl) (by decide) hI.imm)) rfl ?_
  rintro _ D6 _ ⟨hX6, ⟨a1_6, c1_6, a2_6, c2_6, rfl, hR6⟩, rfl⟩
  refine WL.so (SO.callP Try.call25 rfl (fun w hI => Gives.cv (.tuple #[.agg #[it 1, it 2], it 0]) (Fewest_g (sampP []) a1_6 _ c1_6 a2_6 _ c2_6 _ w hR6 hI.imm) (by rw [al6]))) rfl ?_
  rintro _ _ _ ⟨rfl, rfl, rfl⟩
  refine WL.yd (Yd.move rfl) rfl ?_
  refine WL.yd (Yd.extract rfl rfl) rfl ?_
  refine WL.yd (Yd.extract rfl rfl) rfl ?_
  refine WL.so (SO.alloc Try.zeroValue23 rfl) rfl ?_
  rintro _ _ _ ⟨b12, hb12, rfl, rfl, rfl⟩ -- NEW
  refine WL.so (SO.store 0 rfl Try.sizeOf23 rfl rfl rfl rfl (Nat.le_of_ble_eq_true rfl) (oneB_spec rfl)) rfl ?_
  rintro _ _ _ ⟨rfl, rfl, rfl⟩
  refine WL.yd (Yd.assign rfl) rfl ?_
  refine WL.nil ?_
  refine WP.thenC ?_
  refine WC.seq ?_
  refine WC.ofFr [(13, _), (12, _), (11, _), (10, _), (9, _), (8, _), (7, _), (6, _), (5, _), (4, _), (3, _), (2, _), (1, _), (0, _)] ⟨rfl, rfl, rfl, rfl, rfl, rfl, rfl, rfl, rfl, rfl, rfl, rfl, rfl, rfl, trivial⟩ ?_
  refine WC.region ?_
  refine WL.so (SO.callP Try.call33 rfl (fun w hI => lbef_g _ _ _)) rfl ?_
  rintro _ _ _ ⟨rfl, rfl, rfl⟩
  refine WL.so (SO.buildSlice Try.underlying25 Try.sizeOf47 Try.zeroValue47 rfl rfl rfl rfl (cs := [_, _, _]) rfl) rfl ?_
  rintro _ _ _ ⟨b54, hb54, rfl, rfl, rfl⟩ -- NEW
  refine WL.freezeK 0 rfl (fun hn54 => ?_)
  have hF54 := fun o => (DExt.refl w D6).add (o := o) hn54 hb54
  refine WL.so (SO.makes (Enters.func Try.call31 rfl) (fun w hI => sample_g [(⟨2, 1, false⟩ : PClaim)] (some ⟨b54, 0, none⟩) 1 _ _ w (one_sl (⟨2, 1, false⟩ : PClaim) (Imm.add_self _ _ _)) (fun h => by cases h) (by decide) hI.imm)) rfl ?_
  rintro _ D7 _ ⟨hX7, ⟨a1_7, c1_7, a2_7, c2_7, rfl, hR7⟩, rfl⟩
  refine WL.so (SO.callP Try.call27 rfl (fun w hI => Gives.cv (.tuple #[it 1, it 1, it 0]) (False_g (sampP [(⟨2, 1, false⟩ : PClaim)]) a1_7 _ c1_7 a2_7 _ c2_7 _ w hR7 hI.imm) (by rw [al7]))) rfl ?_
  rintro _ _ _ ⟨rfl, rfl, rfl⟩
  refine WL.yd (Yd.move rfl) rfl ?_
  refine WL.yd (Yd.extract rfl rfl) rfl ?_
  refine WL.yd (Yd.extract rfl rfl) rfl ?_
  refine WL.yd (Yd.extract rfl rfl) rfl ?_
  refine WL.yd (Yd.assign rfl) rfl ?_
  refine WL.yd (Yd.assign rfl) rfl ?_
  refine WL.yd (Yd.assign rfl) rfl ?_
  refine WL.nil ?_
  refine WP.thenC ?_
  refine WC.seq ?_
  refine WC.ofFr [(16, _), (15, _), (14, _), (13, _), (12, _), (11, _), (10, _), (9, _), (8, _), (7, _), (6, _), (5, _), (4, _), (3, _), (2, _), (1, _), (0, _)] ⟨rfl, rfl, rfl, rfl, rfl, rfl, rfl, rfl, rfl, rfl, rfl, rfl, rfl, rfl, rfl, rfl, rfl, trivial⟩ ?_
  refine WC.region ?_
  refine WL.so (SO.callP Try.call33 rfl (fun w hI => lbef_g _ _ _)) rfl ?_
  rintro _ _ _ ⟨rfl, rfl, rfl⟩
  refine WL.so (SO.buildSlice Try.underlying25 Try.sizeOf47 Try.zeroValue47 rfl rfl rfl rfl (cs := [_, _, _]) rfl) rfl ?_
  rintro _ _ _ ⟨b62, hb62, rfl, rfl, rfl⟩ -- NEW
  refine WL.freezeK 0 rfl (fun hn62 => ?_)
  have hF62 := fun o => (DExt.refl w D7).add (o := o) hn62 hb62
  refine WL.so (SO.makes (Enters.func Try.call31 rfl) (fun w hI => sample_g [(⟨2, 1, false⟩ : PClaim)] (some ⟨b62, 0, none⟩) 1 _ _ w (one_sl (⟨2, 1, false⟩ : PClaim) (Imm.add_self _ _ _)) (fun h => by cases h) (by decide) hI.imm)) rfl ?_
  rintro _ D8 _ ⟨hX8, ⟨a1_8, c1_8, a2_8, c2_8, rfl, hR8⟩, rfl⟩
  refine WL.so (SO.callP Try.call29 rfl (fun w hI => Gives.cv (.tuple #[it 9, it 0]) (Clash_g (sampP [(⟨2, 1, false⟩ : PClaim)]) a1_8 _ c1_8 a2_8 _ c2_8 _ w hR8 hI.imm) (by rw [al8]))) rfl ?_
  rintro _ _ _ ⟨rfl, rfl, rfl⟩
  refine WL.yd (Yd.move rfl) rfl ?_
  refine WL.yd (Yd.extract rfl rfl) rfl ?_
  refine WL.yd (Yd.extract rfl rfl) rfl ?_
  refine WL.yd (Yd.assign rfl) rfl ?_
  refine WL.yd (Yd.assign rfl) rfl ?_
  refine WL.nil ?_
  refine WP.thenC ?_
  refine WC.seq ?_
  refine WC.ofFr [(18, _), (17, _), (16, _), (15, _), (14, _), (13, _), (12, _), (11, _), (10, _), (9, _), (8, _), (7, _), (6, _), (5, _), (4, _), (3, _), (2, _), (1, _), (0, _)] ⟨rfl, rfl, rfl, rfl, rfl, rfl, rfl, rfl, rfl, rfl, rfl, rfl, rfl, rfl, rfl, rfl, rfl, rfl, rfl, trivial⟩ ?_
  refine WC.region ?_
  refine WL.so (SO.makes (Enters.func Try.call31 rfl) (fun w hI => sample_g [] none 0 0 _ w ⟨rfl, fun i r hr => by simp at hr⟩ (fun _ => rfl) (by decide) hI.imm)) rfl ?_
  rintro _ D9 _ ⟨hX9, ⟨a1_9, c1_9, a2_9, c2_9, rfl, hR9⟩, rfl⟩
  refine WL.so (SO.callP Try.call17 rfl (fun w hI => Gives.cv (.tuple #[it 2, it 0]) (Before_g (sampP []) a1_9 _ c1_9 a2_9 _ c2_9 _ w hR9 hI.imm 1 (-1)) (by rw [al9]))) rfl ?_
  rintro _ _ _ ⟨rfl, rfl, rfl⟩
  refine WL.yd (Yd.move rfl) rfl ?_
  refine WL.yd (Yd.extract rfl rfl) rfl ?_
  refine WL.yd (Yd.extract rfl rfl) rfl ?_
  refine WL.yd (Yd.assign rfl) rfl ?_
  refine WL.yd (Yd.assign rfl) rfl ?_
  refine WL.nil ?_
  refine WP.thenC ?_
  refine WC.seq ?_
  refine WC.ofFr [(20, _), (19, _), (18, _), (17, _), (16, _), (15, _), (14, _), (13, _), (12, _), (11, _), (10, _), (9, _), (8, _), (7, _), (6, _), (5, _), (4, _), (3, _), (2, _), (1, _), (0, _)] ⟨rfl, rfl, rfl, rfl, rfl, rfl, rfl, rfl, rfl, rfl, rfl, rfl, rfl, rfl, rfl, rfl, rfl, rfl, rfl, rfl, rfl, trivial⟩ ?_
  refine WC.tail 47 [0, 1, 2, 3, 4, 5, 6, 7, 8, 9, 10, 11, 12, 13, 14, 15, 16, 17, 18, 19, 20, 21, 22, 23, 24, 25, 26, 27, 28, 29, 30, 31, 32, 33, 34, 35, 36, 37, 38, 39, 40, 41, 42, 43, 44, 45, 46] rfl (by kernel_rfl) (by kernel_rfl)  ?_
  refine WQ.q rfl (Yd.qt (Yd.loadN Try.isAgg23 Try.sizeOf23 rfl (vs := [_, _]) rfl (by first | exact RdN.own (k := 0) (n := 2) rfl rfl | exact RdN.own (k := 1) (n := 2) rfl rfl | exact RdN.own (k := 2) (n := 2) rfl rfl))) rfl ?_
  refine WQ.q rfl (Qt.callP Try.call32 rfl (fun w hI => lspan_g _ _ _)) rfl ?_
  refine WQ.q rfl (Yd.qt (Yd.eqS Try.eqGuardType23 (eq23 _ _ _ _) rfl rfl)) rfl ?_
  refine WQ.know 74 (.bool true) rfl (congrArg Value.bool (decide_eq_true rfl)) ?_
  refine WQ.q rfl (Yd.qt (Yd.move rfl)) rfl ?_
  refine WQ.qg rfl rfl (Yd.qt (Yd.move rfl)) rfl ?_
  refine WQ.qg rfl rfl (Yd.qt (Yd.eql rfl rfl)) rfl ?_
  refine WQ.know 77 (.bool true) rfl (congrArg Value.bool (by decide)) ?_
  refine WQ.q rfl (Yd.qt (Yd.pickT rfl rfl)) rfl ?_
  refine WQ.q rfl (Yd.qt (Yd.move rfl)) rfl ?_
  refine WQ.qg rfl rfl (Yd.qt (Yd.move rfl)) rfl ?_
  refine WQ.qg rfl rfl (Yd.qt (Yd.eql rfl rfl)) rfl ?_
  refine WQ.know 81 (.bool true) rfl (congrArg Value.bool (by decide)) ?_
  refine WQ.q rfl (Yd.qt (Yd.pickT rfl rfl)) rfl ?_
  refine WQ.q rfl (Yd.qt (Yd.move rfl)) rfl ?_
  refine WQ.qg rfl rfl (Yd.qt (Yd.move rfl)) rfl ?_
  refine WQ.qg rfl rfl (Yd.qt (Yd.eql rfl rfl)) rfl ?_
  refine WQ.know 85 (.bool true) rfl (congrArg Value.bool (by decide)) ?_
  refine WQ.q rfl (Yd.qt (Yd.pickT rfl rfl)) rfl ?_
  refine WQ.q rfl (Yd.qt (Yd.move rfl)) rfl ?_
  refine WQ.qg rfl rfl (Yd.qt (Yd.loadN Try.isAgg23 Try.sizeOf23 rfl (vs := [_, _]) rfl (by first | exact RdN.own (k := 0) (n := 2) rfl rfl | exact RdN.own (k := 1) (n := 2) rfl rfl | exact RdN.own (k := 2) (n := 2) rfl rfl))) rfl ?_
  refine WQ.qg rfl rfl (Qt.callP Try.call32 rfl (fun w hI => lspan_g _ _ _)) rfl ?_
  refine WQ.qg rfl rfl (Yd.qt (Yd.eqS Try.eqGuardType23 (eq23 _ _ _ _) rfl rfl)) rfl ?_
  refine WQ.know 90 (.bool true) rfl (congrArg Value.bool (decide_eq_true rfl)) ?_
  refine WQ.q rfl (Yd.qt (Yd.pickT rfl rfl)) rfl ?_
  refine WQ.q rfl (Yd.qt (Yd.move rfl)) rfl ?_
  refine WQ.qg rfl rfl (Yd.qt (Yd.move rfl)) rfl ?_
  refine WQ.qg rfl rfl (Yd.qt (Yd.eql rfl rfl)) rfl ?_
  refine WQ.know 94 (.bool true) rfl (congrArg Value.bool (by decide)) ?_
  refine WQ.q rfl (Yd.qt (Yd.pickT rfl rfl)) rfl ?_
  refine WQ.q rfl (Yd.qt (Yd.move rfl)) rfl ?_
  refine WQ.qg rfl rfl (Yd.qt (Yd.move rfl)) rfl ?_
  refine WQ.qg rfl rfl (Yd.qt (Yd.eql rfl rfl)) rfl ?_
  refine WQ.know 98 (.bool true) rfl (congrArg Value.bool (by decide)) ?_
  refine WQ.q rfl (Yd.qt (Yd.pickT rfl rfl)) rfl ?_
  refine WQ.q rfl (Yd.qt (Yd.move rfl)) rfl ?_
  refine WQ.qg rfl rfl (Yd.qt (Yd.move rfl)) rfl ?_
  refine WQ.qg rfl rfl (Yd.qt (Yd.eql rfl rfl)) rfl ?_
  refine WQ.know 102 (.bool true) rfl (congrArg Value.bool (by decide)) ?_
  refine WQ.q rfl (Yd.qt (Yd.pickT rfl rfl)) rfl ?_
  refine WQ.q rfl (Yd.qt (Yd.move rfl)) rfl ?_
  refine WQ.qg rfl rfl (Yd.qt (Yd.move rfl)) rfl ?_
  refine WQ.qg rfl rfl (Yd.qt (Yd.eql rfl rfl)) rfl ?_
  refine WQ.know 106 (.bool true) rfl (congrArg Value.bool (by decide)) ?_
  refine WQ.q rfl (Yd.qt (Yd.pickT rfl rfl)) rfl ?_
  refine WQ.q rfl (Yd.qt (Yd.move rfl)) rfl ?_
  refine WQ.qg rfl rfl (Yd.qt (Yd.move rfl)) rfl ?_
  refine WQ.qg rfl rfl (Yd.qt (Yd.eql rfl rfl)) rfl ?_
  refine WQ.know 110 (.bool true) rfl (congrArg Value.bool (by decide)) ?_
  refine WQ.q rfl (Yd.qt (Yd.pickT rfl rfl)) rfl ?_
  refine WQ.q rfl (Yd.qt (Yd.move rfl)) rfl ?_
  refine WQ.qg rfl rfl (Yd.qt (Yd.move rfl)) rfl ?_
  refine WQ.qg rfl rfl (Yd.qt (Yd.eql rfl rfl)) rfl ?_
  refine WQ.know 114 (.bool true) rfl (congrArg Value.bool (by decide)) ?_
  refine WQ.q rfl (Yd.qt (Yd.pickT rfl rfl)) rfl ?_
  refine WQ.q rfl (Yd.qt (Yd.move rfl)) rfl ?_
  refine WQ.qg rfl rfl (Yd.qt (Yd.loadN Try.isAgg23 Try.sizeOf23 rfl (vs := [_, _]) rfl (by first | exact RdN.own (k := 0) (n := 2) rfl rfl | exact RdN.own (k := 1) (n := 2) rfl rfl | exact RdN.own (k := 2) (n := 2) rfl rfl))) rfl ?_
  refine WQ.qg rfl rfl (Qt.callP Try.call32 rfl (fun w hI => lspan_g _ _ _)) rfl ?_
  refine WQ.tail ?_
  refine WL.ydg rfl (Yd.eqS Try.eqGuardType23 (eq23 _ _ _ _) rfl rfl) rfl ?_
  refine WL.know 119 (.bool true) rfl (congrArg Value.bool (decide_eq_true rfl)) ?_
  refine WL.yd (Yd.pickT rfl rfl) rfl ?_
  refine WL.yd (Yd.move rfl) rfl ?_
  refine WL.ydg rfl (Yd.move rfl) rfl ?_
  refine WL.ydg rfl (Yd.eql rfl rfl) rfl ?_
  refine WL.know 123 (.bool true) rfl (congrArg Value.bool (by decide)) ?_
  refine WL.yd (Yd.pickT rfl rfl) rfl ?_
  refine WL.yd (Yd.move rfl) rfl ?_
  refine WL.ydg rfl (Yd.move rfl) rfl ?_
  refine WL.ydg rfl (Yd.eql rfl rfl) rfl ?_
  refine WL.know 127 (.bool true) rfl (congrArg Value.bool (by decide)) ?_
  refine WL.yd (Yd.pickT rfl rfl) rfl ?_
  refine WL.yd (Yd.move rfl) rfl ?_
  refine WL.ydg rfl (Yd.move rfl) rfl ?_
  refine WL.ydg rfl (Yd.eql rfl rfl) rfl ?_
  refine WL.know 131 (.bool true) rfl (congrArg Value.bool (by decide)) ?_
  refine WL.yd (Yd.pickT rfl rfl) rfl ?_
  refine WL.yd (Yd.move rfl) rfl ?_
  refine WL.ydg rfl (Yd.move rfl) rfl ?_
  refine WL.ydg rfl (Yd.eql rfl rfl) rfl ?_
  refine WL.know 135 (.bool true) rfl (congrArg Value.bool (by decide)) ?_
  refine WL.yd (Yd.pickT rfl rfl) rfl ?_
  refine WL.yd (Yd.move rfl) rfl ?_
  refine WL.ydg rfl (Yd.move rfl) rfl ?_
  refine WL.ydg rfl (Yd.eql rfl rfl) rfl ?_
  refine WL.know 139 (.bool true) rfl (congrArg Value.bool (by decide)) ?_
  refine WL.yd (Yd.pickT rfl rfl) rfl ?_
  refine WL.yd (Yd.move rfl) rfl ?_
  refine WL.ydg rfl (Yd.move rfl) rfl ?_
  refine WL.ydg rfl (Yd.eql rfl rfl) rfl ?_
  refine WL.know 143 (.bool true) rfl (congrArg Value.bool (by decide)) ?_
  refine WL.yd (Yd.pickT rfl rfl) rfl ?_
  refine WL.yd (Yd.move rfl) rfl ?_
  refine WL.ydg rfl (Yd.move rfl) rfl ?_
  refine WL.ydg rfl (Yd.eql rfl rfl) rfl ?_
  refine WL.know 147 (.bool true) rfl (congrArg Value.bool (by decide)) ?_
  refine WL.yd (Yd.pickT rfl rfl) rfl ?_
  refine WL.yd (Yd.move rfl) rfl ?_
  refine WL.ydg rfl (Yd.move rfl) rfl ?_
  refine WL.ydg rfl (Yd.eql rfl rfl) rfl ?_
  refine WL.know 151 (.bool true) rfl (congrArg Value.bool (by decide)) ?_
  refine WL.yd (Yd.pickT rfl rfl) rfl ?_
  refine WL.yd (Yd.assign rfl) rfl ?_
  refine WL.nil ?_
  refine WP.thenC ?_
  refine WC.ret ?_
  refine WP.ret1 rfl rfl Try.results14 (RV.tmp rfl) (fun w hI => ⟨rfl, hI.keep⟩)

end Go.Proofs.Ytkhmmefgllbobaa
