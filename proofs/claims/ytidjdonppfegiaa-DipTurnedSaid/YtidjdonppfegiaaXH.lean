import Derived.Test.YtidjdonppfegiaaXG
import Derived.Test.YtidjdonppfegiaaXB
set_option linter.unusedSimpArgs false
set_option linter.unusedVariables false
set_option linter.all false
namespace Go.Proofs.Ytidjdonppfegiaa
open Go.W Go.Dp
theorem SA25 : StructAt Try.prog 25 [.int .i64 0, .slice none 0 0, .slice none 0 0] [(0, 1), (1, 1), (2, 1)] := ⟨⟨_, Try.zeroValue25, rfl⟩, _, Try.underlying25, fun w => by simp [Try.sizeOf3, Try.sizeOf22, Try.sizeOf23]⟩
theorem SA53 : StructAt Try.prog 53 [.int .i64 0, .int .i64 0, .int .i64 0] [(0, 2), (2, 1)] := ⟨⟨_, Try.zeroValue53, rfl⟩, _, Try.underlying53, fun w => by simp [Try.sizeOf3, Try.sizeOf35]⟩
theorem SA55 : StructAt Try.prog 55 [.int .i64 0, .int .i64 0, .int .i64 0] [(0, 2), (2, 1)] := ⟨⟨_, Try.zeroValue55, rfl⟩, _, Try.underlying55, fun w => by simp [Try.sizeOf3, Try.sizeOf35]⟩
theorem owV_eqN {o : Option Ow} {n : Nat} {w : World} {m : Nat} (h : owP w o n m) : owV o n = .slice (owA o) n (owC o n) := by
  cases o with
  | none => have h0 : n = 0 := h
            subst h0; rfl
  | some u => rfl

theorem Check_g (d : Dips) (a1 : Option Addr) (n1 c1 : Nat) (a2 : Option Addr) (n2 c2 : Nat) (D : Imm) (w : World) (hR : DipsR D d a1 n1 a2 n2) (hH : Holds D w) (plan : List Plc) (a3 : Option Addr) (n3 c3 : Nat) (hP : PlanR D plan a3 n3) : Gives Try.prog 15 [.agg #[it d.hours, .slice a1 n1 c1, .slice a2 n2 c2], .slice a3 n3 c3] w (.tuple #[it (CheckR d plan).1, it (CheckR d plan).2.1, it (CheckR d plan).2.2]) := by
  cases hv : dipsB d with
  | false => exact Check_1 d a1 n1 c1 a2 n2 c2 D w hR hH plan a3 n3 c3 hP hv
  | true =>
    cases hlb : listB d plan with
    | false => exact Check_2 d a1 n1 c1 a2 n2 c2 D w hR hH plan a3 n3 c3 hP hv hlb
    | true => exact Check_ok d a1 n1 c1 a2 n2 c2 D w hR hH plan a3 n3 c3 hP hv hlb

theorem Right_g (d : Dips) (a1 : Option Addr) (n1 c1 : Nat) (a2 : Option Addr) (n2 c2 : Nat) (D : Imm) (w : World) (hR : DipsR D d a1 n1 a2 n2) (hH : Holds D w) (plan : List Plc) (a3 : Option Addr) (n3 c3 : Nat) (hP : PlanR D plan a3 n3) : Gives Try.prog 17 [.agg #[it d.hours, .slice a1 n1 c1, .slice a2 n2 c2], .slice a3 n3 c3] w (.tuple #[it (RightR d plan).1, it (RightR d plan).2]) := by
  cases hv : dipsB d with
  | false => exact Right_1 d a1 n1 c1 a2 n2 c2 D w hR hH plan a3 n3 c3 hP hv
  | true =>
    cases hlb : listB d plan with
    | false => exact Right_2 d a1 n1 c1 a2 n2 c2 D w hR hH plan a3 n3 c3 hP hv hlb
    | true => exact Right_ok d a1 n1 c1 a2 n2 c2 D w hR hH plan a3 n3 c3 hP hv hlb

theorem Hands_g (d : Dips) (a1 : Option Addr) (n1 c1 : Nat) (a2 : Option Addr) (n2 c2 : Nat) (D : Imm) (w : World) (hR : DipsR D d a1 n1 a2 n2) (hH : Holds D w) (hour : Int) : Gives Try.prog 19 [.agg #[it d.hours, .slice a1 n1 c1, .slice a2 n2 c2], it hour] w (.tuple #[.agg #[it (HandsR d hour).1.lo, it (HandsR d hour).1.hi], it (HandsR d hour).2]) := by
  cases hv : dipsB d with
  | false => exact Hands_1 d a1 n1 c1 a2 n2 c2 D w hR hH hour hv
  | true =>
    cases hlb : hourB d hour with
    | false => exact Hands_2 d a1 n1 c1 a2 n2 c2 D w hR hH hour hv hlb
    | true => exact Hands_ok d a1 n1 c1 a2 n2 c2 D w hR hH hour hv hlb

theorem Hope_g (d : Dips) (a1 : Option Addr) (n1 c1 : Nat) (a2 : Option Addr) (n2 c2 : Nat) (D : Imm) (w : World) (hR : DipsR D d a1 n1 a2 n2) (hH : Holds D w)  : Gives Try.prog 24 [.agg #[it d.hours, .slice a1 n1 c1, .slice a2 n2 c2]] w (.tuple #[it (HopeOut d).1, it (HopeOut d).2]) := by
  cases hv : dipsB d with
  | false => exact Hope_1 d a1 n1 c1 a2 n2 c2 D w hR hH hv
  | true =>
    exact Hope_ok d a1 n1 c1 a2 n2 c2 D w hR hH hv

theorem Fewest_g (d : Dips) (a1 : Option Addr) (n1 c1 : Nat) (a2 : Option Addr) (n2 c2 : Nat) (D : Imm) (w : World) (hR : DipsR D d a1 n1 a2 n2) (hH : Holds D w)  : Gives Try.prog 26 [.agg #[it d.hours, .slice a1 n1 c1, .slice a2 n2 c2]] w (.tuple #[it (FewestOut d).1, it (FewestOut d).2]) := by
  cases hv : dipsB d with
  | false => exact Fewest_1 d a1 n1 c1 a2 n2 c2 D w hR hH hv
  | true =>
    exact Fewest_ok d a1 n1 c1 a2 n2 c2 D w hR hH hv

theorem Why_g (d : Dips) (a1 : Option Addr) (n1 c1 : Nat) (a2 : Option Addr) (n2 c2 : Nat) (D : Imm) (w : World) (hR : DipsR D d a1 n1 a2 n2) (hH : Holds D w)  : Gives Try.prog 31 [.agg #[it d.hours, .slice a1 n1 c1, .slice a2 n2 c2]] w (.tuple #[it (WhyOut d).1, it (WhyOut d).2]) := by
  cases hv : dipsB d with
  | false => exact Why_1 d a1 n1 c1 a2 n2 c2 D w hR hH hv
  | true =>
    exact Why_ok d a1 n1 c1 a2 n2 c2 D w hR hH hv

theorem Most_g (d : Dips) (a1 : Option Addr) (n1 c1 : Nat) (a2 : Option Addr) (n2 c2 : Nat) (D : Imm) (w : World) (hR : DipsR D d a1 n1 a2 n2) (hH : Holds D w)  : Gives Try.prog 29 [.agg #[it d.hours, .slice a1 n1 c1, .slice a2 n2 c2]] w (.tuple #[it (MostOut d).1, it (MostOut d).2.1, it (MostOut d).2.2]) := by
  cases hv : dipsB d with
  | false => exact Most_1 d a1 n1 c1 a2 n2 c2 D w hR hH hv
  | true =>
    exact Most_ok d a1 n1 c1 a2 n2 c2 D w hR hH hv

theorem Plan_g (d : Dips) (a1 : Option Addr) (n1 c1 : Nat) (a2 : Option Addr) (n2 c2 : Nat) (D : Imm) (w : World) (hR : DipsR D d a1 n1 a2 n2) (hH : Holds D w)  : Makes Try.prog 22 [.agg #[it d.hours, .slice a1 n1 c1, .slice a2 n2 c2]] w D (fun v D' => ∃ a n c, v = .tuple #[.slice a n c, it (PlanOut d).2] ∧ PlanR D' (PlanOut d).1 a n) := by
  cases hv : dipsB d with
  | false => exact Plan_1 d a1 n1 c1 a2 n2 c2 D w hR hH hv
  | true =>
    exact Plan_ok d a1 n1 c1 a2 n2 c2 D w hR hH hv

set_option maxRecDepth 100000 in
set_option maxHeartbeats 1000000 in
theorem lspan_g (lo hi : Int) (w : World) : Gives Try.prog 35 [it lo, it hi] w (.agg #[it lo, it hi]) := by
  unfold Gives
  refine enter Try.func35 rfl 8 Try.ntmps35 (Nat.le_of_ble_eq_true rfl) (Inv.start (D := fun _ => none) (by intro _ _ h; cases h)) ?_
  refine WC.seq ?_
  refine WC.ofFr [(0, _), (1, _)] ⟨rfl, rfl, trivial⟩ ?_
  refine WC.region ?_
  refine WL.so (SO.alloc Try.zeroValue35 rfl) rfl ?_
  rintro _ _ _ ⟨b4, hb4, rfl, rfl, rfl⟩ -- NEW
  refine WL.nil ?_
  refine WP.thenC ?_
  refine WC.seq ?_
  refine WC.ofFr [(4, _), (0, _), (1, _)] ⟨rfl, rfl, rfl, trivial⟩ ?_
  refine WC.region ?_
  refine WL.yd (Yd.move rfl) rfl ?_
  refine WL.yd (Yd.move rfl) rfl ?_
  refine WL.yd (Yd.build SA35 rfl (cs := [_, _]) rfl) rfl ?_
  refine WL.so (SO.store 0 rfl Try.sizeOf35 rfl rfl rfl rfl (Nat.le_of_ble_eq_true rfl) (oneB_spec rfl)) rfl ?_
  rintro _ _ _ ⟨rfl, rfl, rfl⟩
  refine WL.nil ?_
  refine WP.thenC ?_
  refine WC.ret ?_
  refine WP.ret1 rfl rfl Try.results35 (RV.cellN Try.isAgg35 Try.sizeOf35 rfl (vs := [_, _]) rfl (by first | exact RdN.own (k := 0) (n := 2) rfl rfl)) (fun w hI => ⟨rfl, hI.keep⟩)

set_option maxRecDepth 100000 in
set_option maxHeartbeats 1000000 in
theorem ldip_g (lo hi h : Int) (w : World) : Gives Try.prog 84 [it lo, it hi, it h] w (.agg #[it lo, it hi, it h]) := by
  unfold Gives
  refine enter Try.func84 rfl 12 Try.ntmps84 (Nat.le_of_ble_eq_true rfl) (Inv.start (D := fun _ => none) (by intro _ _ h; cases h)) ?_
  refine WC.seq ?_
  refine WC.ofFr [(0, _), (1, _), (2, _)] ⟨rfl, rfl, rfl, trivial⟩ ?_
  refine WC.region ?_
  refine WL.so (SO.alloc Try.zeroValue53 rfl) rfl ?_
  rintro _ _ _ ⟨b6, hb6, rfl, rfl, rfl⟩ -- NEW
  refine WL.nil ?_
  refine WP.thenC ?_
  refine WC.seq ?_
  refine WC.ofFr [(6, _), (0, _), (1, _), (2, _)] ⟨rfl, rfl, rfl, rfl, trivial⟩ ?_
  refine WC.region ?_
  refine WL.yd (Yd.move rfl) rfl ?_
  refine WL.yd (Yd.move rfl) rfl ?_
  refine WL.so (SO.callP Try.call35 rfl (fun w hI => lspan_g _ _ _)) rfl ?_
  rintro _ _ _ ⟨rfl, rfl, rfl⟩
  refine WL.yd (Yd.move rfl) rfl ?_
  refine WL.yd (Yd.build SA53 rfl (cs := [_, _, _]) rfl) rfl ?_
  refine WL.so (SO.store 0 rfl Try.sizeOf53 rfl rfl rfl rfl (Nat.le_of_ble_eq_true rfl) (oneB_spec rfl)) rfl ?_
  rintro _ _ _ ⟨rfl, rfl, rfl⟩
  refine WL.nil ?_
  refine WP.thenC ?_
  refine WC.ret ?_
  refine WP.ret1 rfl rfl Try.results84 (RV.cellN Try.isAgg53 Try.sizeOf53 rfl (vs := [_, _, _]) rfl (by first | exact RdN.own (k := 0) (n := 3) rfl rfl)) (fun w hI => ⟨rfl, hI.keep⟩)

set_option maxRecDepth 100000 in
set_option maxHeartbeats 1000000 in
theorem lbath_g (lo hi h : Int) (w : World) : Gives Try.prog 85 [it lo, it hi, it h] w (.agg #[it lo, it hi, it h]) := by
  unfold Gives
  refine enter Try.func85 rfl 12 Try.ntmps85 (Nat.le_of_ble_eq_true rfl) (Inv.start (D := fun _ => none) (by intro _ _ h; cases h)) ?_
  refine WC.seq ?_
  refine WC.ofFr [(0, _), (1, _), (2, _)] ⟨rfl, rfl, rfl, trivial⟩ ?_
  refine WC.region ?_
  refine WL.so (SO.alloc Try.zeroValue55 rfl) rfl ?_
  rintro _ _ _ ⟨b6, hb6, rfl, rfl, rfl⟩ -- NEW
  refine WL.nil ?_
  refine WP.thenC ?_
  refine WC.seq ?_
  refine WC.ofFr [(6, _), (0, _), (1, _), (2, _)] ⟨rfl, rfl, rfl, rfl, trivial⟩ ?_
  refine WC.region ?_
  refine WL.yd (Yd.move rfl) rfl ?_
  refine WL.yd (Yd.move rfl) rfl ?_
  refine WL.so (SO.callP Try.call35 rfl (fun w hI => lspan_g _ _ _)) rfl ?_
  rintro _ _ _ ⟨rfl, rfl, rfl⟩
  refine WL.yd (Yd.move rfl) rfl ?_
  refine WL.yd (Yd.build SA55 rfl (cs := [_, _, _]) rfl) rfl ?_
  refine WL.so (SO.store 0 rfl Try.sizeOf55 rfl rfl rfl rfl (Nat.le_of_ble_eq_true rfl) (oneB_spec rfl)) rfl ?_
  rintro _ _ _ ⟨rfl, rfl, rfl⟩
  refine WL.nil ?_
  refine WP.thenC ?_
  refine WC.ret ?_
  refine WP.ret1 rfl rfl Try.results85 (RV.cellN Try.isAgg55 Try.sizeOf55 rfl (vs := [_, _, _]) rfl (by first | exact RdN.own (k := 0) (n := 3) rfl rfl)) (fun w hI => ⟨rfl, hI.keep⟩)

def sampD (h : Int) : Dips := ⟨3, [⟨⟨3, 4⟩, 3⟩, ⟨⟨2, 2⟩, 6⟩], [⟨⟨2, 2⟩, 3⟩, ⟨⟨1, 2⟩, 2⟩, ⟨⟨2, 3⟩, h⟩]⟩
def plcs (l : List Int) (k : Nat) : List Plc := (List.range k).map fun i => ⟨gt l (2 * i), gt l (2 * i + 1)⟩
theorem plcs_succ (l : List Int) (k : Nat) : plcs l (k + 1) = plcs l k ++ [⟨gt l (2 * k), gt l (2 * k + 1)⟩] := by
  simp [plcs, List.range_succ]
theorem plcs_len (l : List Int) (k : Nat) : (plcs l k).length = k := by simp [plcs]
def plCs (l : List Int) (k : Nat) : List Value := (plcs l k).flatMap placeC
theorem placeC_len' (x : Plc) : (placeC x).length = 2 := rfl
theorem plCs_len (l : List Int) (k : Nat) : (plCs l k).length = k * 2 := by rw [plCs, flat_len placeC_len', plcs_len]
theorem plCs_succ (l : List Int) (k : Nat) : plCs l (k + 1) = plCs l k ++ [it (gt l (2 * k)), it (gt l (2 * k + 1))] := by
  rw [plCs, plCs, plcs_succ, List.flatMap_append]; rfl

set_option maxRecDepth 100000 in
set_option maxHeartbeats 1000000 in
theorem sample_g (h : Int) (D : Imm) (w : World) (hH : Holds D w) : Makes Try.prog 33 [it h] w D (fun v D' => ∃ a1 c1 a2 c2, v = .agg #[it 3, .slice a1 2 c1, .slice a2 3 c2] ∧ DipsR D' (sampD h) a1 2 a2 3) := by
  unfold Makes
  refine enter Try.func33 rfl 12 Try.ntmps33 (Nat.le_of_ble_eq_true rfl) (Inv.start hH) ?_
  refine WC.seq ?_
  refine WC.ofFr [(0, _)] ⟨rfl, trivial⟩ ?_
  refine WC.region ?_
  refine WL.so (SO.alloc Try.zeroValue25 rfl) rfl ?_
  rintro _ _ _ ⟨b2, hb2, rfl, rfl, rfl⟩ -- NEW
  refine WL.nil ?_
  refine WP.thenC ?_
  refine WC.seq ?_
  refine WC.ofFr [(2, _), (0, _)] ⟨rfl, rfl, trivial⟩ ?_
  refine WC.region ?_
  refine WL.so (SO.callP Try.call84 rfl (fun w hI => ldip_g _ _ _ _)) rfl ?_
  rintro _ _ _ ⟨rfl, rfl, rfl⟩
  refine WL.so (SO.callP Try.call84 rfl (fun w hI => ldip_g _ _ _ _)) rfl ?_
  rintro _ _ _ ⟨rfl, rfl, rfl⟩
  refine WL.so (SO.buildSlice Try.underlying22 Try.sizeOf53 Try.zeroValue53 rfl rfl rfl rfl (cs := [_, _, _, _, _, _]) rfl) rfl ?_
  rintro _ _ _ ⟨b5, hb5, rfl, rfl, rfl⟩ -- NEW
  refine WL.so (SO.callP Try.call85 rfl (fun w hI => lbath_g _ _ _ _)) rfl ?_
  rintro _ _ _ ⟨rfl, rfl, rfl⟩
  refine WL.so (SO.callP Try.call85 rfl (fun w hI => lbath_g _ _ _ _)) rfl ?_
  rintro _ _ _ ⟨rfl, rfl, rfl⟩
  refine WL.yd (Yd.move rfl) rfl ?_
  refine WL.so (SO.callP Try.call85 rfl (fun w hI => lbath_g _ _ _ _)) rfl ?_
  rintro _ _ _ ⟨rfl, rfl, rfl⟩
  refine WL.so (SO.buildSlice Try.underlying23 Try.sizeOf55 Try.zeroValue55 rfl rfl rfl rfl (cs := [_, _, _, _, _, _, _, _, _]) rfl) rfl ?_
  rintro _ _ _ ⟨b10, hb10, rfl, rfl, rfl⟩ -- NEW
  refine WL.yd (Yd.build SA25 rfl (cs := [_, _, _]) rfl) rfl ?_
  refine WL.so (SO.store 2 rfl Try.sizeOf25 rfl rfl rfl rfl (Nat.le_of_ble_eq_true rfl) (oneB_spec rfl)) rfl ?_
  rintro _ _ _ ⟨rfl, rfl, rfl⟩
  refine WL.nil ?_
  refine WP.thenC ?_
  refine WC.ret ?_
  refine WP.ret1 rfl rfl Try.results33 (RV.cellN Try.isAgg25 Try.sizeOf25 rfl (vs := [_, _, _]) rfl (by first | exact RdN.own (k := 0) (n := 3) rfl rfl | exact RdN.own (k := 1) (n := 3) rfl rfl | exact RdN.own (k := 2) (n := 3) rfl rfl)) (fun w1 hI => ?_)
  have hf := hI.freeze
  have hf2 := hf.freeze
  have hn10 : D b10 = none := hI.apart _ _ (List.mem_of_getElem? (i := 0) rfl)
  have hX10 := fun o => (DExt.refl w D).add (o := o) hn10 hb10
  have hn5 := hf.apart _ _ (List.mem_of_getElem? (i := 0) rfl)
  have hX5 := fun o => (DExt.refl w (D.add b10 _)).add (o := o) hn5 hb5
  exact ⟨_, _, rfl, hI.keep, hf2.imm, (hX10 _).trans (hX5 _) (Nat.le_refl _), some ⟨b5, 0, none⟩, 2, some ⟨b10, 0, none⟩, 3, rfl, SlL.ofBlock (f := dipperC) (m := 3) (t := 53) (fz := (0, 0)) (l := (sampD h).dippers) (rest := []) dipperC_len (Imm.add_self _ _ _), SlL.ofBlock (f := batherC) (m := 3) (t := 55) (fz := (0, 0)) (l := (sampD h).bathers) (rest := []) batherC_len ((hX5 _).old _ _ (Imm.add_self _ _ _)), by decide, by decide⟩

set_option maxRecDepth 100000 in
set_option maxHeartbeats 1000000 in
theorem lplan_g (l : List Int) (a : Option Addr) (n c : Nat) (D : Imm) (w : World) (hS : SlL D 1 (l.map fun x => [it x]) a n) (hn : n ≤ 1000) (hH : Holds D w) : Makes Try.prog 34 [.slice a n c] w D (fun v D' => ∃ a' n' c', v = .slice a' n' c' ∧ PlanR D' (plcs l (l.length / 2)) a' n') := by
  unfold Makes
  obtain rfl : n = l.length := by have := hS.len; simpa using this
  refine enter Try.func34 rfl 25 Try.ntmps34 (Nat.le_of_ble_eq_true rfl) (Inv.start hH) ?_
  refine WC.seq ?_
  refine WC.ofFr [(0, _)] ⟨rfl, trivial⟩ ?_
  refine WC.region ?_
  refine WL.yd (Yd.assign rfl) rfl ?_
  refine WL.nil ?_
  refine WP.thenC ?_
  refine WC.seq ?_
  refine WC.seq ?_
  refine WC.ofFr [(2, _), (0, _)] ⟨rfl, rfl, trivial⟩ ?_
  refine WC.region ?_
  refine WL.yd (Yd.assign rfl) rfl ?_
  refine WL.nil ?_
  refine WP.thenC ?_
  refine WC.block ?_
  refine WC.loop (fun y : Nat × Option Ow => [(0, .slice a l.length c), (2, owV y.2 y.1), (3, nt (2 * y.1))]) (fun y => owH y.2 61 (plCs l y.1) []) (fun _ => D) (fun y => 2 * y.1 ≤ l.length ∧ owP w y.2 y.1 2) (fun y => l.length - y.1) (0, none) ⟨by omega, rfl⟩ (fun a w h => at_fr h ⟨rfl, rfl, rfl, trivial⟩) ?_
  rintro ⟨k, o⟩ ⟨hk, ho⟩
  dsimp only at hk ho
  refine WC.seq ?_
  refine WC.seq ?_
  refine WC.ofFr [(0, _), (2, _), (3, _)] ⟨rfl, rfl, rfl, trivial⟩ ?_
  refine WC.region ?_
  refine WL.yd (Yd.move rfl) rfl ?_
  refine WL.yd (Yd.addN rfl rfl (by (try dsimp only); omega)) rfl ?_
  refine WL.yd (Yd.move rfl) rfl ?_
  refine WL.yd (Yd.lenS rfl Try.underlying51 rfl) rfl ?_
  refine WL.yd (Yd.lss rfl rfl) rfl ?_
  refine WL.nil ?_
  refine WP.thenC ?_
  refine WC.cond rfl (fun c8 => ?_) (fun c8 => ?_)
  · try simp only [zq1, zq2, zq3, zq4, zq5, zq6, zq7, zq8] at c8
    refine WC.skip ?_
    refine WP.thenC ?_
    refine WC.seq ?_
    refine WC.block ?_
    refine WC.ofFr [(0, _), (2, _), (3, _)] ⟨rfl, rfl, rfl, trivial⟩ ?_
    refine WC.drawO [] [(0, true), (1, true), (2, true), (3, true), (4, true), (5, true), (6, true), (7, true), (8, true), (9, true), (10, true), (11, false), (12, false), (13, true)] (by kernel_rfl) (by kernel_rfl) (QuietPanic.blk (QuietPanic.then (QuietPanic.then (QuietPanic.blk (QuietPanic.then QuietPanic.body))))) (fun w hI => Inv.left (l1 := []) hI) ?_
    refine WA.yd rfl (Yd.move rfl) rfl ?_
    refine WA.yd rfl (Yd.move rfl) rfl ?_
    refine WA.yd rfl (Yd.move rfl) rfl ?_
    refine WA.yd rfl (Yd.indexS Try.underlying51 Try.sizeOf3 rfl rfl (by (try dsimp only); omega) (by (try dsimp only); omega) (by first | exact hS.addr (2 * k) (by omega))) rfl ?_
    refine WA.yd rfl (Yd.load1 Try.isAgg3 rfl (by first | exact Rd.own (k := 0) rfl rfl | exact ((hS.at (2 * k) (by omega)).rd 0 rfl) | exact ((hS.at (2 * k + 1) (by omega)).rd 0 rfl))) rfl ?_
    refine WA.yd rfl (Yd.move rfl) rfl ?_
    refine WA.yd rfl (Yd.move rfl) rfl ?_
    refine WA.yd rfl (Yd.addN rfl rfl (by (try dsimp only); omega)) rfl ?_
    refine WA.yd rfl (Yd.indexS Try.underlying51 Try.sizeOf3 rfl rfl (by (try dsimp only); omega) (by (try dsimp only); omega) (by first | exact hS.addr (2 * k) (by omega))) rfl ?_
    refine WA.yd rfl (Yd.load1 Try.isAgg3 rfl (by first | exact Rd.own (k := 0) rfl rfl | exact ((hS.at (2 * k) (by omega)).rd 0 rfl) | exact ((hS.at (2 * k + 1) (by omega)).rd 0 rfl))) rfl ?_
    refine WA.yd rfl (Yd.build SA61 rfl (cs := [_, _]) rfl) rfl ?_
    refine WA.so rfl (SO.buildSlice Try.underlying26 Try.sizeOf61 Try.zeroValue61 rfl rfl rfl rfl (cs := [_, _]) rfl) rfl ?_
    rintro _ _ _ ⟨b22, hb22, rfl, rfl, rfl⟩ -- NEW
    refine ⟨fun _ hI => Inv.left (l1 := []) hI, ?_⟩
    refine WA.so rfl (SO.appendOw (o := o) (len := k) (n := 1) (xs := plCs l k) (size := 2) [_] [] [] rfl rfl Try.underlying26 Try.sizeOf61 Try.typeInfo61 Try.zeroValue61 rfl rfl rfl rfl ⟨rfl, .inr ⟨_, _, _, rfl, RdN.own (k := 0) (n := 2) rfl rfl⟩⟩ (oneB_spec rfl) ho (plCs_len l k) (by omega) (by show (2 * (_ + _) + 1000) * 16 ≤ 2 ^ 48; omega) (by omega)) rfl ?_
    rintro _ _ _ ⟨u1, hu1, rfl, rfl, rfl⟩
    refine ⟨fun _ hI => Inv.left (l1 := []) hI, ?_⟩
    refine WA.yd rfl (Yd.assign rfl) rfl ?_
    refine WA.nil ?_
    refine WP.blkNormal ?_
    refine WP.thenC ?_
    refine WC.ofFr [(2, _), (0, _), (3, _)] ⟨rfl, rfl, rfl, trivial⟩ ?_
    refine WC.region ?_
    refine WL.yd (Yd.move rfl) rfl ?_
    refine WL.yd (Yd.addN rfl rfl (by (try dsimp only); omega)) rfl ?_
    refine WL.yd (Yd.assign rfl) rfl ?_
    refine WL.nil ?_
    refine WP.again (⟨k + 1, some u1⟩ : Nat × Option Ow) ⟨by simp only; omega, hu1⟩ (by simp only; omega) (fun aa ww h => ?_)
    show At _ [(0, .slice a l.length c), (2, owV (some u1) (k + 1)), (3, nt (2 * (k + 1)))] D (owH (some u1) 61 (plCs l (k + 1)) []) aa ww
    rw [plCs_succ]
    exact at_less h ⟨rfl, rfl, rfl, trivial⟩ (fun _ h => h) (fun h => h)
  · try simp only [zq1, zq2, zq3, zq4, zq5, zq6, zq7, zq8] at c8
    refine WC.exit ?_
    refine WP.thenExit ?_
    refine WP.thenExit ?_
    refine WP.blkHit ?_
    refine WP.thenC ?_
    refine WC.seq ?_
    refine WC.ofFr [(2, _)] ⟨rfl, trivial⟩ ?_
    refine WC.region ?_
    obtain rfl : k = l.length / 2 := by omega
    refine WL.know 2 (.slice (owA o) (l.length / 2) (owC o (l.length / 2))) rfl (owV_eqN (by exact ho)) ?_
    refine WL.yd (Yd.move rfl) rfl ?_
    refine WL.yd (Yd.assign rfl) rfl ?_
    refine WL.nil ?_
    refine WP.thenC ?_
    refine WC.ret ?_
    refine WP.ret1 rfl rfl Try.results34 (RV.tmp rfl) (fun w1 hI => ?_)
    cases o with
    | none =>
      have h0 : l.length / 2 = 0 := ho
      refine ⟨_, D, rfl, hI.keep, hI.imm, DExt.refl _ _, none, l.length / 2, 0, rfl, ⟨⟨by rw [List.length_map, plcs_len], fun i r hr => ?_⟩, by omega⟩⟩
      rw [h0] at hr; simp [plcs] at hr
    | some u =>
      have hf := hI.freeze
      have hnu := hI.apart _ _ (List.mem_of_getElem? (i := 0) rfl)
      have hXu := fun o => (DExt.refl w D).add (o := o) hnu ho.1
      exact ⟨_, _, rfl, hI.keep, hf.imm, hXu _, some ⟨u.b, 0, none⟩, l.length / 2, u.cap, rfl, ⟨⟨by rw [List.length_map, plcs_len], (SlL.ofBlock placeC_len' (Imm.add_self _ _ _)).row⟩, by omega⟩⟩

end Go.Proofs.Ytidjdonppfegiaa
namespace Go.Proofs.Ytidjdonppfegiaa
open Go.W Go.Dp

theorem al1 : CheckR (sampD 6) [⟨0, 0⟩, ⟨1, 0⟩, ⟨1, 0⟩] = (2, 2, 0) := by kernel_rfl
theorem al2 : RightR (sampD 6) [⟨0, 0⟩, ⟨1, 0⟩, ⟨1, 0⟩] = (1, 0) := by kernel_rfl
theorem al3 : HandsR (sampD 6) 1 = (⟨5, 6⟩, 0) := by kernel_rfl
theorem al4 : PlanOut (sampD 6) = ([⟨0, 0⟩, ⟨1, 1⟩, ⟨1, 0⟩], 0) := by kernel_rfl
theorem al5 : HopeOut (sampD 4) = (1, 0) := by kernel_rfl
theorem al6 : FewestOut (sampD 6) = (3, 0) := by kernel_rfl
theorem al7 : MostOut (sampD 4) = (2, 3, 0) := by kernel_rfl
theorem al8 : WhyOut (sampD 4) = (4, 0) := by kernel_rfl
theorem al9 : RightR (sampD 6) [⟨0, 0⟩, ⟨1, 1⟩, ⟨1, 0⟩] = (2, 0) := by kernel_rfl
theorem eq35 (a b c d : Int) : ∀ w, (Op.equalIn 10000 35 (.agg #[.int .i64 a, .int .i64 b]) (.agg #[.int .i64 c, .int .i64 d])).run Try.prog w = .ok (decide ((⟨a, b⟩ : Sp) = ⟨c, d⟩)) w := by
  intro w
  have h1 : (Op.equalIn 10000 35 (.agg #[.int .i64 a, .int .i64 b]) (.agg #[.int .i64 c, .int .i64 d])).run Try.prog w = .ok (a == c && b == d) w := by
    simp [go_sem, Op.eqFields]
    by_cases h : a = c <;> by_cases h' : b = d <;> simp [h, h']
  have h2 : (a == c && b == d) = decide ((⟨a, b⟩ : Sp) = ⟨c, d⟩) := by
    rw [Bool.eq_iff_iff]; simp only [Bool.and_eq_true, beq_iff_eq, decide_eq_true_eq, Sp.mk.injEq]
  rw [h1, h2]
theorem flat_it (l : List Int) : l.flatMap (fun x => [it x]) = l.map it := by
  induction l with
  | nil => rfl
  | cons x l ih => rw [List.flatMap_cons, ih]; rfl
theorem ints_sl {D : Imm} {b : Nat} {t : TypeId} {fz : Nat × Nat} (l : List Int) (hD : D b = some (.cells (l.map it).toArray t fz)) : SlL D 1 (l.map fun x => [it x]) (some ⟨b, 0, none⟩) l.length :=
  SlL.ofBlock (f := fun x => [it x]) (l := l) (rest := []) (fun _ => rfl) (by rw [List.append_nil, flat_it]; exact hD)

set_option maxRecDepth 100000 in
set_option maxHeartbeats 1000000 in
theorem alive_g (D : Imm) (w : World) (hH : Holds D w) : Gives Try.prog 14 [] w (.bool true) := by
  unfold Gives
  refine enter Try.func14 rfl 155 Try.ntmps14 (Nat.le_of_ble_eq_true rfl) (Inv.start hH) ?_
  refine WC.seq ?_
  refine WC.ofFr [] trivial ?_
  refine WC.region ?_
  refine WL.yd (Yd.assign rfl) rfl ?_
  refine WL.nil ?_
  refine WP.thenC ?_
  refine WC.seq ?_
  refine WC.ofFr [(0, _)] ⟨rfl, trivial⟩ ?_
  refine WC.region ?_
  refine WL.so (SO.makes (Enters.func Try.call33 rfl) (fun w hI => sample_g 6 _ w hI.imm)) rfl ?_
  rintro _ D1 _ ⟨hX1, ⟨a1_1, c1_1, a2_1, c2_1, rfl, hR1⟩, rfl⟩
  refine WL.so (SO.buildSlice Try.underlying51 Try.sizeOf3 Try.zeroValue3 rfl rfl rfl rfl (cs := [_, _, _, _, _, _]) rfl) rfl ?_
  rintro _ _ _ ⟨b23, hb23, rfl, rfl, rfl⟩ -- NEW
  refine WL.freezeK 0 rfl (fun hn23 => ?_)
  have hF23 := fun o => (DExt.refl w D1).add (o := o) hn23 hb23
  have hR1 := hR1.ext (hF23 (.cells (List.toArray [it 0, it 0, it 1, it 0, it 1, it 0]) 3 (0, 0)))
  refine WL.so (SO.makes (Enters.func Try.call34 rfl) (fun w hI => lplan_g [0, 0, 1, 0, 1, 0] _ _ _ _ w (ints_sl [0, 0, 1, 0, 1, 0] (Imm.add_self _ _ _)) (by decide) hI.imm)) rfl ?_
  rintro _ D2 _ ⟨hX2, ⟨a3_2, n3_2, c3_2, rfl, hP2⟩, rfl⟩
  replace hP2 : PlanR D2 [⟨0, 0⟩, ⟨1, 0⟩, ⟨1, 0⟩] a3_2 n3_2 := hP2
  have hR1 := hR1.ext hX2
  refine WL.so (SO.callP Try.call15 rfl (fun w hI => Gives.cv (.tuple #[it 2, it 2, it 0]) (Check_g (sampD 6) a1_1 _ c1_1 a2_1 _ c2_1 _ w hR1 hI.imm [⟨0, 0⟩, ⟨1, 0⟩, ⟨1, 0⟩] a3_2 _ c3_2 hP2) (by rw [al1]))) rfl ?_
  rintro _ _ _ ⟨rfl, rfl, rfl⟩
  refine WL.yd (Yd.move rfl) rfl ?_
  refine WL.yd (Yd.extract rfl rfl) rfl ?_
  refine WL.yd (Yd.extract rfl rfl) rfl ?_
  refine WL.yd (Yd.extract rfl rfl) rfl ?_
  refine WL.yd (Yd.assign rfl) rfl ?_
  refine WL.yd (Yd.assign rfl) rfl ?_
  refine WL.yd (Yd.assign rfl) rfl ?_
  refine WL.nil ?_
  refine WP.thenC ?_
  refine WC.seq ?_
  refine WC.ofFr [(3, _), (2, _), (1, _), (0, _)] ⟨rfl, rfl, rfl, rfl, trivial⟩ ?_
  refine WC.region ?_
  refine WL.so (SO.makes (Enters.func Try.call33 rfl) (fun w hI => sample_g 6 _ w hI.imm)) rfl ?_
  rintro _ D3 _ ⟨hX3, ⟨a1_3, c1_3, a2_3, c2_3, rfl, hR3⟩, rfl⟩
  refine WL.so (SO.buildSlice Try.underlying51 Try.sizeOf3 Try.zeroValue3 rfl rfl rfl rfl (cs := [_, _, _, _, _, _]) rfl) rfl ?_
  rintro _ _ _ ⟨b31, hb31, rfl, rfl, rfl⟩ -- NEW
  refine WL.freezeK 0 rfl (fun hn31 => ?_)
  have hF31 := fun o => (DExt.refl w D3).add (o := o) hn31 hb31
  have hR3 := hR3.ext (hF31 (.cells (List.toArray [it 0, it 0, it 1, it 0, it 1, it 0]) 3 (0, 0)))
  refine WL.so (SO.makes (Enters.func Try.call34 rfl) (fun w hI => lplan_g [0, 0, 1, 0, 1, 0] _ _ _ _ w (ints_sl [0, 0, 1, 0, 1, 0] (Imm.add_self _ _ _)) (by decide) hI.imm)) rfl ?_
  rintro _ D4 _ ⟨hX4, ⟨a3_4, n3_4, c3_4, rfl, hP4⟩, rfl⟩
  replace hP4 : PlanR D4 [⟨0, 0⟩, ⟨1, 0⟩, ⟨1, 0⟩] a3_4 n3_4 := hP4
  have hR3 := hR3.ext hX4
  refine WL.so (SO.callP Try.call17 rfl (fun w hI => Gives.cv (.tuple #[it 1, it 0]) (Right_g (sampD 6) a1_3 _ c1_3 a2_3 _ c2_3 _ w hR3 hI.imm [⟨0, 0⟩, ⟨1, 0⟩, ⟨1, 0⟩] a3_4 _ c3_4 hP4) (by rw [al2]))) rfl ?_
  rintro _ _ _ ⟨rfl, rfl, rfl⟩
  refine WL.yd (Yd.move rfl) rfl ?_
  refine WL.yd (Yd.extract rfl rfl) rfl ?_
  refine WL.yd (Yd.extract rfl rfl) rfl ?_
  refine WL.yd (Yd.assign rfl) rfl ?_
  refine WL.yd (Yd.assign rfl) rfl ?_
  refine WL.nil ?_
  refine WP.thenC ?_
  refine WC.seq ?_
  refine WC.ofFr [(5, _), (4, _), (3, _), (2, _), (1, _), (0, _)] ⟨rfl, rfl, rfl, rfl, rfl, rfl, trivial⟩ ?_
  refine WC.region ?_
  refine WL.so (SO.makes (Enters.func Try.call33 rfl) (fun w hI => sample_g 6 _ w hI.imm)) rfl ?_
  rintro _ D5 _ ⟨hX5, ⟨a1_5, c1_5, a2_5, c2_5, rfl, hR5⟩, rfl⟩
  refine WL.so (SO.callP Try.call19 rfl (fun w hI => Gives.cv (.tuple #[.agg #[it 5, it 6], it 0]) (Hands_g (sampD 6) a1_5 _ c1_5 a2_5 _ c2_5 _ w hR5 hI.imm 1) (by rw [al3]))) rfl ?_
  rintro _ _ _ ⟨rfl, rfl, rfl⟩
  refine WL.yd (Yd.move rfl) rfl ?_
  refine WL.yd (Yd.extract rfl rfl) rfl ?_
  refine WL.yd (Yd.extract rfl rfl) rfl ?_
  refine WL.so (SO.alloc Try.zeroValue35 rfl) rfl ?_
  rintro _ _ _ ⟨b6, hb6, rfl, rfl, rfl⟩ -- NEW
  refine WL.so (SO.store 0 rfl Try.sizeOf35 rfl rfl rfl rfl (Nat.le_of_ble_eq_true rfl) (oneB_spec rfl)) rfl ?_
  rintro _ _ _ ⟨rfl, rfl, rfl⟩
  refine WL.yd (Yd.assign rfl) rfl ?_
  refine WL.nil ?_
  refine WP.thenC ?_
  refine WC.seq ?_
  refine WC.ofFr [(7, _), (6, _), (5, _), (4, _), (3, _), (2, _), (1, _), (0, _)] ⟨rfl, rfl, rfl, rfl, rfl, rfl, rfl, rfl, trivial⟩ ?_
  refine WC.region ?_
  refine WL.so (SO.makes (Enters.func Try.call33 rfl) (fun w hI => sample_g 6 _ w hI.imm)) rfl ?_
  rintro _ D6 _ ⟨hX6, ⟨a1_6, c1_6, a2_6, c2_6, rfl, hR6⟩, rfl⟩
  refine WL.so (SO.makes (Enters.func Try.call22 rfl) (fun w hI => Plan_g (sampD 6) a1_6 _ c1_6 a2_6 _ c2_6 _ w hR6 hI.imm)) rfl ?_
  rintro _ D7 _ ⟨hX7, ⟨a3_7, n3_7, c3_7, rfl, hP7⟩, rfl⟩
  have hR6 := hR6.ext hX7
  refine WL.yd (Yd.move rfl) rfl ?_
  refine WL.yd (Yd.extract rfl rfl) rfl ?_
  refine WL.yd (Yd.extract rfl rfl) rfl ?_
  refine WL.yd (Yd.assign rfl) rfl ?_
  refine WL.yd (Yd.assign rfl) rfl ?_
  refine WL.nil ?_
  refine WP.thenC ?_
  refine WC.seq ?_
  refine WC.ofFr [(9, _), (8, _), (7, _), (6, _), (5, _), (4, _), (3, _), (2, _), (1, _), (0, _)] ⟨rfl, rfl, rfl, rfl, rfl, rfl, rfl, rfl, rfl, rfl, trivial⟩ ?_
  refine WC.region ?_
  refine WL.so (SO.makes (Enters.func Try.call33 rfl) (fun w hI => sample_g 4 _ w hI.imm)) rfl ?_
  rintro _ D8 _ ⟨hX8, ⟨a1_8, c1_8, a2_8, c2_8, rfl, hR8⟩, rfl⟩
  have hP7 := hP7.ext hX8
  refine WL.so (SO.callP Try.call24 rfl (fun w hI => Gives.cv (.tuple #[it 1, it 0]) (Hope_g (sampD 4) a1_8 _ c1_8 a2_8 _ c2_8 _ w hR8 hI.imm) (by rw [al5]))) rfl ?_
  rintro _ _ _ ⟨rfl, rfl, rfl⟩
  refine WL.yd (Yd.move rfl) rfl ?_
  refine WL.yd (Yd.extract rfl rfl) rfl ?_
  refine WL.yd (Yd.extract rfl rfl) rfl ?_
  refine WL.yd (Yd.assign rfl) rfl ?_
  refine WL.yd (Yd.assign rfl) rfl ?_
  refine WL.nil ?_
  refine WP.thenC ?_
  refine WC.seq ?_
  refine WC.ofFr [(11, _), (10, _), (9, _), (8, _), (7, _), (6, _), (5, _), (4, _), (3, _), (2, _), (1, _), (0, _)] ⟨rfl, rfl, rfl, rfl, rfl, rfl, rfl, rfl, rfl, rfl, rfl, rfl, trivial⟩ ?_
  refine WC.region ?_
  refine WL.so (SO.makes (Enters.func Try.call33 rfl) (fun w hI => sample_g 6 _ w hI.imm)) rfl ?_
  rintro _ D9 _ ⟨hX9, ⟨a1_9, c1_9, a2_9, c2_9, rfl, hR9⟩, rfl⟩
  have hP7 := hP7.ext hX9
  refine WL.so (SO.callP Try.call26 rfl (fun w hI => Gives.cv (.tuple #[it 3, it 0]) (Fewest_g (sampD 6) a1_9 _ c1_9 a2_9 _ c2_9 _ w hR9 hI.imm) (by rw [al6]))) rfl ?_
  rintro _ _ _ ⟨rfl, rfl, rfl⟩
  refine WL.yd (Yd.move rfl) rfl ?_
  refine WL.yd (Yd.extract rfl rfl) rfl ?_
  refine WL.yd (Yd.extract rfl rfl) rfl ?_
  refine WL.yd (Yd.assign rfl) rfl ?_
  refine WL.yd (Yd.assign rfl) rfl ?_
  refine WL.nil ?_
  refine WP.thenC ?_
  refine WC.seq ?_
  refine WC.ofFr [(13, _), (12, _), (11, _), (10, _), (9, _), (8, _), (7, _), (6, _), (5, _), (4, _), (3, _), (2, _), (1, _), (0, _)] ⟨rfl, rfl, rfl, rfl, rfl, rfl, rfl, rfl, rfl, rfl, rfl, rfl, rfl, rfl, trivial⟩ ?_
  refine WC.region ?_
  refine WL.so (SO.makes (Enters.func Try.call33 rfl) (fun w hI => sample_g 4 _ w hI.imm)) rfl ?_
  rintro _ D10 _ ⟨hX10, ⟨a1_10, c1_10, a2_10, c2_10, rfl, hR10⟩, rfl⟩
  have hP7 := hP7.ext hX10
  refine WL.so (SO.callP Try.call29 rfl (fun w hI => Gives.cv (.tuple #[it 2, it 3, it 0]) (Most_g (sampD 4) a1_10 _ c1_10 a2_10 _ c2_10 _ w hR10 hI.imm) (by rw [al7]))) rfl ?_
  rintro _ _ _ ⟨rfl, rfl, rfl⟩
  refine WL.yd (Yd.move rfl) rfl ?_
  refine WL.yd (Yd.extract rfl rfl) rfl ?_
  refine WL.yd (Yd.extract rfl rfl) rfl ?_
  refine WL.yd (Yd.extract rfl rfl) rfl ?_
  refine WL.yd (Yd.assign rfl) rfl ?_
  refine WL.yd (Yd.assign rfl) rfl ?_
  refine WL.yd (Yd.assign rfl) rfl ?_
  refine WL.nil ?_
  refine WP.thenC ?_
  refine WC.seq ?_
  refine WC.ofFr [(16, _), (15, _), (14, _), (13, _), (12, _), (11, _), (10, _), (9, _), (8, _), (7, _), (6, _), (5, _), (4, _), (3, _), (2, _), (1, _), (0, _)] ⟨rfl, rfl, rfl, rfl, rfl, rfl, rfl, rfl, rfl, rfl, rfl, rfl, rfl, rfl, rfl, rfl, rfl, trivial⟩ ?_
  refine WC.region ?_
  refine WL.so (SO.makes (Enters.func Try.call33 rfl) (fun w hI => sample_g 4 _ w hI.imm)) rfl ?_
  rintro _ D11 _ ⟨hX11, ⟨a1_11, c1_11, a2_11, c2_11, rfl, hR11⟩, rfl⟩
  have hP7 := hP7.ext hX11
  refine WL.so (SO.callP Try.call31 rfl (fun w hI => Gives.cv (.tuple #[it 4, it 0]) (Why_g (sampD 4) a1_11 _ c1_11 a2_11 _ c2_11 _ w hR11 hI.imm) (by rw [al8]))) rfl ?_
  rintro _ _ _ ⟨rfl, rfl, rfl⟩
  refine WL.yd (Yd.move rfl) rfl ?_
  refine WL.yd (Yd.extract rfl rfl) rfl ?_
  refine WL.yd (Yd.extract rfl rfl) rfl ?_
  refine WL.yd (Yd.assign rfl) rfl ?_
  refine WL.yd (Yd.assign rfl) rfl ?_
  refine WL.nil ?_
  refine WP.thenC ?_
  refine WC.seq ?_
  refine WC.ofFr [(18, _), (17, _), (16, _), (15, _), (14, _), (13, _), (12, _), (11, _), (10, _), (9, _), (8, _), (7, _), (6, _), (5, _), (4, _), (3, _), (2, _), (1, _), (0, _)] ⟨rfl, rfl, rfl, rfl, rfl, rfl, rfl, rfl, rfl, rfl, rfl, rfl, rfl, rfl, rfl, rfl, rfl, rfl, rfl, trivial⟩ ?_
  refine WC.region ?_
  refine WL.so (SO.makes (Enters.func Try.call33 rfl) (fun w hI => sample_g 6 _ w hI.imm)) rfl ?_
  rintro _ D12 _ ⟨hX12, ⟨a1_12, c1_12, a2_12, c2_12, rfl, hR12⟩, rfl⟩
  have hP7 := hP7.ext hX12
  refine WL.so (SO.buildSlice Try.underlying51 Try.sizeOf3 Try.zeroValue3 rfl rfl rfl rfl (cs := [_, _, _, _, _, _]) rfl) rfl ?_
  rintro _ _ _ ⟨b69, hb69, rfl, rfl, rfl⟩ -- NEW
  refine WL.freezeK 0 rfl (fun hn69 => ?_)
  have hF69 := fun o => (DExt.refl w D12).add (o := o) hn69 hb69
  have hP7 := hP7.ext (hF69 (.cells (List.toArray [it 0, it 0, it 1, it 1, it 1, it 0]) 3 (0, 0)))
  have hR12 := hR12.ext (hF69 (.cells (List.toArray [it 0, it 0, it 1, it 1, it 1, it 0]) 3 (0, 0)))
  refine WL.so (SO.makes (Enters.func Try.call34 rfl) (fun w hI => lplan_g [0, 0, 1, 1, 1, 0] _ _ _ _ w (ints_sl [0, 0, 1, 1, 1, 0] (Imm.add_self _ _ _)) (by decide) hI.imm)) rfl ?_
  rintro _ D13 _ ⟨hX13, ⟨a3_13, n3_13, c3_13, rfl, hP13⟩, rfl⟩
  replace hP13 : PlanR D13 [⟨0, 0⟩, ⟨1, 1⟩, ⟨1, 0⟩] a3_13 n3_13 := hP13
  have hP7 := hP7.ext hX13
  have hR12 := hR12.ext hX13
  refine WL.so (SO.callP Try.call17 rfl (fun w hI => Gives.cv (.tuple #[it 2, it 0]) (Right_g (sampD 6) a1_12 _ c1_12 a2_12 _ c2_12 _ w hR12 hI.imm [⟨0, 0⟩, ⟨1, 1⟩, ⟨1, 0⟩] a3_13 _ c3_13 hP13) (by rw [al9]))) rfl ?_
  rintro _ _ _ ⟨rfl, rfl, rfl⟩
  refine WL.yd (Yd.move rfl) rfl ?_
  refine WL.yd (Yd.extract rfl rfl) rfl ?_
  refine WL.yd (Yd.extract rfl rfl) rfl ?_
  refine WL.yd (Yd.assign rfl) rfl ?_
  refine WL.yd (Yd.assign rfl) rfl ?_
  refine WL.nil ?_
  refine WP.thenC ?_
  refine WC.seq ?_
  refine WC.ofFr [(20, _), (19, _), (18, _), (17, _), (16, _), (15, _), (14, _), (13, _), (12, _), (11, _), (10, _), (9, _), (8, _), (7, _), (6, _), (5, _), (4, _), (3, _), (2, _), (1, _), (0, _)] ⟨rfl, rfl, rfl, rfl, rfl, rfl, rfl, rfl, rfl, rfl, rfl, rfl, rfl, rfl, rfl, rfl, rfl, rfl, rfl, rfl, rfl, trivial⟩ ?_
  refine WC.draw [(0, true), (1, true), (2, true), (3, true), (4, true), (5, true), (6, true), (7, true), (8, true), (9, true), (10, true), (11, true), (12, true), (13, true), (14, true), (15, true), (16, true), (17, true), (18, true), (19, true), (20, false), (21, true), (22, true), (23, true), (24, true), (25, true), (26, true), (27, true), (28, true), (29, false), (30, false), (31, false), (32, true), (33, true), (34, true), (35, true), (36, true), (37, true), (38, true), (39, true), (40, true), (41, true), (42, true), (43, true), (44, true), (45, true), (46, true), (47, true), (48, true), (49, true), (50, true), (51, true), (52, true), (53, true), (54, true), (55, true), (56, true), (57, true), (58, true), (59, true), (60, true), (61, true), (62, true), (63, true), (64, true), (65, true), (66, true), (67, true), (68, true), (69, true), (70, true), (71, true), (72, true), (73, true), (74, true), (75, true), (76, true), (77, true), (78, true), (79, true), (80, true), (81, true)] (by kernel_rfl) (by kernel_rfl) (QuietPanic.then QuietPanic.body) ?_
  refine WA.yd rfl (Yd.move rfl) rfl ?_
  refine WA.yd rfl (Yd.eql rfl rfl) rfl ?_
  refine WA.know 75 (.bool true) rfl (congrArg Value.bool (by decide)) ?_
  refine WA.yd rfl (Yd.move rfl) rfl ?_
  refine WA.ydg rfl rfl (Yd.move rfl) rfl ?_
  refine WA.ydg rfl rfl (Yd.eql rfl rfl) rfl ?_
  refine WA.know 78 (.bool true) rfl (congrArg Value.bool (by decide)) ?_
  refine WA.yd rfl (Yd.pickT rfl rfl) rfl ?_
  refine WA.yd rfl (Yd.move rfl) rfl ?_
  refine WA.ydg rfl rfl (Yd.move rfl) rfl ?_
  refine WA.ydg rfl rfl (Yd.eql rfl rfl) rfl ?_
  refine WA.know 82 (.bool true) rfl (congrArg Value.bool (by decide)) ?_
  refine WA.yd rfl (Yd.pickT rfl rfl) rfl ?_
  refine WA.yd rfl (Yd.move rfl) rfl ?_
  refine WA.ydg rfl rfl (Yd.move rfl) rfl ?_
  refine WA.ydg rfl rfl (Yd.eql rfl rfl) rfl ?_
  refine WA.know 86 (.bool true) rfl (congrArg Value.bool (by decide)) ?_
  refine WA.yd rfl (Yd.pickT rfl rfl) rfl ?_
  refine WA.yd rfl (Yd.move rfl) rfl ?_
  refine WA.ydg rfl rfl (Yd.move rfl) rfl ?_
  refine WA.ydg rfl rfl (Yd.eql rfl rfl) rfl ?_
  refine WA.know 90 (.bool true) rfl (congrArg Value.bool (by decide)) ?_
  refine WA.yd rfl (Yd.pickT rfl rfl) rfl ?_
  refine WA.yd rfl (Yd.move rfl) rfl ?_
  refine WA.ydg rfl rfl (Yd.loadN Try.isAgg35 Try.sizeOf35 rfl (vs := [_, _]) rfl (by first | exact RdN.own (k := 0) (n := 2) rfl rfl)) rfl ?_
  refine WA.sog rfl rfl (SO.callP Try.call35 rfl (fun w hI => lspan_g _ _ _)) rfl ?_
  rintro _ _ _ ⟨rfl, rfl, rfl⟩
  refine ⟨fun _ hI => hI, ?_⟩
  refine WA.ydg rfl rfl (Yd.eqS Try.eqGuardType35 (eq35 _ _ _ _) rfl rfl) rfl ?_
  refine WA.know 95 (.bool true) rfl (congrArg Value.bool (by decide)) ?_
  refine WA.yd rfl (Yd.pickT rfl rfl) rfl ?_
  refine WA.yd rfl (Yd.move rfl) rfl ?_
  refine WA.ydg rfl rfl (Yd.move rfl) rfl ?_
  refine WA.ydg rfl rfl (Yd.eql rfl rfl) rfl ?_
  refine WA.know 99 (.bool true) rfl (congrArg Value.bool (by decide)) ?_
  refine WA.yd rfl (Yd.pickT rfl rfl) rfl ?_
  refine WA.yd rfl (Yd.move rfl) rfl ?_
  refine WA.ydg rfl rfl (Yd.move rfl) rfl ?_
  refine WA.sog rfl rfl (SO.buildSlice Try.underlying51 Try.sizeOf3 Try.zeroValue3 rfl rfl rfl rfl (cs := [_, _, _, _, _, _]) rfl) rfl ?_
  rintro _ _ _ ⟨b103, hb103, rfl, rfl, rfl⟩ -- NEW
  refine ⟨fun _ hI => hI.tail, ?_⟩
  refine WA.freezeK 0 rfl (fun hn103 => ?_)
  have hF103 := fun o => (DExt.refl w D13).add (o := o) hn103 hb103
  have hP7 := hP7.ext (hF103 (.cells (List.toArray [it 0, it 0, it 1, it 1, it 1, it 0]) 3 (0, 0)))
  refine WA.sog rfl rfl (SO.makes (Enters.func Try.call34 rfl) (fun w hI => lplan_g [0, 0, 1, 1, 1, 0] _ _ _ _ w (ints_sl [0, 0, 1, 1, 1, 0] (Imm.add_self _ _ _)) (by decide) hI.imm)) rfl ?_
  rintro _ D14 _ ⟨hX14, ⟨a3_14, n3_14, c3_14, rfl, hP14⟩, rfl⟩
  replace hP14 : PlanR D14 [⟨0, 0⟩, ⟨1, 1⟩, ⟨1, 0⟩] a3_14 n3_14 := hP14
  have hP7 := hP7.ext hX14
  refine ⟨fun _ hI => hI.shrink ((hF103 _).trans hX14 (Nat.le_refl _)).old, ?_⟩
  refine WA.sog rfl rfl (SO.callP Try.call28 rfl (fun w hI => Gives.cv (.bool true) (same_g _ w hI.imm (PlanOut (sampD 6)).1 a3_7 n3_7 c3_7 hP7 [⟨0, 0⟩, ⟨1, 1⟩, ⟨1, 0⟩] a3_14 n3_14 c3_14 hP14) (by rw [al4]; rfl))) rfl ?_
  rintro _ _ _ ⟨rfl, rfl, rfl⟩
  refine ⟨fun _ hI => hI.shrink ((hF103 _).trans hX14 (Nat.le_refl _)).old, ?_⟩
  refine WA.know 105 (.bool true) rfl rfl ?_
  refine WA.yd rfl (Yd.pickT rfl rfl) rfl ?_
  refine WA.yd rfl (Yd.move rfl) rfl ?_
  refine WA.ydg rfl rfl (Yd.move rfl) rfl ?_
  refine WA.ydg rfl rfl (Yd.eql rfl rfl) rfl ?_
  refine WA.know 109 (.bool true) rfl (congrArg Value.bool (by rw [al4]; decide)) ?_
  refine WA.yd rfl (Yd.pickT rfl rfl) rfl ?_
  refine WA.yd rfl (Yd.move rfl) rfl ?_
  refine WA.ydg rfl rfl (Yd.move rfl) rfl ?_
  refine WA.ydg rfl rfl (Yd.eql rfl rfl) rfl ?_
  refine WA.know 113 (.bool true) rfl (congrArg Value.bool (by decide)) ?_
  refine WA.yd rfl (Yd.pickT rfl rfl) rfl ?_
  refine WA.yd rfl (Yd.move rfl) rfl ?_
  refine WA.ydg rfl rfl (Yd.move rfl) rfl ?_
  refine WA.ydg rfl rfl (Yd.eql rfl rfl) rfl ?_
  refine WA.know 117 (.bool true) rfl (congrArg Value.bool (by decide)) ?_
  refine WA.yd rfl (Yd.pickT rfl rfl) rfl ?_
  refine WA.yd rfl (Yd.move rfl) rfl ?_
  refine WA.ydg rfl rfl (Yd.move rfl) rfl ?_
  refine WA.ydg rfl rfl (Yd.eql rfl rfl) rfl ?_
  refine WA.know 121 (.bool true) rfl (congrArg Value.bool (by decide)) ?_
  refine WA.yd rfl (Yd.pickT rfl rfl) rfl ?_
  refine WA.yd rfl (Yd.move rfl) rfl ?_
  refine WA.ydg rfl rfl (Yd.move rfl) rfl ?_
  refine WA.ydg rfl rfl (Yd.eql rfl rfl) rfl ?_
  refine WA.know 125 (.bool true) rfl (congrArg Value.bool (by decide)) ?_
  refine WA.yd rfl (Yd.pickT rfl rfl) rfl ?_
  refine WA.yd rfl (Yd.move rfl) rfl ?_
  refine WA.ydg rfl rfl (Yd.move rfl) rfl ?_
  refine WA.ydg rfl rfl (Yd.eql rfl rfl) rfl ?_
  refine WA.know 129 (.bool true) rfl (congrArg Value.bool (by decide)) ?_
  refine WA.yd rfl (Yd.pickT rfl rfl) rfl ?_
  refine WA.yd rfl (Yd.move rfl) rfl ?_
  refine WA.ydg rfl rfl (Yd.move rfl) rfl ?_
  refine WA.ydg rfl rfl (Yd.eql rfl rfl) rfl ?_
  refine WA.know 133 (.bool true) rfl (congrArg Value.bool (by decide)) ?_
  refine WA.yd rfl (Yd.pickT rfl rfl) rfl ?_
  refine WA.yd rfl (Yd.move rfl) rfl ?_
  refine WA.ydg rfl rfl (Yd.move rfl) rfl ?_
  refine WA.ydg rfl rfl (Yd.eql rfl rfl) rfl ?_
  refine WA.know 137 (.bool true) rfl (congrArg Value.bool (by decide)) ?_
  refine WA.yd rfl (Yd.pickT rfl rfl) rfl ?_
  refine WA.yd rfl (Yd.move rfl) rfl ?_
  refine WA.ydg rfl rfl (Yd.move rfl) rfl ?_
  refine WA.ydg rfl rfl (Yd.eql rfl rfl) rfl ?_
  refine WA.know 141 (.bool true) rfl (congrArg Value.bool (by decide)) ?_
  refine WA.yd rfl (Yd.pickT rfl rfl) rfl ?_
  refine WA.yd rfl (Yd.move rfl) rfl ?_
  refine WA.ydg rfl rfl (Yd.move rfl) rfl ?_
  refine WA.ydg rfl rfl (Yd.eql rfl rfl) rfl ?_
  refine WA.know 145 (.bool true) rfl (congrArg Value.bool (by decide)) ?_
  refine WA.yd rfl (Yd.pickT rfl rfl) rfl ?_
  refine WA.yd rfl (Yd.move rfl) rfl ?_
  refine WA.ydg rfl rfl (Yd.move rfl) rfl ?_
  refine WA.ydg rfl rfl (Yd.eql rfl rfl) rfl ?_
  refine WA.know 149 (.bool true) rfl (congrArg Value.bool (by decide)) ?_
  refine WA.yd rfl (Yd.pickT rfl rfl) rfl ?_
  refine WA.yd rfl (Yd.move rfl) rfl ?_
  refine WA.ydg rfl rfl (Yd.move rfl) rfl ?_
  refine WA.ydg rfl rfl (Yd.eql rfl rfl) rfl ?_
  refine WA.know 153 (.bool true) rfl (congrArg Value.bool (by decide)) ?_
  refine WA.yd rfl (Yd.pickT rfl rfl) rfl ?_
  refine WA.yd rfl (Yd.assign rfl) rfl ?_
  refine WA.nil ?_
  refine WP.thenC ?_
  refine WC.ret ?_
  refine WP.ret1 rfl rfl Try.results14 (RV.tmp rfl) (fun w hI => ⟨rfl, hI.keep⟩)

end Go.Proofs.Ytidjdonppfegiaa
