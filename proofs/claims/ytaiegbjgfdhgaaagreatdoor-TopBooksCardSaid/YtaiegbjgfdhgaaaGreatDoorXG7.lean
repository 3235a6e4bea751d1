import Derived.Test.YtaiegbjgfdhgaaaGreatDoorXG6
import Derived.Test.YtaiegbjgfdhgaaaGreatDoorXG5
import Derived.Test.YtaiegbjgfdhgaaaGreatDoorXG4
import Derived.Test.YtaiegbjgfdhgaaaGreatDoorXG3
import Derived.Test.YtaiegbjgfdhgaaaGreatDoorXG1
import Derived.Test.YtaiegbjgfdhgaaaGreatDoorXG2
set_option linter.all false
set_option maxRecDepth 100000
set_option maxHeartbeats 4000000
attribute [local irreducible] Go.W.WL Go.W.WLF Go.W.WC Go.W.WCF Go.W.WP Go.W.WA Go.W.WQ Go.W.WH Go.W.WHo Go.W.WCn Go.W.Yd Go.W.Qt Go.W.SO Go.Code.wp Go.Code.wpIn
namespace Go.Proofs.YtaiegbjgfdhgaaaGreatDoor
open Go.W Go.Bk
theorem SA49 : zj Tryz.prog 49 [.int .i64 0, .int .i64 0, .slice none 0 0, .slice none 0 0, .slice none 0 0] [(0, 1), (1, 1), (2, 1), (3, 1), (4, 1)] := ⟨⟨_, Tryz.zeroValue49, rfl⟩, _, Tryz.underlying49, fun w => by simp [Tryz.sizeOf3, Tryz.sizeOf46, Tryz.sizeOf47]⟩
abbrev zdA := SaF.mk SA49
attribute [instance] zdA
theorem zwA {l1 l2 : List Int} (hl : l1.length = l2.length) (h : ∀ i, i < l1.length → gt l1 i = gt l2 i) : l1 = l2 := by
  apply List.ext_getElem hl;intro i h1 h2;have := h i h1;simpa [gt, List.getD, h1, h2] using this
theorem ztu {l1 l2 : List Int} {k : Nat} (h : ∀ i, i < k → gt l1 i = gt l2 i) (e : gt l1 k = gt l2 k) : ∀ i, i < k + 1 → gt l1 i = gt l2 i := fun i hi => by
  rcases Nat.lt_or_ge i k with h1 | h1
  · exact h i h1
  rw [show i = k by omega]; exact e
theorem eqSp (a b c d : Int) : ∀ w, (Op.equalIn 10000 81 (.agg #[.int .i64 a, .int .i64 b]) (.agg #[.int .i64 c, .int .i64 d])).run Tryz.prog w = .ok (decide ((⟨a, b⟩ : Sp) = ⟨c, d⟩)) w := by
  intro w
  have h1 : (Op.equalIn 10000 81 (.agg #[.int .i64 a, .int .i64 b]) (.agg #[.int .i64 c, .int .i64 d])).run Tryz.prog w = .ok (a == c && b == d) w := by
    simp [go_sem, Op.eqFields];by_cases h : a = c <;> by_cases h' : b = d <;> simp [h, h']
  have h2 : (a == c && b == d) = decide ((⟨a, b⟩ : Sp) = ⟨c, d⟩) := by
    rw [Bool.eq_iff_iff]; simp only [Bool.and_eq_true, beq_iff_eq, decide_eq_true_eq, Sp.mk.injEq]
  rw [h1, h2]
theorem zso (l1 l2 : List Int) (a1 a2 : Option Addr) (n1 n2 c1 c2 : Nat) (D : Imm) (w : World) (hS1 : SlL D 1 (l1.map itC) a1 n1) (hS2 : SlL D 1 (l2.map itC) a2 n2) (hb1 : n1 ≤ 1000) (hb2 : n2 ≤ 1000) (hH : Holds D w) : z8 Tryz.prog 30 [.slice a1 n1 c1, .slice a2 n2 c2] w (.bool (decide (l1 = l2))) := by
  unfold z8;obtain rfl := hS1.len';obtain rfl := hS2.len';refine en Tryz.func30 rfl Tryz.ntmps30 (Inv.start hH) (g [[1],[6,0,1],[8,4,0,1]] ?_);refine WC.cond rfl (fun c10 => ?_) (fun c10 => ?_)
  · try simp only [zq] at c10
    refine g [[1],[6,4,0,1]] ?_;refine WP.ret1 rfl rfl rfl (RV.tmp rfl) (fun w hI => ⟨zb (Eq.symm (decide_eq_false fun e => c10 (by rw [e]))), hI.keep⟩)
  try simp only [zq] at c10
  obtain hle : l1.length = l2.length := by omega
  rw [← hle];rw [← hle] at hS2;refine g [[4],[5,4,0,1]] ?_;refine WC.loopF (fun k : Nat => [(0, .slice a1 l1.length c1), (1, .slice a2 l1.length c2), (5, nt k)]) (fun k => k ≤ l1.length ∧ ∀ i, i < k → gt l1 i = gt l2 i) (fun k => l1.length - k) 0 ⟨by omega, by intro i hi; omega⟩ ⟨rfl, rfl, rfl, trivial⟩ ?_;intro k ⟨hk, hd⟩;refine g [[2],[7,0,1,5]] ?_;refine WC.cond rfl (fun c14 => ?_) (fun c14 => ?_)
  · try simp only [zq] at c14
    have hkl : k < l1.length := by omega
    refine g [[5],[0,0,1,5],[3008],[2]] ?_;refine WQ.q rfl (Yd.qt (Yd.ix rfl rfl (hS1.addr k (by omega)))) rfl (WQ.q rfl (Yd.qt (Yd.l1 rfl ((hS1.at k (by omega)).rd 0 rfl))) rfl (g [[2]] ?_));refine WQ.q rfl (Yd.qt (Yd.ix rfl rfl (hS2.addr k (by omega)))) rfl (WQ.q rfl (Yd.qt (Yd.l1 rfl ((hS2.at k (by omega)).rd 0 rfl))) rfl (g [[4]] ?_));refine WC.cond rfl (fun c25 => ?_) (fun c25 => ?_)
    · try simp only [zq] at c25
      refine g [[1],[10,0,1,5]] ?_;refine WP.ret1 rfl rfl rfl (RV.tmp rfl) (fun w hI => ⟨zb (Eq.symm (decide_eq_false fun e => c25 (by rw [e]))), hI.keep⟩)
    try simp only [zq] at c25
    refine g [[3],[2,0,1,5]] ?_;refine WL.yd (Yd.addN (i := k) (j := 1) rfl rfl (by omega)) rfl (g [[2]] ?_);exact WP.againF (k + 1) ⟨by omega, ztu hd (Classical.not_not.1 c25)⟩ (by omega) ⟨rfl, rfl, rfl, trivial⟩ (fun _ h => h) (fun h => h)
  try simp only [zq] at c14
  obtain rfl : k = l1.length := by omega
  refine g [[6]] ?_;refine WC.ofFr [] trivial (g [[5]] ?_);refine WP.ret1 rfl rfl rfl (RV.tmp rfl) (fun w hI => ⟨zb (Eq.symm (decide_eq_true (zwA hle hd))), hI.keep⟩)
theorem js (a b : Int) (w : World) : z8 Tryz.prog 113 [it a, it b] w (.agg #[it a, it b]) := by
  unfold z8;refine en Tryz.func113 rfl Tryz.ntmps113 zI (g [[1],[1,0,1]] ?_);refine WL.so (SO.alloc ZvF.h rfl) rfl (zw fun b4 hb4 => ?_);refine g [[3],[8,4,0,1]] ?_;refine WP.ret1 rfl rfl rfl (RV.cellN AgF.h SzF.h rfl (vs := [_, _]) rfl (RdN.own (k := 0) (n := 2) rfl rfl)) (fun w hI => ⟨rfl, hI.keep⟩)
theorem zxg (D : Imm) (w : World) (hH : Holds D w) : y6 Tryz.prog 180 [] w D (fun v D' => ∃ m, v = zno zo6 m ∧ zn1 D' zo6 m) := by
  unfold y6;refine en Tryz.func180 rfl Tryz.ntmps180 (Inv.start hH) (g [[1]] ?_);refine WC.ofFr [] trivial (g [[1]] ?_);refine WL.so (SO.alloc ZvF.h rfl) rfl (zw fun b0 hb0 => ?_);refine g [[3],[1,0]] ?_;refine WL.cl rfl (fun w hI => js _ _ _) (WL.cl rfl (fun w hI => js _ _ _) ?_);refine WL.cl rfl (fun w hI => js _ _ _) (WL.cl rfl (fun w hI => js _ _ _) ?_);refine WL.so (SO.buildSlice UnF.h SzF.h ZvF.h rfl rfl rfl rfl (cs := [_, _, _, _, _, _, _, _]) rfl) rfl ?_;rintro _ _ _ ⟨b5, hb5, rfl, rfl, rfl⟩;refine WL.cl rfl (fun w hI => js _ _ _) (WL.cl rfl (fun w hI => js _ _ _) ?_);refine WL.cl rfl (fun w hI => js _ _ _) (WL.cl rfl (fun w hI => js _ _ _) ?_);refine WL.so (SO.buildSlice UnF.h SzF.h ZvF.h rfl rfl rfl rfl (cs := [_, _, _, _, _, _, _, _]) rfl) rfl ?_;rintro _ _ _ ⟨b10, hb10, rfl, rfl, rfl⟩;refine g [[3]] ?_;refine WL.so (SO.buildSlice UnF.h SzF.h ZvF.h rfl rfl rfl rfl (cs := [_, _, _, _, _, _, _, _, _]) rfl) rfl ?_;rintro _ _ _ ⟨b14, hb14, rfl, rfl, rfl⟩;refine g [[1]] ?_;refine WL.freezeK 0 rfl (fun hn14 => ?_);have hF14 := fun o => (DExt.refl w D).add (o := o) hn14 hb14;refine WL.freezeK 0 rfl (fun hn10 => ?_);have hF10 := fun o => (DExt.refl w _).add (o := o) hn10 hb10;refine WL.freezeK 0 rfl (fun hn5 => ?_);have hF5 := fun o => (DExt.refl w _).add (o := o) hn5 hb5;refine g [[4]] ?_;refine WP.ret1 rfl rfl rfl (RV.cellN AgF.h SzF.h rfl (vs := [_, _, _, _, _]) rfl (RdN.own (k := 0) (n := 5) rfl rfl)) (fun w1 hI => ⟨_, _, rfl, hI.keep, hI.imm, (((hF14 _).trans (hF10 _) (Nat.le_refl _)).trans (hF5 _) (Nat.le_refl _)), ⟨⟨some ⟨b5, 0, none⟩, 4, 4⟩, ⟨some ⟨b10, 0, none⟩, 4, 4⟩, ⟨some ⟨b14, 0, none⟩, 3, 3⟩⟩, rfl, ⟨(SlL.ofBlock (l := zo6.water) (f := spC) (m := 2) (rest := []) (fun _ => rfl) (Imm.add_self _ _ _)), (SlL.ofBlock (l := zo6.waves) (f := spC) (m := 2) (rest := []) (fun _ => rfl) (Imm.add_self _ _ _)).ext (hF5 _), (SlL.ofBlock (l := zo6.huts) (f := hutC) (m := 3) (rest := []) (fun _ => rfl) (Imm.add_self _ _ _)).ext ((hF10 _).trans (hF5 _) (Nat.le_refl _)), (zqb rfl), (zqb rfl), (zqb rfl)⟩⟩)
theorem SA53 : zj Tryz.prog 53 [.int .i64 0, .int .i64 0, .int .i64 0, .slice none 0 0, .slice none 0 0] [(0, 1), (1, 1), (2, 1), (3, 1), (4, 1)] := ⟨⟨_, Tryz.zeroValue53, rfl⟩, _, Tryz.underlying53, fun w => by simp [Tryz.sizeOf3, Tryz.sizeOf50, Tryz.sizeOf51]⟩
abbrev zBd := SaF.mk SA53
attribute [instance] zBd
theorem SA56 : zj Tryz.prog 56 [.int .i64 0, .int .i64 0, .int .i64 0, .int .i64 0, .slice none 0 0] [(0, 1), (1, 1), (2, 1), (3, 1), (4, 1)] := ⟨⟨_, Tryz.zeroValue56, rfl⟩, _, Tryz.underlying56, fun w => by simp [Tryz.sizeOf3, Tryz.sizeOf54]⟩
abbrev zBe := SaF.mk SA56
attribute [instance] zBe
set_option maxRecDepth 100000 in
set_option maxHeartbeats 6000000 in
theorem ztw (D : Imm) (w : World) (hH : Holds D w) : y6 Tryz.prog 181 [] w D (fun v D' => ∃ m, v = znM zqq m ∧ zoE D' zqq m) := by
  unfold y6;refine en Tryz.func181 rfl Tryz.ntmps181 (Inv.start hH) (g [[1]] ?_);refine WC.ofFr [] trivial (g [[1]] ?_);refine WL.so (SO.alloc ZvF.h rfl) rfl (zw fun b0 hb0 => ?_);refine g [[3],[1,0]] ?_;refine WL.cl rfl (fun w hI => js _ _ _) (g [[1]] ?_);refine WL.cl rfl (fun w hI => js _ _ _) (g [[1]] ?_);refine WL.cl rfl (fun w hI => js _ _ _) (g [[1]] ?_);refine WL.cl rfl (fun w hI => js _ _ _) (g [[1]] ?_);refine WL.so (SO.buildSlice UnF.h SzF.h ZvF.h rfl rfl rfl rfl (cs := [_, _, _, _, _, _, _, _, _, _, _, _, _, _, _, _]) rfl) rfl ?_;rintro _ _ _ ⟨b9, hb9, rfl, rfl, rfl⟩;refine g [[1]] ?_;refine WL.freezeK 0 rfl (fun hn9 => ?_);have hF9 := fun o => (DExt.refl w D).add (o := o) hn9 hb9;refine g [[4]] ?_;refine WP.ret1 rfl rfl rfl (RV.cellN AgF.h SzF.h rfl (vs := [_, _]) rfl (RdN.own (k := 0) (n := 2) rfl rfl)) (fun w1 hI => ⟨_, _, rfl, hI.keep, hI.imm, (hF9 _), ⟨some ⟨b9, 0, none⟩, 4, 4⟩, rfl, ⟨(SlL.ofBlock (l := zqq.moves) (f := mvC) (m := 4) (rest := []) (fun _ => rfl) (Imm.add_self _ _ _)), (zqb rfl)⟩⟩)
set_option maxRecDepth 100000 in
set_option maxHeartbeats 6000000 in
theorem zwm (D : Imm) (w : World) (hH : Holds D w) : y6 Tryz.prog 114 [] w D (fun v D' => ∃ m, v = znT zrM m ∧ znr D' zrM m) := by
  unfold y6;refine en Tryz.func114 rfl Tryz.ntmps114 (Inv.start hH) (g [[1]] ?_);refine WC.ofFr [] trivial (g [[1]] ?_);refine WL.so (SO.alloc ZvF.h rfl) rfl (zw fun b0 hb0 => ?_);refine g [[3],[1,0]] ?_;refine WL.cl rfl (fun w hI => js _ _ _) (g [[1]] ?_);refine WL.cl rfl (fun w hI => js _ _ _) (g [[1]] ?_);refine WL.cl rfl (fun w hI => js _ _ _) (g [[1]] ?_);refine WL.cl rfl (fun w hI => js _ _ _) (g [[1]] ?_);refine WL.cl rfl (fun w hI => js _ _ _) (g [[1]] ?_);refine WL.cl rfl (fun w hI => js _ _ _) (g [[1]] ?_);refine WL.so (SO.buildSlice UnF.h SzF.h ZvF.h rfl rfl rfl rfl (cs := [_, _, _, _, _, _, _, _, _, _, _, _, _, _, _, _, _, _]) rfl) rfl ?_;rintro _ _ _ ⟨b13, hb13, rfl, rfl, rfl⟩;refine g [[1]] ?_;refine WL.so (SO.buildSlice UnF.h SzF.h ZvF.h rfl rfl rfl rfl (cs := [_, _]) rfl) rfl ?_;rintro _ _ _ ⟨b15, hb15, rfl, rfl, rfl⟩;refine g [[1]] ?_;refine WL.freezeK 0 rfl (fun hn15 => ?_);have hF15 := fun o => (DExt.refl w D).add (o := o) hn15 hb15;refine WL.freezeK 0 rfl (fun hn13 => ?_);have hF13 := fun o => (DExt.refl w _).add (o := o) hn13 hb13;refine g [[4]] ?_;refine WP.ret1 rfl rfl rfl (RV.cellN AgF.h SzF.h rfl (vs := [_, _, _, _, _]) rfl (RdN.own (k := 0) (n := 5) rfl rfl)) (fun w1 hI => ⟨_, _, rfl, hI.keep, hI.imm, ((hF15 _).trans (hF13 _) (Nat.le_refl _)), ⟨⟨some ⟨b13, 0, none⟩, 6, 6⟩, ⟨some ⟨b15, 0, none⟩, 1, 1⟩⟩, rfl, ⟨(SlL.ofBlock (l := zrM.hours) (f := znU) (m := 3) (rest := []) (fun _ => rfl) (Imm.add_self _ _ _)), (SlL.ofBlock (l := zrM.seen) (f := znc) (m := 2) (rest := []) (fun _ => rfl) (Imm.add_self _ _ _)).ext (hF13 _), (zqb rfl), (zqb rfl)⟩⟩)
set_option maxRecDepth 100000 in
set_option maxHeartbeats 6000000 in
theorem zqZ (D : Imm) (w : World) (hH : Holds D w) : y6 Tryz.prog 36 [] w D (fun v D' => ∃ m, v = zmP zog m ∧ zmv D' zog m) := by
  unfold y6;refine en Tryz.func36 rfl Tryz.ntmps36 (Inv.start hH) (g [[1]] ?_);refine WC.ofFr [] trivial (g [[1]] ?_);refine WL.so (SO.alloc ZvF.h rfl) rfl (zw fun b0 hb0 => ?_);refine g [[3],[1,0]] ?_;refine WL.cl rfl (fun w hI => js _ _ _) (WL.cl rfl (fun w hI => js _ _ _) (g [[1]] ?_));refine WL.cl rfl (fun w hI => js _ _ _) (WL.cl rfl (fun w hI => js _ _ _) (g [[1]] ?_));refine WL.so (SO.buildSlice UnF.h SzF.h ZvF.h rfl rfl rfl rfl (cs := [_, _, _, _, _, _, _, _, _, _]) rfl) rfl ?_;rintro _ _ _ ⟨b7, hb7, rfl, rfl, rfl⟩;refine WL.cl rfl (fun w hI => js _ _ _) (WL.cl rfl (fun w hI => js _ _ _) (g [[1]] ?_));refine WL.cl rfl (fun w hI => js _ _ _) (WL.cl rfl (fun w hI => js _ _ _) (g [[1]] ?_));refine WL.so (SO.buildSlice UnF.h SzF.h ZvF.h rfl rfl rfl rfl (cs := [_, _, _, _, _, _, _, _, _, _]) rfl) rfl ?_;rintro _ _ _ ⟨b14, hb14, rfl, rfl, rfl⟩;refine WL.so (SO.buildSlice1 UnF.h SzF.h ZvF.h rfl rfl rfl (vs := [_, _]) rfl rfl rfl) rfl ?_;rintro _ _ _ ⟨b15, hb15, rfl, rfl, rfl⟩;refine g [[1]] ?_;refine WL.freezeK 0 rfl (fun hn15 => ?_);have hF15 := fun o => (DExt.refl w D).add (o := o) hn15 hb15;refine WL.freezeK 0 rfl (fun hn14 => ?_);have hF14 := fun o => (DExt.refl w _).add (o := o) hn14 hb14;refine WL.freezeK 0 rfl (fun hn7 => ?_);have hF7 := fun o => (DExt.refl w _).add (o := o) hn7 hb7;refine g [[4]] ?_;refine WP.ret1 rfl rfl rfl (RV.cellN AgF.h SzF.h rfl (vs := [_, _, _, _, _]) rfl (RdN.own (k := 0) (n := 5) rfl rfl)) (fun w1 hI => ⟨_, _, rfl, hI.keep, hI.imm, (((hF15 _).trans (hF14 _) (Nat.le_refl _)).trans (hF7 _) (Nat.le_refl _)), ⟨⟨some ⟨b15, 0, none⟩, 2, 2⟩, [⟨some ⟨b7, 0, none⟩, 2, 2⟩, ⟨some ⟨b14, 0, none⟩, 2, 2⟩]⟩, rfl, ⟨(SlL.ofBlock (l := [⟨some ⟨b7, 0, none⟩, 2, 2⟩, ⟨some ⟨b14, 0, none⟩, 2, 2⟩]) (f := slC) (m := 1) (rest := []) (fun _ => rfl) (Imm.add_self _ _ _)).ext ((hF14 _).trans (hF7 _) (Nat.le_refl _)), rfl, fun i hi => by match i, hi with | 0, _ => exact (SlL.ofBlock (l := gt zog.seen 0) (f := bsC) (m := 5) (rest := []) (fun _ => rfl) (Imm.add_self _ _ _)) | 1, _ => exact (SlL.ofBlock (l := gt zog.seen 1) (f := bsC) (m := 5) (rest := []) (fun _ => rfl) (Imm.add_self _ _ _)).ext (hF7 _), (zqb rfl), fun i hi => by match i, hi with | 0, _ => exact (zqb rfl) | 1, _ => exact (zqb rfl)⟩⟩)
theorem zxh : zmo zo6 := qa.1 (by decide +kernel)
theorem zwn : zmp zrM := qc.1 (by decide +kernel)
theorem zu5 : xv zog := ww.1 (by decide +kernel)
theorem zAU {pc : Nat → Int} (h : zqa pc zo6 1 = ([-1, 0, -1], 1, 0)) : savP pc zo6 1 = ([-1, 0, -1], 1) := by
  have h1 : zn8 zo6 = true := by decide +kernel
  have h2 : inB 1 0 5 = true := rfl;unfold zqa at h;rw [h1, h2] at h;have h3 : ((savP pc zo6 1).1, (((savP pc zo6 1).2 : Nat) : Int), (0 : Int)) = ([-1, 0, -1], 1, 0) := h;obtain ⟨h4, h5⟩ := Prod.mk.inj h3;have h6 := (Prod.mk.inj h5).1;exact Prod.ext h4 (by show (savP pc zo6 1).2 = 1; omega)
theorem zAn (pc : Nat → Int) : (zn6 pc zqq true).2.2 = 0 := by
  unfold zn6; rw [if_pos (by decide +kernel)]
section
variable (pc : Nat → Int) (hpc : zpd pc) (hp1 : zqa pc zo6 1 = ([-1, 0, -1], 1, 0)) (hp2 : (zn6 pc zqq true).1 = 2) (D : Imm) (hT : LibT D) (w : World) (hH : Holds D w)
include pc hpc hp1 hp2 D hT w hH
theorem ztZ : z8 Tryz.prog 115 [] w (.bool true) := by
  unfold z8;refine en Tryz.func115 rfl Tryz.ntmps115 (Inv.start hH) (g [[1]] ?_);refine WC.ofFr [] trivial (g [[5],[1,0]] ?_);refine WL.so (SO.makes (Enters.func Tryz.call180 rfl) (fun w1 hI => zxg D w1 hI.imm)) rfl ?_;rintro _ D1 _ ⟨hX1, ⟨m1, rfl, hR1⟩, rfl⟩;refine WL.so (SO.makes (Enters.func Tryz.call26 rfl) (fun w1 hI => zsg pc hpc zo6 m1 D1 hR1 zxh (hT.ext hX1) 1 rfl w1 hI.imm)) rfl ?_;rintro _ D2 _ ⟨hX2, ⟨a2, n2, c2, rfl, hS2, hn2⟩, rfl⟩;rw [zAU hp1] at hS2 ⊢;refine g [[10],[1,3,2,1,0]] ?_;refine WL.so (SO.makes (Enters.func Tryz.call181 rfl) (fun w1 hI => ztw D2 w1 hI.imm)) rfl ?_;rintro _ D3 _ ⟨hX3, ⟨m3, rfl, hR3⟩, rfl⟩;refine WL.so (SO.makes (Enters.func Tryz.call7 rfl) (fun w1 hI => zwk pc hpc true zqq m3 D3 hR3 w1 hI.imm)) rfl ?_;rintro _ D4 _ ⟨hX4, ⟨a4, n4, c4, rfl, hS4, hn4⟩, rfl⟩;rw [hp2, zAn];refine g [[10],[2,6,4,3,2,1,0]] ?_;refine WL.so (SO.buildSlice1 UnF.h SzF.h ZvF.h rfl rfl rfl (vs := [_, _, _]) rfl rfl rfl) rfl ?_;rintro _ _ _ ⟨b20, hb20, rfl, rfl, rfl⟩;refine WL.freezeN 0 b20 (.cells (List.toArray ([.int .i64 (-1), .int .i64 0, .int .i64 (-1)])) 3 (0, 0)) rfl rfl hb20 (fun D5 hX5 h20 => ?_);refine WL.cl rfl (fun w hI => zso [-1, 0, -1] [-1, 0, -1] a2 (some ⟨b20, 0, none⟩) n2 3 c2 3 D5 _ (((hS2.ext hX3).ext hX4).ext hX5) (SlL.ofBlock (l := ([-1, 0, -1] : List Int)) (f := itC) (rest := []) zqv h20) (by omega) (by omega) hI.imm) (WL.know 21 (.bool true) rfl (congrArg Value.bool (decide_eq_true rfl)) (g [[3]] ?_));refine WL.know 24 (.bool true) rfl (congrArg Value.bool (decide_eq_true rfl)) (g [[4]] ?_);refine WL.know 28 (.bool true) rfl (congrArg Value.bool (decide_eq_true rfl)) (g [[4]] ?_);refine WL.know 32 (.bool true) rfl (congrArg Value.bool (decide_eq_true rfl)) (g [[4]] ?_);refine WL.know 36 (.bool true) rfl (congrArg Value.bool (decide_eq_true rfl)) (g [[5]] ?_);refine WP.ret1 rfl rfl rfl (RV.tmp rfl) (fun w hI => ⟨rfl, hI.keep⟩)
theorem zu0 : z8 Tryz.prog 38 [] w (.bool true) := by
  unfold z8;refine en Tryz.func38 rfl Tryz.ntmps38 (Inv.start hH) (g [[1]] ?_);refine WC.ofFr [] trivial (g [[5],[1,0]] ?_);refine WL.so (SO.makes (Enters.func Tryz.call36 rfl) (fun w1 hI => zqZ D w1 hI.imm)) rfl ?_;rintro _ D1 _ ⟨hX1, ⟨m1, rfl, hR1⟩, rfl⟩;refine WL.cl rfl (fun w1 hI => (by have h9 := zuY zog m1 1 (by decide) D1 hR1 zu5 (hT.ext hX1) w1 hI.imm; rw [show zox zog ((1 : Nat) : Int) = (⟨0, 1⟩, 0) from ztq] at h9; exact h9 : z8 Tryz.prog 34 _ w1 (.tuple #[.agg #[it 0, it 1], it 0]))) (g [[3]] ?_);refine WL.so (SO.alloc ZvF.h rfl) rfl (zw fun b1 hb1 => ?_);refine g [[5],[1,2,1,0]] ?_;refine WL.so (SO.makes (Enters.func Tryz.call114 rfl) (fun w1 hI => zwm D1 w1 hI.imm)) rfl ?_;rintro _ D2 _ ⟨hX2, ⟨m2, rfl, hR2⟩, rfl⟩;refine WL.cl rfl (fun w1 hI => (by have h9 := zzr zrM m2 D2 hR2 zwn w1 hI.imm; rw [zwo] at h9; exact h9 : z8 Tryz.prog 27 _ w1 (.tuple #[it 12, it 62, it 0]))) (g [[10],[0,5,4,3,2,1,0],[3002],[1]] ?_);refine WQ.q rfl (Qt.callP CaF.h rfl (fun w hI => js _ _ _)) rfl (g [[1]] ?_);refine WL.yd (Yd.eqS EgF.h (eqSp _ _ _ _) rfl rfl) rfl (WL.know 19 (.bool true) rfl (congrArg Value.bool (decide_eq_true rfl)) (g [[3]] ?_));refine WL.know 22 (.bool true) rfl (congrArg Value.bool (decide_eq_true rfl)) (g [[4]] ?_);refine WL.know 26 (.bool true) rfl (congrArg Value.bool (decide_eq_true rfl)) (g [[4]] ?_);refine WL.know 30 (.bool true) rfl (congrArg Value.bool (decide_eq_true rfl)) (g [[4]] ?_);refine WL.know 34 (.bool true) rfl (congrArg Value.bool (decide_eq_true rfl)) (g [[2]] ?_);refine WL.sog rfl (SO.callP CaF.h rfl (fun w hI => ztZ pc hpc hp1 hp2 D2 ((hT.ext hX1).ext hX2) _ hI.imm)) rfl (zs (g [[5]] ?_));refine WP.ret1 rfl rfl rfl (RV.tmp rfl) (fun w hI => ⟨rfl, hI.keep⟩)
end
end Go.Proofs.YtaiegbjgfdhgaaaGreatDoor
namespace Go.Bk
theorem ztj : ∀ (ls : List Bs) (m : Nat), (∀ l ∈ ls, l.length ≤ m) → (unl ls).length ≤ ls.length * (m + 1)
  | [], m, _ => by simp [unl]
  | l :: ls, m, h => by
    have h1 := ztj ls m fun x hx => h x (by simp [hx]);have h2 := h l (by simp);rw [zpp, List.length_append, List.length_cons, List.length_cons, Nat.add_mul]; omega
theorem VN {α : Type} (f : α → Bs) (m : Nat) : ∀ l : List α, (∀ x ∈ l, (f x).length ≤ m) → (l.flatMap f).length ≤ l.length * m
  | [], _ => by simp
  | x :: l, h => by
    have h1 := VN f m l fun y hy => h y (by simp [hy]);have h2 := h x (by simp);rw [List.flatMap_cons, List.length_append, List.length_cons, Nat.add_mul]; omega
theorem zpm {s : Sp} (h : zn9 s) : (vX s).length ≤ 6 := by
  have h1 := KT h.1; have h2 := KT h.2;unfold vX; split <;> simp <;> omega
theorem zt9 {s : Surf} (h : zmo s) : (zmO s).length ≤ 1200 := by
  have hn := h.nhuts; have hw := h.nwater; have hv := h.same; have hr := h.rows; have hs := h.step;have n1 := KT (n := s.rows) ⟨by omega, by omega⟩; have n2 := KT (n := s.step) ⟨by omega, by omega⟩
  have cl : ∀ (l : List Sp) (hi : Int), hi < 100 → (∀ x ∈ l, spB x 0 hi = true ∧ x.hi - x.lo ≤ 3) → (l.flatMap colT).length ≤ l.length * 6 := fun l hi hh hl => VN colT 6 l fun x hx => by
    have := zoY (hl x hx).1 hh;have a := zni this.1; have b := zni this.2;simp only [colT, List.length_cons, List.length_append]; omega
  have := ztj (zpM s) 60 fun l hl => by
    simp only [zpM, List.mem_cons, List.mem_map] at hl;rcases hl with rfl | rfl | rfl | ⟨x, hx, rfl⟩
    · simp only [zsi, zpf, List.length_append, List.length_cons, List.length_nil]; omega
    · have := cl s.water 30 (by omega) h.water;simp only [znl, zo9, List.length_append, List.length_cons, List.length_nil]; omega
    · have := cl s.waves 10 (by omega) h.waves;simp only [znl, zoh, List.length_append, List.length_cons, List.length_nil]; omega
    · have hh := h.huts x hx;have a := zni (n := x.floor) ⟨by omega, by omega⟩; have b := zni (n := x.brake) ⟨by omega, by omega⟩; have c := KT (n := x.row) ⟨by omega, by omega⟩;simp only [hutT, hutW, List.length_append, List.length_cons, List.length_nil]; omega
  have h2 : (zpM s).length ≤ 8 := by simp [zpM]; omega
  unfold zmO; omega
theorem zsE {f : Flag} (h : zmp f) : (zmN f).length ≤ 1200 := by
  have h1 := h.low; have h2 := h.quiet; have h3 := h.nhours; have h4 := h.nseen;have n1 := KT (n := f.low) ⟨by omega, by omega⟩; have n2 := KT (n := f.high) ⟨by omega, by omega⟩; have n3 := KT (n := f.quiet) ⟨by omega, by omega⟩;have m1 : ∀ t, (markT t).length ≤ 1 := fun t => by unfold markT; split; simp; split <;> simp
  have e1 := VN (fun x => 32 :: zok x) 8 f.hours fun x hx => by
    have a := zpm (zoY (h.hours x hx).1 (by omega)); have b := m1 x.thunder;simp only [zok, List.length_cons, List.length_append]; omega
  have e2 := VN (fun x => 32 :: znV x) 4 f.seen fun x hx => by
    have := h.seen x hx;have a := KT (n := x.hour) ⟨by omega, by omega⟩;simp only [znV, List.length_cons, List.length_append, List.length_nil]; omega
  have := ztj (zpT f) 100 fun l hl => by
    simp only [zpT, List.mem_cons, List.not_mem_nil, or_false] at hl;rcases hl with rfl | rfl | rfl
    · simp only [zrL, zoc, List.length_append, List.length_cons, List.length_nil]; omega
    · simp only [behind, zo1, List.length_append, List.length_cons, List.length_nil]; omega
    · simp only [behind, zpW, List.length_append, List.length_cons, List.length_nil]; omega
  have h2 : (zpT f).length = 3 := rfl;unfold zmN; omega
theorem zr0 {b : xb} (h : xv b) : (zmu b).length ≤ 1200 := by
  have h1 := h.wide; have h2 := h.deep; have h3 := h.speed; have h4 := h.last; have h5 := h.n;have n1 := KT (n := b.wide) ⟨by omega, by omega⟩; have n2 := KT (n := b.deep) ⟨by omega, by omega⟩; have n3 := KT (n := b.speed) ⟨by omega, by omega⟩; have n4 := KT (n := b.last) ⟨by omega, by omega⟩
  have := ztj (zo0 b) 100 fun l hl => by
    simp only [zo0, List.mem_cons, List.mem_map] at hl;rcases hl with rfl | ⟨x, hx, rfl⟩
    · simp only [zpr, zof, List.length_append, List.length_cons, List.length_nil]; omega
    · have hl := (h.rows x hx).1
      have e1 := VN (fun y => 32 :: zn5 y) 17 x fun y hy => by
        obtain ⟨g1, g2, g3⟩ := zpg h (h.sn hx hy);have a := KT g1; have b := zpm g2; have c := zpm g3;simp only [zn5, List.length_cons, List.length_append]; omega
      simp only [behind, zoi, List.length_append, List.length_cons, List.length_nil]; omega
  have h2 : (zo0 b).length ≤ 5 := by simp [zo0]; omega
  unfold zmu; omega
theorem zsb {x : Surf} (hx : zn8 x = true) : zqL (zmO x) = (x, 0) := zro hx (zt9 (qa.1 hx))
theorem zsa {x : Flag} (hx : znf x = true) : zqJ (zmN x) = (x, 0) := zrn hx (zsE (qc.1 hx))
theorem zrm {x : xb} (hx : zmD x = true) : zpI (zmu x) = (x, 0) := zqI hx (zr0 (ww.1 hx))
structure Kind {X : Type} (is : X → Bool) (put : X → Bs) (L : X → List Bs) (c d : UInt8) : Prop where
  eq : ∀ x, put x = unl (L x)
  flat : ∀ x, is x = true → ∀ l ∈ L x, flat l
  head : ∀ x, ∃ r ls, L x = (c :: d :: r) :: ls
  big : ∀ x, ∀ l ∈ L x, ∃ e r, l = e :: r ∧ 97 ≤ e.toNat
  ne : c ≠ d
theorem zti : ∀ (ls : List Bs), ls ≠ [] → ∃ p, unl ls = p ++ [10]
  | [l], _ => ⟨l, by simp [unl]⟩
  | l :: m :: ls, _ => by
    obtain ⟨p, hp⟩ := zti (m :: ls) (by simp);exact ⟨l ++ 10 :: p, by rw [zpp, hp]; simp⟩
section
variable {X : Type} {is : X → Bool} {put : X → Bs} {L : X → List Bs} {c d : UInt8} (K : Kind is put L c d)
include K
theorem Kind.last (x : X) : ∃ p, put x = p ++ [10] := by
  obtain ⟨r, ls, e⟩ := K.head x;rw [K.eq]; exact zti _ (by rw [e]; simp)
end
theorem znp {X : Type} {z : X} {take : X → Nat → Bs → Option X} {is : X → Bool} {put : X → Bs} {s : Bs} (h : ∀ y, is y = true → put y ≠ s) : (zmY z take is put s).2 = if 1200 < s.length then 3 else 8 := by
  by_cases e : (zmY z take is put s).2 = 0
  · obtain ⟨x, hx⟩ := zvj e;obtain ⟨h1, h2, _⟩ := zwW hx;exact absurd h2 (h x h1)
  · rw [zwV e]
end Go.Bk
namespace Go.Proofs.YtaiegbjgfdhgaaaGreatDoor
open Go.W Go.Bk
def zx6 : Bs := [126, 126, 1, 200, 128, 129, 127, 84, 221]
def spoX : Bs := [126, 126, 1, 190, 128, 129, 127, 84, 221]
def zu4 : Bs := [98, 111, 97, 116, 115, 32, 54, 120, 52, 32, 118, 49, 32, 116, 54, 10, 98, 111, 97, 116, 32, 48, 64, 48, 44, 51, 32, 52, 64, 50, 44, 50, 46, 46, 51, 10, 98, 111, 97, 116, 32, 50, 64, 51, 46, 46, 52, 44, 49, 32, 53, 64, 53, 44, 48, 46, 46, 51, 10]
theorem aw3 : wrO zmD zmu zog = (zu4, 0) := by kernel_rfl
theorem aw7 : znx spoX = (zx6, 0) := by kernel_rfl
theorem zsu {D : Imm} {b : Nat} {l : Bs} {t : TypeId} {fz : Nat × Nat} (h : D b = some (.cells (l.flatMap btC ++ []).toArray t fz)) : SlL D 1 (l.map btC) (some ⟨b, 0, none⟩) l.length := SlL.ofBlock (l := l) (f := btC) (m := 1) (rest := []) znK h
theorem zyQ (l : Bs) (a : Option Addr) (n c : Nat) (D : Imm) (hS : SlL D 1 (l.map btC) a n) (hn : n ≤ 2 ^ 19) (hc : n ≤ c) (w : World) (hH : Holds D w) : y6 Tryz.prog 9 [.slice a n c] w D (fun v D' => ∃ a' n' c', v = .tuple #[.slice a' n' c', it (znx l).2] ∧ SlL D' 1 ((znx l).1.map btC) a' n' ∧ n' ≤ c') :=
  Calls.mono (zA8 l a n c D hS hn hc w hH) fun e w1 ⟨v, D', h', h1, h2, h3, h4, h5⟩ => by
    obtain rfl := h4;rcases h5 with ⟨e0, b, rfl, rfl, hb⟩ | ⟨e0, e1, rfl, rfl⟩
    · refine ⟨_, _, h1, h3.keep, h3.freeze.imm, (DExt.refl w D).add (h3.apart _ _ (List.mem_cons_self)) hb, _, _, _, by rw [e0], SlL.ofBlock (f := btC) (m := 1) (rest := []) znK (Imm.add_self _ _ _), Nat.le_refl _⟩
    exact ⟨_, _, h1, h3.keep, h3.imm, h2, none, 0, 0, rfl, by rw [e1]; exact SlL.nil _ _, Nat.le_refl _⟩
set_option maxRecDepth 100000 in
set_option maxHeartbeats 4000000 in
theorem znZ (pc : Nat → Int) (hpc : zpd pc) (hp1 : zqa pc zo6 1 = ([-1, 0, -1], 1, 0)) (hp2 : (zn6 pc zqq true).1 = 2) (D : Imm) {kM : Bool} (hL : LibD kM D) (hT : LibT D) (w : World) (hH : Holds D w) : z8 Tryz.prog 5 [] w (.bool true) := by
  unfold z8;refine en Tryz.func5 rfl Tryz.ntmps5 (Inv.start hH) (g [[1]] ?_);refine WC.ofFr [] trivial (g [[5],[1,0]] ?_);refine WL.so (SO.makes (Enters.func Tryz.call36 rfl) (fun w1 hI => zqZ D w1 hI.imm)) rfl ?_;rintro _ D1 _ ⟨hX1, ⟨m1, rfl, hR1⟩, rfl⟩;refine WL.cl rfl (fun w1 hI => (by have h9 := zp3 zog m1 D1 (hL.ext hX1) hR1 w1 hI.imm; rw [aw3] at h9; exact h9 : z8 Tryz.prog 22 _ w1 (.tuple #[st zu4, it 0]))) (g [[8],[1,2,1,0]] ?_);refine WL.so (SO.buildSlice1 UnF.h SzF.h ZvF.h rfl rfl rfl (vs := [_, _, _, _, _, _, _, _, _]) rfl rfl rfl) rfl ?_;rintro _ _ _ ⟨b11, hb11, rfl, rfl, rfl⟩;refine WL.freezeN 0 b11 (.cells (List.toArray (spoX.flatMap btC ++ [])) 5 (0, 0)) rfl rfl hb11 (fun D2 hX2 h11 => ?_);refine WL.so (SO.makes (Enters.func Tryz.call9 rfl) (fun w1 hI => zyQ spoX (some ⟨b11, 0, none⟩) 9 9 D2 (zsu h11) (by omega) (by omega) w1 hI.imm)) rfl ?_;rintro _ D3 _ ⟨hX3, ⟨a3, n3, c3, rfl, hS3, hc3⟩, rfl⟩;rw [aw7] at hS3 ⊢;refine g [[8],[2,4,3,2,1,0]] ?_;refine WL.yd (Yd.eqS' rfl rfl) rfl (WL.know 16 (.bool true) rfl (congrArg Value.bool (decide_eq_true rfl)) (g [[3]] ?_));refine WL.know 19 (.bool true) rfl (congrArg Value.bool (decide_eq_true rfl)) (g [[3]] ?_);refine WL.sog rfl (SO.buildSlice1 UnF.h SzF.h ZvF.h rfl rfl rfl (vs := [_, _, _, _, _, _, _, _, _]) rfl rfl rfl) rfl ?_;rintro _ _ _ ⟨b23, hb23, rfl, rfl, rfl⟩;refine WL.freezeN 0 b23 (.cells (List.toArray (zx6.flatMap btC ++ [])) 5 (0, 0)) rfl rfl hb23 (fun D4 hX4 h23 => ?_);refine WL.sog rfl (SO.callP CaF.h rfl (fun w hI => zxZ zx6 zx6 a3 (some ⟨b23, 0, none⟩) n3 9 c3 9 D4 (hS3.ext hX4) (zsu h23) _ hI.imm)) rfl (zs ?_);refine WL.know 24 (.bool true) rfl (congrArg Value.bool (decide_eq_true rfl)) (g [[4]] ?_);refine WL.know 28 (.bool true) rfl (congrArg Value.bool (decide_eq_true rfl)) (g [[2]] ?_);refine WL.sog rfl (SO.callP CaF.h rfl (fun w hI => zu0 pc hpc hp1 hp2 D4 ((((hT.ext hX1).ext hX2).ext hX3).ext hX4) _ hI.imm)) rfl (zs (g [[5]] ?_));refine WP.ret1 rfl rfl rfl (RV.tmp rfl) (fun w hI => ⟨rfl, hI.keep⟩)
end Go.Proofs.YtaiegbjgfdhgaaaGreatDoor
