import Derived.Test.YtaiegbjgfdhgaaaGreatDoorXG6
import Derived.Test.YtaiegbjgfdhgaaaGreatDoorXG5
import Derived.Test.YtaiegbjgfdhgaaaGreatDoorXG4
import Derived.Test.YtaiegbjgfdhgaaaGreatDoorXG3
import Derived.Test.YtaiegbjgfdhgaaaGreatDoorXG1
import Derived.Test.YtaiegbjgfdhgaaaGreatDoorXG2
set_option linter.all false
set_option maxRecDepth 100000
set_option maxHeartbeats 4000000
attribute [local irreducible] Go.W.WL Go.W.WLF Go.W.WC Go.W.WCF Go.W.WP Go.W.WA Go.W.WQ Go.W.WH Go.W.WHo Go.W.WCn Go.W.Yd Go.W.Qt Go.W.SO Go.Code.wp Go.Code.wpIn
namespace Go.Proofs.YtaiegbjgfdhgaaaGreatDoor
open Go.W Go.Bk
theorem SA49 : zj Tryz.prog 49 [.int .i64 0, .int .i64 0, .slice none 0 0, .slice none 0 0, .slice none 0 0] [(0, 1), (1, 1), (2, 1), (3, 1), (4, 1)] := ⟨⟨_, Tryz.zeroValue49, rfl⟩, _, Tryz.underlying49, fun w => by simp [Tryz.sizeOf3, Tryz.sizeOf46, Tryz.sizeOf47]⟩
abbrev zdA := SaF.mk SA49
attribute [instance] zdA
theorem zqs {l1 l2 : List Int} (hl : l1.length = l2.length) (h : ∀ i, i < l1.length → gt l1 i = gt l2 i) : l1 = l2 := by
  apply List.ext_getElem hl;intro i h1 h2;have := h i h1;simpa [gt, List.getD, h1, h2] using this
theorem zou {l1 l2 : List Int} {k : Nat} (h : ∀ i, i < k → gt l1 i = gt l2 i) (e : gt l1 k = gt l2 k) : ∀ i, i < k + 1 → gt l1 i = gt l2 i := fun i hi => by
  rcases Nat.lt_or_ge i k with h1 | h1
  · exact h i h1
  rw [show i = k by omega]; exact e
theorem eqSp (a b c d : Int) : ∀ w, (Op.equalIn 10000 81 (.agg #[.int .i64 a, .int .i64 b]) (.agg #[.int .i64 c, .int .i64 d])).run Tryz.prog w = .ok (decide ((⟨a, b⟩ : Sp) = ⟨c, d⟩)) w := by
  intro w
  have h1 : (Op.equalIn 10000 81 (.agg #[.int .i64 a, .int .i64 b]) (.agg #[.int .i64 c, .int .i64 d])).run Tryz.prog w = .ok (a == c && b == d) w := by
    simp [go_sem, Op.eqFields];by_cases h : a = c <;> by_cases h' : b = d <;> simp [h, h']
  have h2 : (a == c && b == d) = decide ((⟨a, b⟩ : Sp) = ⟨c, d⟩) := by
    rw [Bool.eq_iff_iff]; simp only [Bool.and_eq_true, beq_iff_eq, decide_eq_true_eq, Sp.mk.injEq]
  rw [h1, h2]
section
variable (l1 l2 : List Int) (a1 a2 : Option Addr) (n1 n2 c1 c2 : Nat) (D : Imm) (w : World) (hS1 : SlL D 1 (l1.map itC) a1 n1) (hS2 : SlL D 1 (l2.map itC) a2 n2) (hb1 : n1 ≤ 1000) (hb2 : n2 ≤ 1000) (hH : Holds D w)
include l1 l2 a1 a2 n1 n2 c1 c2 D w hS1 hS2 hb1 hb2 hH
theorem zsV : z8 Tryz.prog 15 [.slice a1 n1 c1, .slice a2 n2 c2] w (.bool (decide (l1 = l2))) := by
  unfold z8;obtain rfl := hS1.len';obtain rfl := hS2.len';refine en Tryz.func15 rfl Tryz.ntmps15 (Inv.start hH) (g [[1],[6,0,1],[8,4,0,1]] ?_);refine WC.cond rfl (fun c10 => ?_) (fun c10 => ?_)
  · try simp only [zq] at c10
    refine g [[1],[6,4,0,1]] ?_;refine WP.ret1 rfl rfl rfl (RV.tmp rfl) (fun w hI => ⟨zb (Eq.symm (decide_eq_false fun e => c10 (by rw [e]))), hI.keep⟩)
  try simp only [zq] at c10
  obtain hle : l1.length = l2.length := by omega
  rw [← hle];rw [← hle] at hS2;refine g [[4],[5,4,0,1]] ?_;refine WC.loopF (fun k : Nat => [(0, .slice a1 l1.length c1), (1, .slice a2 l1.length c2), (5, nt k)]) (fun k => k ≤ l1.length ∧ ∀ i, i < k → gt l1 i = gt l2 i) (fun k => l1.length - k) 0 ⟨by omega, by intro i hi; omega⟩ ⟨rfl, rfl, rfl, trivial⟩ ?_;intro k ⟨hk, hd⟩;refine g [[2],[7,0,1,5]] ?_;refine WC.cond rfl (fun c14 => ?_) (fun c14 => ?_)
  · try simp only [zq] at c14
    have hkl : k < l1.length := by omega
    refine g [[5],[0,0,1,5],[3008],[2]] ?_;refine WQ.q rfl (Yd.qt (Yd.ix rfl rfl (hS1.addr k (by omega)))) rfl (WQ.q rfl (Yd.qt (Yd.l1 rfl ((hS1.at k (by omega)).rd 0 rfl))) rfl (g [[2]] ?_));refine WQ.q rfl (Yd.qt (Yd.ix rfl rfl (hS2.addr k (by omega)))) rfl (WQ.q rfl (Yd.qt (Yd.l1 rfl ((hS2.at k (by omega)).rd 0 rfl))) rfl (g [[4]] ?_));refine WC.cond rfl (fun c25 => ?_) (fun c25 => ?_)
    · try simp only [zq] at c25
      refine g [[1],[10,0,1,5]] ?_;refine WP.ret1 rfl rfl rfl (RV.tmp rfl) (fun w hI => ⟨zb (Eq.symm (decide_eq_false fun e => c25 (by rw [e]))), hI.keep⟩)
    try simp only [zq] at c25
    refine g [[3],[2,0,1,5]] ?_;refine WL.yd (Yd.addN (i := k) (j := 1) rfl rfl (by omega)) rfl (g [[2]] ?_);exact WP.againF (k + 1) ⟨by omega, zou hd (Classical.not_not.1 c25)⟩ (by omega) ⟨rfl, rfl, rfl, trivial⟩ (fun _ h => h) (fun h => h)
  try simp only [zq] at c14
  obtain rfl : k = l1.length := by omega
  refine g [[6]] ?_;refine WC.ofFr [] trivial (g [[5]] ?_);refine WP.ret1 rfl rfl rfl (RV.tmp rfl) (fun w hI => ⟨zb (Eq.symm (decide_eq_true (zqs hle hd))), hI.keep⟩)
theorem zsW : z8 Tryz.prog 30 [.slice a1 n1 c1, .slice a2 n2 c2] w (.bool (decide (l1 = l2))) := by
  unfold z8;obtain rfl := hS1.len';obtain rfl := hS2.len';refine en Tryz.func30 rfl Tryz.ntmps30 (Inv.start hH) (g [[1],[6,0,1],[8,4,0,1]] ?_);refine WC.cond rfl (fun c10 => ?_) (fun c10 => ?_)
  · try simp only [zq] at c10
    refine g [[1],[6,4,0,1]] ?_;refine WP.ret1 rfl rfl rfl (RV.tmp rfl) (fun w hI => ⟨zb (Eq.symm (decide_eq_false fun e => c10 (by rw [e]))), hI.keep⟩)
  try simp only [zq] at c10
  obtain hle : l1.length = l2.length := by omega
  rw [← hle];rw [← hle] at hS2;refine g [[4],[5,4,0,1]] ?_;refine WC.loopF (fun k : Nat => [(0, .slice a1 l1.length c1), (1, .slice a2 l1.length c2), (5, nt k)]) (fun k => k ≤ l1.length ∧ ∀ i, i < k → gt l1 i = gt l2 i) (fun k => l1.length - k) 0 ⟨by omega, by intro i hi; omega⟩ ⟨rfl, rfl, rfl, trivial⟩ ?_;intro k ⟨hk, hd⟩;refine g [[2],[7,0,1,5]] ?_;refine WC.cond rfl (fun c14 => ?_) (fun c14 => ?_)
  · try simp only [zq] at c14
    have hkl : k < l1.length := by omega
    refine g [[5],[0,0,1,5],[3008],[2]] ?_;refine WQ.q rfl (Yd.qt (Yd.ix rfl rfl (hS1.addr k (by omega)))) rfl (WQ.q rfl (Yd.qt (Yd.l1 rfl ((hS1.at k (by omega)).rd 0 rfl))) rfl (g [[2]] ?_));refine WQ.q rfl (Yd.qt (Yd.ix rfl rfl (hS2.addr k (by omega)))) rfl (WQ.q rfl (Yd.qt (Yd.l1 rfl ((hS2.at k (by omega)).rd 0 rfl))) rfl (g [[4]] ?_));refine WC.cond rfl (fun c25 => ?_) (fun c25 => ?_)
    · try simp only [zq] at c25
      refine g [[1],[10,0,1,5]] ?_;refine WP.ret1 rfl rfl rfl (RV.tmp rfl) (fun w hI => ⟨zb (Eq.symm (decide_eq_false fun e => c25 (by rw [e]))), hI.keep⟩)
    try simp only [zq] at c25
    refine g [[3],[2,0,1,5]] ?_;refine WL.yd (Yd.addN (i := k) (j := 1) rfl rfl (by omega)) rfl (g [[2]] ?_);exact WP.againF (k + 1) ⟨by omega, zou hd (Classical.not_not.1 c25)⟩ (by omega) ⟨rfl, rfl, rfl, trivial⟩ (fun _ h => h) (fun h => h)
  try simp only [zq] at c14
  obtain rfl : k = l1.length := by omega
  refine g [[6]] ?_;refine WC.ofFr [] trivial (g [[5]] ?_);refine WP.ret1 rfl rfl rfl (RV.tmp rfl) (fun w hI => ⟨zb (Eq.symm (decide_eq_true (zqs hle hd))), hI.keep⟩)
end
theorem ww (a b : Int) (w : World) : z8 Tryz.prog 113 [it a, it b] w (.agg #[it a, it b]) := by
  unfold z8;refine en Tryz.func113 rfl Tryz.ntmps113 zI (g [[1],[1,0,1]] ?_);refine WL.so (SO.alloc ZvF.h rfl) rfl (zw fun b4 hb4 => ?_);refine g [[3],[8,4,0,1]] ?_;refine WP.ret1 rfl rfl rfl (RV.cellN AgF.h SzF.h rfl (vs := [_, _]) rfl (RdN.own (k := 0) (n := 2) rfl rfl)) (fun w hI => ⟨rfl, hI.keep⟩)
theorem zu4 (D : Imm) (w : World) (hH : Holds D w) : y6 Tryz.prog 180 [] w D (fun v D' => ∃ m, v = zu5 znj m ∧ znP D' znj m) := by
  unfold y6;refine en Tryz.func180 rfl Tryz.ntmps180 (Inv.start hH) (g [[1]] ?_);refine WC.ofFr [] trivial (g [[1]] ?_);refine WL.so (SO.alloc ZvF.h rfl) rfl (zw fun b0 hb0 => ?_);refine g [[3],[1,0]] ?_;refine WL.cl rfl (fun w hI => ww _ _ _) (WL.cl rfl (fun w hI => ww _ _ _) ?_);refine WL.cl rfl (fun w hI => ww _ _ _) (WL.cl rfl (fun w hI => ww _ _ _) ?_);refine WL.so (SO.buildSlice UnF.h SzF.h ZvF.h rfl rfl rfl rfl (cs := [_, _, _, _, _, _, _, _]) rfl) rfl ?_;rintro _ _ _ ⟨b5, hb5, rfl, rfl, rfl⟩;refine WL.cl rfl (fun w hI => ww _ _ _) (WL.cl rfl (fun w hI => ww _ _ _) ?_);refine WL.cl rfl (fun w hI => ww _ _ _) (WL.cl rfl (fun w hI => ww _ _ _) ?_);refine WL.so (SO.buildSlice UnF.h SzF.h ZvF.h rfl rfl rfl rfl (cs := [_, _, _, _, _, _, _, _]) rfl) rfl ?_;rintro _ _ _ ⟨b10, hb10, rfl, rfl, rfl⟩;refine g [[3]] ?_;refine WL.so (SO.buildSlice UnF.h SzF.h ZvF.h rfl rfl rfl rfl (cs := [_, _, _, _, _, _, _, _, _]) rfl) rfl ?_;rintro _ _ _ ⟨b14, hb14, rfl, rfl, rfl⟩;refine g [[1]] ?_;refine WL.freezeK 0 rfl (fun hn14 => ?_);have hF14 := fun o => (DExt.refl w D).add (o := o) hn14 hb14;refine WL.freezeK 0 rfl (fun hn10 => ?_);have hF10 := fun o => (DExt.refl w _).add (o := o) hn10 hb10;refine WL.freezeK 0 rfl (fun hn5 => ?_);have hF5 := fun o => (DExt.refl w _).add (o := o) hn5 hb5;refine g [[4]] ?_;refine WP.ret1 rfl rfl rfl (RV.cellN AgF.h SzF.h rfl (vs := [_, _, _, _, _]) rfl (RdN.own (k := 0) (n := 5) rfl rfl)) (fun w1 hI => ⟨_, _, rfl, hI.keep, hI.imm, (((hF14 _).trans (hF10 _) (Nat.le_refl _)).trans (hF5 _) (Nat.le_refl _)), ⟨⟨some ⟨b5, 0, none⟩, 4, 4⟩, ⟨some ⟨b10, 0, none⟩, 4, 4⟩, ⟨some ⟨b14, 0, none⟩, 3, 3⟩⟩, rfl, ⟨(SlL.ofBlock (l := znj.water) (f := spC) (m := 2) (rest := []) (fun _ => rfl) (Imm.add_self _ _ _)), (SlL.ofBlock (l := znj.waves) (f := spC) (m := 2) (rest := []) (fun _ => rfl) (Imm.add_self _ _ _)).ext (hF5 _), (SlL.ofBlock (l := znj.huts) (f := hutC) (m := 3) (rest := []) (fun _ => rfl) (Imm.add_self _ _ _)).ext ((hF10 _).trans (hF5 _) (Nat.le_refl _)), (zqb rfl), (zqb rfl), (zqb rfl)⟩⟩)
theorem SA53 : zj Tryz.prog 53 [.int .i64 0, .int .i64 0, .int .i64 0, .slice none 0 0, .slice none 0 0] [(0, 1), (1, 1), (2, 1), (3, 1), (4, 1)] := ⟨⟨_, Tryz.zeroValue53, rfl⟩, _, Tryz.underlying53, fun w => by simp [Tryz.sizeOf3, Tryz.sizeOf50, Tryz.sizeOf51]⟩
abbrev zyp := SaF.mk SA53
attribute [instance] zyp
theorem SA56 : zj Tryz.prog 56 [.int .i64 0, .int .i64 0, .int .i64 0, .int .i64 0, .slice none 0 0] [(0, 1), (1, 1), (2, 1), (3, 1), (4, 1)] := ⟨⟨_, Tryz.zeroValue56, rfl⟩, _, Tryz.underlying56, fun w => by simp [Tryz.sizeOf3, Tryz.sizeOf54]⟩
abbrev zyq := SaF.mk SA56
attribute [instance] zyq
set_option maxRecDepth 100000 in
set_option maxHeartbeats 6000000 in
theorem zqY (D : Imm) (w : World) (hH : Holds D w) : y6 Tryz.prog 181 [] w D (fun v D' => ∃ m, v = k3 zoU m ∧ Ky D' zoU m) := by
  unfold y6;refine en Tryz.func181 rfl Tryz.ntmps181 (Inv.start hH) (g [[1]] ?_);refine WC.ofFr [] trivial (g [[1]] ?_);refine WL.so (SO.alloc ZvF.h rfl) rfl (zw fun b0 hb0 => ?_);refine g [[3],[1,0]] ?_;refine WL.cl rfl (fun w hI => ww _ _ _) (g [[1]] ?_);refine WL.cl rfl (fun w hI => ww _ _ _) (g [[1]] ?_);refine WL.cl rfl (fun w hI => ww _ _ _) (g [[1]] ?_);refine WL.cl rfl (fun w hI => ww _ _ _) (g [[1]] ?_);refine WL.so (SO.buildSlice UnF.h SzF.h ZvF.h rfl rfl rfl rfl (cs := [_, _, _, _, _, _, _, _, _, _, _, _, _, _, _, _]) rfl) rfl ?_;rintro _ _ _ ⟨b9, hb9, rfl, rfl, rfl⟩;refine g [[1]] ?_;refine WL.freezeK 0 rfl (fun hn9 => ?_);have hF9 := fun o => (DExt.refl w D).add (o := o) hn9 hb9;refine g [[4]] ?_;refine WP.ret1 rfl rfl rfl (RV.cellN AgF.h SzF.h rfl (vs := [_, _]) rfl (RdN.own (k := 0) (n := 2) rfl rfl)) (fun w1 hI => ⟨_, _, rfl, hI.keep, hI.imm, (hF9 _), ⟨some ⟨b9, 0, none⟩, 4, 4⟩, rfl, ⟨(SlL.ofBlock (l := zoU.moves) (f := mvC) (m := 4) (rest := []) (fun _ => rfl) (Imm.add_self _ _ _)), (zqb rfl)⟩⟩)
set_option maxRecDepth 100000 in
set_option maxHeartbeats 6000000 in
theorem ztf (D : Imm) (w : World) (hH : Holds D w) : y6 Tryz.prog 114 [] w D (fun v D' => ∃ m, v = zrt zpR m ∧ zpN D' zpR m) := by
  unfold y6;refine en Tryz.func114 rfl Tryz.ntmps114 (Inv.start hH) (g [[1]] ?_);refine WC.ofFr [] trivial (g [[1]] ?_);refine WL.so (SO.alloc ZvF.h rfl) rfl (zw fun b0 hb0 => ?_);refine g [[3],[1,0]] ?_;refine WL.cl rfl (fun w hI => ww _ _ _) (g [[1]] ?_);refine WL.cl rfl (fun w hI => ww _ _ _) (g [[1]] ?_);refine WL.cl rfl (fun w hI => ww _ _ _) (g [[1]] ?_);refine WL.cl rfl (fun w hI => ww _ _ _) (g [[1]] ?_);refine WL.cl rfl (fun w hI => ww _ _ _) (g [[1]] ?_);refine WL.cl rfl (fun w hI => ww _ _ _) (g [[1]] ?_);refine WL.so (SO.buildSlice UnF.h SzF.h ZvF.h rfl rfl rfl rfl (cs := [_, _, _, _, _, _, _, _, _, _, _, _, _, _, _, _, _, _]) rfl) rfl ?_;rintro _ _ _ ⟨b13, hb13, rfl, rfl, rfl⟩;refine g [[1]] ?_;refine WL.so (SO.buildSlice UnF.h SzF.h ZvF.h rfl rfl rfl rfl (cs := [_, _]) rfl) rfl ?_;rintro _ _ _ ⟨b15, hb15, rfl, rfl, rfl⟩;refine g [[1]] ?_;refine WL.freezeK 0 rfl (fun hn15 => ?_);have hF15 := fun o => (DExt.refl w D).add (o := o) hn15 hb15;refine WL.freezeK 0 rfl (fun hn13 => ?_);have hF13 := fun o => (DExt.refl w _).add (o := o) hn13 hb13;refine g [[4]] ?_;refine WP.ret1 rfl rfl rfl (RV.cellN AgF.h SzF.h rfl (vs := [_, _, _, _, _]) rfl (RdN.own (k := 0) (n := 5) rfl rfl)) (fun w1 hI => ⟨_, _, rfl, hI.keep, hI.imm, ((hF15 _).trans (hF13 _) (Nat.le_refl _)), ⟨⟨some ⟨b13, 0, none⟩, 6, 6⟩, ⟨some ⟨b15, 0, none⟩, 1, 1⟩⟩, rfl, ⟨(SlL.ofBlock (l := zpR.hours) (f := zts) (m := 3) (rest := []) (fun _ => rfl) (Imm.add_self _ _ _)), (SlL.ofBlock (l := zpR.seen) (f := zsr) (m := 2) (rest := []) (fun _ => rfl) (Imm.add_self _ _ _)).ext (hF13 _), (zqb rfl), (zqb rfl)⟩⟩)
set_option maxRecDepth 100000 in
set_option maxHeartbeats 6000000 in
theorem zpg (D : Imm) (w : World) (hH : Holds D w) : y6 Tryz.prog 36 [] w D (fun v D' => ∃ m, v = znc znt m ∧ zmz D' znt m) := by
  unfold y6;refine en Tryz.func36 rfl Tryz.ntmps36 (Inv.start hH) (g [[1]] ?_);refine WC.ofFr [] trivial (g [[1]] ?_);refine WL.so (SO.alloc ZvF.h rfl) rfl (zw fun b0 hb0 => ?_);refine g [[3],[1,0]] ?_;refine WL.cl rfl (fun w hI => ww _ _ _) (WL.cl rfl (fun w hI => ww _ _ _) (g [[1]] ?_));refine WL.cl rfl (fun w hI => ww _ _ _) (WL.cl rfl (fun w hI => ww _ _ _) (g [[1]] ?_));refine WL.so (SO.buildSlice UnF.h SzF.h ZvF.h rfl rfl rfl rfl (cs := [_, _, _, _, _, _, _, _, _, _]) rfl) rfl ?_;rintro _ _ _ ⟨b7, hb7, rfl, rfl, rfl⟩;refine WL.cl rfl (fun w hI => ww _ _ _) (WL.cl rfl (fun w hI => ww _ _ _) (g [[1]] ?_));refine WL.cl rfl (fun w hI => ww _ _ _) (WL.cl rfl (fun w hI => ww _ _ _) (g [[1]] ?_));refine WL.so (SO.buildSlice UnF.h SzF.h ZvF.h rfl rfl rfl rfl (cs := [_, _, _, _, _, _, _, _, _, _]) rfl) rfl ?_;rintro _ _ _ ⟨b14, hb14, rfl, rfl, rfl⟩;refine WL.so (SO.buildSlice1 UnF.h SzF.h ZvF.h rfl rfl rfl (vs := [_, _]) rfl rfl rfl) rfl ?_;rintro _ _ _ ⟨b15, hb15, rfl, rfl, rfl⟩;refine g [[1]] ?_;refine WL.freezeK 0 rfl (fun hn15 => ?_);have hF15 := fun o => (DExt.refl w D).add (o := o) hn15 hb15;refine WL.freezeK 0 rfl (fun hn14 => ?_);have hF14 := fun o => (DExt.refl w _).add (o := o) hn14 hb14;refine WL.freezeK 0 rfl (fun hn7 => ?_);have hF7 := fun o => (DExt.refl w _).add (o := o) hn7 hb7;refine g [[4]] ?_;refine WP.ret1 rfl rfl rfl (RV.cellN AgF.h SzF.h rfl (vs := [_, _, _, _, _]) rfl (RdN.own (k := 0) (n := 5) rfl rfl)) (fun w1 hI => ⟨_, _, rfl, hI.keep, hI.imm, (((hF15 _).trans (hF14 _) (Nat.le_refl _)).trans (hF7 _) (Nat.le_refl _)), ⟨⟨some ⟨b15, 0, none⟩, 2, 2⟩, [⟨some ⟨b7, 0, none⟩, 2, 2⟩, ⟨some ⟨b14, 0, none⟩, 2, 2⟩]⟩, rfl, ⟨(SlL.ofBlock (l := [⟨some ⟨b7, 0, none⟩, 2, 2⟩, ⟨some ⟨b14, 0, none⟩, 2, 2⟩]) (f := slC) (m := 1) (rest := []) (fun _ => rfl) (Imm.add_self _ _ _)).ext ((hF14 _).trans (hF7 _) (Nat.le_refl _)), rfl, fun i hi => by match i, hi with | 0, _ => exact (SlL.ofBlock (l := gt znt.seen 0) (f := bsC) (m := 5) (rest := []) (fun _ => rfl) (Imm.add_self _ _ _)) | 1, _ => exact (SlL.ofBlock (l := gt znt.seen 1) (f := bsC) (m := 5) (rest := []) (fun _ => rfl) (Imm.add_self _ _ _)).ext (hF7 _), (zqb rfl), fun i hi => by match i, hi with | 0, _ => exact (zqb rfl) | 1, _ => exact (zqb rfl)⟩⟩)
theorem zu6 : zmq znj := zpJ.1 (by decide +kernel)
theorem zth : K5 zpR := zpl.1 (by decide +kernel)
theorem zrk : xv znt := znT.1 (by decide +kernel)
theorem zy5 {pc : Nat → Int} (h : zoE pc znj 1 = ([-1, 0, -1], 1, 0)) : savP pc znj 1 = ([-1, 0, -1], 1) := by
  have h1 : zsB znj = true := by decide +kernel
  have h2 : inB 1 0 5 = true := rfl;unfold zoE at h;rw [h1, h2] at h;have h3 : ((savP pc znj 1).1, (((savP pc znj 1).2 : Nat) : Int), (0 : Int)) = ([-1, 0, -1], 1, 0) := h;obtain ⟨h4, h5⟩ := Prod.mk.inj h3;have h6 := (Prod.mk.inj h5).1;exact Prod.ext h4 (by show (savP pc znj 1).2 = 1; omega)
theorem zxr (pc : Nat → Int) : (KT pc zoU true).2.2 = 0 := by
  unfold KT; rw [if_pos (by decide +kernel)]
section
variable (pc : Nat → Int) (hpc : zmW pc) (hp1 : zoE pc znj 1 = ([-1, 0, -1], 1, 0)) (hp2 : (KT pc zoU true).1 = 2) (D : Imm) (hT : LibT D) (w : World) (hH : Holds D w)
include pc hpc hp1 hp2 D hT w hH
theorem zrd : z8 Tryz.prog 115 [] w (.bool true) := by
  unfold z8;refine en Tryz.func115 rfl Tryz.ntmps115 (Inv.start hH) (g [[1]] ?_);refine WC.ofFr [] trivial (g [[5],[1,0]] ?_);refine WL.so (SO.makes (Enters.func Tryz.call180 rfl) (fun w1 hI => zu4 D w1 hI.imm)) rfl ?_;rintro _ D1 _ ⟨hX1, ⟨m1, rfl, hR1⟩, rfl⟩;refine WL.so (SO.makes (Enters.func Tryz.call26 rfl) (fun w1 hI => zw7 pc hpc znj m1 D1 hR1 zu6 (hT.ext hX1) 1 rfl w1 hI.imm)) rfl ?_;rintro _ D2 _ ⟨hX2, ⟨a2, n2, c2, rfl, hS2, hn2⟩, rfl⟩;rw [zy5 hp1] at hS2 ⊢;refine g [[10],[1,3,2,1,0]] ?_;refine WL.so (SO.makes (Enters.func Tryz.call181 rfl) (fun w1 hI => zqY D2 w1 hI.imm)) rfl ?_;rintro _ D3 _ ⟨hX3, ⟨m3, rfl, hR3⟩, rfl⟩;refine WL.so (SO.makes (Enters.func Tryz.call7 rfl) (fun w1 hI => zoP pc hpc true zoU m3 D3 hR3 w1 hI.imm)) rfl ?_;rintro _ D4 _ ⟨hX4, ⟨a4, n4, c4, rfl, hS4, hn4⟩, rfl⟩;rw [hp2, zxr];refine g [[10],[2,6,4,3,2,1,0]] ?_;refine WL.so (SO.buildSlice1 UnF.h SzF.h ZvF.h rfl rfl rfl (vs := [_, _, _]) rfl rfl rfl) rfl ?_;rintro _ _ _ ⟨b20, hb20, rfl, rfl, rfl⟩;refine WL.freezeN 0 b20 (.cells (List.toArray ([.int .i64 (-1), .int .i64 0, .int .i64 (-1)])) 3 (0, 0)) rfl rfl hb20 (fun D5 hX5 h20 => ?_);refine WL.cl rfl (fun w hI => zsW [-1, 0, -1] [-1, 0, -1] a2 (some ⟨b20, 0, none⟩) n2 3 c2 3 D5 _ (((hS2.ext hX3).ext hX4).ext hX5) (SlL.ofBlock (l := ([-1, 0, -1] : List Int)) (f := itC) (rest := []) zoV h20) (by omega) (by omega) hI.imm) (WL.know 21 (.bool true) rfl (congrArg Value.bool (decide_eq_true rfl)) (g [[3]] ?_));refine WL.know 24 (.bool true) rfl (congrArg Value.bool (decide_eq_true rfl)) (g [[4]] ?_);refine WL.know 28 (.bool true) rfl (congrArg Value.bool (decide_eq_true rfl)) (g [[4]] ?_);refine WL.know 32 (.bool true) rfl (congrArg Value.bool (decide_eq_true rfl)) (g [[4]] ?_);refine WL.know 36 (.bool true) rfl (congrArg Value.bool (decide_eq_true rfl)) (g [[5]] ?_);refine WP.ret1 rfl rfl rfl (RV.tmp rfl) (fun w hI => ⟨rfl, hI.keep⟩)
theorem zre : z8 Tryz.prog 38 [] w (.bool true) := by
  unfold z8;refine en Tryz.func38 rfl Tryz.ntmps38 (Inv.start hH) (g [[1]] ?_);refine WC.ofFr [] trivial (g [[5],[1,0]] ?_);refine WL.so (SO.makes (Enters.func Tryz.call36 rfl) (fun w1 hI => zpg D w1 hI.imm)) rfl ?_;rintro _ D1 _ ⟨hX1, ⟨m1, rfl, hR1⟩, rfl⟩;refine WL.cl rfl (fun w1 hI => (by have h9 := zxT znt m1 1 (by decide) D1 hR1 zrk (hT.ext hX1) w1 hI.imm; rw [show znH znt ((1 : Nat) : Int) = (⟨0, 1⟩, 0) from zqU] at h9; exact h9 : z8 Tryz.prog 34 _ w1 (.tuple #[.agg #[it 0, it 1], it 0]))) (g [[3]] ?_);refine WL.so (SO.alloc ZvF.h rfl) rfl (zw fun b1 hb1 => ?_);refine g [[5],[1,2,1,0]] ?_;refine WL.so (SO.makes (Enters.func Tryz.call114 rfl) (fun w1 hI => ztf D1 w1 hI.imm)) rfl ?_;rintro _ D2 _ ⟨hX2, ⟨m2, rfl, hR2⟩, rfl⟩;refine WL.cl rfl (fun w1 hI => (by have h9 := zDy zpR m2 D2 hR2 zth w1 hI.imm; rw [zti] at h9; exact h9 : z8 Tryz.prog 27 _ w1 (.tuple #[it 12, it 62, it 0]))) (g [[10],[0,5,4,3,2,1,0],[3002],[1]] ?_);refine WQ.q rfl (Qt.callP CaF.h rfl (fun w hI => ww _ _ _)) rfl (g [[1]] ?_);refine WL.yd (Yd.eqS EgF.h (eqSp _ _ _ _) rfl rfl) rfl (WL.know 19 (.bool true) rfl (congrArg Value.bool (decide_eq_true rfl)) (g [[3]] ?_));refine WL.know 22 (.bool true) rfl (congrArg Value.bool (decide_eq_true rfl)) (g [[4]] ?_);refine WL.know 26 (.bool true) rfl (congrArg Value.bool (decide_eq_true rfl)) (g [[4]] ?_);refine WL.know 30 (.bool true) rfl (congrArg Value.bool (decide_eq_true rfl)) (g [[4]] ?_);refine WL.know 34 (.bool true) rfl (congrArg Value.bool (decide_eq_true rfl)) (g [[2]] ?_);refine WL.sog rfl (SO.callP CaF.h rfl (fun w hI => zrd pc hpc hp1 hp2 D2 ((hT.ext hX1).ext hX2) _ hI.imm)) rfl (zs (g [[5]] ?_));refine WP.ret1 rfl rfl rfl (RV.tmp rfl) (fun w hI => ⟨rfl, hI.keep⟩)
end
end Go.Proofs.YtaiegbjgfdhgaaaGreatDoor
namespace Go.Bk
theorem zu3 {s : Sp} (h : znw s) : (vX s).length ≤ 6 := by
  have h1 := zn5 h.1; have h2 := zn5 h.2;unfold vX; split <;> simp <;> omega
structure Kind {X : Type} (is : X → Bool) (put : X → Bs) (L : X → List Bs) (c d : UInt8) : Prop where
  eq : ∀ x, put x = unl (L x)
  flat : ∀ x, is x = true → ∀ l ∈ L x, flat l
  head : ∀ x, ∃ r ls, L x = (c :: d :: r) :: ls
  big : ∀ x, ∀ l ∈ L x, ∃ e r, l = e :: r ∧ 97 ≤ e.toNat
  ne : c ≠ d
theorem zqR : ∀ (ls : List Bs), ls ≠ [] → ∃ p, unl ls = p ++ [10]
  | [l], _ => ⟨l, by simp [unl]⟩
  | l :: m :: ls, _ => by
    obtain ⟨p, hp⟩ := zqR (m :: ls) (by simp);exact ⟨l ++ 10 :: p, by rw [zuc, hp]; simp⟩
section
variable {X : Type} {is : X → Bool} {put : X → Bs} {L : X → List Bs} {c d : UInt8} (K : Kind is put L c d)
include K
theorem Kind.last (x : X) : ∃ p, put x = p ++ [10] := by
  obtain ⟨r, ls, e⟩ := K.head x;rw [K.eq]; exact zqR _ (by rw [e]; simp)
end
theorem zsk {X : Type} {z : X} {take : X → Nat → Bs → Option X} {is : X → Bool} {put : X → Bs} {s : Bs} (h : ∀ y, is y = true → put y ≠ s) : (zo3 z take is put s).2 = if 1200 < s.length then 3 else 8 := by
  by_cases e : (zo3 z take is put s).2 = 0
  · obtain ⟨x, hx⟩ := zsl e;obtain ⟨h1, h2, _⟩ := ztU hx;exact absurd h2 (h x h1)
  · rw [ztT e]
end Go.Bk
namespace Go.Proofs.YtaiegbjgfdhgaaaGreatDoor
open Go.W Go.Bk
def ztX : Bs := [126, 126, 1, 200, 128, 129, 127, 84, 221]
def spoX : Bs := [126, 126, 1, 190, 128, 129, 127, 84, 221]
def zrj : Bs := [98, 111, 97, 116, 115, 32, 54, 120, 52, 32, 118, 49, 32, 116, 54, 10, 98, 111, 97, 116, 32, 48, 64, 48, 44, 51, 32, 52, 64, 50, 44, 50, 46, 46, 51, 10, 98, 111, 97, 116, 32, 50, 64, 51, 46, 46, 52, 44, 49, 32, 53, 64, 53, 44, 48, 46, 46, 51, 10]
theorem aw3 : wrO zmP zn8 znt = (zrj, 0) := by kernel_rfl
theorem aw7 : zmL spoX = (ztX, 0) := by kernel_rfl
theorem zqh {D : Imm} {b : Nat} {l : Bs} {t : TypeId} {fz : Nat × Nat} (h : D b = some (.cells (l.flatMap btC ++ []).toArray t fz)) : SlL D 1 (l.map btC) (some ⟨b, 0, none⟩) l.length := SlL.ofBlock (l := l) (f := btC) (m := 1) (rest := []) zmo h
theorem zrU (l : Bs) (a : Option Addr) (n c : Nat) (D : Imm) (hS : SlL D 1 (l.map btC) a n) (hn : n ≤ 2 ^ 19) (hc : n ≤ c) (w : World) (hH : Holds D w) : y6 Tryz.prog 9 [.slice a n c] w D (fun v D' => ∃ a' n' c', v = .tuple #[.slice a' n' c', it (zmL l).2] ∧ SlL D' 1 ((zmL l).1.map btC) a' n' ∧ n' ≤ c') :=
  Calls.mono (zxd l a n c D hS hn hc w hH) fun e w1 ⟨v, D', h', h1, h2, h3, h4, h5⟩ => by
    obtain rfl := h4;rcases h5 with ⟨e0, b, rfl, rfl, hb⟩ | ⟨e0, e1, rfl, rfl⟩
    · refine ⟨_, _, h1, h3.keep, h3.freeze.imm, (DExt.refl w D).add (h3.apart _ _ (List.mem_cons_self)) hb, _, _, _, by rw [e0], SlL.ofBlock (f := btC) (m := 1) (rest := []) zmo (Imm.add_self _ _ _), Nat.le_refl _⟩
    exact ⟨_, _, h1, h3.keep, h3.imm, h2, none, 0, 0, rfl, by rw [e1]; exact SlL.nil _ _, Nat.le_refl _⟩
set_option maxRecDepth 100000 in
set_option maxHeartbeats 4000000 in
theorem zoc (pc : Nat → Int) (hpc : zmW pc) (hp1 : zoE pc znj 1 = ([-1, 0, -1], 1, 0)) (hp2 : (KT pc zoU true).1 = 2) (D : Imm) {kM : Bool} (hL : LibD kM D) (hT : LibT D) (w : World) (hH : Holds D w) : z8 Tryz.prog 5 [] w (.bool true) := by
  unfold z8;refine en Tryz.func5 rfl Tryz.ntmps5 (Inv.start hH) (g [[1]] ?_);refine WC.ofFr [] trivial (g [[5],[1,0]] ?_);refine WL.so (SO.makes (Enters.func Tryz.call36 rfl) (fun w1 hI => zpg D w1 hI.imm)) rfl ?_;rintro _ D1 _ ⟨hX1, ⟨m1, rfl, hR1⟩, rfl⟩;refine WL.cl rfl (fun w1 hI => (by have h9 := zpb znt m1 D1 (hL.ext hX1) hR1 w1 hI.imm; rw [aw3] at h9; exact h9 : z8 Tryz.prog 22 _ w1 (.tuple #[st zrj, it 0]))) (g [[8],[1,2,1,0]] ?_);refine WL.so (SO.buildSlice1 UnF.h SzF.h ZvF.h rfl rfl rfl (vs := [_, _, _, _, _, _, _, _, _]) rfl rfl rfl) rfl ?_;rintro _ _ _ ⟨b11, hb11, rfl, rfl, rfl⟩;refine WL.freezeN 0 b11 (.cells (List.toArray (spoX.flatMap btC ++ [])) 5 (0, 0)) rfl rfl hb11 (fun D2 hX2 h11 => ?_);refine WL.so (SO.makes (Enters.func Tryz.call9 rfl) (fun w1 hI => zrU spoX (some ⟨b11, 0, none⟩) 9 9 D2 (zqh h11) (by omega) (by omega) w1 hI.imm)) rfl ?_;rintro _ D3 _ ⟨hX3, ⟨a3, n3, c3, rfl, hS3, hc3⟩, rfl⟩;rw [aw7] at hS3 ⊢;refine g [[8],[2,4,3,2,1,0]] ?_;refine WL.yd (Yd.eqS' rfl rfl) rfl (WL.know 16 (.bool true) rfl (congrArg Value.bool (decide_eq_true rfl)) (g [[3]] ?_));refine WL.know 19 (.bool true) rfl (congrArg Value.bool (decide_eq_true rfl)) (g [[3]] ?_);refine WL.sog rfl (SO.buildSlice1 UnF.h SzF.h ZvF.h rfl rfl rfl (vs := [_, _, _, _, _, _, _, _, _]) rfl rfl rfl) rfl ?_;rintro _ _ _ ⟨b23, hb23, rfl, rfl, rfl⟩;refine WL.freezeN 0 b23 (.cells (List.toArray (ztX.flatMap btC ++ [])) 5 (0, 0)) rfl rfl hb23 (fun D4 hX4 h23 => ?_);refine WL.sog rfl (SO.callP CaF.h rfl (fun w hI => zv0 ztX ztX a3 (some ⟨b23, 0, none⟩) n3 9 c3 9 D4 (hS3.ext hX4) (zqh h23) _ hI.imm)) rfl (zs ?_);refine WL.know 24 (.bool true) rfl (congrArg Value.bool (decide_eq_true rfl)) (g [[4]] ?_);refine WL.know 28 (.bool true) rfl (congrArg Value.bool (decide_eq_true rfl)) (g [[2]] ?_);refine WL.sog rfl (SO.callP CaF.h rfl (fun w hI => zre pc hpc hp1 hp2 D4 ((((hT.ext hX1).ext hX2).ext hX3).ext hX4) _ hI.imm)) rfl (zs (g [[5]] ?_));refine WP.ret1 rfl rfl rfl (RV.tmp rfl) (fun w hI => ⟨rfl, hI.keep⟩)
end Go.Proofs.YtaiegbjgfdhgaaaGreatDoor
namespace Go.Bk
def s1 : Bs → Nat
  | [] => 0
  | x :: r => x.toNat + s1 r
def s2 : Nat → Bs → Nat
  | _, [] => 0
  | i, x :: r => (i + 1) * x.toNat + s2 (i + 1) r
theorem zng (i x : Nat) : ∃ k, i * x = i % 251 * x + 251 * k := ⟨i / 251 * x, by
  have h := Nat.div_add_mod i 251;rw [← Nat.mul_assoc, ← Nat.add_mul];congr 1; omega⟩
theorem zsA : ∀ (l : Bs) (i p q : Nat), p < 251 → q < 251 → sumF i p q l = ((p + s1 l) % 251, (q + s2 i l) % 251)
  | [], i, p, q, hp, hq => by simp [sumF, s1, s2, Nat.mod_eq_of_lt, hp, hq]
  | x :: l, i, p, q, hp, hq => by
    rw [sumF, zsA l _ _ _ (Nat.mod_lt _ (by omega)) (Nat.mod_lt _ (by omega)), s1, s2];obtain ⟨k, hk⟩ := zng (i + 1) x.toNat;rw [hk];ext
    · simp only; omega
    · simp only; generalize (i + 1) % 251 * x.toNat = z; omega
theorem zoo (l : Bs) : kd l = (s1 l % 251, s2 0 l % 251) := by
  rw [kd, zsA l 0 0 0 (by omega) (by omega)]; simp
theorem zpY (i x : Nat) : ∃ k, i * x = i % 251 * (x % 251) + 251 * k := by
  obtain ⟨k, hk⟩ := zng i x;obtain ⟨m, hm⟩ := zng x (i % 251);exact ⟨k + m, by rw [hk, Nat.mul_comm (i % 251) x, hm, Nat.mul_comm (x % 251)]; omega⟩
theorem zsF : ∀ (l : Bs) (i p q : Nat), p < 251 → q < 251 → (takF i p q l).1 < 251 ∧ (takF i p q l).2 < 251 ∧ ((takF i p q l).1 + s1 l) % 251 = p ∧ ((takF i p q l).2 + s2 i l) % 251 = q
  | [], i, p, q, hp, hq => by simp [takF, s1, s2, Nat.mod_eq_of_lt, hp, hq]
  | x :: l, i, p, q, hp, hq => by
    rw [takF];obtain ⟨h1, h2, h3, h4⟩ := zsF l (i + 1) ((p + (251 - x.toNat % 251)) % 251) ((q + (i + 1) % 251 * (251 - x.toNat % 251)) % 251) (Nat.mod_lt _ (by omega)) (Nat.mod_lt _ (by omega));refine ⟨h1, h2, ?_, ?_⟩
    · rw [s1]; omega
    · rw [s2];obtain ⟨k, hk⟩ := zpY (i + 1) x.toNat
      have e : (i + 1) % 251 * (251 - x.toNat % 251) + (i + 1) % 251 * (x.toNat % 251) = 251 * ((i + 1) % 251) := by
        rw [← Nat.mul_add, Nat.mul_comm 251]; congr 1; omega
      rw [hk];generalize (i + 1) % 251 * (251 - x.toNat % 251) = y at *;generalize (i + 1) % 251 * (x.toNat % 251) = z at *;omega
theorem zso : ∀ (l : Bs) (i : Nat) (x : UInt8), i < l.length → s1 (l.set i x) + (l.getD i 0).toNat = s1 l + x.toNat
  | [], i, _, h => by simp at h
  | y :: l, 0, x, _ => by simp [s1]; omega
  | y :: l, i + 1, x, h => by
    have := zso l i x (by simpa using h);simp only [List.set_cons_succ, s1, List.getD_cons_succ]; omega
theorem zuD : ∀ (l : Bs) (k i : Nat) (x : UInt8), i < l.length → s2 k (l.set i x) + (k + i + 1) * (l.getD i 0).toNat = s2 k l + (k + i + 1) * x.toNat
  | [], _, i, _, h => by simp at h
  | y :: l, k, 0, x, _ => by simp [s2]; omega
  | y :: l, k, i + 1, x, h => by
    have := zuD l (k + 1) i x (by simpa using h);rw [show k + 1 + i + 1 = k + (i + 1) + 1 by omega] at this;simp only [List.set_cons_succ, s2, List.getD_cons_succ]; omega
theorem zvC : ∀ b : Fin 251, b.val ≠ 0 → (b.val ^ 249 * b.val) % 251 = 1 := by decide +kernel
theorem zur {b : Nat} (h : 0 < b) (hb : b < 251) : ∃ c, (c * b) % 251 = 1 := ⟨b ^ 249, zvC ⟨b, hb⟩ (by simp; omega)⟩
theorem znF {j b c : Nat} (hc : (c * b) % 251 = 1) (hj : j < 251) : (j * b % 251) * c % 251 = j := by
  rw [Nat.mod_mul_mod, Nat.mul_assoc, Nat.mul_comm b c, Nat.mul_mod, hc, Nat.mul_one, Nat.mod_mod, Nat.mod_eq_of_lt hj]
theorem zqC {b j k : Nat} (h0 : 0 < b) (hb : b < 251) (hj : j < 251) (hk : k < 251) (h : j * b % 251 = k * b % 251) : j = k := by
  obtain ⟨c, hc⟩ := zur h0 hb;rw [← znF hc hj, h, znF hc hk]
section
variable {a b : Nat} (h0 : 0 < b) (hb : b < 251) (ha : a < 251)
include a b h0 hb ha
theorem zxZ : ∃ k, k < 251 ∧ k * b % 251 = a := by
  obtain ⟨c, hc⟩ := zur h0 hb;exact ⟨a * c % 251, Nat.mod_lt _ (by omega), by rw [Nat.mod_mul_mod, Nat.mul_assoc, Nat.mul_mod, hc, Nat.mul_one, Nat.mod_mod, Nat.mod_eq_of_lt ha]⟩
theorem zpD : quoN a b < 251 ∧ quoN a b * b % 251 = a := by
  unfold quoN;cases e : (List.range 251).find? fun q => q * b % 251 == a with
  | none =>
    obtain ⟨k, hk, hh⟩ := zxZ h0 hb ha;have := List.find?_eq_none.1 e k (List.mem_range.2 hk);simp [hh] at this
  | some q =>
    have h1 := List.find?_some e;have h2 := List.mem_of_find?_eq_some e;exact ⟨List.mem_range.1 h2, by simpa using h1⟩
end
theorem zw1 {a b k : Nat} (h0 : 0 < b) (hb : b < 251) (ha : a < 251) (hk : k < 251) (h : k * b % 251 = a) : quoN a b = k :=
  zqC h0 hb (zpD h0 hb ha).1 hk ((zpD h0 hb ha).2.trans h.symm)
theorem zsw {b : Bs} (h : 2 ≤ b.length) : ∃ l t u, b = l ++ [t, u] := by
  refine ⟨b.take (b.length - 2), b[b.length - 2], b[b.length - 1], ?_⟩
  have h1 : b.drop (b.length - 2) = [b[b.length - 2], b[b.length - 1]] := by
    rw [List.drop_eq_getElem_cons (by omega), List.drop_eq_getElem_cons (by omega), List.drop_of_length_le (by omega)];congr 3; omega
  rw [← h1, List.take_append_drop]
theorem znx (l : Bs) (t u : UInt8) : js (l ++ [t, u]) = l := by simp [js]
theorem zsE (l : Bs) (t u : UInt8) : zmB (l ++ [t, u]) = (t.toNat, u.toNat) := by
  simp [zmB, List.getD]
theorem zmr {n : Nat} (h : n < 256) : (UInt8.ofNat n).toNat = n := UInt8.toNat_ofNat_of_lt' h
theorem znI (x : UInt8) : UInt8.ofNat x.toNat = x := by simp
theorem zpP {x y : UInt8} (h : x.toNat = y.toNat) : x = y := UInt8.toNat_inj.1 h
theorem zmN (l : Bs) (t u : UInt8) : zr8 (js (l ++ [t, u])) = l ++ [t, u] ↔ t.toNat = s1 l % 251 ∧ u.toNat = s2 0 l % 251 := by
  rw [znx, zr8, zoo];simp only [List.append_cancel_left_eq, List.cons.injEq, and_true];constructor
  · rintro ⟨rfl, rfl⟩;exact ⟨zmr (by omega), zmr (by omega)⟩
  · rintro ⟨h1, h2⟩;rw [← h1, ← h2]; exact ⟨znI _, znI _⟩
theorem zu8 (l : Bs) (t u : UInt8) : zmB (l ++ [t, u]) = kd (js (l ++ [t, u])) ↔ t.toNat = s1 l % 251 ∧ u.toNat = s2 0 l % 251 := by
  rw [znx, zsE, zoo]; simp
theorem zon {b : Bs} (h : 2 ≤ b.length) : zr8 (js b) = b ↔ zmB b = kd (js b) := by
  obtain ⟨l, t, u, rfl⟩ := zsw h;rw [zmN, zu8]
structure zns (b : Bs) : Prop where
  lo : 2 ≤ b.length
  hi : b.length ≤ 250
  all : ∀ x ∈ b, x.toNat < 251
theorem zol {b : Bs} : zmp b = 0 ↔ zns b := by
  unfold zmp;constructor
  · intro h;split at h
    · cases h
    · split at h
      · rename_i h1 h2
        exact ⟨h2.1, by omega, fun x hx => by have := List.any_eq_false.1 h2.2 x hx; simpa using this⟩
      · cases h
  · intro h;rw [if_neg (by have := h.hi; omega), if_pos ⟨h.lo, List.any_eq_false.2 fun x hx => by have := h.all x hx; simpa using this⟩]
theorem zns.set {b : Bs} (h : zns b) (i : Nat) {x : UInt8} (hx : x.toNat < 251) : zns (b.set i x) :=
  ⟨by rw [List.length_set]; exact h.lo, by rw [List.length_set]; exact h.hi, fun y hy => by
    rcases List.mem_or_eq_of_mem_set hy with hy | rfl
    · exact h.all y hy
    · exact hx⟩
abbrev Rt (b : Bs) : Prop := zr8 (js b) = b
section
variable {l : Bs}
include l
theorem zqH {t u x : UInt8} {i : Nat} (h : i < l.length) : (l ++ [t, u]).set i x = l.set i x ++ [t, u] := by
  rw [List.set_append_left _ _ h]
theorem zyd {t u x : UInt8} : (l ++ [t, u]).set l.length x = l ++ [x, u] := by
  rw [List.set_append_right _ _ (Nat.le_refl _)]; simp
theorem zye {t u x : UInt8} : (l ++ [t, u]).set (l.length + 1) x = l ++ [t, x] := by
  rw [List.set_append_right _ _ (by omega)]; simp
theorem zpq {t u : UInt8} {i : Nat} (h : i < l.length) : (l ++ [t, u]).getD i 0 = l.getD i 0 := by
  simp [List.getD, List.getElem?_append_left h]
theorem zxx {t u : UInt8} : (l ++ [t, u]).getD l.length 0 = t := by simp [List.getD]
theorem zxy {t u : UInt8} : (l ++ [t, u]).getD (l.length + 1) 0 = u := by simp [List.getD]
theorem idx3 {t u : UInt8} {i : Nat} (h : i < (l ++ [t, u]).length) : i < l.length ∨ i = l.length ∨ i = l.length + 1 := by
  simp at h; omega
end
theorem zq5 {b : Bs} (hf : zns b) (hr : Rt b) {i : Nat} (hi : i < b.length) {x : UInt8} (hx : x.toNat < 251) (hr2 : Rt (b.set i x)) : x = b.getD i 0 := by
  obtain ⟨l, t, u, rfl⟩ := zsw hf.lo;have h1 := (zmN l t u).1 hr;rcases idx3 hi with h | rfl | rfl
  · rw [zqH h] at hr2;have h2 := (zmN _ t u).1 hr2;rw [zpq h];have h3 := zso l i x h
    have hb : (l.getD i 0).toNat < 251 := by
      have : l.getD i 0 ∈ l ++ [t, u] := by simp [List.getD, h]
      exact hf.all _ this
    exact zpP (by omega)
  · rw [zyd] at hr2;have h2 := (zmN _ _ _).1 hr2;rw [zxx]; exact zpP (by omega)
  · rw [zye] at hr2;have h2 := (zmN _ _ _).1 hr2;rw [zxy]; exact zpP (by omega)
theorem zvJ (l : Bs) (t u : UInt8) (ht : t.toNat < 251) (hu : u.toNat < 251) : (qc (l ++ [t, u])).1 < 251 ∧ (qc (l ++ [t, u])).2 < 251 ∧ ((qc (l ++ [t, u])).1 + s1 l) % 251 = t.toNat ∧ ((qc (l ++ [t, u])).2 + s2 0 l) % 251 = u.toNat := by
  unfold qc;rw [zsE, znx];exact zsF l 0 _ _ ht hu
theorem ztH {b : Bs} (hf : zns b) (hr : ¬ Rt b) {i : Nat} (hi : i < b.length) {x : UInt8} (hx : x.toNat < 251) (hr2 : Rt (b.set i x)) : zmL b = (b.set i x, 0) := by
  have h0 := zol.2 hf;have hr' : ¬ zmB b = kd (js b) := fun e => hr ((zon hf.lo).2 e);obtain ⟨l, t, u, rfl⟩ := zsw hf.lo;have ht : t.toNat < 251 := hf.all t (by simp);have hu : u.toNat < 251 := hf.all u (by simp);have hn : ¬ (t.toNat = s1 l % 251 ∧ u.toNat = s2 0 l % 251) := fun e => hr ((zmN l t u).2 e);obtain ⟨hP, hQ, eP, eQ⟩ := zvJ l t u ht hu;have hlen : (l ++ [t, u]).length = l.length + 2 := by simp
  have hhi := hf.hi;unfold zmL;rw [if_neg (by omega), if_neg hr'];rcases idx3 hi with h | rfl | rfl
  · rw [zqH h] at hr2;have h2 := (zmN _ t u).1 hr2;have h3 := zso l i x h;have h4 := zuD l 0 i x h;rw [Nat.zero_add] at h4
    have hb : (l.getD i 0).toNat < 251 := by
      have : l.getD i 0 ∈ l ++ [t, u] := by simp [List.getD, h]
      exact hf.all _ this
    have hg := zpq (t := t) (u := u) h;generalize (qc (l ++ [t, u])).1 = P at *;generalize (qc (l ++ [t, u])).2 = Q at *;have eP2 : (P + (l.getD i 0).toNat) % 251 = x.toNat := by omega
    have hP0 : P ≠ 0 := fun e => by
      have hxb : x.toNat = (l.getD i 0).toNat := by omega
      rw [hxb] at h3 h4;exact hn ⟨by omega, by omega⟩
    have eQ2 : (i + 1) * P % 251 = Q := by
      obtain ⟨k, hk⟩ : ∃ k, P + (l.getD i 0).toNat = x.toNat + 251 * k := ⟨(P + (l.getD i 0).toNat) / 251, by omega⟩;have h5 := congrArg (fun z => (i + 1) * z) hk;simp only [Nat.mul_add] at h5;rw [show (i + 1) * (251 * k) = 251 * ((i + 1) * k) by rw [Nat.mul_left_comm]] at h5;generalize (i + 1) * (l.getD i 0).toNat = m1 at *;generalize (i + 1) * x.toNat = m2 at *;generalize (i + 1) * P = m3 at *;generalize (i + 1) * k = m4 at *;omega
    have hq : quoN Q P = i + 1 := zw1 (by omega) hP hQ (by omega) eQ2
    have hQ0 : Q ≠ 0 := fun e => by
      have := zqC (b := P) (j := i + 1) (k := 0) (by omega) hP (by omega) (by omega) (by rw [eQ2, e]; simp);omega
    rw [if_neg hQ0, if_neg hP0, hq, if_pos ⟨by omega, by rw [hlen]; omega⟩];rw [show i + 1 - 1 = i by omega, hg, Nat.add_comm, eP2, znI]
  · rw [zyd] at hr2;have h2 := (zmN _ _ _).1 hr2;rw [if_pos (by omega), hlen, show l.length + 2 - 2 = l.length by omega, znx, zoo];simp only;rw [← h2.1, znI]
  · rw [zye] at hr2;have h2 := (zmN _ _ _).1 hr2;rw [if_neg (by omega), if_pos (by omega), hlen, show l.length + 2 - 1 = l.length + 1 by omega, znx, zoo];simp only;rw [← h2.2, znI]
theorem zs6 {n : Nat} (hn : n < 15625) (out : List Nat) (r : Bs) : zmD 0 0 out (digL n ++ r) = zmD 0 0 (out ++ [n]) r := by
  unfold digL;split
  · rename_i h
    rw [List.singleton_append, zmD, if_pos (by omega), zmr (by omega), if_pos (by omega)];congr 3; omega
  · rename_i h
    show zmD 0 0 out (_ :: _ :: r) = _;rw [zmD, if_pos (by omega), zmr (by omega), if_neg (by omega), zmD, if_pos (by omega), zmr (by omega), if_pos (by omega)];congr 3; omega
theorem zpz : ∀ (ns out : List Nat), (∀ n ∈ ns, n < 15625) → zmD 0 0 out (ns.flatMap digL) = some (out ++ ns)
  | [], out, _ => by simp [zmD]
  | n :: ns, out, h => by
    rw [List.flatMap_cons, zs6 (h n (by simp)), zpz ns _ fun m hm => h m (by simp [hm])];simp
def numL (h : Hors) : List Nat := [h.pace.toNat, h.moves.length] ++ h.moves.flatMap zmM
theorem znh (h : Hors) : (numL h).flatMap digL = k2 h := by
  simp [numL, k2, List.flatMap_assoc, List.flatMap_cons]
theorem zs4 {h : Hors} (ok : zmV h) : ∀ n ∈ numL h, n ≤ 200 := fun n hn => by
  simp only [numL, List.mem_append, List.mem_flatMap, List.mem_cons, List.not_mem_nil, or_false] at hn;have h1 := ok.pace;have h2 := ok.n;rcases hn with (rfl | rfl) | ⟨m, hm, hn⟩
  · omega
  · omega
  · have h3 := ok.moves m hm;simp only [zmM, List.mem_cons, List.not_mem_nil, or_false] at hn;omega
theorem zpm : ∀ l : List Mv, (l.flatMap zmM).length = 4 * l.length
  | [] => rfl
  | m :: l => by rw [List.flatMap_cons, List.length_append, zpm l]; simp [zmM]; omega
theorem zp0 (h : Hors) : (numL h).length = 2 + 4 * h.moves.length := by
  simp only [numL, List.length_append, zpm]; rfl
theorem zoj : ∀ l : List Mv, (∀ m ∈ l, (0 ≤ m.at_ ∧ m.at_ ≤ 200) ∧ (0 ≤ m.place ∧ m.place ≤ 30) ∧ 1 ≤ m.long.lo ∧ m.long.lo ≤ m.long.hi ∧ m.long.hi ≤ 20) → zmI (l.flatMap zmM) = l
  | [], _ => rfl
  | m :: l, h => by
    rw [List.flatMap_cons]
    show zmI (m.at_.toNat :: m.place.toNat :: m.long.lo.toNat :: (m.long.hi - m.long.lo).toNat :: l.flatMap zmM) = _;rw [zmI, zoj l fun x hx => h x (by simp [hx])];have h1 := h m (by simp);obtain ⟨a, b, ⟨c, d⟩⟩ := m;simp only at h1;simp only [List.cons.injEq, Mv.mk.injEq, Sp.mk.injEq, and_true];omega
theorem zqX {h : Hors} (ok : zmV h) : znz (numL h) = h := by
  have h1 := ok.pace;obtain ⟨p, l⟩ := h
  show Hors.mk ((p.toNat : Nat) : Int) (zmI (l.flatMap zmM)) = _;rw [zoj l ok.moves];simp only at h1;congr 1; omega
theorem zxm {n : Nat} (hn : n ≤ 200) : ∀ x ∈ digL n, x.toNat < 251 := fun x hx => by
  unfold digL at hx;split at hx
  · simp only [List.mem_singleton] at hx; subst hx; rw [zmr (by omega)]; omega
  · simp only [List.mem_cons, List.not_mem_nil, or_false] at hx;rcases hx with rfl | rfl <;> rw [zmr (by omega)] <;> omega
theorem zxn (n : Nat) : 1 ≤ (digL n).length ∧ (digL n).length ≤ 2 := by
  unfold digL; split <;> simp
theorem zro : ∀ ns : List Nat, ns.length ≤ (ns.flatMap digL).length ∧ (ns.flatMap digL).length ≤ 2 * ns.length
  | [] => by simp
  | n :: ns => by
    have h1 := zro ns;have h2 := zxn n;rw [List.flatMap_cons, List.length_append, List.length_cons]; omega
theorem znm (h : Hors) : zmX h = k2 h ++ [UInt8.ofNat (kd (k2 h)).1, UInt8.ofNat (kd (k2 h)).2] := rfl
theorem zoL {h : Hors} (ok : zmV h) : 4 ≤ (zmX h).length ∧ (zmX h).length ≤ 62 := by
  have h1 := zro (numL h);have h2 := zp0 h;have h3 := ok.n;rw [znh] at h1;rw [znm];simp; omega
theorem zpj {h : Hors} (ok : zmV h) : zns (zmX h) := ⟨by have := zoL ok; omega, by have := zoL ok; omega, fun x hx => by
  rw [znm, zoo] at hx;rcases List.mem_append.1 hx with hx | hx
  · rw [← znh] at hx;obtain ⟨n, hn, hx⟩ := List.mem_flatMap.1 hx;exact zxm (zs4 ok n hn) x hx
  · simp only [List.mem_cons, List.not_mem_nil, or_false] at hx;rcases hx with rfl | rfl <;> rw [zmr (by omega)] <;> omega⟩
theorem zos (h : Hors) : Rt (zmX h) := by
  rw [Rt, znm, znx]; rfl
theorem zrm (h : Hors) : js (zmX h) = k2 h := by rw [znm, znx]
theorem zsj {h : Hors} (hb : qn h = true) : znb (zmX h) = (h, 0) := by
  have ok := qs.1 hb;have hf := zpj ok;unfold znb;rw [if_neg (by rw [zol.2 hf]; omega), if_neg (fun e => e ((zon hf.lo).1 (zos h))), zrm, ← znh, zpz _ _ fun n hn => by have := zs4 ok n hn; omega];simp only [List.nil_append];rw [if_pos ⟨by rw [zp0]; omega, by rw [zp0]; omega⟩, zqX ok, if_pos ⟨hb, rfl⟩]
end Go.Bk
