import Derived.Test.YtpnbkdlejfmbeaaGreatXR
set_option linter.unusedSimpArgs false
set_option linter.unusedVariables false
set_option linter.all false
set_option maxRecDepth 100000
set_option maxHeartbeats 1000000
namespace Go.Proofs.YtpnbkdlejfmbeaaGreat
open Go.W Go.Ti

theorem fine_e {X : Till} (hb : tillB X = true) {n : Int} (hn : isT X.tk n = true) : (FineOut X n).2 = tksE X.tk true ∧ (BackOut X n).2 = tksE X.tk true ∧ (FinesOut X).2 = tksE X.tk true := by
  have hs := (spanE_is hb).2 hn
  refine ⟨?_, ?_, ?_⟩
  · by_cases h : spanE X n = 0
    · rw [fineE.2 h, ← hs, h]
    · rw [fineE.1 h, hs]
  · by_cases h : spanE X n = 0
    · rw [backE.2 h, ← hs, h]
    · rw [backE.1 h, hs]
  · by_cases h : tksE X.tk true = 0
    · rw [finesE_0 hb h, h]
    · rw [finesE_2 hb h]
theorem nar_E {X : Till} {w : Bool} {a : Nat} (h : tksB X.tk = true) (ha : a < X.tk.l.length) : tksE (narX X w a).tk true = 0 ∨ tksE (narX X w a).tk true = 10 := tks_e10 (nar_valid h ha)
theorem fine_num {X : Till} (hb : tillB X = true) {n : Int} : (0 ≤ (fineSp X n).lo ∧ (fineSp X n).lo ≤ 2400) ∧ (0 ≤ (fineSp X n).hi ∧ (fineSp X n).hi ≤ 2400) := by
  have h := (tillB_num hb).2.2.1
  unfold fineSp
  constructor
  · simp only; split <;> omega
  · simp only; split <;> omega
theorem back_num {X : Till} (hb : tillB X = true) {n : Int} : (0 ≤ (backSp X n).lo ∧ (backSp X n).lo ≤ 2400) ∧ (0 ≤ (backSp X n).hi ∧ (backSp X n).hi ≤ 2400) := by
  have h := (tillB_num hb).2.2.2
  have hw := waits_num X.tk n
  exact ⟨mul_100 h (by omega), mul_100 h (by omega)⟩
theorem mulB {a b : Int} (ha : 0 ≤ a ∧ a ≤ 2400) (hb : 0 ≤ b ∧ b ≤ 100) : 0 ≤ a * b ∧ a * b ≤ 240000 := by
  refine ⟨Int.mul_nonneg ha.1 hb.1, ?_⟩
  have h1 : a * b ≤ 2400 * b := Int.mul_le_mul_of_nonneg_right ha.2 hb.1
  omega
theorem at_swap {x : Cx} {fr : Fr} {D : Imm} {e1 e2 : Nat × Obj} {a : Act} {w : World} (h : At x fr D [e1, e2] a w) : At x fr D [e2, e1] a w :=
  ⟨h.f, h.i.sub (fun _ he => (List.Perm.swap e1 e2 []).mem_iff.1 he) (((List.Perm.swap e1 e2 []).map Prod.fst).nodup_iff.2 h.i.nodup)⟩
theorem tickC_ones : ∀ x : Tick, ∀ v ∈ tickC x, v.oneCell' = true := fun x v hv => by
  simp only [tickC, List.mem_cons, List.mem_nil_iff, or_false] at hv
  rcases hv with rfl | rfl | rfl | rfl | rfl <;> rfl

theorem more_a (X : Till) (a1 : Option Addr) (n1 c1 : Nat) (D : Imm) (w : World) (hS : SlL D 5 (X.tk.l.map tickC) a1 n1) (hH : Holds D w) (l : List Ent) (ab : Option Addr) (nb cb : Nat) (hL : SlL D 3 (l.map entC) ab nb) (m b : Nat) (hm : m < 256) (hb : b < 256) (hlo : 60 < max n1 nb) : Gives Tryz.prog 7 [.agg #[it X.tk.huts, .slice a1 n1 c1, it X.price, it X.fine, it X.wait], .slice ab nb cb, .int .u8 m, .int .u8 b] w (.bool true) := by
  unfold Gives
  refine enter Tryz.func7 rfl 320 Tryz.ntmps7 (zqb rfl) (Inv.start hH) ?_
  refine WC.seq (WC.ofFr [(0, _), (1, _), (2, _), (3, _)] ⟨rfl, rfl, rfl, rfl, trivial⟩ (WC.region ?_))
  refine WL.so (SO.box rfl rfl) rfl ?_
  rintro _ _ _ ⟨b4, hb4, rfl, rfl, rfl⟩
  refine WL.yd (Yd.assign rfl) rfl ?_
  refine WL.nil (WP.thenC (WC.seq (WC.seq (WC.ofFr [(8, _), (4, _), (1, _), (2, _), (3, _)] ⟨rfl, rfl, rfl, rfl, rfl, trivial⟩ (WC.region ?_)))))
  refine WL.yd (Yd.loadN Tryz.isAgg26 Tryz.sizeOf26 rfl (vs := [_, _, _, _, _]) rfl (by first | exact rn0 (n := 5) rfl rfl)) rfl ?_
  refine WL.yd (Yd.move rfl) rfl ?_
  refine WL.so (SO.callP Tryz.call24 rfl (fun w hI => long_g X a1 ab n1 c1 nb cb _)) rfl ?_
  rintro _ _ _ ⟨rfl, rfl, rfl⟩
  refine WL.know 38 (.bool true) rfl (congrArg Value.bool (decide_eq_true (by (try dsimp only); omega))) ?_
  refine WL.yd (Yd.move rfl) rfl ?_
  refine WL.skip rfl rfl ?_
  refine WL.skip rfl rfl ?_
  refine WL.skip rfl rfl ?_
  refine WL.yd (Yd.pickT rfl rfl) rfl ?_
  refine WL.yd (Yd.move rfl) rfl ?_
  refine WL.skip rfl rfl ?_
  refine WL.skip rfl rfl ?_
  refine WL.skip rfl rfl ?_
  refine WL.skip rfl rfl ?_
  refine WL.skip rfl rfl ?_
  refine WL.yd (Yd.pickT rfl rfl) rfl ?_
  refine WL.yd (Yd.move rfl) rfl ?_
  refine WL.skip rfl rfl ?_
  refine WL.skip rfl rfl ?_
  refine WL.skip rfl rfl ?_
  refine WL.yd (Yd.pickT rfl rfl) rfl ?_
  refine WL.yd (Yd.move rfl) rfl ?_
  refine WL.skip rfl rfl ?_
  refine WL.skip rfl rfl ?_
  refine WL.skip rfl rfl ?_
  refine WL.skip rfl rfl ?_
  refine WL.yd (Yd.pickT rfl rfl) rfl ?_
  refine WL.nil (WP.thenC ?_)
  refine WC.condT rfl ?_
  refine WC.seq (WC.ofFr [(8, _), (4, _), (1, _), (2, _), (3, _)] ⟨rfl, rfl, rfl, rfl, rfl, trivial⟩ (WC.region ?_))
  refine WL.so (SO.callP Tryz.call9 rfl (fun w hI => alive_g _ _ hI.imm)) rfl ?_
  rintro _ _ _ ⟨rfl, rfl, rfl⟩
  refine WL.yd (Yd.assign rfl) rfl ?_
  refine WL.nil (WP.thenC (WC.ret (WP.thenRet ?_)))
  refine WP.ret1 rfl rfl Tryz.results7 (RV.tmp rfl) (fun w hI => ⟨rfl, hI.keep⟩)

theorem more_b (X : Till) (a1 : Option Addr) (n1 c1 : Nat) (D : Imm) (w : World) (hS : SlL D 5 (X.tk.l.map tickC) a1 n1) (hH : Holds D w) (l : List Ent) (ab : Option Addr) (nb cb : Nat) (hL : SlL D 3 (l.map entC) ab nb) (m b : Nat) (hm : m < 256) (hb : b < 256) (hlo : max n1 nb ≤ 60) (h1 : tillB X = false) : Gives Tryz.prog 7 [.agg #[it X.tk.huts, .slice a1 n1 c1, it X.price, it X.fine, it X.wait], .slice ab nb cb, .int .u8 m, .int .u8 b] w (.bool true) := by
  unfold Gives
  have hR : TksR D X.tk a1 n1 := ⟨hS, by omega⟩
  have hB : BookR D l ab nb := ⟨hL, by omega⟩
  obtain rfl := hR.tick.len'
  have hl1 := hR.len
  obtain rfl := hB.ent.len'
  refine enter Tryz.func7 rfl 320 Tryz.ntmps7 (zqb rfl) (Inv.start hH) ?_
  refine WC.seq (WC.ofFr [(0, _), (1, _), (2, _), (3, _)] ⟨rfl, rfl, rfl, rfl, trivial⟩ (WC.region ?_))
  refine WL.so (SO.box rfl rfl) rfl ?_
  rintro _ _ _ ⟨b4, hb4, rfl, rfl, rfl⟩
  refine WL.yd (Yd.assign rfl) rfl ?_
  refine WL.nil (WP.thenC (WC.seq (WC.seq (WC.ofFr [(8, _), (4, _), (1, _), (2, _), (3, _)] ⟨rfl, rfl, rfl, rfl, rfl, trivial⟩ (WC.region ?_)))))
  refine WL.yd (Yd.loadN Tryz.isAgg26 Tryz.sizeOf26 rfl (vs := [_, _, _, _, _]) rfl (by first | exact rn0 (n := 5) rfl rfl)) rfl ?_
  refine WL.yd (Yd.move rfl) rfl ?_
  refine WL.so (SO.callP Tryz.call24 rfl (fun w hI => long_g X a1 ab _ c1 _ cb _)) rfl ?_
  rintro _ _ _ ⟨rfl, rfl, rfl⟩
  refine WL.know 38 (.bool false) rfl (congrArg Value.bool (decide_eq_false (by (try dsimp only); omega))) ?_
  refine WL.yd (Yd.move rfl) rfl ?_
  refine WL.ydg rfl (Yd.loadN Tryz.isAgg26 Tryz.sizeOf26 rfl (vs := [_, _, _, _, _]) rfl (by first | exact rn0 (n := 5) rfl rfl)) rfl ?_
  refine WL.sog rfl (SO.callP Tryz.call25 rfl (fun w hI => till13_g X a1 _ c1 _ _ hR hI.imm)) rfl ?_
  rintro _ _ _ ⟨rfl, rfl, rfl⟩
  refine WL.know 41 (.bool false) rfl (congrArg Value.bool h1) ?_
  refine WL.ydg rfl (Yd.not rfl) rfl ?_
  refine WL.yd (Yd.pickF rfl rfl) rfl ?_
  refine WL.yd (Yd.move rfl) rfl ?_
  refine WL.skip rfl rfl ?_
  refine WL.skip rfl rfl ?_
  refine WL.skip rfl rfl ?_
  refine WL.skip rfl rfl ?_
  refine WL.skip rfl rfl ?_
  refine WL.yd (Yd.pickT rfl rfl) rfl ?_
  refine WL.yd (Yd.move rfl) rfl ?_
  refine WL.skip rfl rfl ?_
  refine WL.skip rfl rfl ?_
  refine WL.skip rfl rfl ?_
  refine WL.yd (Yd.pickT rfl rfl) rfl ?_
  refine WL.yd (Yd.move rfl) rfl ?_
  refine WL.skip rfl rfl ?_
  refine WL.skip rfl rfl ?_
  refine WL.skip rfl rfl ?_
  refine WL.skip rfl rfl ?_
  refine WL.yd (Yd.pickT rfl rfl) rfl ?_
  refine WL.nil (WP.thenC ?_)
  refine WC.condT rfl ?_
  refine WC.seq (WC.ofFr [(8, _), (4, _), (1, _), (2, _), (3, _)] ⟨rfl, rfl, rfl, rfl, rfl, trivial⟩ (WC.region ?_))
  refine WL.so (SO.callP Tryz.call9 rfl (fun w hI => alive_g _ _ hI.imm)) rfl ?_
  rintro _ _ _ ⟨rfl, rfl, rfl⟩
  refine WL.yd (Yd.assign rfl) rfl ?_
  refine WL.nil (WP.thenC (WC.ret (WP.thenRet ?_)))
  refine WP.ret1 rfl rfl Tryz.results7 (RV.tmp rfl) (fun w hI => ⟨rfl, hI.keep⟩)

theorem more_c (X : Till) (a1 : Option Addr) (n1 c1 : Nat) (D : Imm) (w : World) (hS : SlL D 5 (X.tk.l.map tickC) a1 n1) (hH : Holds D w) (l : List Ent) (ab : Option Addr) (nb cb : Nat) (hL : SlL D 3 (l.map entC) ab nb) (m b : Nat) (hm : m < 256) (hb : b < 256) (hlo : max n1 nb ≤ 60) (h1 : tillB X = true) (h2 : n1 = 0) : Gives Tryz.prog 7 [.agg #[it X.tk.huts, .slice a1 n1 c1, it X.price, it X.fine, it X.wait], .slice ab nb cb, .int .u8 m, .int .u8 b] w (.bool true) := by
  unfold Gives
  have hR : TksR D X.tk a1 n1 := ⟨hS, by omega⟩
  have hB : BookR D l ab nb := ⟨hL, by omega⟩
  obtain rfl := hR.tick.len'
  have hl1 := hR.len
  obtain rfl := hB.ent.len'
  refine enter Tryz.func7 rfl 320 Tryz.ntmps7 (zqb rfl) (Inv.start hH) ?_
  refine WC.seq (WC.ofFr [(0, _), (1, _), (2, _), (3, _)] ⟨rfl, rfl, rfl, rfl, trivial⟩ (WC.region ?_))
  refine WL.so (SO.box rfl rfl) rfl ?_
  rintro _ _ _ ⟨b4, hb4, rfl, rfl, rfl⟩
  refine WL.yd (Yd.assign rfl) rfl ?_
  refine WL.nil (WP.thenC (WC.seq (WC.seq (WC.ofFr [(8, _), (4, _), (1, _), (2, _), (3, _)] ⟨rfl, rfl, rfl, rfl, rfl, trivial⟩ (WC.region ?_)))))
  refine WL.yd (Yd.loadN Tryz.isAgg26 Tryz.sizeOf26 rfl (vs := [_, _, _, _, _]) rfl (by first | exact rn0 (n := 5) rfl rfl)) rfl ?_
  refine WL.yd (Yd.move rfl) rfl ?_
  refine WL.so (SO.callP Tryz.call24 rfl (fun w hI => long_g X a1 ab _ c1 _ cb _)) rfl ?_
  rintro _ _ _ ⟨rfl, rfl, rfl⟩
  refine WL.know 38 (.bool false) rfl (congrArg Value.bool (decide_eq_false (by (try dsimp only); omega))) ?_
  refine WL.yd (Yd.move rfl) rfl ?_
  refine WL.ydg rfl (Yd.loadN Tryz.isAgg26 Tryz.sizeOf26 rfl (vs := [_, _, _, _, _]) rfl (by first | exact rn0 (n := 5) rfl rfl)) rfl ?_
  refine WL.sog rfl (SO.callP Tryz.call25 rfl (fun w hI => till13_g X a1 _ c1 _ _ hR hI.imm)) rfl ?_
  rintro _ _ _ ⟨rfl, rfl, rfl⟩
  refine WL.know 41 (.bool true) rfl (congrArg Value.bool h1) ?_
  refine WL.ydg rfl (Yd.not rfl) rfl ?_
  refine WL.yd (Yd.pickF rfl rfl) rfl ?_
  refine WL.yd (Yd.move rfl) rfl ?_
  refine WL.ydg rfl (Yd.fieldAddr FA26_0 rfl) rfl ?_
  refine WL.ydg rfl (Yd.fieldAddr FA24_1 rfl) rfl ?_
  refine WL.ydg rfl (Yd.load1 Tryz.isAgg22 rfl (by first | exact ro0 rfl rfl)) rfl ?_
  refine WL.ydg rfl (Yd.lenS rfl Tryz.underlying22 rfl) rfl ?_
  refine WL.ydg rfl (Yd.eql rfl rfl) rfl ?_
  refine WL.know 49 (.bool true) rfl (congrArg Value.bool (decide_eq_true (by (try dsimp only); omega))) ?_
  refine WL.yd (Yd.pickF rfl rfl) rfl ?_
  refine WL.yd (Yd.move rfl) rfl ?_
  refine WL.skip rfl rfl ?_
  refine WL.skip rfl rfl ?_
  refine WL.skip rfl rfl ?_
  refine WL.yd (Yd.pickT rfl rfl) rfl ?_
  refine WL.yd (Yd.move rfl) rfl ?_
  refine WL.skip rfl rfl ?_
  refine WL.skip rfl rfl ?_
  refine WL.skip rfl rfl ?_
  refine WL.skip rfl rfl ?_
  refine WL.yd (Yd.pickT rfl rfl) rfl ?_
  refine WL.nil (WP.thenC ?_)
  refine WC.condT rfl ?_
  refine WC.seq (WC.ofFr [(8, _), (4, _), (1, _), (2, _), (3, _)] ⟨rfl, rfl, rfl, rfl, rfl, trivial⟩ (WC.region ?_))
  refine WL.so (SO.callP Tryz.call9 rfl (fun w hI => alive_g _ _ hI.imm)) rfl ?_
  rintro _ _ _ ⟨rfl, rfl, rfl⟩
  refine WL.yd (Yd.assign rfl) rfl ?_
  refine WL.nil (WP.thenC (WC.ret (WP.thenRet ?_)))
  refine WP.ret1 rfl rfl Tryz.results7 (RV.tmp rfl) (fun w hI => ⟨rfl, hI.keep⟩)

theorem more_d (X : Till) (a1 : Option Addr) (n1 c1 : Nat) (D : Imm) (w : World) (hS : SlL D 5 (X.tk.l.map tickC) a1 n1) (hH : Holds D w) (l : List Ent) (ab : Option Addr) (nb cb : Nat) (hL : SlL D 3 (l.map entC) ab nb) (m b : Nat) (hm : m < 256) (hb : b < 256) (hlo : max n1 nb ≤ 60) (h1 : tillB X = true) (h2 : 0 < n1) (h3 : 20 < nb) : Gives Tryz.prog 7 [.agg #[it X.tk.huts, .slice a1 n1 c1, it X.price, it X.fine, it X.wait], .slice ab nb cb, .int .u8 m, .int .u8 b] w (.bool true) := by
  unfold Gives
  have hR : TksR D X.tk a1 n1 := ⟨hS, by omega⟩
  have hB : BookR D l ab nb := ⟨hL, by omega⟩
  obtain rfl := hR.tick.len'
  have hl1 := hR.len
  obtain rfl := hB.ent.len'
  refine enter Tryz.func7 rfl 320 Tryz.ntmps7 (zqb rfl) (Inv.start hH) ?_
  refine WC.seq (WC.ofFr [(0, _), (1, _), (2, _), (3, _)] ⟨rfl, rfl, rfl, rfl, trivial⟩ (WC.region ?_))
  refine WL.so (SO.box rfl rfl) rfl ?_
  rintro _ _ _ ⟨b4, hb4, rfl, rfl, rfl⟩
  refine WL.yd (Yd.assign rfl) rfl ?_
  refine WL.nil (WP.thenC (WC.seq (WC.seq (WC.ofFr [(8, _), (4, _), (1, _), (2, _), (3, _)] ⟨rfl, rfl, rfl, rfl, rfl, trivial⟩ (WC.region ?_)))))
  refine WL.yd (Yd.loadN Tryz.isAgg26 Tryz.sizeOf26 rfl (vs := [_, _, _, _, _]) rfl (by first | exact rn0 (n := 5) rfl rfl)) rfl ?_
  refine WL.yd (Yd.move rfl) rfl ?_
  refine WL.so (SO.callP Tryz.call24 rfl (fun w hI => long_g X a1 ab _ c1 _ cb _)) rfl ?_
  rintro _ _ _ ⟨rfl, rfl, rfl⟩
  refine WL.know 38 (.bool false) rfl (congrArg Value.bool (decide_eq_false (by (try dsimp only); omega))) ?_
  refine WL.yd (Yd.move rfl) rfl ?_
  refine WL.ydg rfl (Yd.loadN Tryz.isAgg26 Tryz.sizeOf26 rfl (vs := [_, _, _, _, _]) rfl (by first | exact rn0 (n := 5) rfl rfl)) rfl ?_
  refine WL.sog rfl (SO.callP Tryz.call25 rfl (fun w hI => till13_g X a1 _ c1 _ _ hR hI.imm)) rfl ?_
  rintro _ _ _ ⟨rfl, rfl, rfl⟩
  refine WL.know 41 (.bool true) rfl (congrArg Value.bool h1) ?_
  refine WL.ydg rfl (Yd.not rfl) rfl ?_
  refine WL.yd (Yd.pickF rfl rfl) rfl ?_
  refine WL.yd (Yd.move rfl) rfl ?_
  refine WL.ydg rfl (Yd.fieldAddr FA26_0 rfl) rfl ?_
  refine WL.ydg rfl (Yd.fieldAddr FA24_1 rfl) rfl ?_
  refine WL.ydg rfl (Yd.load1 Tryz.isAgg22 rfl (by first | exact ro0 rfl rfl)) rfl ?_
  refine WL.ydg rfl (Yd.lenS rfl Tryz.underlying22 rfl) rfl ?_
  refine WL.ydg rfl (Yd.eql rfl rfl) rfl ?_
  refine WL.know 49 (.bool false) rfl (congrArg Value.bool (decide_eq_false (by (try dsimp only); omega))) ?_
  refine WL.yd (Yd.pickF rfl rfl) rfl ?_
  refine WL.yd (Yd.move rfl) rfl ?_
  refine WL.ydg rfl (Yd.move rfl) rfl ?_
  refine WL.ydg rfl (Yd.lenS rfl Tryz.underlying38 rfl) rfl ?_
  refine WL.ydg rfl (Yd.gtr rfl rfl) rfl ?_
  refine WL.know 54 (.bool true) rfl (congrArg Value.bool (decide_eq_true (by (try dsimp only); omega))) ?_
  refine WL.yd (Yd.pickF rfl rfl) rfl ?_
  refine WL.yd (Yd.move rfl) rfl ?_
  refine WL.skip rfl rfl ?_
  refine WL.skip rfl rfl ?_
  refine WL.skip rfl rfl ?_
  refine WL.skip rfl rfl ?_
  refine WL.yd (Yd.pickT rfl rfl) rfl ?_
  refine WL.nil (WP.thenC ?_)
  refine WC.condT rfl ?_
  refine WC.seq (WC.ofFr [(8, _), (4, _), (1, _), (2, _), (3, _)] ⟨rfl, rfl, rfl, rfl, rfl, trivial⟩ (WC.region ?_))
  refine WL.so (SO.callP Tryz.call9 rfl (fun w hI => alive_g _ _ hI.imm)) rfl ?_
  rintro _ _ _ ⟨rfl, rfl, rfl⟩
  refine WL.yd (Yd.assign rfl) rfl ?_
  refine WL.nil (WP.thenC (WC.ret (WP.thenRet ?_)))
  refine WP.ret1 rfl rfl Tryz.results7 (RV.tmp rfl) (fun w hI => ⟨rfl, hI.keep⟩)

theorem more_e (X : Till) (a1 : Option Addr) (n1 c1 : Nat) (D : Imm) (w : World) (hS : SlL D 5 (X.tk.l.map tickC) a1 n1) (hH : Holds D w) (l : List Ent) (ab : Option Addr) (nb cb : Nat) (hL : SlL D 3 (l.map entC) ab nb) (m b : Nat) (hm : m < 256) (hb : b < 256) (hlo : max n1 nb ≤ 60) (h1 : tillB X = true) (h2 : 0 < n1) (h3 : nb ≤ 20) (h4 : l.all (entB X) = false) : Gives Tryz.prog 7 [.agg #[it X.tk.huts, .slice a1 n1 c1, it X.price, it X.fine, it X.wait], .slice ab nb cb, .int .u8 m, .int .u8 b] w (.bool true) := by
  unfold Gives
  have hR : TksR D X.tk a1 n1 := ⟨hS, by omega⟩
  have hB : BookR D l ab nb := ⟨hL, by omega⟩
  obtain rfl := hR.tick.len'
  have hl1 := hR.len
  obtain rfl := hB.ent.len'
  refine enter Tryz.func7 rfl 320 Tryz.ntmps7 (zqb rfl) (Inv.start hH) ?_
  refine WC.seq (WC.ofFr [(0, _), (1, _), (2, _), (3, _)] ⟨rfl, rfl, rfl, rfl, trivial⟩ (WC.region ?_))
  refine WL.so (SO.box rfl rfl) rfl ?_
  rintro _ _ _ ⟨b4, hb4, rfl, rfl, rfl⟩
  refine WL.yd (Yd.assign rfl) rfl ?_
  refine WL.nil (WP.thenC (WC.seq (WC.seq (WC.ofFr [(8, _), (4, _), (1, _), (2, _), (3, _)] ⟨rfl, rfl, rfl, rfl, rfl, trivial⟩ (WC.region ?_)))))
  refine WL.yd (Yd.loadN Tryz.isAgg26 Tryz.sizeOf26 rfl (vs := [_, _, _, _, _]) rfl (by first | exact rn0 (n := 5) rfl rfl)) rfl ?_
  refine WL.yd (Yd.move rfl) rfl ?_
  refine WL.so (SO.callP Tryz.call24 rfl (fun w hI => long_g X a1 ab _ c1 _ cb _)) rfl ?_
  rintro _ _ _ ⟨rfl, rfl, rfl⟩
  refine WL.know 38 (.bool false) rfl (congrArg Value.bool (decide_eq_false (by (try dsimp only); omega))) ?_
  refine WL.yd (Yd.move rfl) rfl ?_
  refine WL.ydg rfl (Yd.loadN Tryz.isAgg26 Tryz.sizeOf26 rfl (vs := [_, _, _, _, _]) rfl (by first | exact rn0 (n := 5) rfl rfl)) rfl ?_
  refine WL.sog rfl (SO.callP Tryz.call25 rfl (fun w hI => till13_g X a1 _ c1 _ _ hR hI.imm)) rfl ?_
  rintro _ _ _ ⟨rfl, rfl, rfl⟩
  refine WL.know 41 (.bool true) rfl (congrArg Value.bool h1) ?_
  refine WL.ydg rfl (Yd.not rfl) rfl ?_
  refine WL.yd (Yd.pickF rfl rfl) rfl ?_
  refine WL.yd (Yd.move rfl) rfl ?_
  refine WL.ydg rfl (Yd.fieldAddr FA26_0 rfl) rfl ?_
  refine WL.ydg rfl (Yd.fieldAddr FA24_1 rfl) rfl ?_
  refine WL.ydg rfl (Yd.load1 Tryz.isAgg22 rfl (by first | exact ro0 rfl rfl)) rfl ?_
  refine WL.ydg rfl (Yd.lenS rfl Tryz.underlying22 rfl) rfl ?_
  refine WL.ydg rfl (Yd.eql rfl rfl) rfl ?_
  refine WL.know 49 (.bool false) rfl (congrArg Value.bool (decide_eq_false (by (try dsimp only); omega))) ?_
  refine WL.yd (Yd.pickF rfl rfl) rfl ?_
  refine WL.yd (Yd.move rfl) rfl ?_
  refine WL.ydg rfl (Yd.move rfl) rfl ?_
  refine WL.ydg rfl (Yd.lenS rfl Tryz.underlying38 rfl) rfl ?_
  refine WL.ydg rfl (Yd.gtr rfl rfl) rfl ?_
  refine WL.know 54 (.bool false) rfl (congrArg Value.bool (decide_eq_false (by (try dsimp only); omega))) ?_
  refine WL.yd (Yd.pickF rfl rfl) rfl ?_
  refine WL.yd (Yd.move rfl) rfl ?_
  refine WL.ydg rfl (Yd.loadN Tryz.isAgg26 Tryz.sizeOf26 rfl (vs := [_, _, _, _, _]) rfl (by first | exact rn0 (n := 5) rfl rfl)) rfl ?_
  refine WL.ydg rfl (Yd.move rfl) rfl ?_
  refine WL.sog rfl (SO.callP Tryz.call26 rfl (fun w hI => book13_g X a1 _ c1 _ _ hR hI.imm l ab _ cb hB)) rfl ?_
  rintro _ _ _ ⟨rfl, rfl, rfl⟩
  refine WL.know 59 (.bool false) rfl (congrArg Value.bool h4) ?_
  refine WL.ydg rfl (Yd.not rfl) rfl ?_
  refine WL.yd (Yd.pickF rfl rfl) rfl ?_
  refine WL.nil (WP.thenC ?_)
  refine WC.condT rfl ?_
  refine WC.seq (WC.ofFr [(8, _), (4, _), (1, _), (2, _), (3, _)] ⟨rfl, rfl, rfl, rfl, rfl, trivial⟩ (WC.region ?_))
  refine WL.so (SO.callP Tryz.call9 rfl (fun w hI => alive_g _ _ hI.imm)) rfl ?_
  rintro _ _ _ ⟨rfl, rfl, rfl⟩
  refine WL.yd (Yd.assign rfl) rfl ?_
  refine WL.nil (WP.thenC (WC.ret (WP.thenRet ?_)))
  refine WP.ret1 rfl rfl Tryz.results7 (RV.tmp rfl) (fun w hI => ⟨rfl, hI.keep⟩)

end Go.Proofs.YtpnbkdlejfmbeaaGreat
