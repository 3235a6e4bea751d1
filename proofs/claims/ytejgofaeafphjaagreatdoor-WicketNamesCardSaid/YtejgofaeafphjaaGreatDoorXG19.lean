import Derived.Test.YtejgofaeafphjaaGreatDoorXG18
import Derived.Test.YtejgofaeafphjaaGreatDoorXG13
import Derived.Test.YtejgofaeafphjaaGreatDoorXG7
set_option linter.unusedSimpArgs false
set_option linter.unusedVariables false
set_option linter.all false
set_option maxRecDepth 100000
set_option maxHeartbeats 4000000
attribute [local irreducible] Go.W.WL Go.W.WLF Go.W.WC Go.W.WCF Go.W.WP Go.W.WA Go.W.WQ Go.W.WH Go.W.WHo Go.W.WCn Go.W.Yd Go.W.Qt Go.W.SO Go.Code.wp Go.Code.wpIn
namespace Go.Proofs.YtejgofaeafphjaaGreatDoor
open Go.W Go.Ti
theorem openD_1 (T : Tide) (a1 a2 a3 : Option Addr) (n1 n2 n3 c1 c2 c3 : Nat) (D : Imm) (w : World) (hR : TideR D T a1 n1 a2 n2 a3 n3) (hH : Holds D w) (fi : FuncId) (cp : List Value) (is : Bool) (hfi : ∀ args w, (callFunc fi args).run Tryz.prog w = .ok (.enter fi args) w) (hv : tideB T = false) : Fails Tryz.prog 80 [.agg #[.slice a1 n1 c1, .slice a2 n2 c2, .slice a3 n3 c3], .func (.func fi) #[] cp.toArray] w (stopD 1) :=
  (openD_g T a1 a2 a3 n1 n2 n3 c1 c2 c3 D w hR hH fi cp is hfi (fun h => absurd (h.symm.trans hv) (by decide))).mono fun e w' h => h.1 hv
theorem openD_2 (T : Tide) (a1 a2 a3 : Option Addr) (n1 n2 n3 c1 c2 c3 : Nat) (D : Imm) (w : World) (hR : TideR D T a1 n1 a2 n2 a3 n3) (hH : Holds D w) (fi : FuncId) (cp : List Value) (hfi : ∀ args w, (callFunc fi args).run Tryz.prog w = .ok (.enter fi args) w) (hIs : tideB T = true → ∀ q mb D' w', DExt w D D' → D' q = some (shoO (.slice a1 n1 c1) (.slice a2 n2 c2) (.slice a3 n3 c3) mb) → Holds D' w' → Gives Tryz.prog fi (pt q :: cp) w' (.bool false)) (hv : tideB T = true) : Fails Tryz.prog 80 [.agg #[.slice a1 n1 c1, .slice a2 n2 c2, .slice a3 n3 c3], .func (.func fi) #[] cp.toArray] w (stopD 2) :=
  (openD_g T a1 a2 a3 n1 n2 n3 c1 c2 c3 D w hR hH fi cp false hfi hIs).mono fun e w' h => h.2.1 hv rfl
theorem openD_ok (T : Tide) (a1 a2 a3 : Option Addr) (n1 n2 n3 c1 c2 c3 : Nat) (D : Imm) (w : World) (hR : TideR D T a1 n1 a2 n2 a3 n3) (hH : Holds D w) (fi : FuncId) (cp : List Value) (hfi : ∀ args w, (callFunc fi args).run Tryz.prog w = .ok (.enter fi args) w) (hIs : tideB T = true → ∀ q mb D' w', DExt w D D' → D' q = some (shoO (.slice a1 n1 c1) (.slice a2 n2 c2) (.slice a3 n3 c3) mb) → Holds D' w' → Gives Tryz.prog fi (pt q :: cp) w' (.bool true)) (hv : tideB T = true) : News Tryz.prog 80 [.agg #[.slice a1 n1 c1, .slice a2 n2 c2, .slice a3 n3 c3], .func (.func fi) #[] cp.toArray] w D (fun v D' h' => ∃ q mb, v = pt q ∧ D' q = some (shoO (.slice a1 n1 c1) (.slice a2 n2 c2) (.slice a3 n3 c3) mb) ∧ h' = [(mb, .map #[] 0)]) :=
  (openD_g T a1 a2 a3 n1 n2 n3 c1 c2 c3 D w hR hH fi cp true hfi hIs).mono fun e w' h => by
    obtain ⟨q, mb, D', h1, h2, h3, h4⟩ := h.2.2 hv rfl
    exact ⟨_, D', _, h1, h2, h4, q, mb, rfl, h3, rfl⟩
theorem placeB_nat {T : Tide} {n : Int} (h : placeB T n = true) : ∃ a : Nat, n = (a : Int) ∧ a < T.sand.length := by
  have := of_decide_eq_true h
  exact ⟨n.toNat, by omega, by omega⟩
theorem first_some {T : Tide} {p : Nat} {least : Int} : ∀ (n : Nat) (m : Int) (k : Nat), (∀ j, j < k → ¬ least ≤ (depthS T p (m + (j : Int))).lo) → least ≤ (depthS T p (m + (k : Int))).lo → k < n → firstF T p least n m = some (m + (k : Int))
  | 0, _, k, _, _, h => absurd h (Nat.not_lt_zero _)
  | n + 1, m, 0, _, h2, _ => by
    have e : m + ((0 : Nat) : Int) = m := by omega
    rw [e] at h2 ⊢
    rw [firstF, if_pos h2]
  | n + 1, m, k + 1, h1, h2, h3 => by
    have h0 := h1 0 (by omega)
    have e : m + ((0 : Nat) : Int) = m := by omega
    rw [e] at h0
    rw [firstF, if_neg h0, first_some n (m + 1) k (fun j hj => by have := h1 (j + 1) (by omega); rwa [show m + ((j + 1 : Nat) : Int) = m + 1 + (j : Int) by omega] at this) (by rwa [show m + ((k + 1 : Nat) : Int) = m + 1 + (k : Int) by omega] at h2) (by omega)]
    congr 1; omega
theorem first_none {T : Tide} {p : Nat} {least : Int} : ∀ (n : Nat) (m : Int), (∀ j, j < n → ¬ least ≤ (depthS T p (m + (j : Int))).lo) → firstF T p least n m = none
  | 0, _, _ => rfl
  | n + 1, m, h1 => by
    have h0 := h1 0 (by omega)
    have e : m + ((0 : Nat) : Int) = m := by omega
    rw [e] at h0
    rw [firstF, if_neg h0, first_none n (m + 1) fun j hj => by have := h1 (j + 1) (by omega); rwa [show m + ((j + 1 : Nat) : Int) = m + 1 + (j : Int) by omega] at this]
theorem depthIs_g (T : Tide) (a1 a2 a3 : Option Addr) (n1 n2 n3 c1 c2 c3 : Nat) (D : Imm) (w : World) (hR : TideR D T a1 n1 a2 n2 a3 n3) (qb mb : Nat) (hq : D qb = some (shoO (.slice a1 n1 c1) (.slice a2 n2 c2) (.slice a3 n3 c3) mb)) (hH : Holds D w) (hnm : 2 ≤ T.marks.length) (p m : Int) (b4 b5 : Nat) (h4 : D b4 = some (.cells (List.toArray [it p]) 3 (0, 0))) (h5 : D b5 = some (.cells (List.toArray [it m]) 3 (0, 0))) : Gives Tryz.prog 81 [pt qb, pt b4, pt b5] w (.bool (placeB T p && minuteB T m)) := by
  unfold Gives
  refine en Tryz.func81 rfl Tryz.ntmps81 (Inv.start hH) (g [[1],[5,0,1,2],[3,4,0,1,2]] ?_)
  refine WL.cl rfl (fun w hI => isPlace_g T a1 a2 a3 n1 n2 n3 c1 c2 c3 _ _ hR qb mb hq hI.imm _) (g [[1]] ?_)
  refine WL.part 8 rfl (fun g8 => ?_) (fun g8 => ?_)
  · try simp only [zq] at g8
    refine g [[2]] ?_
    refine WL.sog rfl (SO.callP CaF.h rfl (fun w hI => isMinute_g T a1 a2 a3 n1 n2 n3 c1 c2 c3 _ _ hR qb mb hq hI.imm hnm _)) rfl (zs (g [[5]] ?_))
    refine WP.ret1 rfl rfl rfl (RV.tmp rfl) (fun w hI => ⟨ret_bool (by simp_all), hI.keep⟩)
  try simp only [zq] at g8
  refine g [[8]] ?_
  refine WP.ret1 rfl rfl rfl (RV.tmp rfl) (fun w hI => ⟨ret_bool (by simp_all), hI.keep⟩)
theorem firstIs_g (T : Tide) (a1 a2 a3 : Option Addr) (n1 n2 n3 c1 c2 c3 : Nat) (D : Imm) (w : World) (hR : TideR D T a1 n1 a2 n2 a3 n3) (qb mb : Nat) (hq : D qb = some (shoO (.slice a1 n1 c1) (.slice a2 n2 c2) (.slice a3 n3 c3) mb)) (hH : Holds D w) (hnm : 2 ≤ T.marks.length) (p l m : Int) (b4 b5 b6 : Nat) (h4 : D b4 = some (.cells (List.toArray [it p]) 3 (0, 0))) (h5 : D b5 = some (.cells (List.toArray [it l]) 3 (0, 0))) (h6 : D b6 = some (.cells (List.toArray [it m]) 3 (0, 0))) : Gives Tryz.prog 123 [pt qb, pt b4, pt b5, pt b6] w (.bool (placeB T p && (deepB l && minuteB T m))) := by
  unfold Gives
  refine en Tryz.func123 rfl Tryz.ntmps123 (Inv.start hH) (g [[1],[5,0,1,2,3],[3,5,0,1,2,3]] ?_)
  refine WL.cl rfl (fun w hI => isPlace_g T a1 a2 a3 n1 n2 n3 c1 c2 c3 _ _ hR qb mb hq hI.imm _) (g [[1]] ?_)
  refine WL.part 9 rfl (fun g9 => ?_) (fun g9 => ?_)
  · try simp only [zq] at g9
    refine g [[1]] ?_
    refine WL.sog rfl (SO.callP CaF.h rfl (fun w hI => isDeep_g _ _)) rfl (zs (g [[2]] ?_))
    refine WL.part 13 rfl (fun g13 => ?_) (fun g13 => ?_)
    · try simp only [zq] at g13
      refine g [[2]] ?_
      refine WL.sog rfl (SO.callP CaF.h rfl (fun w hI => isMinute_g T a1 a2 a3 n1 n2 n3 c1 c2 c3 _ _ hR qb mb hq hI.imm hnm _)) rfl (zs (g [[5]] ?_))
      refine WP.ret1 rfl rfl rfl (RV.tmp rfl) (fun w hI => ⟨ret_bool (by simp_all), hI.keep⟩)
    try simp only [zq] at g13
    refine g [[8]] ?_
    refine WP.ret1 rfl rfl rfl (RV.tmp rfl) (fun w hI => ⟨ret_bool (by simp_all), hI.keep⟩)
  try simp only [zq] at g9
  refine g [[12]] ?_
  refine WP.ret1 rfl rfl rfl (RV.tmp rfl) (fun w hI => ⟨ret_bool (by simp_all), hI.keep⟩)
theorem Depth_1 (T : Tide) (a1 a2 a3 : Option Addr) (n1 n2 n3 c1 c2 c3 : Nat) (D : Imm) (w : World) (hR : TideR D T a1 n1 a2 n2 a3 n3) (hH : Holds D w) (hL : LibW D) (p m : Int) (hv : tideB T = false) : Gives Tryz.prog 24 [.agg #[.slice a1 n1 c1, .slice a2 n2 c2, .slice a3 n3 c3], it p, it m] w (.tuple #[.agg #[it (DepthOut T p m).1.lo, it (DepthOut T p m).1.hi], it (DepthOut T p m).2]) := by
  unfold Gives
  obtain rfl := hR.mark.len'
  obtain rfl := hR.sand.len'
  obtain rfl := hR.look.len'
  obtain ⟨hl1, hl2, hl3⟩ := hR.len
  have hO : DepthOut T p m = (⟨0, 0⟩, 1) := by unfold DepthOut tideE; simp [hv]
  refine enD Tryz.func24 rfl Tryz.ntmps24 (Inv.start hH) (g [[1],[1,0,1,2]] ?_)
  refine WL.so (SO.box rfl rfl) rfl (zw fun b3 hb3 => ?_)
  refine WL.so (SO.box rfl rfl) rfl (zw fun b4 hb4 => ?_)
  refine WL.so (SO.box rfl rfl) rfl (zw fun b5 hb5 => ?_)
  refine WL.so (SO.alloc ZvF.h rfl) rfl (zw fun b6 hb6 => ?_)
  refine WL.so (SO.alloc ZvF.h rfl) rfl (zw fun b7 hb7 => ?_)
  refine g [[3],[2,7,6,5,4,3]] ?_
  refine WL.defer rfl (g [[3]] ?_)
  refine WC.freezeN 3 b4 (.cells (List.toArray [it p]) 3 (0, 0)) rfl rfl hb4 (fun D1 hX1 h4 => ?_)
  replace hR := hR.ext hX1
  replace hL := hL.ext hX1
  refine WC.freezeN 2 b5 (.cells (List.toArray [it m]) 3 (0, 0)) rfl rfl hb5 (fun D2 hX2 h5 => ?_)
  replace hR := hR.ext hX2
  replace hL := hL.ext hX2
  replace h4 := hX2.old _ _ h4
  refine g [[3,7,6,5,4,3]] ?_
  refine WL.nf rfl (fun w hI => openD_1 T a1 a2 a3 _ _ _ c1 c2 c3 _ w hR hI.imm 81 [pt b4, pt b5] ((placeB T p && minuteB T m)) CaF.h hv) (g [[1]] ?_)
  refine WP.panicD (k := 0) [_, _] [_, _] rfl CaF.h rfl (fun w hI => catch78 _ _ _ _ _ (hI.own _ _ (List.mem_of_getElem? (i := 0) rfl))) rfl zV (fun w hI => ⟨congrArg Ending.returned (by rw [hO]; rfl), hI.keep⟩)
theorem Depth_2 (T : Tide) (a1 a2 a3 : Option Addr) (n1 n2 n3 c1 c2 c3 : Nat) (D : Imm) (w : World) (hR : TideR D T a1 n1 a2 n2 a3 n3) (hH : Holds D w) (hL : LibW D) (p m : Int) (hv : tideB T = true) (hw : ((placeB T p && minuteB T m)) = false) : Gives Tryz.prog 24 [.agg #[.slice a1 n1 c1, .slice a2 n2 c2, .slice a3 n3 c3], it p, it m] w (.tuple #[.agg #[it (DepthOut T p m).1.lo, it (DepthOut T p m).1.hi], it (DepthOut T p m).2]) := by
  unfold Gives
  obtain rfl := hR.mark.len'
  obtain rfl := hR.sand.len'
  obtain rfl := hR.look.len'
  obtain ⟨hl1, hl2, hl3⟩ := hR.len
  have hT := tideB_iff.1 hv
  have hO : DepthOut T p m = (⟨0, 0⟩, 2) := by unfold DepthOut tideE; rw [hw]; simp [hv]
  refine enD Tryz.func24 rfl Tryz.ntmps24 (Inv.start hH) (g [[1],[1,0,1,2]] ?_)
  refine WL.so (SO.box rfl rfl) rfl (zw fun b3 hb3 => ?_)
  refine WL.so (SO.box rfl rfl) rfl (zw fun b4 hb4 => ?_)
  refine WL.so (SO.box rfl rfl) rfl (zw fun b5 hb5 => ?_)
  refine WL.so (SO.alloc ZvF.h rfl) rfl (zw fun b6 hb6 => ?_)
  refine WL.so (SO.alloc ZvF.h rfl) rfl (zw fun b7 hb7 => ?_)
  refine g [[3],[2,7,6,5,4,3]] ?_
  refine WL.defer rfl (g [[3]] ?_)
  refine WC.freezeN 3 b4 (.cells (List.toArray [it p]) 3 (0, 0)) rfl rfl hb4 (fun D1 hX1 h4 => ?_)
  replace hR := hR.ext hX1
  replace hL := hL.ext hX1
  refine WC.freezeN 2 b5 (.cells (List.toArray [it m]) 3 (0, 0)) rfl rfl hb5 (fun D2 hX2 h5 => ?_)
  replace hR := hR.ext hX2
  replace hL := hL.ext hX2
  replace h4 := hX2.old _ _ h4
  refine g [[3,7,6,5,4,3]] ?_
  refine WL.nf rfl (fun w hI => openD_2 T a1 a2 a3 _ _ _ c1 c2 c3 _ w hR hI.imm 81 [pt b4, pt b5] CaF.h (fun _ q mb D' w' hX hq hH => by have := depthIs_g T a1 a2 a3 _ _ _ c1 c2 c3 D' w' (hR.ext hX) q mb hq hH hT.nm.1 p m b4 b5 (hX.old _ _ h4) (hX.old _ _ h5); rwa [hw] at this) hv) (g [[1]] ?_)
  refine WP.panicD (k := 0) [_, _] [_, _] rfl CaF.h rfl (fun w hI => catch78 _ _ _ _ _ (hI.own _ _ (List.mem_of_getElem? (i := 0) rfl))) rfl zV (fun w hI => ⟨congrArg Ending.returned (by rw [hO]; rfl), hI.keep⟩)
theorem Depth_3 (T : Tide) (a1 a2 a3 : Option Addr) (n1 n2 n3 c1 c2 c3 : Nat) (D : Imm) (w : World) (hR : TideR D T a1 n1 a2 n2 a3 n3) (hH : Holds D w) (hL : LibW D) (p m : Int) (hv : tideB T = true) (hw : ((placeB T p && minuteB T m)) = true) : Gives Tryz.prog 24 [.agg #[.slice a1 n1 c1, .slice a2 n2 c2, .slice a3 n3 c3], it p, it m] w (.tuple #[.agg #[it (DepthOut T p m).1.lo, it (DepthOut T p m).1.hi], it (DepthOut T p m).2]) := by
  unfold Gives
  obtain rfl := hR.mark.len'
  obtain rfl := hR.sand.len'
  obtain rfl := hR.look.len'
  obtain ⟨hl1, hl2, hl3⟩ := hR.len
  have hT := tideB_iff.1 hv
  have hO : tdL T = [] → DepthOut T p m = (⟨0, 0⟩, 10) := fun h => by unfold DepthOut tideE; rw [hw]; simp [hv, h]
  have hO0 : tdL T ≠ [] → DepthOut T p m = (depthS T p.toNat m, 0) := fun h => by unfold DepthOut tideE; rw [hw]; simp [hv, h]
  have hmm : minuteB T m = true := by simp only [Bool.and_eq_true] at hw; exact hw.2
  obtain ⟨a, hpa, ha⟩ := placeB_nat (T := T) (n := p) (by simp only [Bool.and_eq_true] at hw; exact hw.1)
  have hpt : p.toNat = a := by omega
  rw [hpt] at hO0
  refine enD Tryz.func24 rfl Tryz.ntmps24 (Inv.start hH) (g [[1],[1,0,1,2]] ?_)
  refine WL.so (SO.box rfl rfl) rfl (zw fun b3 hb3 => ?_)
  refine WL.so (SO.box rfl rfl) rfl (zw fun b4 hb4 => ?_)
  refine WL.so (SO.box rfl rfl) rfl (zw fun b5 hb5 => ?_)
  refine WL.so (SO.alloc ZvF.h rfl) rfl (zw fun b6 hb6 => ?_)
  refine WL.so (SO.alloc ZvF.h rfl) rfl (zw fun b7 hb7 => ?_)
  refine g [[3],[2,7,6,5,4,3]] ?_
  refine WL.defer rfl (g [[3]] ?_)
  refine WC.freezeN 3 b4 (.cells (List.toArray [it p]) 3 (0, 0)) rfl rfl hb4 (fun D1 hX1 h4 => ?_)
  replace hR := hR.ext hX1
  replace hL := hL.ext hX1
  refine WC.freezeN 2 b5 (.cells (List.toArray [it m]) 3 (0, 0)) rfl rfl hb5 (fun D2 hX2 h5 => ?_)
  replace hR := hR.ext hX2
  replace hL := hL.ext hX2
  replace h4 := hX2.old _ _ h4
  refine g [[3,7,6,5,4,3]] ?_
  refine WL.so (SO.news (Enters.func CaF.h rfl) (fun w hI => openD_ok T a1 a2 a3 _ _ _ c1 c2 c3 _ w hR hI.imm 81 [pt b4, pt b5] CaF.h (fun _ q mb D' w' hX hq hH => by have := depthIs_g T a1 a2 a3 _ _ _ c1 c2 c3 D' w' (hR.ext hX) q mb hq hH hT.nm.1 p m b4 b5 (hX.old _ _ h4) (hX.old _ _ h5); rwa [hw] at this) hv)) rfl ?_
  rintro _ D3 _ ⟨hp3, hX3, ⟨qb, mb, rfl, hq3, rfl⟩, rfl⟩
  have hR3 := hR.ext hX3
  have hL3 := hL.ext hX3
  refine g [[4]] ?_
  replace h4 := hX3.old _ _ h4
  replace h5 := hX3.old _ _ h5
  refine g [[0,8,7,6,5,4]] ?_
  refine WC.drawD [] (pz [1,3,7,9,4,10,12,14]) zk zk zX (fun _ hI => hI.drop 99) (g [[4]] ?_)
  refine WA.so rfl  (SO.altersV (own := [_, _, _]) (hpc := [(mb, .map #[] 0)]) (S1 := [mb]) (fun _ h => h) (fun h => h) (fun _ h => h) (fun _ h => h) (Enters.func CaF.h rfl) (fun w1 _ hI => toldD_g T a1 a2 a3 _ _ _ c1 c2 c3 D3 w1 hR3 qb mb hq3 hI.imm hT hL3.done _ (mapK_nil T mb) hI) ?_) rfl ?_
  · rintro _ D5 hp5 ⟨rfl, hnil, hMM5⟩ hX5
    refine g [[1]] ?_
    refine WP.panicD (k := 0) [_, _] [_, _] rfl CaF.h rfl (fun w hI => catch78 _ _ _ _ _ (hI.own _ _ (List.mem_of_getElem? (i := 0) rfl))) rfl zV (fun w hI => ⟨congrArg Ending.returned (by rw [hO hnil]; rfl), hI.keep⟩)
  rintro _ D5 _ ⟨hp5, hX5, ⟨hne, al, cl, rfl, hS5, hMM5⟩, rfl⟩
  replace hR3 := hR3.ext hX5
  replace hq3 := hX5.old _ _ hq3
  replace hL3 := hL3.ext hX5
  obtain ⟨es, clock, F, rfl, hMR, hFK⟩ := hMM5
  replace h4 := hX5.old _ _ h4
  replace h5 := hX5.old _ _ h5
  refine ⟨fun _ hI => (hI.drop 99).shrink hX5.old, ?_⟩
  refine WA.know 16 (nt a) rfl (congrArg it hpa) (WA.so rfl (SO.altersN (own := [_, _, _]) (hpc := [(mb, .map es clock)]) (S1 := [mb]) (fun _ h => h) (fun h => h) (fun _ h => h) (fun _ h => h) (Enters.func CaF.h rfl) (fun w1 hI => depth_g T a1 a2 a3 _ _ _ c1 c2 c3 _ w1 hR3 qb mb hq3 hI.imm hT hL3 a ha m hmm al cl hS5 [(mb, .map es clock)] ⟨es, clock, F, rfl, hMR, hFK⟩ hI)) rfl ?_)
  rintro _ D6 _ ⟨hp6, hX6, ⟨rfl, hMM6⟩, rfl⟩
  refine ⟨fun _ hI => (hI.nil.shrink hX6.old).shrink hX5.old, ?_⟩
  refine WA.so rfl (SO.store 1 rfl SzF.h rfl rfl rfl rfl (zqb rfl) (oneB_spec rfl)) rfl ?_
  rintro _ _ _ ⟨rfl, rfl, rfl⟩
  refine ⟨fun _ hI => (hI.nil.shrink hX6.old).shrink hX5.old, ?_⟩
  refine WA.so rfl (SO.store 0 rfl SzF.h rfl rfl rfl rfl (zqb rfl) (oneB_spec rfl)) rfl ?_
  rintro _ _ _ ⟨rfl, rfl, rfl⟩
  refine ⟨fun _ hI => (hI.nil.shrink hX6.old).shrink hX5.old, ?_⟩
  refine g [[3]] ?_
  refine WP.endD [_, _] [_, _] rfl rfl CaF.h (fun w hI => idle78 _ _) rfl zV (fun w hI => ⟨congrArg Ending.returned (by rw [hO0 hne]; rfl), hI.keep⟩)
theorem Depth_g (T : Tide) (a1 a2 a3 : Option Addr) (n1 n2 n3 c1 c2 c3 : Nat) (D : Imm) (w : World) (hR : TideR D T a1 n1 a2 n2 a3 n3) (hH : Holds D w) (hL : LibW D) (p m : Int) : Gives Tryz.prog 24 [.agg #[.slice a1 n1 c1, .slice a2 n2 c2, .slice a3 n3 c3], it p, it m] w (.tuple #[.agg #[it (DepthOut T p m).1.lo, it (DepthOut T p m).1.hi], it (DepthOut T p m).2]) := by
  cases hv : tideB T with
  | false => exact Depth_1 T a1 a2 a3 n1 n2 n3 c1 c2 c3 D w hR hH hL p m hv
  | true =>
    cases hw : (placeB T p && minuteB T m) with
    | false => exact Depth_2 T a1 a2 a3 n1 n2 n3 c1 c2 c3 D w hR hH hL p m hv hw
    | true => exact Depth_3 T a1 a2 a3 n1 n2 n3 c1 c2 c3 D w hR hH hL p m hv hw
end Go.Proofs.YtejgofaeafphjaaGreatDoor
namespace Go.Proofs.YtejgofaeafphjaaGreatDoor
open Go.W Go.Ti
theorem ext_roundN {φ : Nat → Prop} {k : Nat} (h : ∀ j, j < k → φ j) (hk : φ k) : ∀ j, j < k + 1 → φ j := fun j hj => by
  rcases Nat.lt_or_ge j k with h1 | h1
  · exact h j h1
  obtain rfl : j = k := by omega
  exact hk
theorem First_1 (T : Tide) (a1 a2 a3 : Option Addr) (n1 n2 n3 c1 c2 c3 : Nat) (D : Imm) (w : World) (hR : TideR D T a1 n1 a2 n2 a3 n3) (hH : Holds D w) (hL : LibW D) (p l m : Int) (hv : tideB T = false) : Gives Tryz.prog 47 [.agg #[.slice a1 n1 c1, .slice a2 n2 c2, .slice a3 n3 c3], it p, it l, it m, .bool true] w (.tuple #[it (FirstOut T p l m).1, it (FirstOut T p l m).2]) := by
  unfold Gives
  obtain rfl := hR.mark.len'
  obtain rfl := hR.sand.len'
  obtain rfl := hR.look.len'
  obtain ⟨hl1, hl2, hl3⟩ := hR.len
  have hO : FirstOut T p l m = (0, 1) := by unfold FirstOut tideE; simp [hv]
  refine enD Tryz.func47 rfl Tryz.ntmps47 (Inv.start hH) (g [[1],[1,0,1,2,3,4]] ?_)
  refine WL.so (SO.box rfl rfl) rfl (zw fun b5 hb5 => ?_)
  refine WL.so (SO.box rfl rfl) rfl (zw fun b6 hb6 => ?_)
  refine WL.so (SO.box rfl rfl) rfl (zw fun b7 hb7 => ?_)
  refine WL.so (SO.box rfl rfl) rfl (zw fun b8 hb8 => ?_)
  refine g [[1]] ?_
  refine WL.so (SO.alloc ZvF.h rfl) rfl (zw fun b11 hb11 => ?_)
  refine g [[3],[2,11,10,8,7,6,5,4]] ?_
  refine WL.defer rfl (g [[3]] ?_)
  refine WC.freezeN 3 b6 (.cells (List.toArray [it p]) 3 (0, 0)) rfl rfl hb6 (fun D1 hX1 h6 => ?_)
  replace hR := hR.ext hX1
  replace hL := hL.ext hX1
  refine WC.freezeN 2 b7 (.cells (List.toArray [it l]) 3 (0, 0)) rfl rfl hb7 (fun D2 hX2 h7 => ?_)
  replace hR := hR.ext hX2
  replace hL := hL.ext hX2
  replace h6 := hX2.old _ _ h6
  refine WC.freezeN 1 b8 (.cells (List.toArray [it m]) 3 (0, 0)) rfl rfl hb8 (fun D8 hX8 h8 => ?_)
  replace hR := hR.ext hX8
  replace hL := hL.ext hX8
  replace h6 := hX8.old _ _ h6
  replace h7 := hX8.old _ _ h7
  refine g [[3,11,10,8,7,6,5,4]] ?_
  refine WL.nf rfl (fun w hI => openD_1 T a1 a2 a3 _ _ _ c1 c2 c3 _ w hR hI.imm 123 [pt b6, pt b7, pt b8] ((placeB T p && (deepB l && minuteB T m))) CaF.h hv) (g [[1]] ?_)
  refine WP.panicD (k := 0) [_, _] [_, _] rfl CaF.h rfl (fun w hI => catch122 _ _ _ _ _ (hI.own _ _ (List.mem_of_getElem? (i := 0) rfl))) rfl zV (fun w hI => ⟨congrArg Ending.returned (by rw [hO]; rfl), hI.keep⟩)
theorem First_2 (T : Tide) (a1 a2 a3 : Option Addr) (n1 n2 n3 c1 c2 c3 : Nat) (D : Imm) (w : World) (hR : TideR D T a1 n1 a2 n2 a3 n3) (hH : Holds D w) (hL : LibW D) (p l m : Int) (hv : tideB T = true) (hw : ((placeB T p && (deepB l && minuteB T m))) = false) : Gives Tryz.prog 47 [.agg #[.slice a1 n1 c1, .slice a2 n2 c2, .slice a3 n3 c3], it p, it l, it m, .bool true] w (.tuple #[it (FirstOut T p l m).1, it (FirstOut T p l m).2]) := by
  unfold Gives
  obtain rfl := hR.mark.len'
  obtain rfl := hR.sand.len'
  obtain rfl := hR.look.len'
  obtain ⟨hl1, hl2, hl3⟩ := hR.len
  have hT := tideB_iff.1 hv
  have hO : FirstOut T p l m = (0, 2) := by unfold FirstOut tideE; rw [hw]; simp [hv]
  refine enD Tryz.func47 rfl Tryz.ntmps47 (Inv.start hH) (g [[1],[1,0,1,2,3,4]] ?_)
  refine WL.so (SO.box rfl rfl) rfl (zw fun b5 hb5 => ?_)
  refine WL.so (SO.box rfl rfl) rfl (zw fun b6 hb6 => ?_)
  refine WL.so (SO.box rfl rfl) rfl (zw fun b7 hb7 => ?_)
  refine WL.so (SO.box rfl rfl) rfl (zw fun b8 hb8 => ?_)
  refine g [[1]] ?_
  refine WL.so (SO.alloc ZvF.h rfl) rfl (zw fun b11 hb11 => ?_)
  refine g [[3],[2,11,10,8,7,6,5,4]] ?_
  refine WL.defer rfl (g [[3]] ?_)
  refine WC.freezeN 3 b6 (.cells (List.toArray [it p]) 3 (0, 0)) rfl rfl hb6 (fun D1 hX1 h6 => ?_)
  replace hR := hR.ext hX1
  replace hL := hL.ext hX1
  refine WC.freezeN 2 b7 (.cells (List.toArray [it l]) 3 (0, 0)) rfl rfl hb7 (fun D2 hX2 h7 => ?_)
  replace hR := hR.ext hX2
  replace hL := hL.ext hX2
  replace h6 := hX2.old _ _ h6
  refine WC.freezeN 1 b8 (.cells (List.toArray [it m]) 3 (0, 0)) rfl rfl hb8 (fun D8 hX8 h8 => ?_)
  replace hR := hR.ext hX8
  replace hL := hL.ext hX8
  replace h6 := hX8.old _ _ h6
  replace h7 := hX8.old _ _ h7
  refine g [[3,11,10,8,7,6,5,4]] ?_
  refine WL.nf rfl (fun w hI => openD_2 T a1 a2 a3 _ _ _ c1 c2 c3 _ w hR hI.imm 123 [pt b6, pt b7, pt b8] CaF.h (fun _ q mb D' w' hX hq hH => by have := firstIs_g T a1 a2 a3 _ _ _ c1 c2 c3 D' w' (hR.ext hX) q mb hq hH hT.nm.1 p l m b6 b7 b8 (hX.old _ _ h6) (hX.old _ _ h7) (hX.old _ _ h8); rwa [hw] at this) hv) (g [[1]] ?_)
  refine WP.panicD (k := 0) [_, _] [_, _] rfl CaF.h rfl (fun w hI => catch122 _ _ _ _ _ (hI.own _ _ (List.mem_of_getElem? (i := 0) rfl))) rfl zV (fun w hI => ⟨congrArg Ending.returned (by rw [hO]; rfl), hI.keep⟩)
theorem First_3 (T : Tide) (a1 a2 a3 : Option Addr) (n1 n2 n3 c1 c2 c3 : Nat) (D : Imm) (w : World) (hR : TideR D T a1 n1 a2 n2 a3 n3) (hH : Holds D w) (hL : LibW D) (p l m : Int) (hv : tideB T = true) (hw : ((placeB T p && (deepB l && minuteB T m))) = true) : Gives Tryz.prog 47 [.agg #[.slice a1 n1 c1, .slice a2 n2 c2, .slice a3 n3 c3], it p, it l, it m, .bool true] w (.tuple #[it (FirstOut T p l m).1, it (FirstOut T p l m).2]) := by
  unfold Gives
  obtain rfl := hR.mark.len'
  obtain rfl := hR.sand.len'
  obtain rfl := hR.look.len'
  obtain ⟨hl1, hl2, hl3⟩ := hR.len
  have hT := tideB_iff.1 hv
  have hO : tdL T = [] → FirstOut T p l m = (0, 10) := fun h => by unfold FirstOut tideE; rw [hw]; simp [hv, h]
  have hO0 : tdL T ≠ [] → FirstOut T p l m = match firstF T p.toNat l (lastM T - m + 1).toNat m with | some n => (n, 0) | none => (0, 4) := fun h => by unfold FirstOut tideE; rw [hw]; simp [hv, h]; rfl
  simp only [Bool.and_eq_true] at hw
  have hmm : firstM T ≤ m ∧ m ≤ lastM T := of_decide_eq_true hw.2.2
  have hw' := hw
  replace hw : (placeB T p && (deepB l && minuteB T m)) = true := by simp only [Bool.and_eq_true]; exact hw'
  have hm0 := (minute_num hT hw'.2.2)
  have hml := (hT.mark (T.marks.length - 1) (by have := hT.nm; omega)).1.2
  have hml' : lastM T ≤ 240 := hml
  obtain ⟨a, hpa, ha⟩ := placeB_nat hw'.1
  have hpt : p.toNat = a := by omega
  rw [hpt] at hO0
  refine enD Tryz.func47 rfl Tryz.ntmps47 (Inv.start hH) (g [[1],[1,0,1,2,3,4]] ?_)
  refine WL.so (SO.box rfl rfl) rfl (zw fun b5 hb5 => ?_)
  refine WL.so (SO.box rfl rfl) rfl (zw fun b6 hb6 => ?_)
  refine WL.so (SO.box rfl rfl) rfl (zw fun b7 hb7 => ?_)
  refine WL.so (SO.box rfl rfl) rfl (zw fun b8 hb8 => ?_)
  refine g [[1]] ?_
  refine WL.so (SO.alloc ZvF.h rfl) rfl (zw fun b11 hb11 => ?_)
  refine g [[3],[2,11,10,8,7,6,5,4]] ?_
  refine WL.defer rfl (g [[3]] ?_)
  refine WC.freezeN 3 b6 (.cells (List.toArray [it p]) 3 (0, 0)) rfl rfl hb6 (fun D1 hX1 h6 => ?_)
  replace hR := hR.ext hX1
  replace hL := hL.ext hX1
  refine WC.freezeN 2 b7 (.cells (List.toArray [it l]) 3 (0, 0)) rfl rfl hb7 (fun D2 hX2 h7 => ?_)
  replace hR := hR.ext hX2
  replace hL := hL.ext hX2
  replace h6 := hX2.old _ _ h6
  refine WC.freezeN 1 b8 (.cells (List.toArray [it m]) 3 (0, 0)) rfl rfl hb8 (fun D8 hX8 h8 => ?_)
  replace hR := hR.ext hX8
  replace hL := hL.ext hX8
  replace h6 := hX8.old _ _ h6
  replace h7 := hX8.old _ _ h7
  refine g [[3,11,10,8,7,6,5,4]] ?_
  refine WL.so (SO.news (Enters.func CaF.h rfl) (fun w hI => openD_ok T a1 a2 a3 _ _ _ c1 c2 c3 _ w hR hI.imm 123 [pt b6, pt b7, pt b8] CaF.h (fun _ q mb D' w' hX hq hH => by have := firstIs_g T a1 a2 a3 _ _ _ c1 c2 c3 D' w' (hR.ext hX) q mb hq hH hT.nm.1 p l m b6 b7 b8 (hX.old _ _ h6) (hX.old _ _ h7) (hX.old _ _ h8); rwa [hw] at this) hv)) rfl ?_
  rintro _ D3 _ ⟨hp3, hX3, ⟨qb, mb, rfl, hq3, rfl⟩, rfl⟩
  have hR3 := hR.ext hX3
  have hL3 := hL.ext hX3
  refine g [[4]] ?_
  replace h6 := hX3.old _ _ h6
  replace h7 := hX3.old _ _ h7
  replace h8 := hX3.old _ _ h8
  refine g [[2,12,11,10,8,7,6,4]] ?_
  refine WL.so  (SO.altersV (own := [_, _]) (hpc := [(mb, .map #[] 0)]) (S1 := [mb]) (fun _ h => h) (fun h => h) (fun _ h => h) (fun _ h => h) (Enters.func CaF.h rfl) (fun w1 _ hI => toldD_g T a1 a2 a3 _ _ _ c1 c2 c3 D3 w1 hR3 qb mb hq3 hI.imm hT hL3.done _ (mapK_nil T mb) hI) ?_) rfl ?_
  · rintro _ D5 hp5 ⟨rfl, hnil, hMM5⟩ hX5
    refine g [[1]] ?_
    refine WP.panicD (k := 0) [_, _] [_, _] rfl CaF.h rfl (fun w hI => catch122 _ _ _ _ _ (hI.own _ _ (List.mem_of_getElem? (i := 0) rfl))) rfl zV (fun w hI => ⟨congrArg Ending.returned (by rw [hO hnil]; rfl), hI.keep⟩)
  rintro _ D5 _ ⟨hp5, hX5, ⟨hne, al, cl, rfl, hS5, hMM5⟩, rfl⟩
  replace hR3 := hR3.ext hX5
  replace hq3 := hX5.old _ _ hq3
  replace hL3 := hL3.ext hX5
  obtain ⟨es, clock, F, rfl, hMR, hFK⟩ := hMM5
  replace h6 := hX5.old _ _ h6
  replace h7 := hX5.old _ _ h7
  replace h8 := hX5.old _ _ h8
  refine g [[5],[6,13,12,11,10,8,7,6,4]] ?_
  refine WC.loop (fun y : Nat × Hp => [(4, .bool true), (6, pt b6), (7, pt b7), (11, pt b11), (12, pt qb), (13, .slice al (tdL T).length cl), (14, it (m + ((y.1 : Nat) : Int)))]) (fun y => (b11, .cells (List.toArray [it 0]) 51 (0, 0)) :: (b5, .cells (List.toArray [.slice a1 T.marks.length c1, .slice a2 T.sand.length c2, .slice a3 T.looks.length c3]) 31 (0, 0)) :: y.2) (fun _ => D5) (fun y => (y.1 ≤ (lastM T - m + 1).toNat ∧ ∀ j, j < y.1 → ¬ l ≤ (depthS T a (m + (j : Int))).lo) ∧ MapK T mb y.2) (fun y => (lastM T - m + 1).toNat - y.1) (0, [(mb, .map es clock)]) ⟨⟨by omega, by intro j hj; omega⟩, es, clock, F, rfl, hMR, hFK⟩ (fun a w h => at_fr h ⟨rfl, rfl, rfl, rfl, rfl, rfl, by show some (it _) = some (it _); congr 2; omega, trivial⟩) ?_
  rintro ⟨k, hM2⟩ ⟨⟨hk, hd⟩, hMM2⟩
  dsimp only at hk hd hMM2
  clear hMR hFK
  obtain ⟨es, clock, F, rfl, hMR, hFK⟩ := hMM2
  refine g [[2],[3,4,6,7,11,12,13,14]] ?_
  refine WL.cl rfl (fun w hI => last_g T a1 a2 a3 _ _ _ c1 c2 c3 _ _ hR3 qb mb hq3 hI.imm hT.nm.1) (g [[3]] ?_)
  refine WC.cond rfl (fun c26 => ?_) (fun c26 => ?_)
  · try simp only [zq] at c26
    have hkN : k < (lastM T - m + 1).toNat := by omega
    have hmk : minuteB T (m + ((k : Nat) : Int)) = true := by unfold minuteB; rw [decide_eq_true_eq]; omega
    refine g [[5],[5,4,6,7,11,12,13,14]] ?_
    refine WL.know 31 (nt a) rfl (congrArg it hpa) (WL.so (SO.altersN (own := [_, _]) (hpc := [(mb, .map es clock)]) (S1 := [mb]) (fun _ h => h) (fun h => h) (fun _ h => h) (fun _ h => h) (Enters.func CaF.h rfl) (fun w1 hI => depth_g T a1 a2 a3 _ _ _ c1 c2 c3 _ w1 hR3 qb mb hq3 hI.imm hT hL3 a ha (m + ((k : Nat) : Int)) hmk al cl hS5 [(mb, .map es clock)] ⟨es, clock, F, rfl, hMR, hFK⟩ hI)) rfl ?_)
    rintro _ D6 _ ⟨hp6, hX6, ⟨rfl, hMM6⟩, rfl⟩
    have h7' := hX6.old _ _ h7
    refine WL.so (SO.alloc ZvF.h rfl) rfl (zw fun b15 hb15 => ?_)
    refine g [[4],[5,15,4,6,7,11,12,13,14]] ?_
    refine WL.ydg rfl (Yd.l1 rfl (Rd.imm h7' rfl)) rfl (g [[3]] ?_)
    refine WL.part 41 rfl (fun g41 => ?_) (fun g41 => ?_)
    · try simp only [zq] at g41
      refine g [[13],[12,4,6,7,11,12,13,14]] ?_
      refine WP.endD [_, _] [_, _] rfl rfl CaF.h (fun w hI => idle122 _ _) rfl zV (fun w hI => ⟨congrArg Ending.returned (by rw [hO0 hne, first_some _ _ k hd (by omega) hkN]; rfl), hI.keep⟩)
    try simp only [zq] at g41
    refine g [[15],[5,4,6,7,11,12,13,14]] ?_
    refine WP.again (⟨k + 1, hp6⟩ : Nat × Hp) ⟨⟨by simp only; omega, ext_roundN hd (by omega)⟩, hMM6⟩ (by simp only; omega) (fun aa ww h => at_dropS 1 h ⟨rfl, rfl, rfl, rfl, rfl, rfl, by show some (it _) = some (it _); congr 2; push_cast; omega, trivial⟩ (List.Perm.refl _) hX6.old)
  try simp only [zq] at c26
  have hkN : k = (lastM T - m + 1).toNat := by omega
  refine g [[6],[6,11]] ?_
  refine WP.endD [_, _] [_, _] rfl rfl CaF.h (fun w hI => idle122 _ _) rfl zV (fun w hI => ⟨congrArg Ending.returned (by rw [hO0 hne, first_none _ _ (fun j hj => hd j (by omega))]; rfl), hI.keep⟩)
theorem First_g (T : Tide) (a1 a2 a3 : Option Addr) (n1 n2 n3 c1 c2 c3 : Nat) (D : Imm) (w : World) (hR : TideR D T a1 n1 a2 n2 a3 n3) (hH : Holds D w) (hL : LibW D) (p l m : Int) : Gives Tryz.prog 47 [.agg #[.slice a1 n1 c1, .slice a2 n2 c2, .slice a3 n3 c3], it p, it l, it m, .bool true] w (.tuple #[it (FirstOut T p l m).1, it (FirstOut T p l m).2]) := by
  cases hv : tideB T with
  | false => exact First_1 T a1 a2 a3 n1 n2 n3 c1 c2 c3 D w hR hH hL p l m hv
  | true =>
    cases hw : (placeB T p && (deepB l && minuteB T m)) with
    | false => exact First_2 T a1 a2 a3 n1 n2 n3 c1 c2 c3 D w hR hH hL p l m hv hw
    | true => exact First_3 T a1 a2 a3 n1 n2 n3 c1 c2 c3 D w hR hH hL p l m hv hw
end Go.Proofs.YtejgofaeafphjaaGreatDoor
namespace Go.Proofs.YtejgofaeafphjaaGreatDoor
open Go.W Go.Ti
def prodW (l : List Int) (k : Nat) : Int := (l.take k).foldl (fun n x => IntKind.i64.wrap (n * x)) 1
theorem prodW_succ {l : List Int} {k : Nat} (hk : k < l.length) : prodW l (k + 1) = IntKind.i64.wrap (prodW l k * gt l k) := by
  unfold prodW
  rw [take_gt hk, List.foldl_append]; rfl
def manyW (f : Nat → Int) (T : Tide) (h : Hts) : Nat → Int
  | 0 => 1
  | k + 1 => prodW [manyW f T h k, f (setU T h k)] 2
theorem ones64_ex : ∃ f : Nat → Int, ∀ (x : Nat) (w : World), Gives Tryz.prog 271 [ut x] w (it (f x)) := by
  apply Exists.intro
  intro x w
  unfold Gives
  refine en Tryz.func271 rfl Tryz.ntmps271 zI (g [[1],[5,0],[2,2,0]] ?_)
  refine WL.yd (Yd.shr rfl rfl (by omega)) rfl (WL.yd (Yd.andW rfl rfl) rfl (g [[1]] ?_))
  refine WL.yd (Yd.andW rfl rfl) rfl (WL.yd (Yd.addW rfl rfl) rfl (g [[4],[2,0,2]] ?_))
  refine WL.yd (Yd.shr rfl rfl (by omega)) rfl (WL.yd (Yd.andW rfl rfl) rfl (g [[1]] ?_))
  refine WL.yd (Yd.andW rfl rfl) rfl (WL.yd (Yd.addW rfl rfl) rfl (g [[4],[2,0,2]] ?_))
  refine WL.yd (Yd.shr rfl rfl (by omega)) rfl (g [[1]] ?_)
  refine WL.yd (Yd.addW rfl rfl) rfl (WL.yd (Yd.andW rfl rfl) rfl (g [[4],[3,0,2]] ?_))
  refine WL.yd (Yd.shr rfl rfl (by omega)) rfl (WL.yd (Yd.addW rfl rfl) rfl (g [[4],[3,0,2]] ?_))
  refine WL.yd (Yd.shr rfl rfl (by omega)) rfl (WL.yd (Yd.addW rfl rfl) rfl (g [[4],[3,0,2]] ?_))
  refine WL.yd (Yd.shr rfl rfl (by omega)) rfl (WL.yd (Yd.addW rfl rfl) rfl (g [[4],[2,0,2]] ?_))
  refine WL.yd (Yd.convW UnF.h UnF.h rfl) rfl (WL.yd (Yd.andW rfl rfl) rfl (g [[4]] ?_))
  refine WP.ret1 rfl rfl rfl (RV.tmp rfl) (fun w hI => ⟨rfl, hI.keep⟩)
theorem prod_g (l : List Int) (a : Option Addr) (n c : Nat) (D : Imm) (w : World) (hS : SlL D 1 (l.map intC) a n) (hn : n ≤ 1000) (hH : Holds D w) : Gives Tryz.prog 270 [.slice a n c] w (it (prodW l l.length)) := by
  unfold Gives
  obtain rfl := hS.len'
  refine en Tryz.func270 rfl Tryz.ntmps270 (Inv.start hH) (g [[1],[5,0],[6,2,0],[7,3,2,0]] ?_)
  refine WC.loopF (fun k : Nat => [(3, it (prodW l k)), (6, .slice a l.length c), (7, nt l.length), (8, nt k)]) (fun k => k ≤ l.length) (fun k => l.length - k) 0 (by omega) (by exact ⟨rfl, rfl, rfl, rfl, trivial⟩) ?_
  intro k hk
  refine g [[1],[5,3,6,7,8]] ?_
  refine WC.cond rfl (fun c9 => ?_) (fun c9 => ?_)
  · try simp only [zq] at c9
    have hkl : k < l.length := by omega
    refine g [[5],[1,3,6,7,8]] ?_
    refine WL.yd (Yd.ix rfl rfl (hS.addr k (by omega))) rfl (WL.yd (Yd.l1 rfl ((hS.at k (by omega)).rd 0 rfl)) rfl (g [[3],[3,5,3,6,7,8]] ?_))
    refine WL.yd (Yd.mulW rfl rfl) rfl (g [[4],[4,3,6,7,8]] ?_)
    exact WP.againF (k + 1) (by omega) (by omega) ⟨by rw [prodW_succ hkl]; rfl, rfl, rfl, rfl, trivial⟩ (fun _ h => h) (fun h => h)
  try simp only [zq] at c9
  obtain rfl : k = l.length := by omega
  refine g [[6],[6,3]] ?_
  refine WP.ret1 rfl rfl rfl (RV.tmp rfl) (fun w hI => ⟨rfl, hI.keep⟩)
theorem many_g (f : Nat → Int) (hf : ∀ (x : Nat) (w : World), Gives Tryz.prog 271 [ut x] w (it (f x))) (T : Tide) (hns : T.sand.length ≤ 4) (h : Hts) (D : Imm) (w : World) (hH : Holds D w) : Gives Tryz.prog 220 [tdV T h, nt T.sand.length] w (it (manyW f T h T.sand.length)) := by
  unfold Gives
  refine en Tryz.func220 rfl Tryz.ntmps220 (Inv.start hH) (g [[1],[1,0,1]] ?_)
  refine WL.so (SO.box rfl rfl) rfl (zw fun b2 hb2 => ?_)
  refine g [[4],[6,4,2,1],[3,5,4,2,1]] ?_
  refine WL.yd (Yd.sliceArr (h := T.sand.length) Tryz.underlying234 Tryz.sizeOf233 rfl rfl hns) rfl (g [[5]] ?_)
  refine WC.loopF (fun k : Nat => [(5, it (manyW f T h k)), (10, .slice (some ⟨b2, 0 + 4, none⟩) T.sand.length 4), (11, nt T.sand.length), (12, nt k)]) (fun k => k ≤ T.sand.length) (fun k => T.sand.length - k) 0 (by omega) (by exact ⟨rfl, rfl, rfl, rfl, trivial⟩) ?_
  intro k hk
  refine g [[1],[5,5,10,11,12]] ?_
  refine WC.cond rfl (fun c13 => ?_) (fun c13 => ?_)
  · try simp only [zq] at c13
    have hkl : k < T.sand.length := by omega
    have hcell : (tdC T h)[0 + 4 + (k : Int).toNat * 1]? = some (ut (setU T h k)) := by rw [Int.toNat_natCast, tdC_rd T h (by omega), if_pos hkl]
    refine g [[5],[1,5,10,11,12]] ?_
    refine WL.yd (Yd.ix rfl rfl (rfl)) rfl (WL.yd (Yd.l1 rfl (Rd.own (k := 0) rfl hcell)) rfl (g [[3],[3,7,5,10,11,12]] ?_))
    refine WL.cl rfl (fun w hI => hf _ _) (WL.so (SO.buildSlice UnF.h SzF.h ZvF.h rfl rfl rfl rfl (cs := [_, _]) rfl) rfl ?_)
    rintro _ _ _ ⟨b19, hb19, rfl, rfl, rfl⟩
    refine WL.freezeN 0 b19 (.cells (List.toArray [it (manyW f T h k), it (f (setU T h k))]) 3 (0, 0)) rfl rfl hb19 (fun D2 hX2 h19 => ?_)
    refine WL.cl rfl (fun w hI => prod_g [manyW f T h k, f (setU T h k)] (some ⟨b19, 0, none⟩) 2 2 D2 _ (SlL.ofBlock (f := intC) (l := [manyW f T h k, f (setU T h k)]) (rest := []) (fun _ => rfl) h19) (by omega) hI.imm) (g [[4],[4,5,10,11,12]] ?_)
    exact WP.againS (k + 1) (by omega) (by omega) ⟨rfl, rfl, rfl, rfl, trivial⟩ (fun _ h => h) (fun h => h) hX2.old
  try simp only [zq] at c13
  obtain rfl : k = T.sand.length := by omega
  refine g [[6],[6,5]] ?_
  refine WP.ret1 rfl rfl rfl (RV.tmp rfl) (fun w hI => ⟨rfl, hI.keep⟩)
theorem countIs_g (q : Nat) (w : World) : Gives Tryz.prog 219 [pt q] w (.bool true) := by
  unfold Gives
  refine en Tryz.func219 rfl Tryz.ntmps219 zI (g [[1]] ?_)
  refine WC.ofFr [] trivial (g [[5],[5,2]] ?_)
  refine WP.ret1 rfl rfl rfl (RV.tmp rfl) (fun w hI => ⟨rfl, hI.keep⟩)
theorem Count_1 (T : Tide) (a1 a2 a3 : Option Addr) (n1 n2 n3 c1 c2 c3 : Nat) (D : Imm) (w : World) (hR : TideR D T a1 n1 a2 n2 a3 n3) (hH : Holds D w) (hL : LibW D) (hv : tideB T = false) : Makes Tryz.prog 149 [.agg #[.slice a1 n1 c1, .slice a2 n2 c2, .slice a3 n3 c3]] w D (fun v _ => ∃ n, v = .tuple #[it n, it 1]) := by
  unfold Makes
  obtain rfl := hR.mark.len'
  obtain rfl := hR.sand.len'
  obtain rfl := hR.look.len'
  obtain ⟨hl1, hl2, hl3⟩ := hR.len
  refine enD Tryz.func149 rfl Tryz.ntmps149 (Inv.start hH) (g [[1],[1,0]] ?_)
  refine WL.so (SO.box rfl rfl) rfl (zw fun b1 hb1 => ?_)
  refine g [[1]] ?_
  refine WL.so (SO.alloc ZvF.h rfl) rfl (zw fun b3 hb3 => ?_)
  refine g [[3],[2,3,2,1]] ?_
  refine WL.defer rfl (g [[3],[2,3,2,1]] ?_)
  refine WL.nf rfl (fun w hI => openD_1 T a1 a2 a3 _ _ _ c1 c2 c3 _ w hR hI.imm 219 [] true CaF.h hv) (g [[1]] ?_)
  refine WP.panicD (k := 0) [_, _] [_, _] rfl CaF.h rfl (fun w hI => catch218 _ _ _ _ _ (hI.own _ _ (List.mem_of_getElem? (i := 0) rfl))) rfl zV (fun w hI => ⟨_, D, rfl, hI.keep, hI.imm, DExt.refl _ _, 0, rfl⟩)
theorem Count_3 (T : Tide) (a1 a2 a3 : Option Addr) (n1 n2 n3 c1 c2 c3 : Nat) (D : Imm) (w : World) (hR : TideR D T a1 n1 a2 n2 a3 n3) (hH : Holds D w) (hL : LibW D) (hv : tideB T = true) : Makes Tryz.prog 149 [.agg #[.slice a1 n1 c1, .slice a2 n2 c2, .slice a3 n3 c3]] w D (fun v _ => ∃ n, v = .tuple #[it n, it 0]) := by
  unfold Makes
  obtain rfl := hR.mark.len'
  obtain rfl := hR.sand.len'
  obtain rfl := hR.look.len'
  obtain ⟨hl1, hl2, hl3⟩ := hR.len
  have hT := tideB_iff.1 hv
  obtain ⟨f, hf⟩ := ones64_ex
  refine enM Tryz.func149 rfl Tryz.ntmps149 (Inv.start hH) (g [[1],[1,0]] ?_)
  refine WL.so (SO.box rfl rfl) rfl (zw fun b1 hb1 => ?_)
  refine g [[1]] ?_
  refine WL.so (SO.alloc ZvF.h rfl) rfl (zw fun b3 hb3 => ?_)
  refine g [[3],[2,3,2,1]] ?_
  refine WL.defer rfl (g [[3],[2,3,2,1]] ?_)
  refine WL.so (SO.news (Enters.func CaF.h rfl) (fun w hI => openD_ok T a1 a2 a3 _ _ _ c1 c2 c3 _ w hR hI.imm 219 [] CaF.h (fun _ q mb D' w' hX hq hH => countIs_g q w') hv)) rfl ?_
  rintro _ D3 _ ⟨hp3, hX3, ⟨qb, mb, rfl, hq3, rfl⟩, rfl⟩
  have hR3 := hR.ext hX3
  have hL3 := hL.ext hX3
  refine WL.so (SO.alloc ZvF.h rfl) rfl (zw fun b4 hb4 => ?_)
  refine g [[4],[1,4,3,2]] ?_
  refine WL.so (SO.alloc ZvF.h rfl) rfl (zw fun b5 hb5 => ?_)
  refine g [[5]] ?_
  refine WC.freezeN 1 b4 (.cells (List.toArray [pt qb]) 134 (0, 0)) rfl rfl hb4 (fun D5 hX5 h4 => ?_)
  replace hR3 := hR3.ext hX5
  replace hq3 := hX5.old _ _ hq3
  replace hL3 := hL3.ext hX5
  refine g [[0,5,4,3,2]] ?_
  refine WC.drawD [] (pz [1,3,4,6]) zk zk zX (fun _ hI => hI.nil) (g [[2]] ?_)
  refine WA.so rfl (SO.callP CaF.h rfl (fun w hI => every_g T a1 a2 a3 _ _ _ c1 c2 c3 _ _ hR3 qb mb hq3 hI.imm hT)) rfl ?_
  rintro _ _ _ ⟨rfl, rfl, rfl⟩
  refine ⟨fun _ hI => hI.nil, ?_⟩
  refine WA.so rfl (SO.makes (Enters.func Tryz.call171 rfl) (fun w hI => truthsD_g qb _ _ _ hI.imm)) rfl ?_
  rintro _ D4 _ ⟨hX4, ⟨bs, bm, rfl, h1, hm⟩, rfl⟩
  replace hR3 := hR3.ext hX4
  replace hq3 := hX4.old _ _ hq3
  replace hL3 := hL3.ext hX4
  replace h4 := hX4.old _ _ h4
  refine ⟨fun _ hI => hI.nil.shrink hX4.old, ?_⟩
  refine g [[3],[0,2,3,4,5,13]] ?_
  refine WC.hpEq (hp' := [(b5, .cells (List.toArray [it 0]) 3 (0, 0)), (b3, .cells (List.toArray [it 0]) 51 (0, 0)), (b1, .cells (List.toArray [.slice a1 T.marks.length c1, .slice a2 T.sand.length c2, .slice a3 T.looks.length c3]) 31 (0, 0))] ++ [(mb, .map #[] 0)]) rfl (WC.hpPerm ([(mb, .map #[] 0)] ++ [(b5, .cells (List.toArray [it 0]) 3 (0, 0)), (b3, .cells (List.toArray [it 0]) 51 (0, 0)), (b1, .cells (List.toArray [.slice a1 T.marks.length c1, .slice a2 T.sand.length c2, .slice a3 T.looks.length c3]) 31 (0, 0))]) List.perm_append_comm ?_)
  refine WC.rangeIterT [(mb, .map #[] 0)] _ rfl (mapK_nil T mb) (N := (tdL T).length) (arg := fun k => tdV T (gt (tdL T) k)) (fun w1 hs hD1 => truthsD1_iter T a1 a2 a3 _ _ _ c1 c2 c3 qb mb bs bm D4 w1 hT hR3 hq3 hL3.done h1 hm) rfl Tryz.call235 rfl (fun k _ h => ∃ n : Int, h = [(b5, .cells (List.toArray [it n]) 3 (0, 0)), (b3, .cells (List.toArray [it 0]) 51 (0, 0)), (b1, .cells (List.toArray [.slice a1 T.marks.length c1, .slice a2 T.sand.length c2, .slice a3 T.looks.length c3]) 31 (0, 0))]) (fun _ _ _ => False) (fun _ _ _ _ _ h => h) ⟨0, rfl⟩ ?_ ?_ ?_
  · rintro rec1 l1 Dn0 k D6 _ w1 hrec hk ⟨n, rfl⟩ hX6 hsz
    unfold RoundGN
    have h46 := hX6.old _ _ h4
    have hq6 := hX6.old _ _ hq3
    refine g [[1,14,2,3,4,5]] ?_
    refine WLF.so (zn rfl) (SO.alloc ZvF.h rfl) rfl (zw fun b6 hb6 => ?_)
    refine WLF.so (zn rfl) (SO.store 0 rfl SzF.h rfl rfl rfl rfl (zqb rfl) (tdC_one T _)) rfl (zt (g [[1]] ?_))
    refine WP.iterBegin 1 rfl hrec (g [[1],[0,6,2,3,4,5]] ?_)
    refine WCF.tail 9 [0, 1, 2, 3, 4, 5, 6, 7, 8] rfl zk zk (noLets.blk noLets.round) (g [[8]] ?_)
    refine WQ.know 16 (tdV T (gt (tdL T) k)) rfl rfl (WQ.q rfl (Qt.callP CaF.h rfl (fun w hI => many_g f hf T hT.ns.2 (gt (tdL T) k) _ _ hI.imm)) rfl ?_)
    refine WQ.tailR (WLF.yd (zn rfl) (Yd.addW rfl rfl) rfl (g [[3]] ?_))
    refine WP.iterOnN hrec (h1 := [_, _, _]) (fun _ h => List.mem_cons_of_mem _ h) (fun h => (List.nodup_cons.1 h).2) (DExt.refl _ _) ⟨_, rfl⟩
  · rintro Dn1 D6 hM1 _ hDn1 hX6 hMM1 ⟨n, rfl⟩
    obtain ⟨es1, clock1, F1, rfl, hMR1, hFK1⟩ := hMM1
    refine g [[3],[7,2,3,5]] ?_
    refine WP.retMsD [Dn1] [_, _, _, _] [_, _] [_, _] rfl rfl CaF.h (fun w hI => idleM218 _ _) (fun _ h => h) (fun h => h) rfl zV (fun w hI => ⟨_, D6, rfl, hI.keep, hI.imm, ((hX3.trans hX5 (Nat.le_refl _)).trans hX4 (Nat.le_refl _)).trans hX6 (Nat.le_refl _), n, rfl⟩)
  exact fun _ _ _ _ _ _ _ _ h => h.elim
end Go.Proofs.YtejgofaeafphjaaGreatDoor
namespace Go.Ti
open Go.W (gt gt_of)
def splitB (much : Int) (ps : List Int) : Bool := inB much 0 5000 && decide (ps.length ≤ 6) && ps.all fun p => inB p 0 20
def downN (M A : Nat) (qs : List Nat) (i : Nat) : Nat := M * gt qs i / A
def remN (M A : Nat) (qs : List Nat) (i : Nat) : Nat := M * gt qs i % A
def sumF (f : Nat → Nat) : Nat → Nat
  | 0 => 0
  | n + 1 => sumF f n + f n
def leftN (M A : Nat) (qs : List Nat) (k : Nat) : Nat := M - sumF (downN M A qs) k
def incL (l js : List Nat) : List Nat := js.foldl (fun l i => l.set i (gt l i + 1)) l
def keyS (M A : Nat) (qs : List Nat) (i : Nat) : Int := -(remN M A qs i : Int)
def downL (M A : Nat) (qs : List Nat) (k n : Nat) : List Nat := (List.range n).map fun i => if i < k then downN M A qs i else 0
def splitL (M : Nat) (qs : List Nat) : List Nat := if qs.sum = 0 then List.replicate qs.length 0 else incL (downL M qs.sum qs qs.length qs.length) ((sortT (keyS M qs.sum qs) qs.length).take (leftN M qs.sum qs qs.length))
theorem sumN_take {l : List Nat} {k : Nat} (hk : k < l.length) : (l.take (k + 1)).sum = (l.take k).sum + gt l k := by
  have hg : gt l k = l[k] := by simp [gt, List.getD, hk]
  rw [List.take_succ_eq_append_getElem hk, List.sum_append, hg]
  simp
theorem down_sum (M A : Nat) (qs : List Nat) : ∀ k, k ≤ qs.length → sumF (downN M A qs) k * A + sumF (remN M A qs) k = M * (qs.take k).sum := by
  intro k
  induction k with
  | zero => intro _; simp [sumF]
  | succ k ih =>
    intro hk
    have h1 := ih (by omega)
    have h2 : downN M A qs k * A + remN M A qs k = M * gt qs k := by
      unfold downN remN
      rw [Nat.mul_comm (M * gt qs k / A)]
      exact Nat.div_add_mod _ _
    show (sumF (downN M A qs) k + downN M A qs k) * A + (sumF (remN M A qs) k + remN M A qs k) = _
    rw [sumN_take (by omega), Nat.mul_add, Nat.add_mul]
    omega
theorem rem_sum {M A : Nat} {qs : List Nat} (h0 : 0 < A) : ∀ k, sumF (remN M A qs) k ≤ k * (A - 1) := by
  intro k
  induction k with
  | zero => simp [sumF]
  | succ k ih =>
    unfold sumF
    have : remN M A qs k < A := Nat.mod_lt _ h0
    rw [Nat.succ_mul]
    omega
theorem left_rem {M A : Nat} {qs : List Nat} (hA : A = qs.sum) (h0 : 0 < A) : leftN M A qs qs.length * A = sumF (remN M A qs) qs.length := by
  have h1 := down_sum M A qs qs.length (Nat.le_refl _)
  rw [List.take_length, ← hA] at h1
  unfold leftN
  rw [Nat.sub_mul]
  omega
theorem left_lt {M A : Nat} {qs : List Nat} (hA : A = qs.sum) (h0 : 0 < A) : leftN M A qs qs.length < qs.length := by
  have h1 := left_rem (M := M) hA h0
  have h2 := rem_sum (M := M) (qs := qs) h0 qs.length
  have hn : 0 < qs.length := by
    rcases Nat.eq_zero_or_pos qs.length with h | h
    · have : qs = [] := List.eq_nil_of_length_eq_zero h
      rw [this] at hA
      simp at hA
      omega
    · exact h
  have h3 : qs.length * (A - 1) < qs.length * A := Nat.mul_lt_mul_of_pos_left (by omega) hn
  exact Nat.lt_of_mul_lt_mul_right (a := A) (by omega)
theorem downL_len (M A : Nat) (qs : List Nat) (k n : Nat) : (downL M A qs k n).length = n := by simp [downL]
theorem downL_at (M A : Nat) (qs : List Nat) {k n i : Nat} (hi : i < n) : gt (downL M A qs k n) i = if i < k then downN M A qs i else 0 := by simp [downL, gt, List.getD, hi]
theorem inc_take {l js : List Nat} {k : Nat} (hk : k < js.length) : incL l (js.take (k + 1)) = (incL l (js.take k)).set (gt js k) (gt (incL l (js.take k)) (gt js k) + 1) := by
  have hg : gt js k = js[k] := by simp [gt, List.getD, hk]
  unfold incL
  rw [List.take_succ_eq_append_getElem hk, List.foldl_append, hg]
  rfl
theorem inc_len (l : List Nat) : ∀ js, (incL l js).length = l.length := by
  intro js
  induction js generalizing l with
  | nil => rfl
  | cons j js ih => exact (ih _).trans (by simp)
end Go.Ti
