import Derived.Test.YtejgofaeafphjaaGreatDoorXG24
import Derived.Test.YtejgofaeafphjaaGreatDoorXG7
set_option linter.all false
set_option maxRecDepth 100000
set_option maxHeartbeats 4000000
attribute [local irreducible] Go.W.WL Go.W.WLF Go.W.WC Go.W.WCF Go.W.WP Go.W.WA Go.W.WQ Go.W.WH Go.W.WHo Go.W.WCn Go.W.Yd Go.W.Qt Go.W.SO Go.Code.wp Go.Code.wpIn
namespace Go.Proofs.YtejgofaeafphjaaGreatDoor
open Go.W Go.Ti
inductive Pt where
  | s (w : Bs)
  | n (i : Int)
  | b (x : Bool)
  | sp (a c : Int)
instance : Inhabited Pt := ⟨.n 0⟩
def ptV : Pt → Value
  | .s w => .iface 9 (st w)
  | .n i => .iface 3 (it i)
  | .b x => .iface 4 (.bool x)
  | .sp a c => .iface 39 (.agg #[it a, it c])
def ptL : Pt → Bs
  | .s w => w
  | .n i => Lib.itoa i
  | .b x => Lib.itoa (wS x)
  | .sp a c => Lib.itoa a ++ 32 :: Lib.itoa c
def ptC (p : Pt) : List Value := [st (ptL p)]
def ptI (p : Pt) : List Value := [ptV p]
theorem wG : ∀ p, (ptC p).length = 1 := fun _ => rfl
theorem yu : ∀ p, (ptI p).length = 1 := fun _ => rfl
def q9 (l : List Pt) : Bs := Lib.join (l.map ptL) [32]
def ptB : Pt → Prop
  | .s w => w.length ≤ 100
  | .n i => i64B i
  | .b _ => True
  | .sp a c => i64B a ∧ i64B c
def simB : Pt → Bool | .s _ => true | .n _ => true | _ => false
theorem Yp : ∀ (k n : Nat), n < 10 ^ (k + 1) → (Lib.decDigits n).length ≤ k + 1
  | 0, n, h => by rw [Lib.decDigits, dif_pos (by omega)]; simp
  | k + 1, n, h => by
    rw [Lib.decDigits];split
    · simp
    have := Yp k (n / 10) (by rw [Nat.pow_succ] at h; omega);rw [List.length_append, List.length_singleton]; omega
theorem uE {n : Int} (h : i64B n) : (Lib.itoa n).length ≤ 30 := by
  unfold i64B at h;unfold Lib.itoa;split
  · have := Yp 19 n.natAbs (by omega);rw [List.length_cons]; omega
  have := Yp 19 n.toNat (by omega);omega
theorem kc (x : Bool) : i64B (wS x) := by unfold i64B; cases x <;> simp [wS]
theorem zb3 {p : Pt} (h : ptB p) : (ptL p).length ≤ 100 := by
  cases p with
  | s w => exact h
  | n i => have := uE (n := i) h; show (Lib.itoa i).length ≤ 100; omega
  | b x => have := uE (kc x); show (Lib.itoa (wS x)).length ≤ 100; omega
  | sp a c =>
    have h1 := uE (n := a) h.1;have h2 := uE (n := c) h.2
    show (Lib.itoa a ++ 32 :: Lib.itoa c).length ≤ 100;rw [List.length_append, List.length_cons]; omega
theorem zau (K : Nat) : ∀ l : List Bs, (∀ x ∈ l, x.length ≤ K) → (Lib.join l [32]).length ≤ l.length * (K + 1)
  | [], _ => by simp [Lib.join_nil]
  | x :: r, h => by
    have h1 := h x List.mem_cons_self;rw [Lib.join_cons, List.length_append, List.length_cons, Nat.succ_mul]
    have : ∀ r : List Bs, (∀ x ∈ r, x.length ≤ K) → (Lib.joinTail [32] r).length ≤ r.length * (K + 1) := fun r hr => by
      induction r with
      | nil => simp [Lib.joinTail]
      | cons y r ih =>
        have h2 := hr y List.mem_cons_self;have h3 := ih fun z hz => hr z (List.mem_cons_of_mem _ hz);simp only [Lib.joinTail, List.map_cons, List.flatten_cons, List.length_append, List.length_cons, List.length_nil] at h3 ⊢;rw [Nat.succ_mul]; omega
    have := this r fun z hz => h z (List.mem_cons_of_mem _ hz);omega
theorem W8 {l : List Pt} (h : ∀ p ∈ l, ptB p) (hl : l.length ≤ 100) : (Lib.join (l.map ptL) [32]).length ≤ 100000 := by
  have := zau 100 (l.map ptL) fun x hx => by
    obtain ⟨p, hp, rfl⟩ := List.mem_map.1 hx;exact zb3 (h p hp)
  rw [List.length_map] at this;omega
theorem W9 (i : Int) : q9 [.n i] = Lib.itoa i := Lib.join_one _ _
theorem K3 (a c : Int) : q9 [.n a, .n c] = Lib.itoa a ++ 32 :: Lib.itoa c := by simp [q9, ptL, Lib.join_cons, Lib.joinTail]
theorem xa (w : Bs) (ns : List Int) : q9 (.s w :: ns.map .n) = repL w ns := by
  unfold q9 repL;rw [List.map_cons, Lib.join_cons, List.map_map]
  show w ++ Lib.joinTail [32] _ = _;congr 1;unfold Lib.joinTail;rw [List.map_map, List.flatMap_def];rfl
theorem Q9 (w : Bs) (n : Int) (x : Bool) : q9 [.s w, .n n, .b x] = repL w [n, wS x] := by simp [q9, repL, ptL, Lib.join_cons, Lib.joinTail]
theorem jk (w : Bs) (a c : Int) : q9 [.s w, .sp a c] = repL w [a, c] := by simp [q9, repL, ptL, Lib.join_cons, Lib.joinTail]
theorem Q8 (l : List Pt) (a : Option Addr) (n c : Nat) (D : Imm) (hL : LibW D) (hS : SlL D 1 (l.map ptI) a n) (hn : n ≤ 100) (hB : ∀ p ∈ l, ptB p) (hsim : ∀ p ∈ l, simB p = true) (w : World) (hH : Holds D w) : z8 Tryz.prog 223 [.slice a n c] w (st (q9 l)) := by
  unfold z8;obtain rfl := hS.len';refine en Tryz.func223 rfl Tryz.ntmps223 (Inv.start hH) (g [[1],[5,0],[6,2,0],[7,3,2,0]] ?_);refine WC.loop (fun y : Nat × Option Ow => [(3, owV y.2 y.1), (11, .slice a l.length c), (12, nt l.length), (13, nt y.1)]) (fun y => owH y.2 9 ((l.take y.1).flatMap ptC) []) (fun _ => D) (fun y => y.1 ≤ l.length ∧ owP w y.2 y.1 1) (fun y => l.length - y.1) (0, none) ⟨by omega, rfl⟩ (fun a w h => y4 h ⟨rfl, rfl, rfl, rfl, trivial⟩) ?_;rintro ⟨k, o⟩ ⟨hk, ho⟩;dsimp only at hk ho;refine g [[1],[5,3,11,12,13]] ?_;refine WC.cond rfl (fun c14 => ?_) (fun c14 => ?_)
  · try simp only [zq] at c14
    have hkl : k < l.length := by omega
    refine g [[5],[1,3,11,12,13]] ?_;refine WL.yd (Yd.ix rfl rfl (hS.addr k (by omega))) rfl (WL.yd (Yd.l1 rfl ((hS.at k (by omega)).rd 0 rfl)) rfl (g [[4]] ?_));cases hgp : gt l k
    · rename_i q
      refine g [[6,5,3,11,12,13],[1,17,3,11,12,13]] ?_;refine WL.yd (Yd.assert UnF.h (by intro _ h; cases h) rfl) rfl (g [[6],[4,20,3,11,12,13],[3,6,3,11,12,13]] ?_);refine WL.so (SO.buildSlice1 UnF.h SzF.h ZvF.h rfl rfl rfl (vs := [_]) rfl rfl rfl) rfl ?_;rintro _ _ _ ⟨b23, hb23, rfl, rfl, rfl⟩;refine WL.so (SO.appendOwW (W := w) (Nat.le_refl _) (o := o) (len := k) (n := 1) (xs := ((l.take k).flatMap ptC)) (size := 1) [_] [] [] rfl rfl Tryz.underlying37 Tryz.sizeOf9 Tryz.typeInfo9 Tryz.zeroValue9 rfl rfl rfl rfl ⟨rfl, .inr ⟨_, _, _, rfl, RdN.own (k := 0) (n := 1) rfl rfl⟩⟩ (za rfl) ho (by rw [zr wG, List.length_take, Nat.min_eq_left (by omega), Nat.mul_one]) (by omega) (by show (2 * (_ + _) + 1000) * 16 ≤ 2 ^ 48; omega) (by omega)) rfl ?_;rintro _ _ _ ⟨u1, hu1, rfl, rfl, rfl⟩;refine g [[5],[4,3,11,12,13]] ?_;exact WP.again (⟨k + 1, some u1⟩ : Nat × Option Ow) ⟨by simp only; omega, hu1⟩ (by simp only; omega) (fun aa ww h => yM 0 h ⟨rfl, rfl, rfl, rfl, trivial⟩ (by dsimp only; rw [zP hkl, List.flatMap_append, hgp]; first | exact List.Perm.refl _ | (simp only [List.flatMap_cons, List.flatMap_nil, ptC, ptL]; exact List.Perm.refl _)) (fun _ _ h => h))
    · rename_i q
      refine g [[6,5,3,11,12,13],[1,17,3,11,12,13]] ?_;refine WL.yd (Yd.assertNo UnF.h (by intro _ h; cases h) ZvF.h rfl rfl) rfl (g [[6],[1,17,3,11,12,13]] ?_);refine WL.yd (Yd.assert UnF.h (by intro _ h; cases h) rfl) rfl (g [[6],[4,27,3,11,12,13],[3,7,3,11,12,13]] ?_);refine WL.cl rfl (fun w hI => Xw q (by have := hB _ (gt_mem' hkl); rw [hgp] at this; exact this) D hL _ hI.imm) ?_;refine WL.so (SO.buildSlice1 UnF.h SzF.h ZvF.h rfl rfl rfl (vs := [_]) rfl rfl rfl) rfl ?_;rintro _ _ _ ⟨b31, hb31, rfl, rfl, rfl⟩;refine WL.so (SO.appendOwW (W := w) (Nat.le_refl _) (o := o) (len := k) (n := 1) (xs := ((l.take k).flatMap ptC)) (size := 1) [_] [] [] rfl rfl Tryz.underlying37 Tryz.sizeOf9 Tryz.typeInfo9 Tryz.zeroValue9 rfl rfl rfl rfl ⟨rfl, .inr ⟨_, _, _, rfl, RdN.own (k := 0) (n := 1) rfl rfl⟩⟩ (za rfl) ho (by rw [zr wG, List.length_take, Nat.min_eq_left (by omega), Nat.mul_one]) (by omega) (by show (2 * (_ + _) + 1000) * 16 ≤ 2 ^ 48; omega) (by omega)) rfl ?_;rintro _ _ _ ⟨u1, hu1, rfl, rfl, rfl⟩;refine g [[5],[4,3,11,12,13]] ?_;exact WP.again (⟨k + 1, some u1⟩ : Nat × Option Ow) ⟨by simp only; omega, hu1⟩ (by simp only; omega) (fun aa ww h => yM 0 h ⟨rfl, rfl, rfl, rfl, trivial⟩ (by dsimp only; rw [zP hkl, List.flatMap_append, hgp]; first | exact List.Perm.refl _ | (simp only [List.flatMap_cons, List.flatMap_nil, ptC, ptL]; exact List.Perm.refl _)) (fun _ _ h => h))
    · exact absurd (hsim _ (gt_mem' hkl)) (by rw [hgp]; simp [simB])
    exact absurd (hsim _ (gt_mem' hkl)) (by rw [hgp]; simp [simB])
  try simp only [zq] at c14
  obtain rfl : k = l.length := by omega
  refine g [[6],[2,3]] ?_;refine WL.know 59 (.slice (owAt o) l.length (owCp o l.length)) rfl (xg (wt ho)) ?_;refine WL.freezeOw (f := ptC) (m := 1) wG [] [] o 9 l rfl ho (by rw [List.take_length]; rfl) (fun D3 hX3 hS3 => ?_)
  have hcap : l.length ≤ owCp o l.length := by
    cases o with
    | none => have h0 : l.length = 0 := ho
              rw [h0]; exact Nat.zero_le _
    | some u => exact ho.2.1
  refine WL.cl rfl (fun w hI => Kt (l.map ptL) (owAt o) l.length (owCp o l.length) D3 (by rw [List.map_map]; exact hS3) (by omega) hcap (W8 hB hn) _ hI.imm) (g [[4]] ?_);refine WP.ret1 rfl rfl rfl (RV.tmp rfl) (fun w1 hI => ⟨rfl, hI.keep⟩)
theorem xK (l : List Pt) (a : Option Addr) (n c : Nat) (D : Imm) (hL : LibW D) (hS : SlL D 1 (l.map ptI) a n) (hn : n ≤ 100) (hB : ∀ p ∈ l, ptB p) (w : World) (hH : Holds D w) : z8 Tryz.prog 223 [.slice a n c] w (st (q9 l)) := by
  unfold z8;obtain rfl := hS.len';refine en Tryz.func223 rfl Tryz.ntmps223 (Inv.start hH) (g [[1],[5,0],[6,2,0],[7,3,2,0]] ?_);refine WC.loop (fun y : Nat × Option Ow => [(3, owV y.2 y.1), (11, .slice a l.length c), (12, nt l.length), (13, nt y.1)]) (fun y => owH y.2 9 ((l.take y.1).flatMap ptC) []) (fun _ => D) (fun y => y.1 ≤ l.length ∧ owP w y.2 y.1 1) (fun y => l.length - y.1) (0, none) ⟨by omega, rfl⟩ (fun a w h => y4 h ⟨rfl, rfl, rfl, rfl, trivial⟩) ?_;rintro ⟨k, o⟩ ⟨hk, ho⟩;dsimp only at hk ho;refine g [[1],[5,3,11,12,13]] ?_;refine WC.cond rfl (fun c14 => ?_) (fun c14 => ?_)
  · try simp only [zq] at c14
    have hkl : k < l.length := by omega
    refine g [[5],[1,3,11,12,13]] ?_;refine WL.yd (Yd.ix rfl rfl (hS.addr k (by omega))) rfl (WL.yd (Yd.l1 rfl ((hS.at k (by omega)).rd 0 rfl)) rfl (g [[4]] ?_));cases hgp : gt l k
    · rename_i q
      refine g [[6,5,3,11,12,13],[1,17,3,11,12,13]] ?_;refine WL.yd (Yd.assert UnF.h (by intro _ h; cases h) rfl) rfl (g [[6],[4,20,3,11,12,13],[3,6,3,11,12,13]] ?_);refine WL.so (SO.buildSlice1 UnF.h SzF.h ZvF.h rfl rfl rfl (vs := [_]) rfl rfl rfl) rfl ?_;rintro _ _ _ ⟨b23, hb23, rfl, rfl, rfl⟩;refine WL.so (SO.appendOwW (W := w) (Nat.le_refl _) (o := o) (len := k) (n := 1) (xs := ((l.take k).flatMap ptC)) (size := 1) [_] [] [] rfl rfl Tryz.underlying37 Tryz.sizeOf9 Tryz.typeInfo9 Tryz.zeroValue9 rfl rfl rfl rfl ⟨rfl, .inr ⟨_, _, _, rfl, RdN.own (k := 0) (n := 1) rfl rfl⟩⟩ (za rfl) ho (by rw [zr wG, List.length_take, Nat.min_eq_left (by omega), Nat.mul_one]) (by omega) (by show (2 * (_ + _) + 1000) * 16 ≤ 2 ^ 48; omega) (by omega)) rfl ?_;rintro _ _ _ ⟨u1, hu1, rfl, rfl, rfl⟩;refine g [[5],[4,3,11,12,13]] ?_;exact WP.again (⟨k + 1, some u1⟩ : Nat × Option Ow) ⟨by simp only; omega, hu1⟩ (by simp only; omega) (fun aa ww h => yM 0 h ⟨rfl, rfl, rfl, rfl, trivial⟩ (by dsimp only; rw [zP hkl, List.flatMap_append, hgp]; first | exact List.Perm.refl _ | (simp only [List.flatMap_cons, List.flatMap_nil, ptC, ptL]; exact List.Perm.refl _)) (fun _ _ h => h))
    · rename_i q
      refine g [[6,5,3,11,12,13],[1,17,3,11,12,13]] ?_;refine WL.yd (Yd.assertNo UnF.h (by intro _ h; cases h) ZvF.h rfl rfl) rfl (g [[6],[1,17,3,11,12,13]] ?_);refine WL.yd (Yd.assert UnF.h (by intro _ h; cases h) rfl) rfl (g [[6],[4,27,3,11,12,13],[3,7,3,11,12,13]] ?_);refine WL.cl rfl (fun w hI => Xw q (by have := hB _ (gt_mem' hkl); rw [hgp] at this; exact this) D hL _ hI.imm) ?_;refine WL.so (SO.buildSlice1 UnF.h SzF.h ZvF.h rfl rfl rfl (vs := [_]) rfl rfl rfl) rfl ?_;rintro _ _ _ ⟨b31, hb31, rfl, rfl, rfl⟩;refine WL.so (SO.appendOwW (W := w) (Nat.le_refl _) (o := o) (len := k) (n := 1) (xs := ((l.take k).flatMap ptC)) (size := 1) [_] [] [] rfl rfl Tryz.underlying37 Tryz.sizeOf9 Tryz.typeInfo9 Tryz.zeroValue9 rfl rfl rfl rfl ⟨rfl, .inr ⟨_, _, _, rfl, RdN.own (k := 0) (n := 1) rfl rfl⟩⟩ (za rfl) ho (by rw [zr wG, List.length_take, Nat.min_eq_left (by omega), Nat.mul_one]) (by omega) (by show (2 * (_ + _) + 1000) * 16 ≤ 2 ^ 48; omega) (by omega)) rfl ?_;rintro _ _ _ ⟨u1, hu1, rfl, rfl, rfl⟩;refine g [[5],[4,3,11,12,13]] ?_;exact WP.again (⟨k + 1, some u1⟩ : Nat × Option Ow) ⟨by simp only; omega, hu1⟩ (by simp only; omega) (fun aa ww h => yM 0 h ⟨rfl, rfl, rfl, rfl, trivial⟩ (by dsimp only; rw [zP hkl, List.flatMap_append, hgp]; first | exact List.Perm.refl _ | (simp only [List.flatMap_cons, List.flatMap_nil, ptC, ptL]; exact List.Perm.refl _)) (fun _ _ h => h))
    · rename_i q
      refine g [[6,5,3,11,12,13],[1,17,3,11,12,13]] ?_;refine WL.yd (Yd.assertNo UnF.h (by intro _ h; cases h) ZvF.h rfl rfl) rfl (g [[6],[1,17,3,11,12,13]] ?_);refine WL.yd (Yd.assertNo UnF.h (by intro _ h; cases h) ZvF.h rfl rfl) rfl (g [[6],[1,17,3,11,12,13]] ?_);refine WL.yd (Yd.assert UnF.h (by intro _ h; cases h) rfl) rfl (g [[6],[5,35,3,11,12,13],[6,8,3,11,12,13],[4,9,8,3,11,12,13]] ?_);refine WC.cond rfl (fun c36 => ?_) (fun c36 => ?_)
      · refine g [[4,9,3,11,12,13],[4,9,3,11,12,13]] ?_;refine WL.so (SO.buildSlice1 UnF.h SzF.h ZvF.h rfl rfl rfl (vs := [_]) rfl rfl rfl) rfl ?_;rintro _ _ _ ⟨b40, hb40, rfl, rfl, rfl⟩;refine WL.freezeN 0 b40 (.cells (List.toArray ([Pt.n 1].flatMap ptI ++ [])) 20 (0, 0)) rfl rfl hb40 (fun D2 hX2 h40 => ?_);refine WL.cl rfl (fun w hI => Q8 [Pt.n (wS q)] (some ⟨b40, 0, none⟩) 1 1 D2 (hL.ext hX2) (by rw [show wS q = _ from by rw [c36]]; exact SlL.ofBlock yu h40) (by decide) (by intro p hp; obtain rfl := List.mem_singleton.1 hp; exact kc q) (by intro p hp; obtain rfl := List.mem_singleton.1 hp; rfl) _ hI.imm) ?_;refine WL.know 41 (st (ptL (.b q))) rfl (by rw [W9]; rfl) ?_;refine WL.so (SO.buildSlice1 UnF.h SzF.h ZvF.h rfl rfl rfl (vs := [_]) rfl rfl rfl) rfl ?_;rintro _ _ _ ⟨b42, hb42, rfl, rfl, rfl⟩;refine WL.so (SO.appendOwW (W := w) (Nat.le_refl _) (o := o) (len := k) (n := 1) (xs := ((l.take k).flatMap ptC)) (size := 1) [_] [] [] rfl rfl Tryz.underlying37 Tryz.sizeOf9 Tryz.typeInfo9 Tryz.zeroValue9 rfl rfl rfl rfl ⟨rfl, .inr ⟨_, _, _, rfl, RdN.own (k := 0) (n := 1) rfl rfl⟩⟩ (za rfl) ho (by rw [zr wG, List.length_take, Nat.min_eq_left (by omega), Nat.mul_one]) (by omega) (by show (2 * (_ + _) + 1000) * 16 ≤ 2 ^ 48; omega) (by omega)) rfl ?_;rintro _ _ _ ⟨u1, hu1, rfl, rfl, rfl⟩;refine g [[5],[4,3,11,12,13]] ?_;exact WP.again (⟨k + 1, some u1⟩ : Nat × Option Ow) ⟨by simp only; omega, hu1⟩ (by simp only; omega) (fun aa ww h => yM 0 h ⟨rfl, rfl, rfl, rfl, trivial⟩ (by dsimp only; rw [zP hkl, List.flatMap_append, hgp]; first | exact List.Perm.refl _ | (simp only [List.flatMap_cons, List.flatMap_nil, ptC, ptL]; exact List.Perm.refl _)) hX2.old)
      refine g [[2],[4,9,3,11,12,13]] ?_;refine WL.so (SO.buildSlice1 UnF.h SzF.h ZvF.h rfl rfl rfl (vs := [_]) rfl rfl rfl) rfl ?_;rintro _ _ _ ⟨b40, hb40, rfl, rfl, rfl⟩;refine WL.freezeN 0 b40 (.cells (List.toArray ([Pt.n 0].flatMap ptI ++ [])) 20 (0, 0)) rfl rfl hb40 (fun D2 hX2 h40 => ?_);refine WL.cl rfl (fun w hI => Q8 [Pt.n (wS q)] (some ⟨b40, 0, none⟩) 1 1 D2 (hL.ext hX2) (by rw [show wS q = _ from by rw [c36]]; exact SlL.ofBlock yu h40) (by decide) (by intro p hp; obtain rfl := List.mem_singleton.1 hp; exact kc q) (by intro p hp; obtain rfl := List.mem_singleton.1 hp; rfl) _ hI.imm) ?_;refine WL.know 41 (st (ptL (.b q))) rfl (by rw [W9]; rfl) ?_;refine WL.so (SO.buildSlice1 UnF.h SzF.h ZvF.h rfl rfl rfl (vs := [_]) rfl rfl rfl) rfl ?_;rintro _ _ _ ⟨b42, hb42, rfl, rfl, rfl⟩;refine WL.so (SO.appendOwW (W := w) (Nat.le_refl _) (o := o) (len := k) (n := 1) (xs := ((l.take k).flatMap ptC)) (size := 1) [_] [] [] rfl rfl Tryz.underlying37 Tryz.sizeOf9 Tryz.typeInfo9 Tryz.zeroValue9 rfl rfl rfl rfl ⟨rfl, .inr ⟨_, _, _, rfl, RdN.own (k := 0) (n := 1) rfl rfl⟩⟩ (za rfl) ho (by rw [zr wG, List.length_take, Nat.min_eq_left (by omega), Nat.mul_one]) (by omega) (by show (2 * (_ + _) + 1000) * 16 ≤ 2 ^ 48; omega) (by omega)) rfl ?_;rintro _ _ _ ⟨u1, hu1, rfl, rfl, rfl⟩;refine g [[5],[4,3,11,12,13]] ?_;exact WP.again (⟨k + 1, some u1⟩ : Nat × Option Ow) ⟨by simp only; omega, hu1⟩ (by simp only; omega) (fun aa ww h => yM 0 h ⟨rfl, rfl, rfl, rfl, trivial⟩ (by dsimp only; rw [zP hkl, List.flatMap_append, hgp]; first | exact List.Perm.refl _ | (simp only [List.flatMap_cons, List.flatMap_nil, ptC, ptL]; exact List.Perm.refl _)) hX2.old)
    rename_i qa qc
    refine g [[6,5,3,11,12,13],[1,17,3,11,12,13]] ?_;refine WL.yd (Yd.assertNo UnF.h (by intro _ h; cases h) ZvF.h rfl rfl) rfl (g [[6],[1,17,3,11,12,13]] ?_);refine WL.yd (Yd.assertNo UnF.h (by intro _ h; cases h) ZvF.h rfl rfl) rfl (g [[6],[1,17,3,11,12,13]] ?_);refine WL.yd (Yd.assertNo UnF.h (by intro _ h; cases h) ZvF.h rfl rfl) rfl (g [[6],[1,17,3,11,12,13]] ?_);refine WL.yd (Yd.assert UnF.h (by intro _ h; cases h) rfl) rfl (g [[6],[1,46,3,11,12,13]] ?_);refine WL.so (SO.alloc ZvF.h rfl) rfl (zw fun b10 hb10 => ?_);refine g [[3],[8,10,3,11,12,13]] ?_;refine WL.so (SO.buildSlice1 UnF.h SzF.h ZvF.h rfl rfl rfl (vs := [_, _]) rfl rfl rfl) rfl ?_;rintro _ _ _ ⟨b54, hb54, rfl, rfl, rfl⟩;refine WL.freezeN 0 b54 (.cells (List.toArray ([Pt.n qa, Pt.n qc].flatMap ptI ++ [])) 20 (0, 0)) rfl rfl hb54 (fun D2 hX2 h54 => ?_);refine WL.cl rfl (fun w hI => Q8 [Pt.n qa, Pt.n qc] (some ⟨b54, 0, none⟩) 2 2 D2 (hL.ext hX2) (SlL.ofBlock yu h54) (by decide) (by have := hB _ (gt_mem' hkl); rw [hgp] at this; intro p hp; simp only [List.mem_cons, List.not_mem_nil, or_false] at hp; rcases hp with rfl | rfl; exact this.1; exact this.2) (by intro p hp; simp only [List.mem_cons, List.not_mem_nil, or_false] at hp; rcases hp with rfl | rfl <;> rfl) _ hI.imm) ?_;refine WL.know 55 (st (ptL (.sp qa qc))) rfl (by rw [K3]; rfl) ?_;refine WL.so (SO.buildSlice1 UnF.h SzF.h ZvF.h rfl rfl rfl (vs := [_]) rfl rfl rfl) rfl ?_;rintro _ _ _ ⟨b56, hb56, rfl, rfl, rfl⟩;refine WL.so (SO.appendOwW (W := w) (Nat.le_refl _) (o := o) (len := k) (n := 1) (xs := ((l.take k).flatMap ptC)) (size := 1) [_] [_] [] rfl rfl Tryz.underlying37 Tryz.sizeOf9 Tryz.typeInfo9 Tryz.zeroValue9 rfl rfl rfl rfl ⟨rfl, .inr ⟨_, _, _, rfl, RdN.own (k := 0) (n := 1) rfl rfl⟩⟩ (za rfl) ho (by rw [zr wG, List.length_take, Nat.min_eq_left (by omega), Nat.mul_one]) (by omega) (by show (2 * (_ + _) + 1000) * 16 ≤ 2 ^ 48; omega) (by omega)) rfl ?_;rintro _ _ _ ⟨u1, hu1, rfl, rfl, rfl⟩;refine g [[5],[4,3,11,12,13]] ?_;exact WP.again (⟨k + 1, some u1⟩ : Nat × Option Ow) ⟨by simp only; omega, hu1⟩ (by simp only; omega) (fun aa ww h => yM 1 h ⟨rfl, rfl, rfl, rfl, trivial⟩ (by dsimp only; rw [zP hkl, List.flatMap_append, hgp]; first | exact List.Perm.refl _ | (simp only [List.flatMap_cons, List.flatMap_nil, ptC, ptL]; exact List.Perm.refl _)) hX2.old)
  try simp only [zq] at c14
  obtain rfl : k = l.length := by omega
  refine g [[6],[2,3]] ?_;refine WL.know 59 (.slice (owAt o) l.length (owCp o l.length)) rfl (xg (wt ho)) ?_;refine WL.freezeOw (f := ptC) (m := 1) wG [] [] o 9 l rfl ho (by rw [List.take_length]; rfl) (fun D3 hX3 hS3 => ?_)
  have hcap : l.length ≤ owCp o l.length := by
    cases o with
    | none => have h0 : l.length = 0 := ho
              rw [h0]; exact Nat.zero_le _
    | some u => exact ho.2.1
  refine WL.cl rfl (fun w hI => Kt (l.map ptL) (owAt o) l.length (owCp o l.length) D3 (by rw [List.map_map]; exact hS3) (by omega) hcap (W8 hB hn) _ hI.imm) (g [[4]] ?_);refine WP.ret1 rfl rfl rfl (RV.tmp rfl) (fun w1 hI => ⟨rfl, hI.keep⟩)
def AskK (w : World) (r : Rep) (e : Ending) (w' : World) : Prop := Keep [] w w' ∧ ((r.2.2 = 0 ∧ e = .returned (st r.2.1)) ∨ (r.2.2 ≠ 0 ∧ e = .panicked (jA r.2.2)))
theorem u3 {w w' : World} {d : Day} {sw : Bs} {r : List Int} {e : Int} {q : Bs} (he : e = 0) (hq : q = repL sw r) (hk : Keep [] w w') : AskK w (askD d sw r e) (.returned (st q)) w' := by
  subst he; subst hq;exact ⟨hk, .inl ⟨rfl, rfl⟩⟩
theorem u2 {w w' : World} {d : Day} {sw : Bs} {r : List Int} {e f : Int} (he : e ≠ 0) (hf : f = e) (hk : Keep [] w w') : AskK w (askD d sw r e) (.panicked (jA f)) w' := by
  subst hf;have h : askD d sw r f = errD d f := by unfold askD; rw [if_pos he]
  rw [h];exact ⟨hk, .inr ⟨he, rfl⟩⟩
theorem KD {T : Tks} (n : Int) : 0 ≤ (zu T n).1 ∧ (zu T n).1 ≤ 2 := by
  unfold zu; split
  · simp
  dsimp only; unfold vI; split
  · omega
  split <;> omega
theorem Ko {T : Tks} (n m : Int) : 0 ≤ (zF T n m).1 ∧ (zF T n m).1 ≤ 2 := by
  unfold zF; split
  · simp
  dsimp only; unfold vI; split
  · omega
  split <;> omega
theorem Qk {T : Tks} (hv : tksB T = true) (m : Int) : 0 ≤ (zi T m).1 ∧ (zi T m).1 < 32 := by
  unfold zi; split
  · simp
  have h := qB (fun i => (allT T).any fun t => decide (nowI t m T.l.length = (i : Int))) T.l.length;have h2 := Nat.pow_le_pow_right (show 0 < 2 by decide) (y8 hv).2.1;dsimp only; omega
theorem qE {T : Tide} (hv : zQ T = true) (p m : Int) : (0 ≤ (zf T p m).1.lo ∧ (zf T p m).1.lo ≤ 60) ∧ 0 ≤ (zf T p m).1.hi ∧ (zf T p m).1.hi ≤ 60 := by
  unfold zf; split
  · simp
  rename_i h
  unfold un at h;rw [hv] at h;cases hw : (yO T p && zx T m) with
  | false => rw [hw] at h; simp at h
  | true =>
    by_cases hn : tdL T = []
    · rw [hw, hn] at h; simp at h
    simp only [Bool.and_eq_true] at hw;obtain ⟨a, rfl, ha⟩ := uL hw.1;have := Vy (yK.1 hv) hn ha hw.2;dsimp only [Int.toNat_natCast]; omega
theorem Xk {T : Tide} {p : Nat} {l : Int} : ∀ (n : Nat) (m k : Int), wW T p l n m = some k → m ≤ k ∧ k < m + n
  | 0, _, _, h => by cases h
  | n + 1, m, k, h => by
    rw [wW] at h;split at h
    · cases h; omega
    have := Xk n (m + 1) k h; omega
theorem VK {T : Tide} (hv : zQ T = true) (p l m : Int) : 0 ≤ (zv T p l m).1 ∧ (zv T p l m).1 ≤ 240 := by
  unfold zv; split
  · simp
  rename_i h
  cases hf : wW T p.toNat l (wB T - m + 1).toNat m with
  | none => simp
  | some k =>
    have h1 := Xk _ _ _ hf;unfold un at h;rw [hv] at h;cases hw : (yO T p && (ju l && zx T m)) with
    | false => rw [hw] at h; simp at h
    | true =>
      simp only [Bool.and_eq_true] at hw;have hm0 := wq (yK.1 hv) hw.2.2;have hT := yK.1 hv;have hml := (hT.mark (T.marks.length - 1) (by have := hT.nm; omega)).1.2;have hml' : wB T ≤ 240 := hml;dsimp only; omega
theorem zbq (x : Wick) (d : Day) (m s t l b : Sl) (xb : Nat) (D : Imm) (w : World) (hw : zS x = true) (hdo : zT x d) (hW : yG D x m s) (hd : DayR D d t l b) (hL : LibW D) (hH : Holds D w) (hxn : D xb = none) (hx : w.heap[xb]? = some (womO x m s t l b)) (ls : List Int) (al : Option Addr) (nl cl : Nat) (hls : SlL D 1 (ls.map intC) al nl) (hnl : ls.length = 1) (hll : nl ≤ 1000) : Calls Tryz.prog 153 (List.toArray [pt xb, .slice al nl cl]) w fun e w' => AskK w (doD x d yF ls) e w' := by
  have hXx : DExt { w with heap := #[] } D (D.add xb (womO x m s t l b)) := ⟨xD hxn, fun b h => by simp at h⟩;replace hW := hW.ext hXx;replace hd := hd.ext hXx;replace hL := hL.ext hXx;replace hls := hls.ext hXx;have hxD := Imm.add_self D xb (womO x m s t l b);have hHx := Holds.add hH hx;generalize D.add xb (womO x m s t l b) = Dx at hW hd hL hls hxD hHx;obtain rfl := hls.len';rw [kk];refine en Tryz.func153 rfl Tryz.ntmps153 (Inv.start hHx) (g [[1],[5,0,1],[0,4,0,1]] ?_);refine WC.drawO [] (pz [1,5,7,9,2,10,13,15,17,19,21]) zk zk zX (fun _ hI => hI.nil) (g [[2]] ?_);refine WA.yd rfl (Yd.ix rfl rfl (hls.addr 0 (by omega))) rfl (WA.yd rfl (Yd.l1 rfl ((hls.at 0 (by omega)).rd 0 rfl)) rfl ?_);refine WA.so rfl (SO.callP CaF.h rfl (fun w hI => Ya x m s t l b xb _ (hI.imm _ _ hxD))) rfl ?_;rintro _ _ _ ⟨rfl, rfl, rfl⟩;refine ⟨fun _ hI => hI.nil, ?_⟩;refine WA.so rfl (SO.callP CaF.h rfl (fun w hI => Ze (tksW x d) t.a t.n t.c Dx _ (wM hd) hI.imm (gt ls 0))) rfl ?_;rintro _ _ _ ⟨rfl, rfl, rfl⟩;refine ⟨fun _ hI => hI.nil, ?_⟩;refine g [[8],[4,6,5,4]] ?_;refine WL.part 17 rfl (fun g17 => ?_) (fun g17 => ?_)
  · try simp only [zq] at g17
    refine WL.cl rfl (fun w hI => zB _ _) (g [[3],[4,5,4]] ?_);refine WL.so (SO.buildSlice1 UnF.h SzF.h ZvF.h rfl rfl rfl (vs := [_, _]) rfl rfl rfl) rfl ?_;rintro _ _ _ ⟨b23, hb23, rfl, rfl, rfl⟩;refine WL.freezeN 0 b23 (.cells (List.toArray ([Pt.s yF, Pt.n (zu (tksW x d) (gt ls 0)).1].flatMap ptI ++ [])) 20 (0, 0)) rfl rfl hb23 (fun D9 hX9 h23 => ?_);refine WL.cl rfl (fun w hI => xK [Pt.s yF, Pt.n (zu (tksW x d) (gt ls 0)).1] (some ⟨b23, 0, none⟩) 2 2 D9 (hL.ext hX9) (SlL.ofBlock yu h23) (by decide) (by intro p hp; simp only [List.mem_cons, List.not_mem_nil, or_false] at hp; rcases hp with rfl | rfl; exact (show List.length _ ≤ 100 by decide); exact (by have := KD (T := tksW x d) (gt ls 0); unfold ptB; unfold i64B; omega)) _ hI.imm) (g [[4]] ?_);refine WP.ret1 rfl rfl rfl (RV.tmp rfl) (fun w1 hI => u3 (by assumption) (xa _ [_]) hI.keep)
  try simp only [zq] at g17
  refine WL.nf rfl (fun w hI => zy _ _) (g [[1]] ?_);exact WP.panicBody rfl (fun w1 hI => u2 (by assumption) rfl hI.keep)
theorem zal (x : Wick) (d : Day) (m s t l b : Sl) (xb : Nat) (D : Imm) (w : World) (hw : zS x = true) (hdo : zT x d) (hW : yG D x m s) (hd : DayR D d t l b) (hL : LibW D) (hH : Holds D w) (hxn : D xb = none) (hx : w.heap[xb]? = some (womO x m s t l b)) (ls : List Int) (al : Option Addr) (nl cl : Nat) (hls : SlL D 1 (ls.map intC) al nl) (hnl : ls.length = 2) (hll : nl ≤ 1000) : Calls Tryz.prog 155 (List.toArray [pt xb, .slice al nl cl]) w fun e w' => AskK w (doD x d yN ls) e w' := by
  have hXx : DExt { w with heap := #[] } D (D.add xb (womO x m s t l b)) := ⟨xD hxn, fun b h => by simp at h⟩;replace hW := hW.ext hXx;replace hd := hd.ext hXx;replace hL := hL.ext hXx;replace hls := hls.ext hXx;have hxD := Imm.add_self D xb (womO x m s t l b);have hHx := Holds.add hH hx;generalize D.add xb (womO x m s t l b) = Dx at hW hd hL hls hxD hHx;obtain rfl := hls.len';rw [kj];refine en Tryz.func155 rfl Tryz.ntmps155 (Inv.start hHx) (g [[1],[5,0,1],[0,4,0,1]] ?_);refine WC.drawO [] (pz [1,5,7,9,11,13,15,2,16,19,21,23,25,27]) zk zk zX (fun _ hI => hI.nil) (g [[2]] ?_);refine WA.yd rfl (Yd.ix rfl rfl (hls.addr 0 (by omega))) rfl (WA.yd rfl (Yd.l1 rfl ((hls.at 0 (by omega)).rd 0 rfl)) rfl (g [[1]] ?_));refine WA.yd rfl (Yd.ix rfl rfl (hls.addr 0 (by omega))) rfl (WA.yd rfl (Yd.l1 rfl ((hls.at 1 (by omega)).rd 0 rfl)) rfl ?_);refine WA.so rfl (SO.callP CaF.h rfl (fun w hI => Ya x m s t l b xb _ (hI.imm _ _ hxD))) rfl ?_;rintro _ _ _ ⟨rfl, rfl, rfl⟩;refine ⟨fun _ hI => hI.nil, ?_⟩;refine WA.so rfl (SO.callP CaF.h rfl (fun w hI => Kf (tksW x d) t.a t.n t.c Dx _ (wM hd) hI.imm hdo.tks (gt ls 0) (gt ls 1))) rfl ?_;rintro _ _ _ ⟨rfl, rfl, rfl⟩;refine ⟨fun _ hI => hI.nil, ?_⟩;refine g [[8],[4,6,5,4]] ?_;refine WL.part 20 rfl (fun g20 => ?_) (fun g20 => ?_)
  · try simp only [zq] at g20
    refine WL.cl rfl (fun w hI => zB _ _) (g [[3],[4,5,4]] ?_);refine WL.so (SO.buildSlice1 UnF.h SzF.h ZvF.h rfl rfl rfl (vs := [_, _]) rfl rfl rfl) rfl ?_;rintro _ _ _ ⟨b26, hb26, rfl, rfl, rfl⟩;refine WL.freezeN 0 b26 (.cells (List.toArray ([Pt.s yN, Pt.n (zF (tksW x d) (gt ls 0) (gt ls 1)).1].flatMap ptI ++ [])) 20 (0, 0)) rfl rfl hb26 (fun D9 hX9 h26 => ?_);refine WL.cl rfl (fun w hI => xK [Pt.s yN, Pt.n (zF (tksW x d) (gt ls 0) (gt ls 1)).1] (some ⟨b26, 0, none⟩) 2 2 D9 (hL.ext hX9) (SlL.ofBlock yu h26) (by decide) (by intro p hp; simp only [List.mem_cons, List.not_mem_nil, or_false] at hp; rcases hp with rfl | rfl; exact (show List.length _ ≤ 100 by decide); exact (by have := Ko (T := tksW x d) (gt ls 0) (gt ls 1); unfold ptB; unfold i64B; omega)) _ hI.imm) (g [[4]] ?_);refine WP.ret1 rfl rfl rfl (RV.tmp rfl) (fun w1 hI => u3 (by assumption) (xa _ [_]) hI.keep)
  try simp only [zq] at g20
  refine WL.nf rfl (fun w hI => zy _ _) (g [[1]] ?_);exact WP.panicBody rfl (fun w1 hI => u2 (by assumption) rfl hI.keep)
theorem Kc (x : Wick) (d : Day) (m s t l b : Sl) (xb : Nat) (D : Imm) (w : World) (hw : zS x = true) (hdo : zT x d) (hW : yG D x m s) (hd : DayR D d t l b) (hL : LibW D) (hH : Holds D w) (hxn : D xb = none) (hx : w.heap[xb]? = some (womO x m s t l b)) (ls : List Int) (al : Option Addr) (nl cl : Nat) (hls : SlL D 1 (ls.map intC) al nl) (hnl : ls.length = 1) (hll : nl ≤ 1000) : Calls Tryz.prog 154 (List.toArray [pt xb, .slice al nl cl]) w fun e w' => AskK w (doD x d y3 ls) e w' := by
  have hXx : DExt { w with heap := #[] } D (D.add xb (womO x m s t l b)) := ⟨xD hxn, fun b h => by simp at h⟩;replace hW := hW.ext hXx;replace hd := hd.ext hXx;replace hL := hL.ext hXx;replace hls := hls.ext hXx;have hxD := Imm.add_self D xb (womO x m s t l b);have hHx := Holds.add hH hx;generalize D.add xb (womO x m s t l b) = Dx at hW hd hL hls hxD hHx;obtain rfl := hls.len';rw [qi];refine en Tryz.func154 rfl Tryz.ntmps154 (Inv.start hHx) (g [[1],[5,0,1],[0,4,0,1]] ?_);refine WC.drawO [] (pz [1,5,7,9,2,10,13,15,17,19,21,23,25]) zk zk zX (fun _ hI => hI.nil) (g [[2]] ?_);refine WA.yd rfl (Yd.ix rfl rfl (hls.addr 0 (by omega))) rfl (WA.yd rfl (Yd.l1 rfl ((hls.at 0 (by omega)).rd 0 rfl)) rfl ?_);refine WA.so rfl (SO.callP CaF.h rfl (fun w hI => Ya x m s t l b xb _ (hI.imm _ _ hxD))) rfl ?_;rintro _ _ _ ⟨rfl, rfl, rfl⟩;refine ⟨fun _ hI => hI.nil, ?_⟩;refine WA.so rfl (SO.callP CaF.h rfl (fun w hI => Vo (tksW x d) t.a t.n t.c Dx _ (wM hd) hI.imm hdo.tks (gt ls 0))) rfl ?_;rintro _ _ _ ⟨rfl, rfl, rfl⟩;refine ⟨fun _ hI => hI.nil, ?_⟩;refine g [[10],[4,7,6,5,4]] ?_;refine WL.part 19 rfl (fun g19 => ?_) (fun g19 => ?_)
  · try simp only [zq] at g19
    refine WL.cl rfl (fun w hI => zB _ _) (g [[3],[6,6,5,4]] ?_);refine WL.so (SO.buildSlice1 UnF.h SzF.h ZvF.h rfl rfl rfl (vs := [_, _, _]) rfl rfl rfl) rfl ?_;rintro _ _ _ ⟨b27, hb27, rfl, rfl, rfl⟩;refine WL.freezeN 0 b27 (.cells (List.toArray ([Pt.s y3, Pt.n (zi (tksW x d) (gt ls 0)).1, Pt.b (zi (tksW x d) (gt ls 0)).2.1].flatMap ptI ++ [])) 20 (0, 0)) rfl rfl hb27 (fun D9 hX9 h27 => ?_);refine WL.cl rfl (fun w hI => xK [Pt.s y3, Pt.n (zi (tksW x d) (gt ls 0)).1, Pt.b (zi (tksW x d) (gt ls 0)).2.1] (some ⟨b27, 0, none⟩) 3 3 D9 (hL.ext hX9) (SlL.ofBlock yu h27) (by decide) (by intro p hp; simp only [List.mem_cons, List.not_mem_nil, or_false] at hp; rcases hp with rfl | rfl | rfl; exact (show List.length _ ≤ 100 by decide); exact (by have := Qk hdo.tks (gt ls 0); unfold ptB; unfold i64B; omega); exact trivial) _ hI.imm) (g [[4]] ?_);refine WP.ret1 rfl rfl rfl (RV.tmp rfl) (fun w1 hI => u3 (by assumption) (Q9 _ _ _) hI.keep)
  try simp only [zq] at g19
  refine WL.nf rfl (fun w hI => zy _ _) (g [[1]] ?_);exact WP.panicBody rfl (fun w1 hI => u2 (by assumption) rfl hI.keep)
theorem QO (x : Wick) (d : Day) (m s t l b : Sl) (xb : Nat) (D : Imm) (w : World) (hw : zS x = true) (hdo : zT x d) (hW : yG D x m s) (hd : DayR D d t l b) (hL : LibW D) (hH : Holds D w) (hxn : D xb = none) (hx : w.heap[xb]? = some (womO x m s t l b)) (ls : List Int) (al : Option Addr) (nl cl : Nat) (hls : SlL D 1 (ls.map intC) al nl) (hnl : ls.length = 2) (hll : nl ≤ 1000) : Calls Tryz.prog 156 (List.toArray [pt xb, .slice al nl cl]) w fun e w' => AskK w (doD x d zz ls) e w' := by
  have hXx : DExt { w with heap := #[] } D (D.add xb (womO x m s t l b)) := ⟨xD hxn, fun b h => by simp at h⟩;replace hW := hW.ext hXx;replace hd := hd.ext hXx;replace hL := hL.ext hXx;replace hls := hls.ext hXx;have hxD := Imm.add_self D xb (womO x m s t l b);have hHx := Holds.add hH hx;generalize D.add xb (womO x m s t l b) = Dx at hW hd hL hls hxD hHx;obtain rfl := hls.len';rw [qf];refine en Tryz.func156 rfl Tryz.ntmps156 (Inv.start hHx) (g [[1],[5,0,1],[0,4,0,1]] ?_);refine WC.drawH [] zk (fun _ hI => hI.nil) (g [[1000],[1002]] ?_);refine WH.yd (i := 3) zk zX rfl (Yd.ix rfl rfl (hls.addr 0 (by omega))) rfl (WH.yd (i := 4) zk zX rfl (Yd.l1 rfl ((hls.at 0 (by omega)).rd 0 rfl)) rfl (g [[1005]] ?_));refine WH.yd (i := 6) zk zX rfl (Yd.ix rfl rfl (hls.addr 0 (by omega))) rfl (WH.yd (i := 7) zk zX rfl (Yd.l1 rfl ((hls.at 1 (by omega)).rd 0 rfl)) rfl ?_);refine WH.two (i := 1) (j := 12) zk ?_ ?_
  · refine WHo.so rfl (SO.callP CaF.h rfl (fun w hI => jo x m s t l b xb _ (hI.imm _ _ hxD))) rfl ?_;rintro _ _ _ ⟨rfl, rfl, rfl⟩;refine ⟨(fun _ hI => hI.nil), ?_⟩;refine WH.two (i := 8) (j := 12) zk ?_ ?_
    · refine WHo.so rfl (SO.callP CaF.h rfl (fun w hI => k7 (zE x d) m.a s.a l.a _ _ _ m.c s.c l.c Dx _ (wK hW hd) hI.imm hL (gt ls 0) (gt ls 1))) rfl ?_;rintro _ _ _ ⟨rfl, rfl, rfl⟩;refine ⟨(fun _ hI => hI.nil), ?_⟩;refine g [[1009],[1010],[1011]] ?_;refine WH.one (i := 12) zk (WHo.so rfl (SO.alloc ZvF.h rfl) rfl ?_);rintro _ _ _ ⟨b5, hb5, rfl, rfl, rfl⟩;refine ⟨(fun _ hI => hI.nil), ?_⟩;refine WH.one (i := 13) zk (WHo.so rfl (SO.store 0 rfl SzF.h rfl rfl rfl rfl (zqb rfl) (za rfl)) rfl ?_);rintro _ _ _ ⟨rfl, rfl, rfl⟩;refine ⟨(fun _ hI => hI.nil), ?_⟩;refine g [[1014]] ?_;refine WH.nil zk (g [[2],[4,6,5,4]] ?_);refine WL.part 20 rfl (fun g20 => ?_) (fun g20 => ?_)
      · try simp only [zq] at g20
        refine WL.cl rfl (fun w hI => zB _ _) (g [[3],[4,5,4]] ?_);refine WL.so (SO.buildSlice1 UnF.h SzF.h ZvF.h rfl rfl rfl (vs := [_, _]) rfl rfl rfl) rfl ?_;rintro _ _ _ ⟨b26, hb26, rfl, rfl, rfl⟩;refine WL.freezeN 0 b26 (.cells (List.toArray ([Pt.s zz, Pt.sp (zf (zE x d) (gt ls 0) (gt ls 1)).1.lo (zf (zE x d) (gt ls 0) (gt ls 1)).1.hi].flatMap ptI ++ [])) 20 (0, 0)) rfl rfl hb26 (fun D9 hX9 h26 => ?_);refine WL.cl rfl (fun w hI => xK [Pt.s zz, Pt.sp (zf (zE x d) (gt ls 0) (gt ls 1)).1.lo (zf (zE x d) (gt ls 0) (gt ls 1)).1.hi] (some ⟨b26, 0, none⟩) 2 2 D9 (hL.ext hX9) (SlL.ofBlock yu h26) (by decide) (by intro p hp; simp only [List.mem_cons, List.not_mem_nil, or_false] at hp; rcases hp with rfl | rfl; exact (show List.length _ ≤ 100 by decide); exact (by have := qE hdo.tide (gt ls 0) (gt ls 1); exact ⟨by unfold i64B; omega, by unfold i64B; omega⟩)) _ hI.imm) (g [[4]] ?_);refine WP.ret1 rfl rfl rfl (RV.tmp rfl) (fun w1 hI => u3 (by assumption) (jk _ _ _) hI.keep)
      try simp only [zq] at g20
      refine WL.nf rfl (fun w hI => zy _ _) (g [[1]] ?_);exact WP.panicBody rfl (fun w1 hI => u2 (by assumption) rfl hI.keep)
    refine WHo.so rfl (SO.alloc ZvF.h rfl) rfl ?_;rintro _ _ _ ⟨b5, hb5, rfl, rfl, rfl⟩;refine ⟨(fun _ hI => hI.nil), ?_⟩;refine WH.one (i := 8) zk (WHo.so rfl (SO.callP CaF.h rfl (fun w hI => k7 (zE x d) m.a s.a l.a _ _ _ m.c s.c l.c Dx _ (wK hW hd) hI.imm hL (gt ls 0) (gt ls 1))) rfl ?_);rintro _ _ _ ⟨rfl, rfl, rfl⟩;refine ⟨(fun _ hI => hI.nil), ?_⟩;refine g [[1009],[1010],[1011]] ?_;refine WH.one (i := 13) zk (WHo.so rfl (SO.store 0 rfl SzF.h rfl rfl rfl rfl (zqb rfl) (za rfl)) rfl ?_);rintro _ _ _ ⟨rfl, rfl, rfl⟩;refine ⟨(fun _ hI => hI.nil), ?_⟩;refine g [[1014]] ?_;refine WH.nil zk (g [[2],[4,6,5,4]] ?_);refine WL.part 20 rfl (fun g20 => ?_) (fun g20 => ?_)
    · try simp only [zq] at g20
      refine WL.cl rfl (fun w hI => zB _ _) (g [[3],[4,5,4]] ?_);refine WL.so (SO.buildSlice1 UnF.h SzF.h ZvF.h rfl rfl rfl (vs := [_, _]) rfl rfl rfl) rfl ?_;rintro _ _ _ ⟨b26, hb26, rfl, rfl, rfl⟩;refine WL.freezeN 0 b26 (.cells (List.toArray ([Pt.s zz, Pt.sp (zf (zE x d) (gt ls 0) (gt ls 1)).1.lo (zf (zE x d) (gt ls 0) (gt ls 1)).1.hi].flatMap ptI ++ [])) 20 (0, 0)) rfl rfl hb26 (fun D9 hX9 h26 => ?_);refine WL.cl rfl (fun w hI => xK [Pt.s zz, Pt.sp (zf (zE x d) (gt ls 0) (gt ls 1)).1.lo (zf (zE x d) (gt ls 0) (gt ls 1)).1.hi] (some ⟨b26, 0, none⟩) 2 2 D9 (hL.ext hX9) (SlL.ofBlock yu h26) (by decide) (by intro p hp; simp only [List.mem_cons, List.not_mem_nil, or_false] at hp; rcases hp with rfl | rfl; exact (show List.length _ ≤ 100 by decide); exact (by have := qE hdo.tide (gt ls 0) (gt ls 1); exact ⟨by unfold i64B; omega, by unfold i64B; omega⟩)) _ hI.imm) (g [[4]] ?_);refine WP.ret1 rfl rfl rfl (RV.tmp rfl) (fun w1 hI => u3 (by assumption) (jk _ _ _) hI.keep)
    try simp only [zq] at g20
    refine WL.nf rfl (fun w hI => zy _ _) (g [[1]] ?_);exact WP.panicBody rfl (fun w1 hI => u2 (by assumption) rfl hI.keep)
  refine WHo.so rfl (SO.alloc ZvF.h rfl) rfl ?_;rintro _ _ _ ⟨b5, hb5, rfl, rfl, rfl⟩;refine ⟨(fun _ hI => hI.nil), ?_⟩;refine WH.one (i := 1) zk (WHo.so rfl (SO.callP CaF.h rfl (fun w hI => jo x m s t l b xb _ (hI.imm _ _ hxD))) rfl ?_);rintro _ _ _ ⟨rfl, rfl, rfl⟩;refine ⟨(fun _ hI => hI.nil), ?_⟩;refine WH.one (i := 8) zk (WHo.so rfl (SO.callP CaF.h rfl (fun w hI => k7 (zE x d) m.a s.a l.a _ _ _ m.c s.c l.c Dx _ (wK hW hd) hI.imm hL (gt ls 0) (gt ls 1))) rfl ?_);rintro _ _ _ ⟨rfl, rfl, rfl⟩;refine ⟨(fun _ hI => hI.nil), ?_⟩;refine g [[1009],[1010],[1011]] ?_;refine WH.one (i := 13) zk (WHo.so rfl (SO.store 0 rfl SzF.h rfl rfl rfl rfl (zqb rfl) (za rfl)) rfl ?_);rintro _ _ _ ⟨rfl, rfl, rfl⟩;refine ⟨(fun _ hI => hI.nil), ?_⟩;refine g [[1014]] ?_;refine WH.nil zk (g [[2],[4,6,5,4]] ?_);refine WL.part 20 rfl (fun g20 => ?_) (fun g20 => ?_)
  · try simp only [zq] at g20
    refine WL.cl rfl (fun w hI => zB _ _) (g [[3],[4,5,4]] ?_);refine WL.so (SO.buildSlice1 UnF.h SzF.h ZvF.h rfl rfl rfl (vs := [_, _]) rfl rfl rfl) rfl ?_;rintro _ _ _ ⟨b26, hb26, rfl, rfl, rfl⟩;refine WL.freezeN 0 b26 (.cells (List.toArray ([Pt.s zz, Pt.sp (zf (zE x d) (gt ls 0) (gt ls 1)).1.lo (zf (zE x d) (gt ls 0) (gt ls 1)).1.hi].flatMap ptI ++ [])) 20 (0, 0)) rfl rfl hb26 (fun D9 hX9 h26 => ?_);refine WL.cl rfl (fun w hI => xK [Pt.s zz, Pt.sp (zf (zE x d) (gt ls 0) (gt ls 1)).1.lo (zf (zE x d) (gt ls 0) (gt ls 1)).1.hi] (some ⟨b26, 0, none⟩) 2 2 D9 (hL.ext hX9) (SlL.ofBlock yu h26) (by decide) (by intro p hp; simp only [List.mem_cons, List.not_mem_nil, or_false] at hp; rcases hp with rfl | rfl; exact (show List.length _ ≤ 100 by decide); exact (by have := qE hdo.tide (gt ls 0) (gt ls 1); exact ⟨by unfold i64B; omega, by unfold i64B; omega⟩)) _ hI.imm) (g [[4]] ?_);refine WP.ret1 rfl rfl rfl (RV.tmp rfl) (fun w1 hI => u3 (by assumption) (jk _ _ _) hI.keep)
  try simp only [zq] at g20
  refine WL.nf rfl (fun w hI => zy _ _) (g [[1]] ?_);exact WP.panicBody rfl (fun w1 hI => u2 (by assumption) rfl hI.keep)
theorem J2 (x : Wick) (d : Day) (m s t l b : Sl) (xb : Nat) (D : Imm) (w : World) (hw : zS x = true) (hdo : zT x d) (hW : yG D x m s) (hd : DayR D d t l b) (hL : LibW D) (hH : Holds D w) (hxn : D xb = none) (hx : w.heap[xb]? = some (womO x m s t l b)) (ls : List Int) (al : Option Addr) (nl cl : Nat) (hls : SlL D 1 (ls.map intC) al nl) (hnl : ls.length = 3) (hll : nl ≤ 1000) : Calls Tryz.prog 157 (List.toArray [pt xb, .slice al nl cl]) w fun e w' => AskK w (doD x d y9 ls) e w' := by
  have hXx : DExt { w with heap := #[] } D (D.add xb (womO x m s t l b)) := ⟨xD hxn, fun b h => by simp at h⟩;replace hW := hW.ext hXx;replace hd := hd.ext hXx;replace hL := hL.ext hXx;replace hls := hls.ext hXx;have hxD := Imm.add_self D xb (womO x m s t l b);have hHx := Holds.add hH hx;generalize D.add xb (womO x m s t l b) = Dx at hW hd hL hls hxD hHx;obtain rfl := hls.len';rw [qh];refine en Tryz.func157 rfl Tryz.ntmps157 (Inv.start hHx) (g [[1],[5,0,1],[0,4,0,1]] ?_);refine WC.drawO [] (pz [1,5,7,9,11,13,15,17,19,21,2,22,25,27,29,31,33]) zk zk zX (fun _ hI => hI.nil) (g [[2]] ?_);refine WA.yd rfl (Yd.ix rfl rfl (hls.addr 0 (by omega))) rfl (WA.yd rfl (Yd.l1 rfl ((hls.at 0 (by omega)).rd 0 rfl)) rfl (g [[1]] ?_));refine WA.yd rfl (Yd.ix rfl rfl (hls.addr 0 (by omega))) rfl (WA.yd rfl (Yd.l1 rfl ((hls.at 1 (by omega)).rd 0 rfl)) rfl (g [[1]] ?_));refine WA.yd rfl (Yd.ix rfl rfl (hls.addr 0 (by omega))) rfl (WA.yd rfl (Yd.l1 rfl ((hls.at 2 (by omega)).rd 0 rfl)) rfl ?_);refine WA.so rfl (SO.callP CaF.h rfl (fun w hI => jo x m s t l b xb _ (hI.imm _ _ hxD))) rfl ?_;rintro _ _ _ ⟨rfl, rfl, rfl⟩;refine ⟨fun _ hI => hI.nil, ?_⟩;refine WA.so rfl (SO.callP CaF.h rfl (fun w hI => V6 (zE x d) m.a s.a l.a _ _ _ m.c s.c l.c Dx _ (wK hW hd) hI.imm hL (gt ls 0) (gt ls 1) (gt ls 2))) rfl ?_;rintro _ _ _ ⟨rfl, rfl, rfl⟩;refine ⟨fun _ hI => hI.nil, ?_⟩;refine g [[8],[4,6,5,4]] ?_;refine WL.part 23 rfl (fun g23 => ?_) (fun g23 => ?_)
  · try simp only [zq] at g23
    refine WL.cl rfl (fun w hI => zB _ _) (g [[3],[4,5,4]] ?_);refine WL.so (SO.buildSlice1 UnF.h SzF.h ZvF.h rfl rfl rfl (vs := [_, _]) rfl rfl rfl) rfl ?_;rintro _ _ _ ⟨b29, hb29, rfl, rfl, rfl⟩;refine WL.freezeN 0 b29 (.cells (List.toArray ([Pt.s y9, Pt.n (zv (zE x d) (gt ls 0) (gt ls 1) (gt ls 2)).1].flatMap ptI ++ [])) 20 (0, 0)) rfl rfl hb29 (fun D9 hX9 h29 => ?_);refine WL.cl rfl (fun w hI => xK [Pt.s y9, Pt.n (zv (zE x d) (gt ls 0) (gt ls 1) (gt ls 2)).1] (some ⟨b29, 0, none⟩) 2 2 D9 (hL.ext hX9) (SlL.ofBlock yu h29) (by decide) (by intro p hp; simp only [List.mem_cons, List.not_mem_nil, or_false] at hp; rcases hp with rfl | rfl; exact (show List.length _ ≤ 100 by decide); exact (by have := VK hdo.tide (gt ls 0) (gt ls 1) (gt ls 2); unfold ptB; unfold i64B; omega)) _ hI.imm) (g [[4]] ?_);refine WP.ret1 rfl rfl rfl (RV.tmp rfl) (fun w1 hI => u3 (by assumption) (xa _ [_]) hI.keep)
  try simp only [zq] at g23
  refine WL.nf rfl (fun w hI => zy _ _) (g [[1]] ?_);exact WP.panicBody rfl (fun w1 hI => u2 (by assumption) rfl hI.keep)
theorem XZ {f : Nat → Int} : ∀ n : Nat, (∀ i, i < n → -2400 ≤ f i ∧ f i ≤ 2400) → -2400 * (n : Int) ≤ ((List.range n).map f).sum ∧ ((List.range n).map f).sum ≤ 2400 * (n : Int)
  | 0, _ => by simp
  | n + 1, h => by
    have h1 := XZ n fun i hi => h i (by omega);have h2 := h n (by omega);rw [List.range_succ, List.map_append, List.sum_append];simp only [List.map_cons, List.map_nil, List.sum_cons, List.sum_nil, Int.add_zero];push_cast; omega
theorem zdb {X : Till} {l : List Ent} (hl : l.length ≤ 1000) : i64B (yh X l).1 := by
  unfold yh;split
  · unfold i64B; simp
  rename_i h0
  split
  · unfold i64B; simp
  rename_i hb
  have hE : yq X l true = 0 := by
    unfold uQ at h0;by_cases h : yq X l true = 0
    · exact h
    rw [if_pos h] at h0; exact absurd h h0
  have hnil : yH X l l.length = [] := by simpa using hb
  have := XZ (f := fun i => ja (gt l i)) l.length fun i hi => by
    have := Vu (vo hE).1 (ZX (Xa hnil i hi));unfold ja; split <;> omega
  unfold i64B; dsimp only; omega
theorem X7 {D : Imm} {d : Day} {t l b : Sl} (h : DayR D d t l b) : xL D d.book b.a b.n := ⟨h.book, h.len.2.2⟩
theorem zdh (q : Bs) : q9 [.s q] = q := Lib.join_one _ _
theorem za3 (x : Wick) (d : Day) (m s t l b : Sl) (xb : Nat) (D : Imm) (w : World) (hw : zS x = true) (hdo : zT x d) (hW : yG D x m s) (hd : DayR D d t l b) (hL : LibW D) (hH : Holds D w) (hxn : D xb = none) (hx : w.heap[xb]? = some (womO x m s t l b)) (ls : List Int) (al : Option Addr) (nl cl : Nat) (hls : SlL D 1 (ls.map intC) al nl) (hnl : ls.length = 0) (hll : nl ≤ 1000) : Calls Tryz.prog 158 (List.toArray [pt xb, .slice al nl cl]) w fun e w' => AskK w (doD x d yp ls) e w' := by
  have hXx : DExt { w with heap := #[] } D (D.add xb (womO x m s t l b)) := ⟨xD hxn, fun b h => by simp at h⟩;replace hW := hW.ext hXx;replace hd := hd.ext hXx;replace hL := hL.ext hXx;replace hls := hls.ext hXx;have hxD := Imm.add_self D xb (womO x m s t l b);have hHx := Holds.add hH hx;generalize D.add xb (womO x m s t l b) = Dx at hW hd hL hls hxD hHx;obtain rfl := hls.len';rw [ki];have hck := Xe hw hdo;refine en Tryz.func158 rfl Tryz.ntmps158 (Inv.start hHx) (g [[1],[5,0],[0,4,0]] ?_);refine WC.drawO [] (pz [1,5,7,9,11,13,2,14,17,19,21,23,25,27,29]) zk zk zX (fun _ hI => hI.nil) (g [[6]] ?_);refine WA.so rfl (SO.callP CaF.h rfl (fun w hI => X3 x m s t l b xb _ (hI.imm _ _ hxD))) rfl ?_;rintro _ _ _ ⟨rfl, rfl, rfl⟩;refine ⟨fun _ hI => hI.nil, ?_⟩;refine WA.so rfl (SO.callP CaF.h rfl (fun w hI => V5 (zD x d) t.a t.n t.c Dx _ (wM hd) hI.imm d.book b.a b.n b.c (X7 hd))) rfl ?_;rintro _ _ _ ⟨rfl, rfl, rfl⟩;refine ⟨fun _ hI => hI.nil, ?_⟩;refine g [[11],[5,7,6,5,4]] ?_;refine WC.cond rfl (fun c21 => ?_) (fun c21 => ?_)
  · try simp only [zq] at c21
    refine g [[1],[2,7,6,5,4]] ?_;refine WL.so (SO.buildSlice1 UnF.h SzF.h ZvF.h rfl rfl rfl (vs := [_]) rfl rfl rfl) rfl ?_;rintro _ _ _ ⟨b23, hb23, rfl, rfl, rfl⟩;refine WL.freezeN 0 b23 (.cells (List.toArray ([Pt.s yp].flatMap ptI ++ [])) 20 (0, 0)) rfl rfl hb23 (fun D9 hX9 h23 => ?_);refine WL.cl rfl (fun w hI => xK [Pt.s yp] (some ⟨b23, 0, none⟩) 1 1 D9 (hL.ext hX9) (SlL.ofBlock yu h23) (by decide) (by intro p hp; simp only [List.mem_cons, List.not_mem_nil, or_false] at hp; subst hp; exact (show List.length _ ≤ 100 by decide)) _ hI.imm) (g [[5]] ?_);refine WP.ret1 rfl rfl rfl (RV.tmp rfl) (fun w1 hI => by rw [if_pos (by assumption)]; exact ⟨hI.keep, .inl ⟨rfl, by rw [zdh]⟩⟩)
  try simp only [zq] at c21
  refine g [[3],[4,7,6,5,4]] ?_;refine WL.part 26 rfl (fun g26 => ?_) (fun g26 => ?_)
  · try simp only [zq] at g26
    refine WL.cl rfl (fun w hI => zB _ _) (g [[3],[6,6,5,4]] ?_);refine WL.so (SO.buildSlice1 UnF.h SzF.h ZvF.h rfl rfl rfl (vs := [_, _, _]) rfl rfl rfl) rfl ?_;rintro _ _ _ ⟨b34, hb34, rfl, rfl, rfl⟩;refine WL.freezeN 0 b34 (.cells (List.toArray ([Pt.s yp, Pt.n (zh (zD x d) d.book).1, Pt.n (zh (zD x d) d.book).2.1].flatMap ptI ++ [])) 20 (0, 0)) rfl rfl hb34 (fun D9 hX9 h34 => ?_);refine WL.cl rfl (fun w hI => xK [Pt.s yp, Pt.n (zh (zD x d) d.book).1, Pt.n (zh (zD x d) d.book).2.1] (some ⟨b34, 0, none⟩) 3 3 D9 (hL.ext hX9) (SlL.ofBlock yu h34) (by decide) (by intro p hp; simp only [List.mem_cons, List.not_mem_nil, or_false] at hp; rcases hp with rfl | rfl | rfl; exact (show List.length _ ≤ 100 by decide); exact (by rcases hck with h | h | h <;> first | (unfold ptB; unfold i64B; omega) | (exfalso; omega)); exact (by rcases hck with h | h | h <;> first | (unfold ptB; unfold i64B; omega) | (exfalso; omega))) _ hI.imm) (g [[4]] ?_);refine WP.ret1 rfl rfl rfl (RV.tmp rfl) (fun w1 hI => by rw [if_neg (by assumption)]; exact u3 (by assumption) (xa _ [_, _]) hI.keep)
  try simp only [zq] at g26
  refine WL.nf rfl (fun w hI => zy _ _) (g [[1]] ?_);refine WP.panicBody rfl (fun w1 hI => ?_);rw [if_neg (by assumption)];exact u2 (by assumption) rfl hI.keep
theorem zda (x : Wick) (d : Day) (m s t l b : Sl) (xb : Nat) (D : Imm) (w : World) (hw : zS x = true) (hdo : zT x d) (hW : yG D x m s) (hd : DayR D d t l b) (hL : LibW D) (hH : Holds D w) (hxn : D xb = none) (hx : w.heap[xb]? = some (womO x m s t l b)) (ls : List Int) (al : Option Addr) (nl cl : Nat) (hls : SlL D 1 (ls.map intC) al nl) (hnl : ls.length = 0) (hll : nl ≤ 1000) : Calls Tryz.prog 159 (List.toArray [pt xb, .slice al nl cl]) w fun e w' => AskK w (doD x d sumS ls) e w' := by
  have hXx : DExt { w with heap := #[] } D (D.add xb (womO x m s t l b)) := ⟨xD hxn, fun b h => by simp at h⟩;replace hW := hW.ext hXx;replace hd := hd.ext hXx;replace hL := hL.ext hXx;replace hls := hls.ext hXx;have hxD := Imm.add_self D xb (womO x m s t l b);have hHx := Holds.add hH hx;generalize D.add xb (womO x m s t l b) = Dx at hW hd hL hls hxD hHx;obtain rfl := hls.len';rw [Xg];refine en Tryz.func159 rfl Tryz.ntmps159 (Inv.start hHx) (g [[1],[5,0],[0,4,0]] ?_);refine WC.drawO [] (pz [1,5,7,9,11,13,2,14,17,19,21,23,25]) zk zk zX (fun _ hI => hI.nil) (g [[6]] ?_);refine WA.so rfl (SO.callP CaF.h rfl (fun w hI => X3 x m s t l b xb _ (hI.imm _ _ hxD))) rfl ?_;rintro _ _ _ ⟨rfl, rfl, rfl⟩;refine ⟨fun _ hI => hI.nil, ?_⟩;refine WA.so rfl (SO.callP CaF.h rfl (fun w hI => zc5 (zD x d) t.a t.n t.c Dx _ (wM hd) hI.imm d.book b.a b.n b.c (X7 hd))) rfl ?_;rintro _ _ _ ⟨rfl, rfl, rfl⟩;refine ⟨fun _ hI => hI.nil, ?_⟩;refine g [[8],[4,6,5,4]] ?_;refine WL.part 19 rfl (fun g19 => ?_) (fun g19 => ?_)
  · try simp only [zq] at g19
    refine WL.cl rfl (fun w hI => zB _ _) (g [[3],[4,5,4]] ?_);refine WL.so (SO.buildSlice1 UnF.h SzF.h ZvF.h rfl rfl rfl (vs := [_, _]) rfl rfl rfl) rfl ?_;rintro _ _ _ ⟨b25, hb25, rfl, rfl, rfl⟩;refine WL.freezeN 0 b25 (.cells (List.toArray ([Pt.s sumS, Pt.n (yh (zD x d) d.book).1].flatMap ptI ++ [])) 20 (0, 0)) rfl rfl hb25 (fun D9 hX9 h25 => ?_);refine WL.cl rfl (fun w hI => xK [Pt.s sumS, Pt.n (yh (zD x d) d.book).1] (some ⟨b25, 0, none⟩) 2 2 D9 (hL.ext hX9) (SlL.ofBlock yu h25) (by decide) (by intro p hp; simp only [List.mem_cons, List.not_mem_nil, or_false] at hp; rcases hp with rfl | rfl; exact (show List.length _ ≤ 100 by decide); exact (zdb (by have := wx hdo; omega))) _ hI.imm) (g [[4]] ?_);refine WP.ret1 rfl rfl rfl (RV.tmp rfl) (fun w1 hI => u3 (by assumption) (xa _ [_]) hI.keep)
  try simp only [zq] at g19
  refine WL.nf rfl (fun w hI => zy _ _) (g [[1]] ?_);exact WP.panicBody rfl (fun w1 hI => u2 (by assumption) rfl hI.keep)
end Go.Proofs.YtejgofaeafphjaaGreatDoor
