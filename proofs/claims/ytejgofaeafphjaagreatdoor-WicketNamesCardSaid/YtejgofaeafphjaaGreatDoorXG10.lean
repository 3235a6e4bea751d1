import Derived.Test.YtejgofaeafphjaaGreatDoorXG9
import Derived.Test.YtejgofaeafphjaaGreatDoorXG1
import Derived.Test.YtejgofaeafphjaaGreatDoorXG2
import Derived.Test.YtejgofaeafphjaaGreatDoorXG3
set_option linter.unusedSimpArgs false
set_option linter.unusedVariables false
set_option linter.all false
set_option maxRecDepth 100000
set_option maxHeartbeats 4000000
attribute [local irreducible] Go.W.WL Go.W.WLF Go.W.WC Go.W.WCF Go.W.WP Go.W.WA Go.W.WQ Go.W.WH Go.W.WHo Go.W.WCn Go.Code.wp Go.Code.wpIn
namespace Go.Proofs.YtejgofaeafphjaaGreatDoor
open Go.W Go.Ti
theorem SA99 : StructAt Tryz.prog 99 [.int .i64 0, .int .i64 0, .int .i64 0, .int .i64 0, .slice none 0 0, .slice none 0 0, .slice none 0 0, .slice none 0 0, .slice none 0 0, .bool false] [(0, 6), (6, 3), (9, 1)] := ⟨⟨_, Tryz.zeroValue99, rfl⟩, _, Tryz.underlying99, fun w => by simp [Tryz.sizeOf4, Tryz.sizeOf49, Tryz.sizeOf57]⟩
@[reducible, instance] def ISA99 := SaF.mk SA99
def wickV (x : Wick) (m s : Sl) : Value := .agg #[it x.huts, it x.price, it x.fine, it x.wait, m.v, s.v]
theorem tak_zero (x : Wick) : (TakingsOut (tillW x day0)).2 = if tillB (tillW x day0) = true then 0 else 1 := by
  unfold TakingsOut
  cases tillB (tillW x day0) <;> rfl
theorem wickB_and (x : Wick) : wickB x = (tillB (tillW x day0) && tideB (tideW x day0)) := rfl
theorem tks_nilR (D : Imm) (x : Wick) : TksR D (tksW x day0) none 0 := ⟨SlL.nil _ _, Nat.zero_le _⟩
theorem New_g (x : Wick) (m s : Sl) (D : Imm) (w : World) (hW : WickR D x m s) (hH : Holds D w) (hL : LibW D) : News Tryz.prog 19 [wickV x m s] w D (fun v D' h' => (wickB x = true ∧ ∃ xb m' s', v = .tuple #[pt xb, it 0] ∧ h' = [(xb, womO x m' s' nilS nilS nilS)] ∧ WickR D' x m' s') ∨ (wickB x = false ∧ v = .tuple #[.pointer none, it 1])) := by
  unfold News
  have hlm : x.marks.length ≤ 1000 := by rw [← hW.mark.len']; exact hW.len.1
  have hls : x.sand.length ≤ 1000 := by rw [← hW.sand.len']; exact hW.len.2
  refine en Tryz.func19 rfl Tryz.ntmps19 (Inv.start hH) (g [[1],[1,0]] ?_)
  refine WL.so (SO.box rfl rfl) rfl (zw fun b1 hb1 => ?_)
  refine g [[5],[2,3,2,1]] ?_
  refine WL.so (SO.alloc ZvF.h rfl) rfl (zw fun b4 hb4 => ?_)
  refine g [[4],[0,4,3,2,1]] ?_
  refine WC.drawO [_] (pz [1,3,7,9,4,13,10,14,17,18]) zk zk zX (fun _ hI => hI.tail) (g [[4]] ?_)
  refine WA.so rfl (SO.makes (Enters.func Tryz.call63 rfl) (fun w2 hI => makes_of_news markC_len (copiedMark_g x.marks m.a m.n m.c _ hW.mark hW.len.1 w2 w2 (Nat.le_refl _) hI.imm))) rfl ?_
  rintro _ D2 _ ⟨hX2, ⟨a2, c2, rfl, hS2, hc2⟩, rfl⟩
  have hs3 := hW.sand.ext hX2
  refine ⟨fun _ hI => hI.tail.shrink hX2.old, ?_⟩
  refine g [[1]] ?_
  refine WA.so rfl (SO.makes (Enters.func Tryz.call64 rfl) (fun w2 hI => makes_of_news spanC_len (copiedSpan_g x.sand s.a s.n s.c _ hs3 hW.len.2 w2 w2 (Nat.le_refl _) hI.imm))) rfl ?_
  rintro _ D3 _ ⟨hX3, ⟨a3, c3, rfl, hS3, hc3⟩, rfl⟩
  replace hL := (hL.ext hX2).ext hX3
  replace hS2 := hS2.ext hX3
  have hwr : WickR D3 x ⟨a2, x.marks.length, c2⟩ ⟨a3, x.sand.length, c3⟩ := ⟨hS2, hS3, hlm, hls⟩
  refine ⟨fun _ hI => (hI.tail.shrink hX3.old).shrink hX2.old, ?_⟩
  refine WA.so rfl (SO.store 0 rfl SzF.h rfl rfl rfl rfl (zqb rfl) (oneB_spec rfl)) rfl ?_
  rintro _ _ _ ⟨rfl, rfl, rfl⟩
  refine ⟨fun _ hI => (hI.tail.shrink hX3.old).shrink hX2.old, ?_⟩
  refine g [[1]] ?_
  refine WA.so rfl (SO.store 0 rfl SzF.h rfl rfl rfl rfl (zqb rfl) (oneB_spec rfl)) rfl ?_
  rintro _ _ _ ⟨rfl, rfl, rfl⟩
  refine ⟨fun _ hI => (hI.tail.shrink hX3.old).shrink hX2.old, ?_⟩
  refine g [[3],[2,4,3,2]] ?_
  refine WL.yd (Yd.buildL SA99 [(0, .agg (List.toArray [it x.huts, it x.price, it x.fine, it x.wait, .slice a2 x.marks.length c2, .slice a3 x.sand.length c3]), [it x.huts, it x.price, it x.fine, it x.wait, .slice a2 x.marks.length c2, .slice a3 x.sand.length c3]), (2, .bool true, [.bool true])] (womC x ⟨a2, x.marks.length, c2⟩ ⟨a3, x.sand.length, c3⟩ nilS nilS nilS) rfl ⟨rfl, ⟨0, rfl, Nat.le_of_ble_eq_true rfl⟩, rfl, ⟨9, rfl, Nat.le_of_ble_eq_true rfl⟩, trivial⟩ rfl) rfl ?_
  refine WL.so (SO.box rfl rfl) rfl (zw fun b19 hb19 => ?_)
  refine g [[4],[2,5,3,2]] ?_
  refine WL.cl rfl (fun w hI => wTill_g x ⟨a2, x.marks.length, c2⟩ ⟨a3, x.sand.length, c3⟩ nilS nilS nilS b19 _ (hI.own _ _ (List.mem_of_getElem? (i := 0) rfl))) (WL.cl rfl (fun w hI => Takings_g (tillW x day0) none 0 0 _ _ (tks_nilR _ x) hI.imm) (g [[9],[4,7,5,3,2]] ?_))
  refine WL.part 28 rfl (fun g28 => ?_) (fun g28 => ?_)
  · try simp only [zq] at g28
    refine g [[10],[7,5,3,2]] ?_
    refine WP.ret2 rfl rfl rfl (RV.tmp rfl) (RV.tmp rfl) (fun w1 hI => ⟨_, D3, [], rfl, hX2.trans hX3 (Nat.le_refl _), hI.nil, .inr ⟨by rw [wickB_and]; have := tak_zero x; simp_all, rfl⟩⟩)
  try simp only [zq] at g28
  refine g [[2]] ?_
  refine WL.sog rfl (SO.callP CaF.h rfl (fun w hI => wTide_g x ⟨a2, x.marks.length, c2⟩ ⟨a3, x.sand.length, c3⟩ nilS nilS nilS b19 _ (hI.own _ _ (List.mem_of_getElem? (i := 0) rfl)))) rfl (zs ?_)
  refine WL.sog rfl (SO.callP CaF.h rfl (fun w hI => wIsTide_g _ (tideW x day0) a2 a3 none _ _ 0 c2 c3 0 _ _ (tideW_R hwr (DayR.nil _)) hI.imm hL)) rfl (zs (g [[4]] ?_))
  refine WC.cond rfl (fun c34 => ?_) (fun c34 => ?_)
  · try simp only [zq] at c34
    refine g [[1],[7,5,3,2]] ?_
    refine WP.ret2 rfl rfl rfl (RV.tmp rfl) (RV.tmp rfl) (fun w1 hI => ⟨_, D3, [], rfl, hX2.trans hX3 (Nat.le_refl _), hI.nil, .inr ⟨by rw [wickB_and]; have := tak_zero x; simp_all, rfl⟩⟩)
  try simp only [zq] at c34
  refine g [[3],[7,5,3,2]] ?_
  refine WP.ret2 rfl rfl rfl (RV.tmp rfl) (RV.tmp rfl) (fun w1 hI => ⟨_, D3, [_], rfl, hX2.trans hX3 (Nat.le_refl _), Inv.left (l1 := [_]) hI, .inl ⟨by rw [wickB_and]; have := tak_zero x; simp_all, b19, ⟨a2, x.marks.length, c2⟩, ⟨a3, x.sand.length, c3⟩, rfl, rfl, hwr⟩⟩)
end Go.Proofs.YtejgofaeafphjaaGreatDoor
namespace Go.Proofs.YtejgofaeafphjaaGreatDoor
open Go.W Go.Ti
theorem SA57 : StructAt Tryz.prog 57 [.slice none 0 0, .slice none 0 0, .slice none 0 0] [(0, 1), (1, 1), (2, 1)] := ⟨⟨_, Tryz.zeroValue57, rfl⟩, _, Tryz.underlying57, fun w => by simp [Tryz.sizeOf22, Tryz.sizeOf29, Tryz.sizeOf32]⟩
@[reducible, instance] def ISA57 := SaF.mk SA57
end Go.Proofs.YtejgofaeafphjaaGreatDoor
namespace Go.Proofs.YtejgofaeafphjaaGreatDoor
open Go.W Go.Ti
inductive Pt where
  | s (w : Bs)
  | n (i : Int)
  | b (x : Bool)
  | sp (a c : Int)
instance : Inhabited Pt := ⟨.n 0⟩
def ptV : Pt → Value
  | .s w => .iface 9 (st w)
  | .n i => .iface 3 (it i)
  | .b x => .iface 4 (.bool x)
  | .sp a c => .iface 39 (.agg #[it a, it c])
def ptL : Pt → Bs
  | .s w => w
  | .n i => Lib.itoa i
  | .b x => Lib.itoa (boolI x)
  | .sp a c => Lib.itoa a ++ 32 :: Lib.itoa c
def ptC (p : Pt) : List Value := [st (ptL p)]
def ptI (p : Pt) : List Value := [ptV p]
theorem ptC_len : ∀ p, (ptC p).length = 1 := fun _ => rfl
theorem ptI_len : ∀ p, (ptI p).length = 1 := fun _ => rfl
def toldS (l : List Pt) : Bs := Lib.join (l.map ptL) [32]
def ptB : Pt → Prop
  | .s w => w.length ≤ 100
  | .n i => i64B i
  | .b _ => True
  | .sp a c => i64B a ∧ i64B c
def simB : Pt → Bool | .s _ => true | .n _ => true | _ => false
theorem dec_len : ∀ (k n : Nat), n < 10 ^ (k + 1) → (Lib.decDigits n).length ≤ k + 1
  | 0, n, h => by rw [Lib.decDigits, dif_pos (by omega)]; simp
  | k + 1, n, h => by
    rw [Lib.decDigits]
    split
    · simp
    have := dec_len k (n / 10) (by rw [Nat.pow_succ] at h; omega)
    rw [List.length_append, List.length_singleton]; omega
theorem itoa_30 {n : Int} (h : i64B n) : (Lib.itoa n).length ≤ 30 := by
  unfold i64B at h
  unfold Lib.itoa
  split
  · have := dec_len 19 n.natAbs (by omega)
    rw [List.length_cons]; omega
  have := dec_len 19 n.toNat (by omega)
  omega
theorem boolI_b (x : Bool) : i64B (boolI x) := by unfold i64B; cases x <;> simp [boolI]
theorem ptL_len {p : Pt} (h : ptB p) : (ptL p).length ≤ 100 := by
  cases p with
  | s w => exact h
  | n i => have := itoa_30 (n := i) h; show (Lib.itoa i).length ≤ 100; omega
  | b x => have := itoa_30 (boolI_b x); show (Lib.itoa (boolI x)).length ≤ 100; omega
  | sp a c =>
    have h1 := itoa_30 (n := a) h.1
    have h2 := itoa_30 (n := c) h.2
    show (Lib.itoa a ++ 32 :: Lib.itoa c).length ≤ 100
    rw [List.length_append, List.length_cons]; omega
theorem join_le (K : Nat) : ∀ l : List Bs, (∀ x ∈ l, x.length ≤ K) → (Lib.join l [32]).length ≤ l.length * (K + 1)
  | [], _ => by simp [Lib.join_nil]
  | x :: r, h => by
    have h1 := h x List.mem_cons_self
    rw [Lib.join_cons, List.length_append, List.length_cons, Nat.succ_mul]
    have : ∀ r : List Bs, (∀ x ∈ r, x.length ≤ K) → (Lib.joinTail [32] r).length ≤ r.length * (K + 1) := fun r hr => by
      induction r with
      | nil => simp [Lib.joinTail]
      | cons y r ih =>
        have h2 := hr y List.mem_cons_self
        have h3 := ih fun z hz => hr z (List.mem_cons_of_mem _ hz)
        simp only [Lib.joinTail, List.map_cons, List.flatten_cons, List.length_append, List.length_cons, List.length_nil] at h3 ⊢
        rw [Nat.succ_mul]; omega
    have := this r fun z hz => h z (List.mem_cons_of_mem _ hz)
    omega
theorem told_len {l : List Pt} (h : ∀ p ∈ l, ptB p) (hl : l.length ≤ 100) : (Lib.join (l.map ptL) [32]).length ≤ 100000 := by
  have := join_le 100 (l.map ptL) fun x hx => by
    obtain ⟨p, hp, rfl⟩ := List.mem_map.1 hx
    exact ptL_len (h p hp)
  rw [List.length_map] at this
  omega
theorem told_one (i : Int) : toldS [.n i] = Lib.itoa i := Lib.join_one _ _
theorem told_two (a c : Int) : toldS [.n a, .n c] = Lib.itoa a ++ 32 :: Lib.itoa c := by simp [toldS, ptL, Lib.join_cons, Lib.joinTail]
theorem told_rep (w : Bs) (ns : List Int) : toldS (.s w :: ns.map .n) = repL w ns := by
  unfold toldS repL
  rw [List.map_cons, Lib.join_cons, List.map_map]
  show w ++ Lib.joinTail [32] _ = _
  congr 1
  unfold Lib.joinTail
  rw [List.map_map, List.flatMap_def]
  rfl
theorem told_bool (w : Bs) (n : Int) (x : Bool) : toldS [.s w, .n n, .b x] = repL w [n, boolI x] := by simp [toldS, repL, ptL, Lib.join_cons, Lib.joinTail]
theorem told_span (w : Bs) (a c : Int) : toldS [.s w, .sp a c] = repL w [a, c] := by simp [toldS, repL, ptL, Lib.join_cons, Lib.joinTail]
theorem told_0 (l : List Pt) (a : Option Addr) (n c : Nat) (D : Imm) (hL : LibW D) (hS : SlL D 1 (l.map ptI) a n) (hn : n ≤ 100) (hB : ∀ p ∈ l, ptB p) (hsim : ∀ p ∈ l, simB p = true) (w : World) (hH : Holds D w) : Gives Tryz.prog 223 [.slice a n c] w (st (toldS l)) := by
  unfold Gives
  obtain rfl := hS.len'
  refine en Tryz.func223 rfl Tryz.ntmps223 (Inv.start hH) (g [[1],[5,0],[6,2,0],[7,3,2,0]] ?_)
  refine WC.loop (fun y : Nat × Option Ow => [(3, owV y.2 y.1), (11, .slice a l.length c), (12, nt l.length), (13, nt y.1)]) (fun y => owH y.2 9 ((l.take y.1).flatMap ptC) []) (fun _ => D) (fun y => y.1 ≤ l.length ∧ owP w y.2 y.1 1) (fun y => l.length - y.1) (0, none) ⟨by omega, rfl⟩ (fun a w h => at_fr h ⟨rfl, rfl, rfl, rfl, trivial⟩) ?_
  rintro ⟨k, o⟩ ⟨hk, ho⟩
  dsimp only at hk ho
  refine g [[1],[5,3,11,12,13]] ?_
  refine WC.cond rfl (fun c14 => ?_) (fun c14 => ?_)
  · try simp only [zq] at c14
    have hkl : k < l.length := by omega
    refine g [[5],[1,3,11,12,13]] ?_
    refine WL.yd (Yd.ix rfl rfl (hS.addr k (by omega))) rfl (WL.yd (Yd.l1 rfl ((hS.at k (by omega)).rd 0 rfl)) rfl (g [[4]] ?_))
    cases hgp : gt l k
    · rename_i q
      refine g [[6,5,3,11,12,13],[1,17,3,11,12,13]] ?_
      refine WL.yd (Yd.assert UnF.h (by intro _ h; cases h) rfl) rfl (g [[6],[4,20,3,11,12,13],[3,6,3,11,12,13]] ?_)
      refine WL.so (SO.buildSlice1 UnF.h SzF.h ZvF.h rfl rfl rfl (vs := [_]) rfl rfl rfl) rfl ?_
      rintro _ _ _ ⟨b23, hb23, rfl, rfl, rfl⟩
      refine WL.so (SO.appendOwW (W := w) (Nat.le_refl _) (o := o) (len := k) (n := 1) (xs := ((l.take k).flatMap ptC)) (size := 1) [_] [] [] rfl rfl Tryz.underlying37 Tryz.sizeOf9 Tryz.typeInfo9 Tryz.zeroValue9 rfl rfl rfl rfl ⟨rfl, .inr ⟨_, _, _, rfl, RdN.own (k := 0) (n := 1) rfl rfl⟩⟩ (oneB_spec rfl) ho (by rw [flat_len ptC_len, List.length_take, Nat.min_eq_left (by omega), Nat.mul_one]) (by omega) (by show (2 * (_ + _) + 1000) * 16 ≤ 2 ^ 48; omega) (by omega)) rfl ?_
      rintro _ _ _ ⟨u1, hu1, rfl, rfl, rfl⟩
      refine g [[5],[4,3,11,12,13]] ?_
      exact WP.again (⟨k + 1, some u1⟩ : Nat × Option Ow) ⟨by simp only; omega, hu1⟩ (by simp only; omega) (fun aa ww h => at_dropS 0 h ⟨rfl, rfl, rfl, rfl, trivial⟩ (by dsimp only; rw [take_gt hkl, List.flatMap_append, hgp]; first | exact List.Perm.refl _ | (simp only [List.flatMap_cons, List.flatMap_nil, ptC, ptL]; exact List.Perm.refl _)) (fun _ _ h => h))
    · rename_i q
      refine g [[6,5,3,11,12,13],[1,17,3,11,12,13]] ?_
      refine WL.yd (Yd.assertNo UnF.h (by intro _ h; cases h) ZvF.h rfl rfl) rfl (g [[6],[1,17,3,11,12,13]] ?_)
      refine WL.yd (Yd.assert UnF.h (by intro _ h; cases h) rfl) rfl (g [[6],[4,27,3,11,12,13],[3,7,3,11,12,13]] ?_)
      refine WL.cl rfl (fun w hI => itoa_g q (by have := hB _ (gt_mem' hkl); rw [hgp] at this; exact this) D hL _ hI.imm) ?_
      refine WL.so (SO.buildSlice1 UnF.h SzF.h ZvF.h rfl rfl rfl (vs := [_]) rfl rfl rfl) rfl ?_
      rintro _ _ _ ⟨b31, hb31, rfl, rfl, rfl⟩
      refine WL.so (SO.appendOwW (W := w) (Nat.le_refl _) (o := o) (len := k) (n := 1) (xs := ((l.take k).flatMap ptC)) (size := 1) [_] [] [] rfl rfl Tryz.underlying37 Tryz.sizeOf9 Tryz.typeInfo9 Tryz.zeroValue9 rfl rfl rfl rfl ⟨rfl, .inr ⟨_, _, _, rfl, RdN.own (k := 0) (n := 1) rfl rfl⟩⟩ (oneB_spec rfl) ho (by rw [flat_len ptC_len, List.length_take, Nat.min_eq_left (by omega), Nat.mul_one]) (by omega) (by show (2 * (_ + _) + 1000) * 16 ≤ 2 ^ 48; omega) (by omega)) rfl ?_
      rintro _ _ _ ⟨u1, hu1, rfl, rfl, rfl⟩
      refine g [[5],[4,3,11,12,13]] ?_
      exact WP.again (⟨k + 1, some u1⟩ : Nat × Option Ow) ⟨by simp only; omega, hu1⟩ (by simp only; omega) (fun aa ww h => at_dropS 0 h ⟨rfl, rfl, rfl, rfl, trivial⟩ (by dsimp only; rw [take_gt hkl, List.flatMap_append, hgp]; first | exact List.Perm.refl _ | (simp only [List.flatMap_cons, List.flatMap_nil, ptC, ptL]; exact List.Perm.refl _)) (fun _ _ h => h))
    · exact absurd (hsim _ (gt_mem' hkl)) (by rw [hgp]; simp [simB])
    exact absurd (hsim _ (gt_mem' hkl)) (by rw [hgp]; simp [simB])
  try simp only [zq] at c14
  obtain rfl : k = l.length := by omega
  refine g [[6],[2,3]] ?_
  refine WL.know 59 (.slice (owAt o) l.length (owCp o l.length)) rfl (owV_owL (owL_of ho)) ?_
  refine WL.freezeOw (f := ptC) (m := 1) ptC_len [] [] o 9 l rfl ho (by rw [List.take_length]; rfl) (fun D3 hX3 hS3 => ?_)
  have hcap : l.length ≤ owCp o l.length := by
    cases o with
    | none => have h0 : l.length = 0 := ho
              rw [h0]; exact Nat.zero_le _
    | some u => exact ho.2.1
  refine WL.cl rfl (fun w hI => join_g (l.map ptL) (owAt o) l.length (owCp o l.length) D3 (by rw [List.map_map]; exact hS3) (by omega) hcap (told_len hB hn) _ hI.imm) (g [[4]] ?_)
  refine WP.ret1 rfl rfl rfl (RV.tmp rfl) (fun w1 hI => ⟨rfl, hI.keep⟩)
theorem told_g (l : List Pt) (a : Option Addr) (n c : Nat) (D : Imm) (hL : LibW D) (hS : SlL D 1 (l.map ptI) a n) (hn : n ≤ 100) (hB : ∀ p ∈ l, ptB p) (w : World) (hH : Holds D w) : Gives Tryz.prog 223 [.slice a n c] w (st (toldS l)) := by
  unfold Gives
  obtain rfl := hS.len'
  refine en Tryz.func223 rfl Tryz.ntmps223 (Inv.start hH) (g [[1],[5,0],[6,2,0],[7,3,2,0]] ?_)
  refine WC.loop (fun y : Nat × Option Ow => [(3, owV y.2 y.1), (11, .slice a l.length c), (12, nt l.length), (13, nt y.1)]) (fun y => owH y.2 9 ((l.take y.1).flatMap ptC) []) (fun _ => D) (fun y => y.1 ≤ l.length ∧ owP w y.2 y.1 1) (fun y => l.length - y.1) (0, none) ⟨by omega, rfl⟩ (fun a w h => at_fr h ⟨rfl, rfl, rfl, rfl, trivial⟩) ?_
  rintro ⟨k, o⟩ ⟨hk, ho⟩
  dsimp only at hk ho
  refine g [[1],[5,3,11,12,13]] ?_
  refine WC.cond rfl (fun c14 => ?_) (fun c14 => ?_)
  · try simp only [zq] at c14
    have hkl : k < l.length := by omega
    refine g [[5],[1,3,11,12,13]] ?_
    refine WL.yd (Yd.ix rfl rfl (hS.addr k (by omega))) rfl (WL.yd (Yd.l1 rfl ((hS.at k (by omega)).rd 0 rfl)) rfl (g [[4]] ?_))
    cases hgp : gt l k
    · rename_i q
      refine g [[6,5,3,11,12,13],[1,17,3,11,12,13]] ?_
      refine WL.yd (Yd.assert UnF.h (by intro _ h; cases h) rfl) rfl (g [[6],[4,20,3,11,12,13],[3,6,3,11,12,13]] ?_)
      refine WL.so (SO.buildSlice1 UnF.h SzF.h ZvF.h rfl rfl rfl (vs := [_]) rfl rfl rfl) rfl ?_
      rintro _ _ _ ⟨b23, hb23, rfl, rfl, rfl⟩
      refine WL.so (SO.appendOwW (W := w) (Nat.le_refl _) (o := o) (len := k) (n := 1) (xs := ((l.take k).flatMap ptC)) (size := 1) [_] [] [] rfl rfl Tryz.underlying37 Tryz.sizeOf9 Tryz.typeInfo9 Tryz.zeroValue9 rfl rfl rfl rfl ⟨rfl, .inr ⟨_, _, _, rfl, RdN.own (k := 0) (n := 1) rfl rfl⟩⟩ (oneB_spec rfl) ho (by rw [flat_len ptC_len, List.length_take, Nat.min_eq_left (by omega), Nat.mul_one]) (by omega) (by show (2 * (_ + _) + 1000) * 16 ≤ 2 ^ 48; omega) (by omega)) rfl ?_
      rintro _ _ _ ⟨u1, hu1, rfl, rfl, rfl⟩
      refine g [[5],[4,3,11,12,13]] ?_
      exact WP.again (⟨k + 1, some u1⟩ : Nat × Option Ow) ⟨by simp only; omega, hu1⟩ (by simp only; omega) (fun aa ww h => at_dropS 0 h ⟨rfl, rfl, rfl, rfl, trivial⟩ (by dsimp only; rw [take_gt hkl, List.flatMap_append, hgp]; first | exact List.Perm.refl _ | (simp only [List.flatMap_cons, List.flatMap_nil, ptC, ptL]; exact List.Perm.refl _)) (fun _ _ h => h))
    · rename_i q
      refine g [[6,5,3,11,12,13],[1,17,3,11,12,13]] ?_
      refine WL.yd (Yd.assertNo UnF.h (by intro _ h; cases h) ZvF.h rfl rfl) rfl (g [[6],[1,17,3,11,12,13]] ?_)
      refine WL.yd (Yd.assert UnF.h (by intro _ h; cases h) rfl) rfl (g [[6],[4,27,3,11,12,13],[3,7,3,11,12,13]] ?_)
      refine WL.cl rfl (fun w hI => itoa_g q (by have := hB _ (gt_mem' hkl); rw [hgp] at this; exact this) D hL _ hI.imm) ?_
      refine WL.so (SO.buildSlice1 UnF.h SzF.h ZvF.h rfl rfl rfl (vs := [_]) rfl rfl rfl) rfl ?_
      rintro _ _ _ ⟨b31, hb31, rfl, rfl, rfl⟩
      refine WL.so (SO.appendOwW (W := w) (Nat.le_refl _) (o := o) (len := k) (n := 1) (xs := ((l.take k).flatMap ptC)) (size := 1) [_] [] [] rfl rfl Tryz.underlying37 Tryz.sizeOf9 Tryz.typeInfo9 Tryz.zeroValue9 rfl rfl rfl rfl ⟨rfl, .inr ⟨_, _, _, rfl, RdN.own (k := 0) (n := 1) rfl rfl⟩⟩ (oneB_spec rfl) ho (by rw [flat_len ptC_len, List.length_take, Nat.min_eq_left (by omega), Nat.mul_one]) (by omega) (by show (2 * (_ + _) + 1000) * 16 ≤ 2 ^ 48; omega) (by omega)) rfl ?_
      rintro _ _ _ ⟨u1, hu1, rfl, rfl, rfl⟩
      refine g [[5],[4,3,11,12,13]] ?_
      exact WP.again (⟨k + 1, some u1⟩ : Nat × Option Ow) ⟨by simp only; omega, hu1⟩ (by simp only; omega) (fun aa ww h => at_dropS 0 h ⟨rfl, rfl, rfl, rfl, trivial⟩ (by dsimp only; rw [take_gt hkl, List.flatMap_append, hgp]; first | exact List.Perm.refl _ | (simp only [List.flatMap_cons, List.flatMap_nil, ptC, ptL]; exact List.Perm.refl _)) (fun _ _ h => h))
    · rename_i q
      refine g [[6,5,3,11,12,13],[1,17,3,11,12,13]] ?_
      refine WL.yd (Yd.assertNo UnF.h (by intro _ h; cases h) ZvF.h rfl rfl) rfl (g [[6],[1,17,3,11,12,13]] ?_)
      refine WL.yd (Yd.assertNo UnF.h (by intro _ h; cases h) ZvF.h rfl rfl) rfl (g [[6],[1,17,3,11,12,13]] ?_)
      refine WL.yd (Yd.assert UnF.h (by intro _ h; cases h) rfl) rfl (g [[6],[5,35,3,11,12,13],[6,8,3,11,12,13],[4,9,8,3,11,12,13]] ?_)
      refine WC.cond rfl (fun c36 => ?_) (fun c36 => ?_)
      · try simp only [zq] at c36
        refine g [[4,9,3,11,12,13],[4,9,3,11,12,13]] ?_
        refine WL.so (SO.buildSlice1 UnF.h SzF.h ZvF.h rfl rfl rfl (vs := [_]) rfl rfl rfl) rfl ?_
        rintro _ _ _ ⟨b40, hb40, rfl, rfl, rfl⟩
        refine WL.freezeN 0 b40 (.cells (List.toArray ([Pt.n 1].flatMap ptI ++ [])) 20 (0, 0)) rfl rfl hb40 (fun D2 hX2 h40 => ?_)
        refine WL.cl rfl (fun w hI => told_0 [Pt.n (boolI q)] (some ⟨b40, 0, none⟩) 1 1 D2 (hL.ext hX2) (by rw [show boolI q = _ from by rw [c36]]; exact SlL.ofBlock ptI_len h40) (by decide) (by intro p hp; obtain rfl := List.mem_singleton.1 hp; exact boolI_b q) (by intro p hp; obtain rfl := List.mem_singleton.1 hp; rfl) _ hI.imm) ?_
        refine WL.know 41 (st (ptL (.b q))) rfl (by rw [told_one]; rfl) ?_
        refine WL.so (SO.buildSlice1 UnF.h SzF.h ZvF.h rfl rfl rfl (vs := [_]) rfl rfl rfl) rfl ?_
        rintro _ _ _ ⟨b42, hb42, rfl, rfl, rfl⟩
        refine WL.so (SO.appendOwW (W := w) (Nat.le_refl _) (o := o) (len := k) (n := 1) (xs := ((l.take k).flatMap ptC)) (size := 1) [_] [] [] rfl rfl Tryz.underlying37 Tryz.sizeOf9 Tryz.typeInfo9 Tryz.zeroValue9 rfl rfl rfl rfl ⟨rfl, .inr ⟨_, _, _, rfl, RdN.own (k := 0) (n := 1) rfl rfl⟩⟩ (oneB_spec rfl) ho (by rw [flat_len ptC_len, List.length_take, Nat.min_eq_left (by omega), Nat.mul_one]) (by omega) (by show (2 * (_ + _) + 1000) * 16 ≤ 2 ^ 48; omega) (by omega)) rfl ?_
        rintro _ _ _ ⟨u1, hu1, rfl, rfl, rfl⟩
        refine g [[5],[4,3,11,12,13]] ?_
        exact WP.again (⟨k + 1, some u1⟩ : Nat × Option Ow) ⟨by simp only; omega, hu1⟩ (by simp only; omega) (fun aa ww h => at_dropS 0 h ⟨rfl, rfl, rfl, rfl, trivial⟩ (by dsimp only; rw [take_gt hkl, List.flatMap_append, hgp]; first | exact List.Perm.refl _ | (simp only [List.flatMap_cons, List.flatMap_nil, ptC, ptL]; exact List.Perm.refl _)) hX2.old)
      try simp only [zq] at c36
      refine g [[2],[4,9,3,11,12,13]] ?_
      refine WL.so (SO.buildSlice1 UnF.h SzF.h ZvF.h rfl rfl rfl (vs := [_]) rfl rfl rfl) rfl ?_
      rintro _ _ _ ⟨b40, hb40, rfl, rfl, rfl⟩
      refine WL.freezeN 0 b40 (.cells (List.toArray ([Pt.n 0].flatMap ptI ++ [])) 20 (0, 0)) rfl rfl hb40 (fun D2 hX2 h40 => ?_)
      refine WL.cl rfl (fun w hI => told_0 [Pt.n (boolI q)] (some ⟨b40, 0, none⟩) 1 1 D2 (hL.ext hX2) (by rw [show boolI q = _ from by rw [c36]]; exact SlL.ofBlock ptI_len h40) (by decide) (by intro p hp; obtain rfl := List.mem_singleton.1 hp; exact boolI_b q) (by intro p hp; obtain rfl := List.mem_singleton.1 hp; rfl) _ hI.imm) ?_
      refine WL.know 41 (st (ptL (.b q))) rfl (by rw [told_one]; rfl) ?_
      refine WL.so (SO.buildSlice1 UnF.h SzF.h ZvF.h rfl rfl rfl (vs := [_]) rfl rfl rfl) rfl ?_
      rintro _ _ _ ⟨b42, hb42, rfl, rfl, rfl⟩
      refine WL.so (SO.appendOwW (W := w) (Nat.le_refl _) (o := o) (len := k) (n := 1) (xs := ((l.take k).flatMap ptC)) (size := 1) [_] [] [] rfl rfl Tryz.underlying37 Tryz.sizeOf9 Tryz.typeInfo9 Tryz.zeroValue9 rfl rfl rfl rfl ⟨rfl, .inr ⟨_, _, _, rfl, RdN.own (k := 0) (n := 1) rfl rfl⟩⟩ (oneB_spec rfl) ho (by rw [flat_len ptC_len, List.length_take, Nat.min_eq_left (by omega), Nat.mul_one]) (by omega) (by show (2 * (_ + _) + 1000) * 16 ≤ 2 ^ 48; omega) (by omega)) rfl ?_
      rintro _ _ _ ⟨u1, hu1, rfl, rfl, rfl⟩
      refine g [[5],[4,3,11,12,13]] ?_
      exact WP.again (⟨k + 1, some u1⟩ : Nat × Option Ow) ⟨by simp only; omega, hu1⟩ (by simp only; omega) (fun aa ww h => at_dropS 0 h ⟨rfl, rfl, rfl, rfl, trivial⟩ (by dsimp only; rw [take_gt hkl, List.flatMap_append, hgp]; first | exact List.Perm.refl _ | (simp only [List.flatMap_cons, List.flatMap_nil, ptC, ptL]; exact List.Perm.refl _)) hX2.old)
    rename_i qa qc
    refine g [[6,5,3,11,12,13],[1,17,3,11,12,13]] ?_
    refine WL.yd (Yd.assertNo UnF.h (by intro _ h; cases h) ZvF.h rfl rfl) rfl (g [[6],[1,17,3,11,12,13]] ?_)
    refine WL.yd (Yd.assertNo UnF.h (by intro _ h; cases h) ZvF.h rfl rfl) rfl (g [[6],[1,17,3,11,12,13]] ?_)
    refine WL.yd (Yd.assertNo UnF.h (by intro _ h; cases h) ZvF.h rfl rfl) rfl (g [[6],[1,17,3,11,12,13]] ?_)
    refine WL.yd (Yd.assert UnF.h (by intro _ h; cases h) rfl) rfl (g [[6],[1,46,3,11,12,13]] ?_)
    refine WL.so (SO.alloc ZvF.h rfl) rfl (zw fun b10 hb10 => ?_)
    refine g [[3],[8,10,3,11,12,13]] ?_
    refine WL.so (SO.buildSlice1 UnF.h SzF.h ZvF.h rfl rfl rfl (vs := [_, _]) rfl rfl rfl) rfl ?_
    rintro _ _ _ ⟨b54, hb54, rfl, rfl, rfl⟩
    refine WL.freezeN 0 b54 (.cells (List.toArray ([Pt.n qa, Pt.n qc].flatMap ptI ++ [])) 20 (0, 0)) rfl rfl hb54 (fun D2 hX2 h54 => ?_)
    refine WL.cl rfl (fun w hI => told_0 [Pt.n qa, Pt.n qc] (some ⟨b54, 0, none⟩) 2 2 D2 (hL.ext hX2) (SlL.ofBlock ptI_len h54) (by decide) (by have := hB _ (gt_mem' hkl); rw [hgp] at this; intro p hp; simp only [List.mem_cons, List.not_mem_nil, or_false] at hp; rcases hp with rfl | rfl; exact this.1; exact this.2) (by intro p hp; simp only [List.mem_cons, List.not_mem_nil, or_false] at hp; rcases hp with rfl | rfl <;> rfl) _ hI.imm) ?_
    refine WL.know 55 (st (ptL (.sp qa qc))) rfl (by rw [told_two]; rfl) ?_
    refine WL.so (SO.buildSlice1 UnF.h SzF.h ZvF.h rfl rfl rfl (vs := [_]) rfl rfl rfl) rfl ?_
    rintro _ _ _ ⟨b56, hb56, rfl, rfl, rfl⟩
    refine WL.so (SO.appendOwW (W := w) (Nat.le_refl _) (o := o) (len := k) (n := 1) (xs := ((l.take k).flatMap ptC)) (size := 1) [_] [_] [] rfl rfl Tryz.underlying37 Tryz.sizeOf9 Tryz.typeInfo9 Tryz.zeroValue9 rfl rfl rfl rfl ⟨rfl, .inr ⟨_, _, _, rfl, RdN.own (k := 0) (n := 1) rfl rfl⟩⟩ (oneB_spec rfl) ho (by rw [flat_len ptC_len, List.length_take, Nat.min_eq_left (by omega), Nat.mul_one]) (by omega) (by show (2 * (_ + _) + 1000) * 16 ≤ 2 ^ 48; omega) (by omega)) rfl ?_
    rintro _ _ _ ⟨u1, hu1, rfl, rfl, rfl⟩
    refine g [[5],[4,3,11,12,13]] ?_
    exact WP.again (⟨k + 1, some u1⟩ : Nat × Option Ow) ⟨by simp only; omega, hu1⟩ (by simp only; omega) (fun aa ww h => at_dropS 1 h ⟨rfl, rfl, rfl, rfl, trivial⟩ (by dsimp only; rw [take_gt hkl, List.flatMap_append, hgp]; first | exact List.Perm.refl _ | (simp only [List.flatMap_cons, List.flatMap_nil, ptC, ptL]; exact List.Perm.refl _)) hX2.old)
  try simp only [zq] at c14
  obtain rfl : k = l.length := by omega
  refine g [[6],[2,3]] ?_
  refine WL.know 59 (.slice (owAt o) l.length (owCp o l.length)) rfl (owV_owL (owL_of ho)) ?_
  refine WL.freezeOw (f := ptC) (m := 1) ptC_len [] [] o 9 l rfl ho (by rw [List.take_length]; rfl) (fun D3 hX3 hS3 => ?_)
  have hcap : l.length ≤ owCp o l.length := by
    cases o with
    | none => have h0 : l.length = 0 := ho
              rw [h0]; exact Nat.zero_le _
    | some u => exact ho.2.1
  refine WL.cl rfl (fun w hI => join_g (l.map ptL) (owAt o) l.length (owCp o l.length) D3 (by rw [List.map_map]; exact hS3) (by omega) hcap (told_len hB hn) _ hI.imm) (g [[4]] ?_)
  refine WP.ret1 rfl rfl rfl (RV.tmp rfl) (fun w1 hI => ⟨rfl, hI.keep⟩)
end Go.Proofs.YtejgofaeafphjaaGreatDoor
namespace Go.Proofs.YtejgofaeafphjaaGreatDoor
open Go.W Go.Ti
def AskK (w : World) (r : Rep) (e : Ending) (w' : World) : Prop := Keep [] w w' ∧ ((r.2.2 = 0 ∧ e = .returned (st r.2.1)) ∨ (r.2.2 ≠ 0 ∧ e = .panicked (stopW r.2.2)))
theorem askK_y {w w' : World} {d : Day} {sw : Bs} {r : List Int} {e : Int} {q : Bs} (he : e = 0) (hq : q = repL sw r) (hk : Keep [] w w') : AskK w (askD d sw r e) (.returned (st q)) w' := by
  subst he; subst hq
  exact ⟨hk, .inl ⟨rfl, rfl⟩⟩
theorem askK_n {w w' : World} {d : Day} {sw : Bs} {r : List Int} {e f : Int} (he : e ≠ 0) (hf : f = e) (hk : Keep [] w w') : AskK w (askD d sw r e) (.panicked (stopW f)) w' := by
  subst hf
  have h : askD d sw r f = errD d f := by unfold askD; rw [if_pos he]
  rw [h]
  exact ⟨hk, .inr ⟨he, rfl⟩⟩
theorem turn_b {T : Tks} (n : Int) : 0 ≤ (TurnOut T n).1 ∧ (TurnOut T n).1 ≤ 2 := by
  unfold TurnOut; split
  · simp
  dsimp only; unfold gradeI; split
  · omega
  split <;> omega
theorem free_b {T : Tks} (n m : Int) : 0 ≤ (FreeOut T n m).1 ∧ (FreeOut T n m).1 ≤ 2 := by
  unfold FreeOut; split
  · simp
  dsimp only; unfold gradeI; split
  · omega
  split <;> omega
theorem whose_b {T : Tks} (hv : tksB T = true) (m : Int) : 0 ≤ (WhoseOut T m).1 ∧ (WhoseOut T m).1 < 32 := by
  unfold WhoseOut; split
  · simp
  have h := bits_lt (fun i => (allT T).any fun t => decide (nowI t m T.l.length = (i : Int))) T.l.length
  have h2 := Nat.pow_le_pow_right (show 0 < 2 by decide) (tks_num hv).2.1
  dsimp only; omega
theorem depth_b {T : Tide} (hv : tideB T = true) (p m : Int) : (0 ≤ (DepthOut T p m).1.lo ∧ (DepthOut T p m).1.lo ≤ 60) ∧ 0 ≤ (DepthOut T p m).1.hi ∧ (DepthOut T p m).1.hi ≤ 60 := by
  unfold DepthOut; split
  · simp
  rename_i h
  unfold tideE at h
  rw [hv] at h
  cases hw : (placeB T p && minuteB T m) with
  | false => rw [hw] at h; simp at h
  | true =>
    by_cases hn : tdL T = []
    · rw [hw, hn] at h; simp at h
    simp only [Bool.and_eq_true] at hw
    obtain ⟨a, rfl, ha⟩ := placeB_nat hw.1
    have := depth_num (tideB_iff.1 hv) hn ha hw.2
    dsimp only [Int.toNat_natCast]; omega
theorem firstF_b {T : Tide} {p : Nat} {l : Int} : ∀ (n : Nat) (m k : Int), firstF T p l n m = some k → m ≤ k ∧ k < m + n
  | 0, _, _, h => by cases h
  | n + 1, m, k, h => by
    rw [firstF] at h
    split at h
    · cases h; omega
    have := firstF_b n (m + 1) k h; omega
theorem first_b {T : Tide} (hv : tideB T = true) (p l m : Int) : 0 ≤ (FirstOut T p l m).1 ∧ (FirstOut T p l m).1 ≤ 240 := by
  unfold FirstOut; split
  · simp
  rename_i h
  cases hf : firstF T p.toNat l (lastM T - m + 1).toNat m with
  | none => simp
  | some k =>
    have h1 := firstF_b _ _ _ hf
    unfold tideE at h
    rw [hv] at h
    cases hw : (placeB T p && (deepB l && minuteB T m)) with
    | false => rw [hw] at h; simp at h
    | true =>
      simp only [Bool.and_eq_true] at hw
      have hm0 := minute_num (tideB_iff.1 hv) hw.2.2
      have hT := tideB_iff.1 hv
      have hml := (hT.mark (T.marks.length - 1) (by have := hT.nm; omega)).1.2
      have hml' : lastM T ≤ 240 := hml
      dsimp only; omega
theorem turnX_g (x : Wick) (d : Day) (m s t l b : Sl) (xb : Nat) (D : Imm) (w : World) (hw : wickB x = true) (hdo : DayOk x d) (hW : WickR D x m s) (hd : DayR D d t l b) (hL : LibW D) (hH : Holds D w) (hxn : D xb = none) (hx : w.heap[xb]? = some (womO x m s t l b)) (ls : List Int) (al : Option Addr) (nl cl : Nat) (hls : SlL D 1 (ls.map intC) al nl) (hnl : ls.length = 1) (hll : nl ≤ 1000) : Calls Tryz.prog 153 (List.toArray [pt xb, .slice al nl cl]) w fun e w' => AskK w (doD x d turnS ls) e w' := by
  have hXx : DExt { w with heap := #[] } D (D.add xb (womO x m s t l b)) := ⟨add_old hxn, fun b h => by simp at h⟩
  replace hW := hW.ext hXx
  replace hd := hd.ext hXx
  replace hL := hL.ext hXx
  replace hls := hls.ext hXx
  have hxD := Imm.add_self D xb (womO x m s t l b)
  have hHx := Holds.add hH hx
  generalize D.add xb (womO x m s t l b) = Dx at hW hd hL hls hxD hHx
  obtain rfl := hls.len'
  rw [do_turn]
  refine en Tryz.func153 rfl Tryz.ntmps153 (Inv.start hHx) (g [[1],[5,0,1],[0,4,0,1]] ?_)
  refine WC.drawO [] (pz [1,5,7,9,2,10,13,15,17,19,21]) zk zk zX (fun _ hI => hI.nil) (g [[2]] ?_)
  refine WA.yd rfl (Yd.ix rfl rfl (hls.addr 0 (by omega))) rfl (WA.yd rfl (Yd.l1 rfl ((hls.at 0 (by omega)).rd 0 rfl)) rfl ?_)
  refine WA.so rfl (SO.callP CaF.h rfl (fun w hI => wTks_g x m s t l b xb _ (hI.imm _ _ hxD))) rfl ?_
  rintro _ _ _ ⟨rfl, rfl, rfl⟩
  refine ⟨fun _ hI => hI.nil, ?_⟩
  refine WA.so rfl (SO.callP CaF.h rfl (fun w hI => Turn_g (tksW x d) t.a t.n t.c Dx _ (tksW_R hd) hI.imm (gt ls 0))) rfl ?_
  rintro _ _ _ ⟨rfl, rfl, rfl⟩
  refine ⟨fun _ hI => hI.nil, ?_⟩
  refine g [[8],[4,6,5,4]] ?_
  refine WL.part 17 rfl (fun g17 => ?_) (fun g17 => ?_)
  · try simp only [zq] at g17
    refine WL.cl rfl (fun w hI => mustW_ok _ _) (g [[3],[4,5,4]] ?_)
    refine WL.so (SO.buildSlice1 UnF.h SzF.h ZvF.h rfl rfl rfl (vs := [_, _]) rfl rfl rfl) rfl ?_
    rintro _ _ _ ⟨b23, hb23, rfl, rfl, rfl⟩
    refine WL.freezeN 0 b23 (.cells (List.toArray ([Pt.s turnS, Pt.n (TurnOut (tksW x d) (gt ls 0)).1].flatMap ptI ++ [])) 20 (0, 0)) rfl rfl hb23 (fun D9 hX9 h23 => ?_)
    refine WL.cl rfl (fun w hI => told_g [Pt.s turnS, Pt.n (TurnOut (tksW x d) (gt ls 0)).1] (some ⟨b23, 0, none⟩) 2 2 D9 (hL.ext hX9) (SlL.ofBlock ptI_len h23) (by decide) (by intro p hp; simp only [List.mem_cons, List.not_mem_nil, or_false] at hp; rcases hp with rfl | rfl; exact (show List.length _ ≤ 100 by decide); exact (by have := turn_b (T := tksW x d) (gt ls 0); unfold ptB; unfold i64B; omega)) _ hI.imm) (g [[4]] ?_)
    refine WP.ret1 rfl rfl rfl (RV.tmp rfl) (fun w1 hI => askK_y (by assumption) (told_rep _ [_]) hI.keep)
  try simp only [zq] at g17
  refine WL.nf rfl (fun w hI => mustW_no _ _) (g [[1]] ?_)
  exact WP.panicBody rfl (fun w1 hI => askK_n (by assumption) rfl hI.keep)
theorem freeX_g (x : Wick) (d : Day) (m s t l b : Sl) (xb : Nat) (D : Imm) (w : World) (hw : wickB x = true) (hdo : DayOk x d) (hW : WickR D x m s) (hd : DayR D d t l b) (hL : LibW D) (hH : Holds D w) (hxn : D xb = none) (hx : w.heap[xb]? = some (womO x m s t l b)) (ls : List Int) (al : Option Addr) (nl cl : Nat) (hls : SlL D 1 (ls.map intC) al nl) (hnl : ls.length = 2) (hll : nl ≤ 1000) : Calls Tryz.prog 155 (List.toArray [pt xb, .slice al nl cl]) w fun e w' => AskK w (doD x d freeS ls) e w' := by
  have hXx : DExt { w with heap := #[] } D (D.add xb (womO x m s t l b)) := ⟨add_old hxn, fun b h => by simp at h⟩
  replace hW := hW.ext hXx
  replace hd := hd.ext hXx
  replace hL := hL.ext hXx
  replace hls := hls.ext hXx
  have hxD := Imm.add_self D xb (womO x m s t l b)
  have hHx := Holds.add hH hx
  generalize D.add xb (womO x m s t l b) = Dx at hW hd hL hls hxD hHx
  obtain rfl := hls.len'
  rw [do_free]
  refine en Tryz.func155 rfl Tryz.ntmps155 (Inv.start hHx) (g [[1],[5,0,1],[0,4,0,1]] ?_)
  refine WC.drawO [] (pz [1,5,7,9,11,13,15,2,16,19,21,23,25,27]) zk zk zX (fun _ hI => hI.nil) (g [[2]] ?_)
  refine WA.yd rfl (Yd.ix rfl rfl (hls.addr 0 (by omega))) rfl (WA.yd rfl (Yd.l1 rfl ((hls.at 0 (by omega)).rd 0 rfl)) rfl (g [[1]] ?_))
  refine WA.yd rfl (Yd.ix rfl rfl (hls.addr 0 (by omega))) rfl (WA.yd rfl (Yd.l1 rfl ((hls.at 1 (by omega)).rd 0 rfl)) rfl ?_)
  refine WA.so rfl (SO.callP CaF.h rfl (fun w hI => wTks_g x m s t l b xb _ (hI.imm _ _ hxD))) rfl ?_
  rintro _ _ _ ⟨rfl, rfl, rfl⟩
  refine ⟨fun _ hI => hI.nil, ?_⟩
  refine WA.so rfl (SO.callP CaF.h rfl (fun w hI => Free_g (tksW x d) t.a t.n t.c Dx _ (tksW_R hd) hI.imm hdo.tks (gt ls 0) (gt ls 1))) rfl ?_
  rintro _ _ _ ⟨rfl, rfl, rfl⟩
  refine ⟨fun _ hI => hI.nil, ?_⟩
  refine g [[8],[4,6,5,4]] ?_
  refine WL.part 20 rfl (fun g20 => ?_) (fun g20 => ?_)
  · try simp only [zq] at g20
    refine WL.cl rfl (fun w hI => mustW_ok _ _) (g [[3],[4,5,4]] ?_)
    refine WL.so (SO.buildSlice1 UnF.h SzF.h ZvF.h rfl rfl rfl (vs := [_, _]) rfl rfl rfl) rfl ?_
    rintro _ _ _ ⟨b26, hb26, rfl, rfl, rfl⟩
    refine WL.freezeN 0 b26 (.cells (List.toArray ([Pt.s freeS, Pt.n (FreeOut (tksW x d) (gt ls 0) (gt ls 1)).1].flatMap ptI ++ [])) 20 (0, 0)) rfl rfl hb26 (fun D9 hX9 h26 => ?_)
    refine WL.cl rfl (fun w hI => told_g [Pt.s freeS, Pt.n (FreeOut (tksW x d) (gt ls 0) (gt ls 1)).1] (some ⟨b26, 0, none⟩) 2 2 D9 (hL.ext hX9) (SlL.ofBlock ptI_len h26) (by decide) (by intro p hp; simp only [List.mem_cons, List.not_mem_nil, or_false] at hp; rcases hp with rfl | rfl; exact (show List.length _ ≤ 100 by decide); exact (by have := free_b (T := tksW x d) (gt ls 0) (gt ls 1); unfold ptB; unfold i64B; omega)) _ hI.imm) (g [[4]] ?_)
    refine WP.ret1 rfl rfl rfl (RV.tmp rfl) (fun w1 hI => askK_y (by assumption) (told_rep _ [_]) hI.keep)
  try simp only [zq] at g20
  refine WL.nf rfl (fun w hI => mustW_no _ _) (g [[1]] ?_)
  exact WP.panicBody rfl (fun w1 hI => askK_n (by assumption) rfl hI.keep)
theorem whoseX_g (x : Wick) (d : Day) (m s t l b : Sl) (xb : Nat) (D : Imm) (w : World) (hw : wickB x = true) (hdo : DayOk x d) (hW : WickR D x m s) (hd : DayR D d t l b) (hL : LibW D) (hH : Holds D w) (hxn : D xb = none) (hx : w.heap[xb]? = some (womO x m s t l b)) (ls : List Int) (al : Option Addr) (nl cl : Nat) (hls : SlL D 1 (ls.map intC) al nl) (hnl : ls.length = 1) (hll : nl ≤ 1000) : Calls Tryz.prog 154 (List.toArray [pt xb, .slice al nl cl]) w fun e w' => AskK w (doD x d whoseS ls) e w' := by
  have hXx : DExt { w with heap := #[] } D (D.add xb (womO x m s t l b)) := ⟨add_old hxn, fun b h => by simp at h⟩
  replace hW := hW.ext hXx
  replace hd := hd.ext hXx
  replace hL := hL.ext hXx
  replace hls := hls.ext hXx
  have hxD := Imm.add_self D xb (womO x m s t l b)
  have hHx := Holds.add hH hx
  generalize D.add xb (womO x m s t l b) = Dx at hW hd hL hls hxD hHx
  obtain rfl := hls.len'
  rw [do_whose]
  refine en Tryz.func154 rfl Tryz.ntmps154 (Inv.start hHx) (g [[1],[5,0,1],[0,4,0,1]] ?_)
  refine WC.drawO [] (pz [1,5,7,9,2,10,13,15,17,19,21,23,25]) zk zk zX (fun _ hI => hI.nil) (g [[2]] ?_)
  refine WA.yd rfl (Yd.ix rfl rfl (hls.addr 0 (by omega))) rfl (WA.yd rfl (Yd.l1 rfl ((hls.at 0 (by omega)).rd 0 rfl)) rfl ?_)
  refine WA.so rfl (SO.callP CaF.h rfl (fun w hI => wTks_g x m s t l b xb _ (hI.imm _ _ hxD))) rfl ?_
  rintro _ _ _ ⟨rfl, rfl, rfl⟩
  refine ⟨fun _ hI => hI.nil, ?_⟩
  refine WA.so rfl (SO.callP CaF.h rfl (fun w hI => Whose_g (tksW x d) t.a t.n t.c Dx _ (tksW_R hd) hI.imm hdo.tks (gt ls 0))) rfl ?_
  rintro _ _ _ ⟨rfl, rfl, rfl⟩
  refine ⟨fun _ hI => hI.nil, ?_⟩
  refine g [[10],[4,7,6,5,4]] ?_
  refine WL.part 19 rfl (fun g19 => ?_) (fun g19 => ?_)
  · try simp only [zq] at g19
    refine WL.cl rfl (fun w hI => mustW_ok _ _) (g [[3],[6,6,5,4]] ?_)
    refine WL.so (SO.buildSlice1 UnF.h SzF.h ZvF.h rfl rfl rfl (vs := [_, _, _]) rfl rfl rfl) rfl ?_
    rintro _ _ _ ⟨b27, hb27, rfl, rfl, rfl⟩
    refine WL.freezeN 0 b27 (.cells (List.toArray ([Pt.s whoseS, Pt.n (WhoseOut (tksW x d) (gt ls 0)).1, Pt.b (WhoseOut (tksW x d) (gt ls 0)).2.1].flatMap ptI ++ [])) 20 (0, 0)) rfl rfl hb27 (fun D9 hX9 h27 => ?_)
    refine WL.cl rfl (fun w hI => told_g [Pt.s whoseS, Pt.n (WhoseOut (tksW x d) (gt ls 0)).1, Pt.b (WhoseOut (tksW x d) (gt ls 0)).2.1] (some ⟨b27, 0, none⟩) 3 3 D9 (hL.ext hX9) (SlL.ofBlock ptI_len h27) (by decide) (by intro p hp; simp only [List.mem_cons, List.not_mem_nil, or_false] at hp; rcases hp with rfl | rfl | rfl; exact (show List.length _ ≤ 100 by decide); exact (by have := whose_b hdo.tks (gt ls 0); unfold ptB; unfold i64B; omega); exact trivial) _ hI.imm) (g [[4]] ?_)
    refine WP.ret1 rfl rfl rfl (RV.tmp rfl) (fun w1 hI => askK_y (by assumption) (told_bool _ _ _) hI.keep)
  try simp only [zq] at g19
  refine WL.nf rfl (fun w hI => mustW_no _ _) (g [[1]] ?_)
  exact WP.panicBody rfl (fun w1 hI => askK_n (by assumption) rfl hI.keep)
theorem depthX_g (x : Wick) (d : Day) (m s t l b : Sl) (xb : Nat) (D : Imm) (w : World) (hw : wickB x = true) (hdo : DayOk x d) (hW : WickR D x m s) (hd : DayR D d t l b) (hL : LibW D) (hH : Holds D w) (hxn : D xb = none) (hx : w.heap[xb]? = some (womO x m s t l b)) (ls : List Int) (al : Option Addr) (nl cl : Nat) (hls : SlL D 1 (ls.map intC) al nl) (hnl : ls.length = 2) (hll : nl ≤ 1000) : Calls Tryz.prog 156 (List.toArray [pt xb, .slice al nl cl]) w fun e w' => AskK w (doD x d depthS_ ls) e w' := by
  have hXx : DExt { w with heap := #[] } D (D.add xb (womO x m s t l b)) := ⟨add_old hxn, fun b h => by simp at h⟩
  replace hW := hW.ext hXx
  replace hd := hd.ext hXx
  replace hL := hL.ext hXx
  replace hls := hls.ext hXx
  have hxD := Imm.add_self D xb (womO x m s t l b)
  have hHx := Holds.add hH hx
  generalize D.add xb (womO x m s t l b) = Dx at hW hd hL hls hxD hHx
  obtain rfl := hls.len'
  rw [do_depth]
  refine en Tryz.func156 rfl Tryz.ntmps156 (Inv.start hHx) (g [[1],[5,0,1],[0,4,0,1]] ?_)
  refine WC.drawH [] zk (fun _ hI => hI.nil) (g [[1000],[1002]] ?_)
  refine WH.yd (i := 3) zk zX rfl (Yd.ix rfl rfl (hls.addr 0 (by omega))) rfl (WH.yd (i := 4) zk zX rfl (Yd.l1 rfl ((hls.at 0 (by omega)).rd 0 rfl)) rfl (g [[1005]] ?_))
  refine WH.yd (i := 6) zk zX rfl (Yd.ix rfl rfl (hls.addr 0 (by omega))) rfl (WH.yd (i := 7) zk zX rfl (Yd.l1 rfl ((hls.at 1 (by omega)).rd 0 rfl)) rfl ?_)
  refine WH.two (i := 1) (j := 12) zk ?_ ?_
  · refine WHo.so rfl (SO.callP CaF.h rfl (fun w hI => wTide_g x m s t l b xb _ (hI.imm _ _ hxD))) rfl ?_
    rintro _ _ _ ⟨rfl, rfl, rfl⟩
    refine ⟨(fun _ hI => hI.nil), ?_⟩
    refine WH.two (i := 8) (j := 12) zk ?_ ?_
    · refine WHo.so rfl (SO.callP CaF.h rfl (fun w hI => Depth_g (tideW x d) m.a s.a l.a _ _ _ m.c s.c l.c Dx _ (tideW_R hW hd) hI.imm hL (gt ls 0) (gt ls 1))) rfl ?_
      rintro _ _ _ ⟨rfl, rfl, rfl⟩
      refine ⟨(fun _ hI => hI.nil), ?_⟩
      refine g [[1009],[1010],[1011]] ?_
      refine WH.one (i := 12) zk (WHo.so rfl (SO.alloc ZvF.h rfl) rfl ?_)
      rintro _ _ _ ⟨b5, hb5, rfl, rfl, rfl⟩
      refine ⟨(fun _ hI => hI.nil), ?_⟩
      refine WH.one (i := 13) zk (WHo.so rfl (SO.store 0 rfl SzF.h rfl rfl rfl rfl (zqb rfl) (oneB_spec rfl)) rfl ?_)
      rintro _ _ _ ⟨rfl, rfl, rfl⟩
      refine ⟨(fun _ hI => hI.nil), ?_⟩
      refine g [[1014]] ?_
      refine WH.nil zk (g [[2],[4,6,5,4]] ?_)
      refine WL.part 20 rfl (fun g20 => ?_) (fun g20 => ?_)
      · try simp only [zq] at g20
        refine WL.cl rfl (fun w hI => mustW_ok _ _) (g [[3],[4,5,4]] ?_)
        refine WL.so (SO.buildSlice1 UnF.h SzF.h ZvF.h rfl rfl rfl (vs := [_, _]) rfl rfl rfl) rfl ?_
        rintro _ _ _ ⟨b26, hb26, rfl, rfl, rfl⟩
        refine WL.freezeN 0 b26 (.cells (List.toArray ([Pt.s depthS_, Pt.sp (DepthOut (tideW x d) (gt ls 0) (gt ls 1)).1.lo (DepthOut (tideW x d) (gt ls 0) (gt ls 1)).1.hi].flatMap ptI ++ [])) 20 (0, 0)) rfl rfl hb26 (fun D9 hX9 h26 => ?_)
        refine WL.cl rfl (fun w hI => told_g [Pt.s depthS_, Pt.sp (DepthOut (tideW x d) (gt ls 0) (gt ls 1)).1.lo (DepthOut (tideW x d) (gt ls 0) (gt ls 1)).1.hi] (some ⟨b26, 0, none⟩) 2 2 D9 (hL.ext hX9) (SlL.ofBlock ptI_len h26) (by decide) (by intro p hp; simp only [List.mem_cons, List.not_mem_nil, or_false] at hp; rcases hp with rfl | rfl; exact (show List.length _ ≤ 100 by decide); exact (by have := depth_b hdo.tide (gt ls 0) (gt ls 1); exact ⟨by unfold i64B; omega, by unfold i64B; omega⟩)) _ hI.imm) (g [[4]] ?_)
        refine WP.ret1 rfl rfl rfl (RV.tmp rfl) (fun w1 hI => askK_y (by assumption) (told_span _ _ _) hI.keep)
      try simp only [zq] at g20
      refine WL.nf rfl (fun w hI => mustW_no _ _) (g [[1]] ?_)
      exact WP.panicBody rfl (fun w1 hI => askK_n (by assumption) rfl hI.keep)
    refine WHo.so rfl (SO.alloc ZvF.h rfl) rfl ?_
    rintro _ _ _ ⟨b5, hb5, rfl, rfl, rfl⟩
    refine ⟨(fun _ hI => hI.nil), ?_⟩
    refine WH.one (i := 8) zk (WHo.so rfl (SO.callP CaF.h rfl (fun w hI => Depth_g (tideW x d) m.a s.a l.a _ _ _ m.c s.c l.c Dx _ (tideW_R hW hd) hI.imm hL (gt ls 0) (gt ls 1))) rfl ?_)
    rintro _ _ _ ⟨rfl, rfl, rfl⟩
    refine ⟨(fun _ hI => hI.nil), ?_⟩
    refine g [[1009],[1010],[1011]] ?_
    refine WH.one (i := 13) zk (WHo.so rfl (SO.store 0 rfl SzF.h rfl rfl rfl rfl (zqb rfl) (oneB_spec rfl)) rfl ?_)
    rintro _ _ _ ⟨rfl, rfl, rfl⟩
    refine ⟨(fun _ hI => hI.nil), ?_⟩
    refine g [[1014]] ?_
    refine WH.nil zk (g [[2],[4,6,5,4]] ?_)
    refine WL.part 20 rfl (fun g20 => ?_) (fun g20 => ?_)
    · try simp only [zq] at g20
      refine WL.cl rfl (fun w hI => mustW_ok _ _) (g [[3],[4,5,4]] ?_)
      refine WL.so (SO.buildSlice1 UnF.h SzF.h ZvF.h rfl rfl rfl (vs := [_, _]) rfl rfl rfl) rfl ?_
      rintro _ _ _ ⟨b26, hb26, rfl, rfl, rfl⟩
      refine WL.freezeN 0 b26 (.cells (List.toArray ([Pt.s depthS_, Pt.sp (DepthOut (tideW x d) (gt ls 0) (gt ls 1)).1.lo (DepthOut (tideW x d) (gt ls 0) (gt ls 1)).1.hi].flatMap ptI ++ [])) 20 (0, 0)) rfl rfl hb26 (fun D9 hX9 h26 => ?_)
      refine WL.cl rfl (fun w hI => told_g [Pt.s depthS_, Pt.sp (DepthOut (tideW x d) (gt ls 0) (gt ls 1)).1.lo (DepthOut (tideW x d) (gt ls 0) (gt ls 1)).1.hi] (some ⟨b26, 0, none⟩) 2 2 D9 (hL.ext hX9) (SlL.ofBlock ptI_len h26) (by decide) (by intro p hp; simp only [List.mem_cons, List.not_mem_nil, or_false] at hp; rcases hp with rfl | rfl; exact (show List.length _ ≤ 100 by decide); exact (by have := depth_b hdo.tide (gt ls 0) (gt ls 1); exact ⟨by unfold i64B; omega, by unfold i64B; omega⟩)) _ hI.imm) (g [[4]] ?_)
      refine WP.ret1 rfl rfl rfl (RV.tmp rfl) (fun w1 hI => askK_y (by assumption) (told_span _ _ _) hI.keep)
    try simp only [zq] at g20
    refine WL.nf rfl (fun w hI => mustW_no _ _) (g [[1]] ?_)
    exact WP.panicBody rfl (fun w1 hI => askK_n (by assumption) rfl hI.keep)
  refine WHo.so rfl (SO.alloc ZvF.h rfl) rfl ?_
  rintro _ _ _ ⟨b5, hb5, rfl, rfl, rfl⟩
  refine ⟨(fun _ hI => hI.nil), ?_⟩
  refine WH.one (i := 1) zk (WHo.so rfl (SO.callP CaF.h rfl (fun w hI => wTide_g x m s t l b xb _ (hI.imm _ _ hxD))) rfl ?_)
  rintro _ _ _ ⟨rfl, rfl, rfl⟩
  refine ⟨(fun _ hI => hI.nil), ?_⟩
  refine WH.one (i := 8) zk (WHo.so rfl (SO.callP CaF.h rfl (fun w hI => Depth_g (tideW x d) m.a s.a l.a _ _ _ m.c s.c l.c Dx _ (tideW_R hW hd) hI.imm hL (gt ls 0) (gt ls 1))) rfl ?_)
  rintro _ _ _ ⟨rfl, rfl, rfl⟩
  refine ⟨(fun _ hI => hI.nil), ?_⟩
  refine g [[1009],[1010],[1011]] ?_
  refine WH.one (i := 13) zk (WHo.so rfl (SO.store 0 rfl SzF.h rfl rfl rfl rfl (zqb rfl) (oneB_spec rfl)) rfl ?_)
  rintro _ _ _ ⟨rfl, rfl, rfl⟩
  refine ⟨(fun _ hI => hI.nil), ?_⟩
  refine g [[1014]] ?_
  refine WH.nil zk (g [[2],[4,6,5,4]] ?_)
  refine WL.part 20 rfl (fun g20 => ?_) (fun g20 => ?_)
  · try simp only [zq] at g20
    refine WL.cl rfl (fun w hI => mustW_ok _ _) (g [[3],[4,5,4]] ?_)
    refine WL.so (SO.buildSlice1 UnF.h SzF.h ZvF.h rfl rfl rfl (vs := [_, _]) rfl rfl rfl) rfl ?_
    rintro _ _ _ ⟨b26, hb26, rfl, rfl, rfl⟩
    refine WL.freezeN 0 b26 (.cells (List.toArray ([Pt.s depthS_, Pt.sp (DepthOut (tideW x d) (gt ls 0) (gt ls 1)).1.lo (DepthOut (tideW x d) (gt ls 0) (gt ls 1)).1.hi].flatMap ptI ++ [])) 20 (0, 0)) rfl rfl hb26 (fun D9 hX9 h26 => ?_)
    refine WL.cl rfl (fun w hI => told_g [Pt.s depthS_, Pt.sp (DepthOut (tideW x d) (gt ls 0) (gt ls 1)).1.lo (DepthOut (tideW x d) (gt ls 0) (gt ls 1)).1.hi] (some ⟨b26, 0, none⟩) 2 2 D9 (hL.ext hX9) (SlL.ofBlock ptI_len h26) (by decide) (by intro p hp; simp only [List.mem_cons, List.not_mem_nil, or_false] at hp; rcases hp with rfl | rfl; exact (show List.length _ ≤ 100 by decide); exact (by have := depth_b hdo.tide (gt ls 0) (gt ls 1); exact ⟨by unfold i64B; omega, by unfold i64B; omega⟩)) _ hI.imm) (g [[4]] ?_)
    refine WP.ret1 rfl rfl rfl (RV.tmp rfl) (fun w1 hI => askK_y (by assumption) (told_span _ _ _) hI.keep)
  try simp only [zq] at g20
  refine WL.nf rfl (fun w hI => mustW_no _ _) (g [[1]] ?_)
  exact WP.panicBody rfl (fun w1 hI => askK_n (by assumption) rfl hI.keep)
theorem firstX_g (x : Wick) (d : Day) (m s t l b : Sl) (xb : Nat) (D : Imm) (w : World) (hw : wickB x = true) (hdo : DayOk x d) (hW : WickR D x m s) (hd : DayR D d t l b) (hL : LibW D) (hH : Holds D w) (hxn : D xb = none) (hx : w.heap[xb]? = some (womO x m s t l b)) (ls : List Int) (al : Option Addr) (nl cl : Nat) (hls : SlL D 1 (ls.map intC) al nl) (hnl : ls.length = 3) (hll : nl ≤ 1000) : Calls Tryz.prog 157 (List.toArray [pt xb, .slice al nl cl]) w fun e w' => AskK w (doD x d firstS ls) e w' := by
  have hXx : DExt { w with heap := #[] } D (D.add xb (womO x m s t l b)) := ⟨add_old hxn, fun b h => by simp at h⟩
  replace hW := hW.ext hXx
  replace hd := hd.ext hXx
  replace hL := hL.ext hXx
  replace hls := hls.ext hXx
  have hxD := Imm.add_self D xb (womO x m s t l b)
  have hHx := Holds.add hH hx
  generalize D.add xb (womO x m s t l b) = Dx at hW hd hL hls hxD hHx
  obtain rfl := hls.len'
  rw [do_first]
  refine en Tryz.func157 rfl Tryz.ntmps157 (Inv.start hHx) (g [[1],[5,0,1],[0,4,0,1]] ?_)
  refine WC.drawO [] (pz [1,5,7,9,11,13,15,17,19,21,2,22,25,27,29,31,33]) zk zk zX (fun _ hI => hI.nil) (g [[2]] ?_)
  refine WA.yd rfl (Yd.ix rfl rfl (hls.addr 0 (by omega))) rfl (WA.yd rfl (Yd.l1 rfl ((hls.at 0 (by omega)).rd 0 rfl)) rfl (g [[1]] ?_))
  refine WA.yd rfl (Yd.ix rfl rfl (hls.addr 0 (by omega))) rfl (WA.yd rfl (Yd.l1 rfl ((hls.at 1 (by omega)).rd 0 rfl)) rfl (g [[1]] ?_))
  refine WA.yd rfl (Yd.ix rfl rfl (hls.addr 0 (by omega))) rfl (WA.yd rfl (Yd.l1 rfl ((hls.at 2 (by omega)).rd 0 rfl)) rfl ?_)
  refine WA.so rfl (SO.callP CaF.h rfl (fun w hI => wTide_g x m s t l b xb _ (hI.imm _ _ hxD))) rfl ?_
  rintro _ _ _ ⟨rfl, rfl, rfl⟩
  refine ⟨fun _ hI => hI.nil, ?_⟩
  refine WA.so rfl (SO.callP CaF.h rfl (fun w hI => First_g (tideW x d) m.a s.a l.a _ _ _ m.c s.c l.c Dx _ (tideW_R hW hd) hI.imm hL (gt ls 0) (gt ls 1) (gt ls 2))) rfl ?_
  rintro _ _ _ ⟨rfl, rfl, rfl⟩
  refine ⟨fun _ hI => hI.nil, ?_⟩
  refine g [[8],[4,6,5,4]] ?_
  refine WL.part 23 rfl (fun g23 => ?_) (fun g23 => ?_)
  · try simp only [zq] at g23
    refine WL.cl rfl (fun w hI => mustW_ok _ _) (g [[3],[4,5,4]] ?_)
    refine WL.so (SO.buildSlice1 UnF.h SzF.h ZvF.h rfl rfl rfl (vs := [_, _]) rfl rfl rfl) rfl ?_
    rintro _ _ _ ⟨b29, hb29, rfl, rfl, rfl⟩
    refine WL.freezeN 0 b29 (.cells (List.toArray ([Pt.s firstS, Pt.n (FirstOut (tideW x d) (gt ls 0) (gt ls 1) (gt ls 2)).1].flatMap ptI ++ [])) 20 (0, 0)) rfl rfl hb29 (fun D9 hX9 h29 => ?_)
    refine WL.cl rfl (fun w hI => told_g [Pt.s firstS, Pt.n (FirstOut (tideW x d) (gt ls 0) (gt ls 1) (gt ls 2)).1] (some ⟨b29, 0, none⟩) 2 2 D9 (hL.ext hX9) (SlL.ofBlock ptI_len h29) (by decide) (by intro p hp; simp only [List.mem_cons, List.not_mem_nil, or_false] at hp; rcases hp with rfl | rfl; exact (show List.length _ ≤ 100 by decide); exact (by have := first_b hdo.tide (gt ls 0) (gt ls 1) (gt ls 2); unfold ptB; unfold i64B; omega)) _ hI.imm) (g [[4]] ?_)
    refine WP.ret1 rfl rfl rfl (RV.tmp rfl) (fun w1 hI => askK_y (by assumption) (told_rep _ [_]) hI.keep)
  try simp only [zq] at g23
  refine WL.nf rfl (fun w hI => mustW_no _ _) (g [[1]] ?_)
  exact WP.panicBody rfl (fun w1 hI => askK_n (by assumption) rfl hI.keep)
end Go.Proofs.YtejgofaeafphjaaGreatDoor
namespace Go.Proofs.YtejgofaeafphjaaGreatDoor
open Go.W Go.Ti
theorem sumR_num {f : Nat → Int} : ∀ n : Nat, (∀ i, i < n → -2400 ≤ f i ∧ f i ≤ 2400) → -2400 * (n : Int) ≤ ((List.range n).map f).sum ∧ ((List.range n).map f).sum ≤ 2400 * (n : Int)
  | 0, _ => by simp
  | n + 1, h => by
    have h1 := sumR_num n fun i hi => h i (by omega)
    have h2 := h n (by omega)
    rw [List.range_succ, List.map_append, List.sum_append]
    simp only [List.map_cons, List.map_nil, List.sum_cons, List.sum_nil, Int.add_zero]
    push_cast; omega
theorem sum_b {X : Till} {l : List Ent} (hl : l.length ≤ 1000) : i64B (SumOut X l).1 := by
  unfold SumOut
  split
  · unfold i64B; simp
  rename_i h0
  split
  · unfold i64B; simp
  rename_i hb
  have hE : tillE X l true = 0 := by
    unfold toldE at h0
    by_cases h : tillE X l true = 0
    · exact h
    rw [if_pos h] at h0; exact absurd h h0
  have hnil : brokL X l l.length = [] := by simpa using hb
  have := sumR_num (f := fun i => signI (gt l i)) l.length fun i hi => by
    have := can_num (tillE_all hE).1 (rule_zero (brok_nil hnil i hi))
    unfold signI; split <;> omega
  unfold i64B; dsimp only; omega
theorem bookR_of {D : Imm} {d : Day} {t l b : Sl} (h : DayR D d t l b) : BookR D d.book b.a b.n := ⟨h.book, h.len.2.2⟩
theorem told_1 (q : Bs) : toldS [.s q] = q := Lib.join_one _ _
theorem bookX_g (x : Wick) (d : Day) (m s t l b : Sl) (xb : Nat) (D : Imm) (w : World) (hw : wickB x = true) (hdo : DayOk x d) (hW : WickR D x m s) (hd : DayR D d t l b) (hL : LibW D) (hH : Holds D w) (hxn : D xb = none) (hx : w.heap[xb]? = some (womO x m s t l b)) (ls : List Int) (al : Option Addr) (nl cl : Nat) (hls : SlL D 1 (ls.map intC) al nl) (hnl : ls.length = 0) (hll : nl ≤ 1000) : Calls Tryz.prog 158 (List.toArray [pt xb, .slice al nl cl]) w fun e w' => AskK w (doD x d bookS ls) e w' := by
  have hXx : DExt { w with heap := #[] } D (D.add xb (womO x m s t l b)) := ⟨add_old hxn, fun b h => by simp at h⟩
  replace hW := hW.ext hXx
  replace hd := hd.ext hXx
  replace hL := hL.ext hXx
  replace hls := hls.ext hXx
  have hxD := Imm.add_self D xb (womO x m s t l b)
  have hHx := Holds.add hH hx
  generalize D.add xb (womO x m s t l b) = Dx at hW hd hL hls hxD hHx
  obtain rfl := hls.len'
  rw [do_book]
  have hck := check_at hw hdo
  refine en Tryz.func158 rfl Tryz.ntmps158 (Inv.start hHx) (g [[1],[5,0],[0,4,0]] ?_)
  refine WC.drawO [] (pz [1,5,7,9,11,13,2,14,17,19,21,23,25,27,29]) zk zk zX (fun _ hI => hI.nil) (g [[6]] ?_)
  refine WA.so rfl (SO.callP CaF.h rfl (fun w hI => wTill_g x m s t l b xb _ (hI.imm _ _ hxD))) rfl ?_
  rintro _ _ _ ⟨rfl, rfl, rfl⟩
  refine ⟨fun _ hI => hI.nil, ?_⟩
  refine WA.so rfl (SO.callP CaF.h rfl (fun w hI => Check_g (tillW x d) t.a t.n t.c Dx _ (tksW_R hd) hI.imm d.book b.a b.n b.c (bookR_of hd))) rfl ?_
  rintro _ _ _ ⟨rfl, rfl, rfl⟩
  refine ⟨fun _ hI => hI.nil, ?_⟩
  refine g [[11],[5,7,6,5,4]] ?_
  refine WC.cond rfl (fun c21 => ?_) (fun c21 => ?_)
  · try simp only [zq] at c21
    refine g [[1],[2,7,6,5,4]] ?_
    refine WL.so (SO.buildSlice1 UnF.h SzF.h ZvF.h rfl rfl rfl (vs := [_]) rfl rfl rfl) rfl ?_
    rintro _ _ _ ⟨b23, hb23, rfl, rfl, rfl⟩
    refine WL.freezeN 0 b23 (.cells (List.toArray ([Pt.s bookS].flatMap ptI ++ [])) 20 (0, 0)) rfl rfl hb23 (fun D9 hX9 h23 => ?_)
    refine WL.cl rfl (fun w hI => told_g [Pt.s bookS] (some ⟨b23, 0, none⟩) 1 1 D9 (hL.ext hX9) (SlL.ofBlock ptI_len h23) (by decide) (by intro p hp; simp only [List.mem_cons, List.not_mem_nil, or_false] at hp; subst hp; exact (show List.length _ ≤ 100 by decide)) _ hI.imm) (g [[5]] ?_)
    refine WP.ret1 rfl rfl rfl (RV.tmp rfl) (fun w1 hI => by rw [if_pos (by assumption)]; exact ⟨hI.keep, .inl ⟨rfl, by rw [told_1]⟩⟩)
  try simp only [zq] at c21
  refine g [[3],[4,7,6,5,4]] ?_
  refine WL.part 26 rfl (fun g26 => ?_) (fun g26 => ?_)
  · try simp only [zq] at g26
    refine WL.cl rfl (fun w hI => mustW_ok _ _) (g [[3],[6,6,5,4]] ?_)
    refine WL.so (SO.buildSlice1 UnF.h SzF.h ZvF.h rfl rfl rfl (vs := [_, _, _]) rfl rfl rfl) rfl ?_
    rintro _ _ _ ⟨b34, hb34, rfl, rfl, rfl⟩
    refine WL.freezeN 0 b34 (.cells (List.toArray ([Pt.s bookS, Pt.n (CheckOut (tillW x d) d.book).1, Pt.n (CheckOut (tillW x d) d.book).2.1].flatMap ptI ++ [])) 20 (0, 0)) rfl rfl hb34 (fun D9 hX9 h34 => ?_)
    refine WL.cl rfl (fun w hI => told_g [Pt.s bookS, Pt.n (CheckOut (tillW x d) d.book).1, Pt.n (CheckOut (tillW x d) d.book).2.1] (some ⟨b34, 0, none⟩) 3 3 D9 (hL.ext hX9) (SlL.ofBlock ptI_len h34) (by decide) (by intro p hp; simp only [List.mem_cons, List.not_mem_nil, or_false] at hp; rcases hp with rfl | rfl | rfl; exact (show List.length _ ≤ 100 by decide); exact (by rcases hck with h | h | h <;> first | (unfold ptB; unfold i64B; omega) | (exfalso; omega)); exact (by rcases hck with h | h | h <;> first | (unfold ptB; unfold i64B; omega) | (exfalso; omega))) _ hI.imm) (g [[4]] ?_)
    refine WP.ret1 rfl rfl rfl (RV.tmp rfl) (fun w1 hI => by rw [if_neg (by assumption)]; exact askK_y (by assumption) (told_rep _ [_, _]) hI.keep)
  try simp only [zq] at g26
  refine WL.nf rfl (fun w hI => mustW_no _ _) (g [[1]] ?_)
  refine WP.panicBody rfl (fun w1 hI => ?_)
  rw [if_neg (by assumption)]
  exact askK_n (by assumption) rfl hI.keep
theorem sumX_g (x : Wick) (d : Day) (m s t l b : Sl) (xb : Nat) (D : Imm) (w : World) (hw : wickB x = true) (hdo : DayOk x d) (hW : WickR D x m s) (hd : DayR D d t l b) (hL : LibW D) (hH : Holds D w) (hxn : D xb = none) (hx : w.heap[xb]? = some (womO x m s t l b)) (ls : List Int) (al : Option Addr) (nl cl : Nat) (hls : SlL D 1 (ls.map intC) al nl) (hnl : ls.length = 0) (hll : nl ≤ 1000) : Calls Tryz.prog 159 (List.toArray [pt xb, .slice al nl cl]) w fun e w' => AskK w (doD x d sumS ls) e w' := by
  have hXx : DExt { w with heap := #[] } D (D.add xb (womO x m s t l b)) := ⟨add_old hxn, fun b h => by simp at h⟩
  replace hW := hW.ext hXx
  replace hd := hd.ext hXx
  replace hL := hL.ext hXx
  replace hls := hls.ext hXx
  have hxD := Imm.add_self D xb (womO x m s t l b)
  have hHx := Holds.add hH hx
  generalize D.add xb (womO x m s t l b) = Dx at hW hd hL hls hxD hHx
  obtain rfl := hls.len'
  rw [do_sum]
  refine en Tryz.func159 rfl Tryz.ntmps159 (Inv.start hHx) (g [[1],[5,0],[0,4,0]] ?_)
  refine WC.drawO [] (pz [1,5,7,9,11,13,2,14,17,19,21,23,25]) zk zk zX (fun _ hI => hI.nil) (g [[6]] ?_)
  refine WA.so rfl (SO.callP CaF.h rfl (fun w hI => wTill_g x m s t l b xb _ (hI.imm _ _ hxD))) rfl ?_
  rintro _ _ _ ⟨rfl, rfl, rfl⟩
  refine ⟨fun _ hI => hI.nil, ?_⟩
  refine WA.so rfl (SO.callP CaF.h rfl (fun w hI => Sum_g (tillW x d) t.a t.n t.c Dx _ (tksW_R hd) hI.imm d.book b.a b.n b.c (bookR_of hd))) rfl ?_
  rintro _ _ _ ⟨rfl, rfl, rfl⟩
  refine ⟨fun _ hI => hI.nil, ?_⟩
  refine g [[8],[4,6,5,4]] ?_
  refine WL.part 19 rfl (fun g19 => ?_) (fun g19 => ?_)
  · try simp only [zq] at g19
    refine WL.cl rfl (fun w hI => mustW_ok _ _) (g [[3],[4,5,4]] ?_)
    refine WL.so (SO.buildSlice1 UnF.h SzF.h ZvF.h rfl rfl rfl (vs := [_, _]) rfl rfl rfl) rfl ?_
    rintro _ _ _ ⟨b25, hb25, rfl, rfl, rfl⟩
    refine WL.freezeN 0 b25 (.cells (List.toArray ([Pt.s sumS, Pt.n (SumOut (tillW x d) d.book).1].flatMap ptI ++ [])) 20 (0, 0)) rfl rfl hb25 (fun D9 hX9 h25 => ?_)
    refine WL.cl rfl (fun w hI => told_g [Pt.s sumS, Pt.n (SumOut (tillW x d) d.book).1] (some ⟨b25, 0, none⟩) 2 2 D9 (hL.ext hX9) (SlL.ofBlock ptI_len h25) (by decide) (by intro p hp; simp only [List.mem_cons, List.not_mem_nil, or_false] at hp; rcases hp with rfl | rfl; exact (show List.length _ ≤ 100 by decide); exact (sum_b (by have := ent_len hdo; omega))) _ hI.imm) (g [[4]] ?_)
    refine WP.ret1 rfl rfl rfl (RV.tmp rfl) (fun w1 hI => askK_y (by assumption) (told_rep _ [_]) hI.keep)
  try simp only [zq] at g19
  refine WL.nf rfl (fun w hI => mustW_no _ _) (g [[1]] ?_)
  exact WP.panicBody rfl (fun w1 hI => askK_n (by assumption) rfl hI.keep)
end Go.Proofs.YtejgofaeafphjaaGreatDoor
namespace Go.Proofs.YtejgofaeafphjaaGreatDoor
open Go.W Go.Ti
theorem SA41 : StructAt Tryz.prog 41 [.int .i64 0, .int .i64 0, .int .i64 0, .int .i64 0, .int .i64 0] [(0, 2), (2, 1), (3, 2)] := ⟨⟨_, Tryz.zeroValue41, rfl⟩, _, Tryz.underlying41, fun w => by simp [Tryz.sizeOf3, Tryz.sizeOf39]⟩
@[reducible, instance] def ISA41 := SaF.mk SA41
theorem SA44 : StructAt Tryz.prog 44 [.int .i64 0, .int .i64 0, .int .i64 0, .int .i64 0] [(0, 1), (1, 1), (2, 2)] := ⟨⟨_, Tryz.zeroValue44, rfl⟩, _, Tryz.underlying44, fun w => by simp [Tryz.sizeOf3, Tryz.sizeOf39]⟩
@[reducible, instance] def ISA44 := SaF.mk SA44
def PutK (x : Wick) (m s : Sl) (xb : Nat) (r : Rep) (v : Value) (D' : Imm) (hp' : Hp) : Prop := r.2.2 = 0 ∧ v = st r.2.1 ∧ ∃ t' l' b', hp' = [(xb, womO x m s t' l' b')] ∧ DayR D' r.1 t' l' b'
def PutC (x : Wick) (m s t l b : Sl) (xb : Nat) (r : Rep) (ch : List PanicEntry) (_ : Imm) (hp' : Hp) : Prop := r.2.2 ≠ 0 ∧ ch = stopW r.2.2 ∧ hp' = [(xb, womO x m s t l b)]
theorem turn_m1 {T : Tks} : (TurnOut T (-1)).2 = if tksB T = true then 2 else 1 := by
  have h0 : isT T (-1) = false := by unfold isT; simp
  unfold TurnOut tksE
  rw [h0]
  cases tksB T <;> simp
theorem sell_cases (x : Wick) (d : Day) (X : Tick) : sellD x d X = if 5 ≤ d.tks.length then errD d 9 else if tksB ⟨x.huts, d.tks ++ [X]⟩ = false then errD d 2 else ({ d with tks := d.tks ++ [X] }, repL ticketS [(d.tks.length : Int)], 0) := rfl
theorem look_cases (x : Wick) (d : Day) (X : Look) : lookD x d X = if 6 ≤ d.looks.length then errD d 9 else if tideB ⟨x.marks, x.sand, d.looks ++ [X]⟩ = false then errD d 2 else ({ d with looks := d.looks ++ [X] }, repL lookS [(d.looks.length : Int)], 0) := rfl
theorem womO_t {x : Wick} {m s t l b : Sl} {xb : Nat} {a : Option Addr} {c : Nat} {X : Tick} {L : List Tick} : ([(xb, .cells (splice (womC x m s t l b) (0 + 6 + 0) [.slice a (L ++ [X]).length c]).toArray 99 (0, 0))] : Hp) = [(xb, womO x m s ⟨a, L.length + 1, c⟩ l b)] := by
  rw [List.length_append]; rfl
theorem womO_l {x : Wick} {m s t l b : Sl} {xb : Nat} {a : Option Addr} {c : Nat} {X : Look} {L : List Look} : ([(xb, .cells (splice (womC x m s t l b) (0 + 6 + 1) [.slice a (L ++ [X]).length c]).toArray 99 (0, 0))] : Hp) = [(xb, womO x m s t ⟨a, L.length + 1, c⟩ b)] := by
  rw [List.length_append]; rfl
theorem womO_b {x : Wick} {m s t l b : Sl} {xb : Nat} {a : Option Addr} {c : Nat} {X : Ent} {L : List Ent} : ([(xb, .cells (splice (womC x m s t l b) (0 + 6 + 2) [.slice a (L ++ [X]).length c]).toArray 99 (0, 0))] : Hp) = [(xb, womO x m s t l ⟨a, L.length + 1, c⟩)] := by
  rw [List.length_append]; rfl
theorem sell_R {D : Imm} {d : Day} {t l b : Sl} {X : Tick} {a : Option Addr} {c : Nat} (h : DayR D d t l b) (hS : SlL D 5 ((d.tks ++ [X]).map tickC) a (d.tks ++ [X]).length) (hc : (d.tks ++ [X]).length ≤ c) (h5 : d.tks.length ≤ 5) : DayR D { d with tks := d.tks ++ [X] } ⟨a, d.tks.length + 1, c⟩ l b := by
  rw [List.length_append] at hS hc
  exact ⟨hS, h.looks, h.book, ⟨by show d.tks.length + 1 ≤ 1000; omega, h.len.2⟩, ⟨hc, h.cap.2⟩⟩
theorem look_R {D : Imm} {d : Day} {t l b : Sl} {X : Look} {a : Option Addr} {c : Nat} (h : DayR D d t l b) (hS : SlL D 4 ((d.looks ++ [X]).map lookC) a (d.looks ++ [X]).length) (hc : (d.looks ++ [X]).length ≤ c) (h5 : d.looks.length ≤ 6) : DayR D { d with looks := d.looks ++ [X] } t ⟨a, d.looks.length + 1, c⟩ b := by
  rw [List.length_append] at hS hc
  exact ⟨h.tks, hS, h.book, ⟨h.len.1, by show d.looks.length + 1 ≤ 1000; omega, h.len.2.2⟩, ⟨h.cap.1, hc, h.cap.2.2⟩⟩
theorem sellX_g (x : Wick) (d : Day) (m s t l b : Sl) (xb : Nat) (D : Imm) (w : World) (hw : wickB x = true) (hdo : DayOk x d) (hW : WickR D x m s) (hd : DayR D d t l b) (hL : LibW D) (ls : List Int) (al : Option Addr) (nl cl : Nat) (hls : SlL D 1 (ls.map intC) al nl) (hnl : ls.length = 5) (hll : nl ≤ 1000) (hI0 : Inv D [(xb, womO x m s t l b)] [xb] w w) : AltersV Tryz.prog 151 [pt xb, .slice al nl cl] w D [xb] (PutK x m s xb (doD x d ticketS ls)) (PutC x m s t l b xb (doD x d ticketS ls)) := by
  unfold AltersV
  obtain rfl := hls.len'
  have htl := hd.tks.len'
  have htl2 := hd.len.1
  have htn : t.n = d.tks.length := htl
  rw [do_ticket]
  refine en Tryz.func151 rfl Tryz.ntmps151 hI0 (g [[1],[5,0,1],[11,4,0,1],[3,5,4,0,1]] ?_)
  refine WL.part 16 rfl (fun g16 => ?_) (fun g16 => ?_)
  · try simp only [zq] at g16
    refine WL.cl rfl (fun w hI => mustW_ok _ _) (g [[3],[2,5,4,0,1]] ?_)
    refine WL.cl rfl (fun w hI => wTks_g x m s t l b xb _ (hI.own _ _ (List.mem_of_getElem? (i := 0) rfl))) ?_
    refine WL.so (SO.alloc ZvF.h rfl) rfl (zw fun b6 hb6 => ?_)
    refine g [[4],[0,6,5,4,0,1]] ?_
    refine WC.drawO [] (pz [1,5,7,9,11,13,15,17,19,21,23,25,27,29,31,33,35,37,39,2,40,43,44]) zk zk zX (fun _ hI => hI.nil) (g [[2]] ?_)
    refine WA.yd rfl (Yd.ix rfl rfl (hls.addr 0 (by omega))) rfl (WA.yd rfl (Yd.l1 rfl ((hls.at 0 (by omega)).rd 0 rfl)) rfl (g [[1]] ?_))
    refine WA.yd rfl (Yd.ix rfl rfl (hls.addr 0 (by omega))) rfl (WA.yd rfl (Yd.l1 rfl ((hls.at 1 (by omega)).rd 0 rfl)) rfl (g [[2]] ?_))
    refine WA.yd rfl (Yd.ix rfl rfl (hls.addr 0 (by omega))) rfl (WA.yd rfl (Yd.l1 rfl ((hls.at 2 (by omega)).rd 0 rfl)) rfl (g [[1]] ?_))
    refine WA.yd rfl (Yd.ix rfl rfl (hls.addr 0 (by omega))) rfl (WA.yd rfl (Yd.l1 rfl ((hls.at 3 (by omega)).rd 0 rfl)) rfl (g [[1]] ?_))
    refine WA.yd rfl (Yd.ix rfl rfl (hls.addr 0 (by omega))) rfl (WA.yd rfl (Yd.l1 rfl ((hls.at 4 (by omega)).rd 0 rfl)) rfl (g [[2]] ?_))
    refine WA.so rfl (SO.ofYd (Yd.l1 rfl (Rd.own (k := 0) rfl rfl))) rfl ?_
    rintro _ _ _ ⟨rfl, rfl, rfl⟩
    refine ⟨fun _ hI => hI.nil, ?_⟩
    refine WA.know 39 (.agg (List.toArray (tickC (⟨⟨(gt ls 0), (gt ls 1)⟩, gt ls 2, ⟨gt ls 3, gt ls 4⟩⟩ : Tick)))) rfl rfl (WA.so rfl (SO.makes (Enters.func Tryz.call222 rfl) (fun w1 hI => grownTick_g d.tks (⟨⟨(gt ls 0), (gt ls 1)⟩, gt ls 2, ⟨gt ls 3, gt ls 4⟩⟩ : Tick) t.a _ t.c D hd.tks hd.len.1 w1 hI.imm)) rfl ?_)
    rintro _ D2 _ ⟨hX2, ⟨a2, c2, rfl, hS2, hc2⟩, rfl⟩
    replace hL := hL.ext hX2
    have hd2 := hd.ext hX2
    refine ⟨fun _ hI => hI.nil.shrink hX2.old, ?_⟩
    refine g [[1]] ?_
    refine WA.so rfl (SO.store 0 rfl SzF.h rfl rfl rfl rfl (zqb rfl) (oneB_spec rfl)) rfl ?_
    rintro _ _ _ ⟨rfl, rfl, rfl⟩
    refine ⟨fun _ hI => hI.nil.shrink hX2.old, ?_⟩
    refine g [[3],[2,6,5,4,0]] ?_
    refine WL.cl rfl (fun w hI => Turn_g ⟨x.huts, d.tks ++ [(⟨⟨(gt ls 0), (gt ls 1)⟩, gt ls 2, ⟨gt ls 3, gt ls 4⟩⟩ : Tick)]⟩ a2 _ c2 D2 _ ⟨hS2, by rw [List.length_append]; show d.tks.length + 1 ≤ 1000; omega⟩ hI.imm (-1)) (g [[8],[3,8,6,5,4,0]] ?_)
    refine WL.part 48 rfl (fun g48 => ?_) (fun g48 => ?_)
    · try simp only [zq] at g48
      refine WL.cl rfl (fun w hI => mustW_ok _ _) (g [[3],[11,6,5,4,0],[4,5,4]] ?_)
      refine WL.so (SO.buildSlice1 UnF.h SzF.h ZvF.h rfl rfl rfl (vs := [_, _]) rfl rfl rfl) rfl ?_
      rintro _ _ _ ⟨b59, hb59, rfl, rfl, rfl⟩
      refine WL.freezeN 0 b59 (.cells (List.toArray ([Pt.s ticketS, Pt.n (t.n : Int)].flatMap ptI ++ [])) 20 (0, 0)) rfl rfl hb59 (fun D9 hX9 h59 => ?_)
      refine WL.cl rfl (fun w hI => told_g [Pt.s ticketS, Pt.n (t.n : Int)] (some ⟨b59, 0, none⟩) 2 2 D9 (hL.ext hX9) (SlL.ofBlock ptI_len h59) (by decide) (by intro p hp; simp only [List.mem_cons, List.not_mem_nil, or_false] at hp; rcases hp with rfl | rfl; exact (show List.length _ ≤ 100 by decide); exact (by unfold ptB; unfold i64B; omega)) _ hI.imm) (g [[4]] ?_)
      refine WP.ret1 rfl rfl rfl (RV.tmp rfl) (fun w1 hI => ⟨D9, [_], hX2.trans hX9 (Nat.le_refl _), hI.tail, .inl ⟨_, rfl, by rw [sell_cases, if_neg (by omega), if_neg (by rw [turn_m1] at g48; revert g48; cases tksB ⟨x.huts, d.tks ++ [(⟨⟨(gt ls 0), (gt ls 1)⟩, gt ls 2, ⟨gt ls 3, gt ls 4⟩⟩ : Tick)]⟩ <;> simp)]; exact ⟨rfl, by rw [← htn, ← told_rep _ [_]]; rfl, ⟨a2, d.tks.length + 1, c2⟩, l, b, womO_t, sell_R (hd2.ext hX9) (hS2.ext hX9) hc2 (by omega)⟩⟩⟩)
    try simp only [zq] at g48
    refine WL.nf rfl (fun w hI => mustW_no _ _) (g [[1]] ?_)
    first
      | exact WP.panicBody rfl (fun w1 hI => ⟨D, [_], DExt.refl _ _, hI, .inr ⟨_, rfl, by rw [sell_cases, if_pos (by omega)]; exact ⟨by simp [errD], rfl, rfl⟩⟩⟩)
      | exact WP.panicBody rfl (fun w1 hI => ⟨D2, [_], hX2, hI.tail, .inr ⟨_, rfl, by rw [sell_cases, if_neg (by omega), if_pos (by rw [turn_m1] at g48; revert g48; cases tksB ⟨x.huts, d.tks ++ [(⟨⟨(gt ls 0), (gt ls 1)⟩, gt ls 2, ⟨gt ls 3, gt ls 4⟩⟩ : Tick)]⟩ <;> simp)]; exact ⟨by simp [errD], rfl, rfl⟩⟩⟩)
  try simp only [zq] at g16
  refine WL.nf rfl (fun w hI => mustW_no _ _) (g [[1]] ?_)
  first
    | exact WP.panicBody rfl (fun w1 hI => ⟨D, [_], DExt.refl _ _, hI, .inr ⟨_, rfl, by rw [sell_cases, if_pos (by omega)]; exact ⟨by simp [errD], rfl, rfl⟩⟩⟩)
    | exact WP.panicBody rfl (fun w1 hI => ⟨D2, [_], hX2, hI.tail, .inr ⟨_, rfl, by rw [sell_cases, if_neg (by omega), if_pos (by rw [turn_m1] at g48; revert g48; cases tksB ⟨x.huts, d.tks ++ [(⟨⟨(gt ls 0), (gt ls 1)⟩, gt ls 2, ⟨gt ls 3, gt ls 4⟩⟩ : Tick)]⟩ <;> simp)]; exact ⟨by simp [errD], rfl, rfl⟩⟩⟩)
theorem lookX_g (x : Wick) (d : Day) (m s t l b : Sl) (xb : Nat) (D : Imm) (w : World) (hw : wickB x = true) (hdo : DayOk x d) (hW : WickR D x m s) (hd : DayR D d t l b) (hL : LibW D) (ls : List Int) (al : Option Addr) (nl cl : Nat) (hls : SlL D 1 (ls.map intC) al nl) (hnl : ls.length = 4) (hll : nl ≤ 1000) (hI0 : Inv D [(xb, womO x m s t l b)] [xb] w w) : AltersV Tryz.prog 152 [pt xb, .slice al nl cl] w D [xb] (PutK x m s xb (doD x d lookS ls)) (PutC x m s t l b xb (doD x d lookS ls)) := by
  unfold AltersV
  obtain rfl := hls.len'
  have htl := hd.looks.len'
  have htl2 := hd.len.2.1
  have htn : l.n = d.looks.length := htl
  rw [do_look]
  refine en Tryz.func152 rfl Tryz.ntmps152 hI0 (g [[1],[5,0,1],[11,4,0,1],[3,5,4,0,1]] ?_)
  refine WL.part 14 rfl (fun g14 => ?_) (fun g14 => ?_)
  · try simp only [zq] at g14
    refine WL.cl rfl (fun w hI => mustW_ok _ _) (g [[3],[2,5,4,0,1]] ?_)
    refine WL.cl rfl (fun w hI => wTide_g x m s t l b xb _ (hI.own _ _ (List.mem_of_getElem? (i := 0) rfl))) ?_
    refine WL.so (SO.alloc ZvF.h rfl) rfl (zw fun b6 hb6 => ?_)
    refine g [[4],[0,6,5,4,0,1]] ?_
    refine WC.drawO [] (pz [1,5,7,9,11,13,15,17,19,21,23,25,27,29,31,2,32,35,36]) zk zk zX (fun _ hI => hI.nil) (g [[2]] ?_)
    refine WA.yd rfl (Yd.ix rfl rfl (hls.addr 0 (by omega))) rfl (WA.yd rfl (Yd.l1 rfl ((hls.at 0 (by omega)).rd 0 rfl)) rfl (g [[1]] ?_))
    refine WA.yd rfl (Yd.ix rfl rfl (hls.addr 0 (by omega))) rfl (WA.yd rfl (Yd.l1 rfl ((hls.at 1 (by omega)).rd 0 rfl)) rfl (g [[1]] ?_))
    refine WA.yd rfl (Yd.ix rfl rfl (hls.addr 0 (by omega))) rfl (WA.yd rfl (Yd.l1 rfl ((hls.at 2 (by omega)).rd 0 rfl)) rfl (g [[1]] ?_))
    refine WA.yd rfl (Yd.ix rfl rfl (hls.addr 0 (by omega))) rfl (WA.yd rfl (Yd.l1 rfl ((hls.at 3 (by omega)).rd 0 rfl)) rfl (g [[2]] ?_))
    refine WA.so rfl (SO.ofYd (Yd.l1 rfl (Rd.own (k := 0) rfl rfl))) rfl ?_
    rintro _ _ _ ⟨rfl, rfl, rfl⟩
    refine ⟨fun _ hI => hI.nil, ?_⟩
    refine WA.know 33 (.agg (List.toArray (lookC (⟨(gt ls 0), (gt ls 1), ⟨gt ls 2, gt ls 3⟩⟩ : Look)))) rfl rfl (WA.so rfl (SO.makes (Enters.func Tryz.call224 rfl) (fun w1 hI => grownLook_g d.looks (⟨(gt ls 0), (gt ls 1), ⟨gt ls 2, gt ls 3⟩⟩ : Look) l.a _ l.c D hd.looks hd.len.2.1 w1 hI.imm)) rfl ?_)
    rintro _ D2 _ ⟨hX2, ⟨a2, c2, rfl, hS2, hc2⟩, rfl⟩
    replace hL := hL.ext hX2
    have hd2 := hd.ext hX2
    replace hW := hW.ext hX2
    refine ⟨fun _ hI => hI.nil.shrink hX2.old, ?_⟩
    refine g [[1]] ?_
    refine WA.so rfl (SO.store 0 rfl SzF.h rfl rfl rfl rfl (zqb rfl) (oneB_spec rfl)) rfl ?_
    rintro _ _ _ ⟨rfl, rfl, rfl⟩
    refine ⟨fun _ hI => hI.nil.shrink hX2.old, ?_⟩
    refine g [[3],[3,6,5,4,0]] ?_
    refine WL.cl rfl (fun w hI => wIsTide_g _ ⟨x.marks, x.sand, d.looks ++ [(⟨(gt ls 0), (gt ls 1), ⟨gt ls 2, gt ls 3⟩⟩ : Look)]⟩ m.a s.a a2 _ _ _ m.c s.c c2 D2 _ ⟨hW.mark, hW.sand, hS2, hW.len.1, hW.len.2, by rw [List.length_append]; show d.looks.length + 1 ≤ 1000; omega⟩ hI.imm hL) ?_
    refine WL.part 38 rfl (fun g38 => ?_) (fun g38 => ?_)
    · try simp only [zq] at g38
      refine WL.cl rfl (fun w hI => mustW_ok _ _) (g [[3],[11,6,5,4,0],[4,5,4]] ?_)
      refine WL.so (SO.buildSlice1 UnF.h SzF.h ZvF.h rfl rfl rfl (vs := [_, _]) rfl rfl rfl) rfl ?_
      rintro _ _ _ ⟨b49, hb49, rfl, rfl, rfl⟩
      refine WL.freezeN 0 b49 (.cells (List.toArray ([Pt.s lookS, Pt.n (l.n : Int)].flatMap ptI ++ [])) 20 (0, 0)) rfl rfl hb49 (fun D9 hX9 h49 => ?_)
      refine WL.cl rfl (fun w hI => told_g [Pt.s lookS, Pt.n (l.n : Int)] (some ⟨b49, 0, none⟩) 2 2 D9 (hL.ext hX9) (SlL.ofBlock ptI_len h49) (by decide) (by intro p hp; simp only [List.mem_cons, List.not_mem_nil, or_false] at hp; rcases hp with rfl | rfl; exact (show List.length _ ≤ 100 by decide); exact (by unfold ptB; unfold i64B; omega)) _ hI.imm) (g [[4]] ?_)
      refine WP.ret1 rfl rfl rfl (RV.tmp rfl) (fun w1 hI => ⟨D9, [_], hX2.trans hX9 (Nat.le_refl _), hI.tail, .inl ⟨_, rfl, by rw [look_cases, if_neg (by omega), if_neg (by rw [g38]; simp)]; exact ⟨rfl, by rw [← htn, ← told_rep _ [_]]; rfl, t, ⟨a2, d.looks.length + 1, c2⟩, b, womO_l, look_R (hd2.ext hX9) (hS2.ext hX9) hc2 (by omega)⟩⟩⟩)
    try simp only [zq] at g38
    refine WL.nf rfl (fun w hI => mustW_no _ _) (g [[1]] ?_)
    first
      | exact WP.panicBody rfl (fun w1 hI => ⟨D, [_], DExt.refl _ _, hI, .inr ⟨_, rfl, by rw [look_cases, if_pos (by omega)]; exact ⟨by simp [errD], rfl, rfl⟩⟩⟩)
      | exact WP.panicBody rfl (fun w1 hI => ⟨D2, [_], hX2, hI.tail, .inr ⟨_, rfl, by rw [look_cases, if_neg (by omega), if_pos g38]; exact ⟨by simp [errD], rfl, rfl⟩⟩⟩)
  try simp only [zq] at g14
  refine WL.nf rfl (fun w hI => mustW_no _ _) (g [[1]] ?_)
  first
    | exact WP.panicBody rfl (fun w1 hI => ⟨D, [_], DExt.refl _ _, hI, .inr ⟨_, rfl, by rw [look_cases, if_pos (by omega)]; exact ⟨by simp [errD], rfl, rfl⟩⟩⟩)
    | exact WP.panicBody rfl (fun w1 hI => ⟨D2, [_], hX2, hI.tail, .inr ⟨_, rfl, by rw [look_cases, if_neg (by omega), if_pos g38]; exact ⟨by simp [errD], rfl, rfl⟩⟩⟩)
end Go.Proofs.YtejgofaeafphjaaGreatDoor
namespace Go.Proofs.YtejgofaeafphjaaGreatDoor
open Go.W Go.Ti
def ofT (d : Day) (n : Int) : List Ent := d.book.filter fun e => decide (e.ticket = n)
def ofN (d : Day) (n : Int) (k : Nat) : Nat := ((d.book.take k).filter fun e => decide (e.ticket = n)).length
def entV (e : Ent) : Value := .agg (entC e).toArray
theorem filter_snoc {α : Type} [Inhabited α] (p : α → Bool) {l : List α} {k : Nat} (hk : k < l.length) : (l.take (k + 1)).filter p = (l.take k).filter p ++ if p (gt l k) then [gt l k] else [] := by
  rw [take_gt hk, List.filter_append]
  congr 1
  generalize gt l k = y
  cases h : p y <;> simp [h]
theorem ofN_y {d : Day} {n : Int} {k : Nat} (hk : k < d.book.length) (h : (gt d.book k).ticket = n) : ofN d n (k + 1) = ofN d n k + 1 ∧ ofN d n k < (ofT d n).length ∧ gt (ofT d n) (ofN d n k) = gt d.book k := by
  have h1 := filter_snoc (fun e => decide (e.ticket = n)) hk
  rw [if_pos (decide_eq_true h)] at h1
  have h2 : ofT d n = (d.book.take (k + 1)).filter (fun e => decide (e.ticket = n)) ++ (d.book.drop (k + 1)).filter (fun e => decide (e.ticket = n)) := by
    unfold ofT; rw [← List.filter_append, List.take_append_drop]
  refine ⟨by unfold ofN; rw [h1]; simp, ?_, ?_⟩
  · rw [h2, h1]; simp only [ofN, List.length_append, List.length_cons, List.length_nil]; omega
  rw [h2, h1]; unfold ofN; simp [gt, List.getD]
theorem ofN_n {d : Day} {n : Int} {k : Nat} (hk : k < d.book.length) (h : ¬ (gt d.book k).ticket = n) : ofN d n (k + 1) = ofN d n k := by
  have h1 := filter_snoc (fun e => decide (e.ticket = n)) hk
  rw [if_neg (by simpa using h)] at h1
  unfold ofN; rw [h1]; simp
theorem ofN_all (d : Day) (n : Int) : ofN d n d.book.length = (ofT d n).length := by unfold ofN ofT; rw [List.take_length]
theorem of_iter (x : Wick) (d : Day) (m s t l b : Sl) (xb : Nat) (n : Int) (bx bn : Nat) (D : Imm) (hxD : D xb = some (womO x m s t l b)) (hd : DayR D d t l b) (h1 : D bx = some (.cells (List.toArray [pt xb]) 50 (0, 0))) (h2 : D bn = some (.cells (List.toArray [it n]) 3 (0, 0))) (w : World) : IterP Tryz.prog 273 [pt bx, pt bn] (ofT d n).length (fun k => entV (gt (ofT d n) k)) D [] w := by
  intro ly St C hm hround h0 hS0 hI
  have hb := hd.book
  have hbn : b.n = d.book.length := hb.len'
  have hbl := hd.len.2.2
  unfold AltersP
  refine en Tryz.func273 rfl Tryz.ntmps273 hI (g [[1],[11,0,1,2]] ?_)
  refine WC.loop (fun y : Nat × Imm × Hp => [(0, .func (.yield ly) #[] #[]), (2, pt bn), (10, .slice b.a b.n b.c), (11, nt b.n), (12, nt y.1)]) (fun y => y.2.2) (fun y => y.2.1) (fun y => y.1 ≤ d.book.length ∧ DExt w D y.2.1 ∧ St (ofN d n y.1) y.2.1 y.2.2) (fun y => d.book.length - y.1) ⟨0, D, h0⟩ ⟨by omega, DExt.refl _ _, hS0⟩ (fun a w h => at_fr h ⟨rfl, rfl, rfl, rfl, rfl, trivial⟩) ?_
  rintro ⟨k, D1, h1⟩ ⟨hk, hX1, hS1⟩
  dsimp only at hk hX1 hS1
  refine g [[1],[5,0,2,10,11,12]] ?_
  refine WC.cond rfl (fun c13 => ?_) (fun c13 => ?_)
  · try simp only [zq] at c13
    have hkl : k < d.book.length := by omega
    refine g [[5],[1,0,2,10,11,12]] ?_
    refine WL.yd (Yd.ix rfl rfl ((hb.ext hX1).addr k (by omega))) rfl (WL.yd (Yd.lV [_, _, _] rfl (((hb.ext hX1).at k (by omega)).rdn 0 3 rfl)) rfl ?_)
    refine WL.so (SO.alloc ZvF.h rfl) rfl (zw fun b5 hb5 => ?_)
    refine g [[4],[0,5,0,2,10,11,12]] ?_
    refine WC.ofF (g [[3]] ?_)
    refine WLF.yd (zn rfl) (Yd.l1 rfl (Rd.imm (hX1.old _ _ h2) rfl)) rfl (g [[2]] ?_)
    refine WLF.part 20 rfl (fun g20 => ?_) (fun g20 => ?_)
    · try simp only [zq] at g20
      refine g [[2]] ?_
      first | (obtain ⟨ho1, ho2, ho3⟩ := ofN_y hkl g20; refine WLF.know 22 (entV (gt d.book k)) rfl rfl ?_) | skip
      refine WLF.yieldPg [(b5, _)] h1 (fun _ h => h) (fun h => h) rfl rfl rfl rfl (fun w' hsz' hI' => by have h9 := hround (ofN d n k) D1 h1 w' ho2 hsz' hX1 hS1 hI'; dsimp only at h9; rw [ho3] at h9; exact h9) ?_ ?_
      · intro D2 h2 hS2 hX2
        refine g [[8],[4,0,2,10,11,12]] ?_
        first
          | exact WP.again (⟨k + 1, D2, h2⟩ : Nat × Imm × Hp) ⟨by simp only; omega, hX1.trans hX2 (Nat.le_refl _), by simp only; rw [ho1]; exact hS2⟩ (by simp only; omega) (fun aa ww h => at_drop 1 h ⟨rfl, rfl, rfl, rfl, rfl, trivial⟩ (List.Perm.refl _))
          | exact WP.again (⟨k + 1, D1, h1⟩ : Nat × Imm × Hp) ⟨by simp only; omega, hX1, by simp only; rw [ofN_n hkl g20]; exact hS1⟩ (by simp only; omega) (fun aa ww h => at_drop 1 h ⟨rfl, rfl, rfl, rfl, rfl, trivial⟩ (List.Perm.refl _))
      intro ch D2 h2 hC hX2
      refine g [[5]] ?_
      exact WP.panicBody rfl (fun w1 hI => ⟨D2, h2, hX1.trans hX2 (Nat.le_refl _), hI.tail, .inr ⟨_, rfl, hC⟩⟩)
    try simp only [zq] at g20
    refine g [[2]] ?_
    first | (obtain ⟨ho1, ho2, ho3⟩ := ofN_y hkl g20; refine WLF.know 22 (entV (gt d.book k)) rfl rfl ?_) | skip
    refine g [[9],[4,0,2,10,11,12]] ?_
    first
      | exact WP.again (⟨k + 1, D2, h2⟩ : Nat × Imm × Hp) ⟨by simp only; omega, hX1.trans hX2 (Nat.le_refl _), by simp only; rw [ho1]; exact hS2⟩ (by simp only; omega) (fun aa ww h => at_drop 1 h ⟨rfl, rfl, rfl, rfl, rfl, trivial⟩ (List.Perm.refl _))
      | exact WP.again (⟨k + 1, D1, h1⟩ : Nat × Imm × Hp) ⟨by simp only; omega, hX1, by simp only; rw [ofN_n hkl g20]; exact hS1⟩ (by simp only; omega) (fun aa ww h => at_drop 1 h ⟨rfl, rfl, rfl, rfl, rfl, trivial⟩ (List.Perm.refl _))
  try simp only [zq] at c13
  obtain rfl : k = d.book.length := by omega
  refine g [[4]] ?_
  refine WP.ret0 rfl rfl rfl  (fun w1 hI => ⟨D1, h1, hX1, hI, .inl ⟨_, rfl, by rw [← ofN_all]; exact hS1⟩⟩)
end Go.Proofs.YtejgofaeafphjaaGreatDoor
namespace Go.Proofs.YtejgofaeafphjaaGreatDoor
open Go.W Go.Ti
theorem SA46 : StructAt Tryz.prog 46 [.int .i64 0, .int .i64 0, .int .i64 0] [(0, 1), (1, 1), (2, 1)] := ⟨⟨_, Tryz.zeroValue46, rfl⟩, _, Tryz.underlying46, fun w => by simp [Tryz.sizeOf3]⟩
@[reducible, instance] def ISA46 := SaF.mk SA46
theorem booked_of (d : Day) (n k : Int) : bookedB d.book n k = (ofT d n).any fun e => decide (e.kind = k) := by
  unfold bookedB ofT
  rw [List.any_filter]
  congr 1
  funext e
  by_cases h1 : e.ticket = n <;> by_cases h2 : e.kind = k <;> simp [h1, h2]
theorem booked_y {d : Day} {n k : Int} {j : Nat} (hj : j < (ofT d n).length) (h : (gt (ofT d n) j).kind = k) : bookedB d.book n k = true := by
  rw [booked_of]; exact List.any_eq_true.2 ⟨_, gt_mem' hj, decide_eq_true h⟩
theorem booked_n {d : Day} {n k : Int} (h : ∀ j, j < (ofT d n).length → ¬ (gt (ofT d n) j).kind = k) : bookedB d.book n k = false := by
  rw [booked_of, List.any_eq_false]
  intro e he
  obtain ⟨i, hi, rfl⟩ := List.getElem_of_mem he
  have := h i hi
  rw [show gt (ofT d n) i = (ofT d n)[i] by simp [gt, List.getD, hi]] at this
  simpa using this
theorem book_cases (d : Day) (X : Ent) : bookD d X = if (d.tks.length : Int) ≤ X.ticket then errD d 2 else if bookedB d.book X.ticket X.kind = true then errD d 5 else ({ d with book := d.book ++ [X] }, repL paidS [(d.book.length : Int)], 0) := rfl
theorem book_R {D : Imm} {d : Day} {t l b : Sl} {X : Ent} {a : Option Addr} {c : Nat} (h : DayR D d t l b) (hS : SlL D 3 ((d.book ++ [X]).map entC) a (d.book ++ [X]).length) (hc : (d.book ++ [X]).length ≤ c) (h5 : d.book.length ≤ 15) : DayR D { d with book := d.book ++ [X] } t l ⟨a, d.book.length + 1, c⟩ := by
  rw [List.length_append] at hS hc
  exact ⟨h.tks, h.looks, hS, ⟨h.len.1, h.len.2.1, by show d.book.length + 1 ≤ 1000; omega⟩, ⟨h.cap.1, h.cap.2.1, hc⟩⟩
theorem entF_g (x : Wick) (m s : Sl) (ls : List Int) (al : Option Addr) (nl cl : Nat) (D : Imm) (hls : SlL D 1 (ls.map intC) al nl) (hnl : ls.length = 1) (w : World) (hH : Holds D w) (kd : Int) : Gives Tryz.prog 339 [.agg #[it kd], (wickV x m s), .slice al nl cl] w (entV (⟨(gt ls 0), kd, if kd = 2 then x.fine else x.price⟩ : Ent)) := by
  unfold Gives
  obtain rfl := hls.len'
  refine en Tryz.func339 rfl Tryz.ntmps339 (Inv.start hH) (g [[1],[1,0,1,2]] ?_)
  refine WL.so (SO.box rfl rfl) rfl (zw fun b3 hb3 => ?_)
  refine WL.so (SO.box rfl rfl) rfl (zw fun b4 hb4 => ?_)
  refine WL.so (SO.alloc ZvF.h rfl) rfl (zw fun b6 hb6 => ?_)
  refine g [[3],[8,6,4,3,2],[6,7,6,4,3,2]] ?_
  refine WC.cond rfl (fun c12 => ?_) (fun c12 => ?_)
  · try simp only [zq] at c12
    refine g [[7,7,6,4,3,2],[0,7,6,3,2]] ?_
    refine WC.drawO [_, _] (pz [1,3,5,7,9,11,13,14]) zk zk zX (fun _ hI => hI.tail) (g [[1]] ?_)
    refine WA.yd rfl (Yd.ix rfl rfl (hls.addr 0 (by omega))) rfl (WA.yd rfl (Yd.l1 rfl ((hls.at 0 (by omega)).rd 0 rfl)) rfl (g [[4]] ?_))
    refine WA.so rfl (SO.store 0 rfl SzF.h rfl rfl rfl rfl (zqb rfl) (oneB_spec rfl)) rfl ?_
    rintro _ _ _ ⟨rfl, rfl, rfl⟩
    refine ⟨fun _ hI => hI.tail, ?_⟩
    refine g [[3]] ?_
    refine WP.ret1 rfl rfl rfl (RV.cellN AgF.h SzF.h rfl (vs := [_, _, _]) rfl (RdN.own (k := 0) (n := 3) rfl rfl)) (fun w hI => ⟨congrArg Ending.returned (by rw [if_pos (by assumption)]; rfl), hI.keep⟩)
  try simp only [zq] at c12
  refine g [[3],[0,7,6,3,2]] ?_
  refine WC.drawO [_, _] (pz [1,3,5,7,9,11,13,14]) zk zk zX (fun _ hI => hI.tail) (g [[1]] ?_)
  refine WA.yd rfl (Yd.ix rfl rfl (hls.addr 0 (by omega))) rfl (WA.yd rfl (Yd.l1 rfl ((hls.at 0 (by omega)).rd 0 rfl)) rfl (g [[4]] ?_))
  refine WA.so rfl (SO.store 0 rfl SzF.h rfl rfl rfl rfl (zqb rfl) (oneB_spec rfl)) rfl ?_
  rintro _ _ _ ⟨rfl, rfl, rfl⟩
  refine ⟨fun _ hI => hI.tail, ?_⟩
  refine g [[3]] ?_
  refine WP.ret1 rfl rfl rfl (RV.cellN AgF.h SzF.h rfl (vs := [_, _, _]) rfl (RdN.own (k := 0) (n := 3) rfl rfl)) (fun w hI => ⟨congrArg Ending.returned (by rw [if_neg (by assumption)]; rfl), hI.keep⟩)
theorem entG_g (x : Wick) (m s : Sl) (ls : List Int) (al : Option Addr) (nl cl : Nat) (D : Imm) (hls : SlL D 1 (ls.map intC) al nl) (hnl : ls.length = 2) (w : World) (hH : Holds D w) (kd : Int) : Gives Tryz.prog 341 [.agg #[it kd], (wickV x m s), .slice al nl cl] w (entV (⟨(gt ls 0), kd, (gt ls 1)⟩ : Ent)) := by
  unfold Gives
  obtain rfl := hls.len'
  refine en Tryz.func341 rfl Tryz.ntmps341 (Inv.start hH) (g [[1],[1,0,1,2]] ?_)
  refine WL.so (SO.box rfl rfl) rfl (zw fun b3 hb3 => ?_)
  refine WL.so (SO.box rfl rfl) rfl (zw fun b4 hb4 => ?_)
  refine WL.so (SO.alloc ZvF.h rfl) rfl (zw fun b6 hb6 => ?_)
  refine g [[3],[0,6,3,2],[3009],[1]] ?_
  refine WQ.q rfl (Yd.qt (Yd.ix rfl rfl (hls.addr 0 (by omega)))) rfl (WQ.q rfl (Yd.qt (Yd.l1 rfl ((hls.at 0 (by omega)).rd 0 rfl))) rfl (g [[4]] ?_))
  refine WQ.q rfl (Yd.qt (Yd.ix rfl rfl (hls.addr 0 (by omega)))) rfl (WQ.q rfl (Yd.qt (Yd.l1 rfl ((hls.at 1 (by omega)).rd 0 rfl))) rfl (g [[6]] ?_))
  refine WP.ret1 rfl rfl rfl (RV.cellN AgF.h SzF.h rfl (vs := [_, _, _]) rfl (RdN.own (k := 0) (n := 3) rfl rfl)) (fun w hI => ⟨congrArg Ending.returned rfl, hI.keep⟩)
theorem of_g (xb : Nat) (n : Int) (D : Imm) (w : World) (hH : Holds D w) : Makes Tryz.prog 226 [pt xb, it n] w D (fun v D' => ∃ bx bn, v = .func (.func 273) #[] #[pt bx, pt bn] ∧ D' bx = some (.cells (List.toArray [pt xb]) 50 (0, 0)) ∧ D' bn = some (.cells (List.toArray [it n]) 3 (0, 0))) := by
  unfold Makes
  refine en Tryz.func226 rfl Tryz.ntmps226 (Inv.start hH) (g [[1],[1,0,1]] ?_)
  refine WL.so (SO.box rfl rfl) rfl (zw fun b2 hb2 => ?_)
  refine WL.so (SO.box rfl rfl) rfl (zw fun b3 hb3 => ?_)
  refine g [[4]] ?_
  refine WC.freezeN 0 b3 (.cells (List.toArray [it n]) 3 (0, 0)) rfl rfl hb3 (fun D1 hX1 h3 => ?_)
  refine WC.freezeN 0 b2 (.cells (List.toArray [pt xb]) 50 (0, 0)) rfl rfl hb2 (fun D2 hX2 h2 => ?_)
  replace h3 := hX2.old _ _ h3
  refine g [[6,4,3,2]] ?_
  refine WP.ret1 rfl rfl rfl (RV.tmp rfl) (fun w1 hI => ⟨_, D2, rfl, hI.keep, hI.imm, hX1.trans hX2 (Nat.le_refl _), b2, b3, rfl, h2, h3⟩)
end Go.Proofs.YtejgofaeafphjaaGreatDoor
namespace Go.Proofs.YtejgofaeafphjaaGreatDoor
open Go.W Go.Ti
theorem bookedF_g (x : Wick) (d : Day) (m s t l b : Sl) (xb : Nat) (D : Imm) (w : World) (hw : wickB x = true) (hdo : DayOk x d) (hW : WickR D x m s) (hd : DayR D d t l b) (hL : LibW D) (ls : List Int) (al : Option Addr) (nl cl : Nat) (hls : SlL D 1 (ls.map intC) al nl) (hnl : ls.length = 1) (hll : nl ≤ 1000) (hI0 : Inv D [(xb, womO x m s t l b)] [xb] w w) (kd : Int) (bk : Nat) (hbk : D bk = some (.cells (List.toArray [.iface 218 (.agg #[it kd])]) 220 (0, 0))) : AltersV Tryz.prog 225 [pt xb, .slice al nl cl, pt bk] w D [xb] (PutK x m s xb (bookD d (⟨(gt ls 0), kd, if kd = 2 then x.fine else x.price⟩ : Ent))) (PutC x m s t l b xb (bookD d (⟨(gt ls 0), kd, if kd = 2 then x.fine else x.price⟩ : Ent))) := by
  unfold AltersV
  obtain rfl := hls.len'
  have htn : t.n = d.tks.length := hd.tks.len'
  have hbn' : b.n = d.book.length := hd.book.len'
  have hb3 := hd.len
  obtain ⟨hxn, hI1⟩ := lendI hI0
  have hd0 := hd
  have hL0 := hL
  have hXx : DExt { w with heap := #[] } D (D.add xb (womO x m s t l b)) := ⟨add_old hxn, fun b h => by simp at h⟩
  replace hW := hW.ext hXx
  replace hd := hd.ext hXx
  replace hL := hL.ext hXx
  replace hls := hls.ext hXx
  replace hbk := hXx.old _ _ hbk
  have hxD := Imm.add_self D xb (womO x m s t l b)
  refine enN Tryz.func225 rfl Tryz.ntmps225 hI1 (g [[2],[6,0,1,2],[0,5,0,1,2],[3009],[1]] ?_)
  refine WQ.q rfl (Yd.qt (Yd.ix rfl rfl (hls.addr 0 (by omega)))) rfl (WQ.q rfl (Yd.qt (Yd.l1 rfl ((hls.at 0 (by omega)).rd 0 rfl))) rfl (g [[8]] ?_))
  refine WL.part 17 rfl (fun g17 => ?_) (fun g17 => ?_)
  · try simp only [zq] at g17
    refine WL.cl rfl (fun w hI => mustW_ok _ _) (g [[4],[0,5,0,1,2]] ?_)
    refine WC.drawH [] zk (fun _ hI => hI.nil) (g [[1000],[1001],[1002],[1003],[1004],[1005],[1006]] ?_)
    refine WH.yd (i := 7) zk zX rfl (Yd.nilCheckM rfl (fun w => by kernel_rfl)) rfl (g [[1008]] ?_)
    refine WH.two (i := 9) (j := 10) zk ?_ ?_
    · refine WHo.so rfl (SO.call (Enters.meth CaF.h (fun w => by kernel_rfl) rfl rfl) (fun w hI => entF_g x m s ls al _ cl _ hls hnl _ hI.imm kd)) rfl ?_
      rintro _ _ _ ⟨rfl, rfl, rfl⟩
      refine ⟨(fun _ hI => hI.nil), ?_⟩
      refine WH.one (i := 10) zk (WHo.so rfl (SO.alloc ZvF.h rfl) rfl ?_)
      rintro _ _ _ ⟨b6, hb6, rfl, rfl, rfl⟩
      refine ⟨(fun _ hI => hI.nil), ?_⟩
      refine WH.one (i := 11) zk (WHo.so rfl (SO.store 0 rfl SzF.h rfl rfl rfl rfl (zqb rfl) (oneB_spec rfl)) rfl ?_)
      rintro _ _ _ ⟨rfl, rfl, rfl⟩
      refine ⟨(fun _ hI => hI.nil), ?_⟩
      refine WH.nil zk (g [[4],[4,6,5,0]] ?_)
      refine WL.so (SO.makes (Enters.func Tryz.call226 rfl) (fun w hI => of_g xb (gt ls 0) _ _ hI.imm)) rfl ?_
      rintro _ D2 _ ⟨hX2, ⟨bx, bn, rfl, hbx, hbn⟩, rfl⟩
      have hxD2 := hX2.old _ _ hxD
      replace hd := hd.ext hX2
      replace hL := hL.ext hX2
      refine g [[3],[0,0,6,32]] ?_
      refine WCn.rangeIterP (gf := 273) (lb := [pt bx, pt bn]) (N := (ofT d (gt ls 0)).length) (arg := fun k => entV (gt (ofT d (gt ls 0)) k)) [] [(b6, .cells (List.toArray (entC (⟨(gt ls 0), kd, if kd = 2 then x.fine else x.price⟩ : Ent))) 46 (0, 0))] rfl Tryz.func225 (fun w' _ _ => of_iter x d m s t l b xb (gt ls 0) bx bn D2 hxD2 hd hbx hbn w') rfl Tryz.call273 rfl (fun k _ h => h = [(b6, .cells (List.toArray (entC (⟨(gt ls 0), kd, if kd = 2 then x.fine else x.price⟩ : Ent))) 46 (0, 0))] ∧ ∀ j, j < k → ¬ (gt (ofT d (gt ls 0)) j).kind = (⟨(gt ls 0), kd, if kd = 2 then x.fine else x.price⟩ : Ent).kind) (fun ch _ h => ch = stopW 5 ∧ h = [(b6, .cells (List.toArray (entC (⟨(gt ls 0), kd, if kd = 2 then x.fine else x.price⟩ : Ent))) 46 (0, 0))] ∧ bookedB d.book (gt ls 0) (⟨(gt ls 0), kd, if kd = 2 then x.fine else x.price⟩ : Ent).kind = true) (fun _ _ _ _ _ h => h) ⟨rfl, by intro j hj; omega⟩ ?_ ?_ ?_
      · rintro rec l2 Dn k D5 _ w1 hrec hk ⟨rfl, hd5⟩ hX5 hsz
        unfold RoundGP
        refine g [[1,33,6]] ?_
        refine WLF.so (zn rfl) (SO.alloc ZvF.h rfl) rfl (zw fun b7 hb7 => ?_)
        refine g [[2]] ?_
        refine WP.iterBegin 1 rfl hrec (g [[1],[6,7,6]] ?_)
        refine WLF.part 38 rfl (fun g38 => ?_) (fun g38 => ?_)
        · try simp only [zq] at g38
          refine WLF.cl rfl (fun w hI => mustW_ok _ _) (g [[2]] ?_)
          exact WP.iterOnP hrec (pre := [(Dn, _)]) (h1 := [(b6, .cells (List.toArray (entC (⟨(gt ls 0), kd, if kd = 2 then x.fine else x.price⟩ : Ent))) 46 (0, 0))]) zU1 zU2 (DExt.refl _ _) ⟨rfl, ext_roundN hd5 g38⟩
        try simp only [zq] at g38
        refine WLF.no (zn rfl) (SO.fail (Enters.func CaF.h rfl) (fun w hI => mustW_no _ _) (g [[1]] ?_))
        exact WP.iterPanic (pre := [(Dn, _)]) (h1 := [(b6, .cells (List.toArray (entC (⟨(gt ls 0), kd, if kd = 2 then x.fine else x.price⟩ : Ent))) 46 (0, 0))]) rfl zU1 zU2 (DExt.refl _ _) ⟨rfl, rfl, booked_y hk (Decidable.not_not.1 g38)⟩
      · rintro Dn D6 _ hsz hX6 ⟨rfl, hd6⟩
        refine g [[4]] ?_
        have hbf : bookedB d.book (gt ls 0) (⟨(gt ls 0), kd, if kd = 2 then x.fine else x.price⟩ : Ent).kind = false := booked_n hd6
        have hxD6 := hX6.old _ _ hxD2
        refine WC.thawS hxD6 (.inl (by simp)) ?_
        refine WC.hpPerm [(Dn, _), (xb, _), (b6, .cells (List.toArray (entC (⟨(gt ls 0), kd, if kd = 2 then x.fine else x.price⟩ : Ent))) 46 (0, 0))] (List.Perm.swap _ _ _) ?_
        have hXa := DExt.lent hxn (hX2.trans hX6 (Nat.le_refl _))
        have hLa := hL0.ext hXa
        have hda := hd0.ext hXa
        clear hL hd
        have hL := hLa
        have hd := hda
        clear hLa hda
        generalize D6.minus xb = D7 at hXa hd hL ⊢
        refine g [[0,0,6]] ?_
        refine WC.drawD [_] (pz [1,3,5,7,9,13,10,14,17,19,21,22]) zk zk zX (fun _ hI => hI.tail.tail) (g [[6]] ?_)
        refine WA.so rfl (SO.ofYd (Yd.l1 rfl (Rd.own (k := 1) rfl rfl))) rfl ?_
        rintro _ _ _ ⟨rfl, rfl, rfl⟩
        refine ⟨fun _ hI => hI.tail.tail, ?_⟩
        refine WA.so rfl (SO.makes (Enters.func Tryz.call227 rfl) (fun w1 hI => grownEnt_g d.book (⟨(gt ls 0), kd, if kd = 2 then x.fine else x.price⟩ : Ent) b.a _ b.c _ hd.book hd.len.2.2 w1 hI.imm)) rfl ?_
        rintro _ D8 _ ⟨hX8, ⟨a2, c2, rfl, hS2, hc2⟩, rfl⟩
        replace hL := hL.ext hX8
        have hd8 := hd.ext hX8
        refine ⟨fun _ hI => hI.tail.tail.shrink hX8.old, ?_⟩
        refine g [[3]] ?_
        refine WA.so rfl (SO.store 1 rfl SzF.h rfl rfl rfl rfl (zqb rfl) (oneB_spec rfl)) rfl ?_
        rintro _ _ _ ⟨rfl, rfl, rfl⟩
        refine ⟨fun _ hI => hI.tail.tail.shrink hX8.old, ?_⟩
        refine g [[4],[8,0]] ?_
        refine WL.know 57 (it ((d.book.length : Int) + 1)) rfl (by rw [List.length_append]; rfl) (g [[1]] ?_)
        refine WL.know 58 (it (d.book.length : Int)) rfl (by rw [show (d.book.length : Int) + 1 - 1 = d.book.length by omega]) (g [[1]] ?_)
        refine WL.so (SO.buildSlice1 UnF.h SzF.h ZvF.h rfl rfl rfl (vs := [_, _]) rfl rfl rfl) rfl ?_
        rintro _ _ _ ⟨b60, hb60, rfl, rfl, rfl⟩
        refine WL.freezeN 0 b60 (.cells (List.toArray ([Pt.s paidS, Pt.n (d.book.length : Int)].flatMap ptI ++ [])) 20 (0, 0)) rfl rfl hb60 (fun D9 hX9 h60 => ?_)
        refine WL.cl rfl (fun w hI => told_g [Pt.s paidS, Pt.n (d.book.length : Int)] (some ⟨b60, 0, none⟩) 2 2 D9 (hL.ext hX9) (SlL.ofBlock ptI_len h60) (by decide) (by intro p hp; simp only [List.mem_cons, List.not_mem_nil, or_false] at hp; rcases hp with rfl | rfl; exact (show List.length _ ≤ 100 by decide); exact (by unfold ptB; unfold i64B; omega)) _ hI.imm) (g [[5]] ?_)
        refine WP.retMs [Dn] [(xb, _)] [_] [_] rfl rfl zU1 zU2 rfl zV (fun w1 hI => ⟨D9, _, (hXa.trans hX8 (Nat.le_refl _)).trans hX9 (Nat.le_refl _), hI, .inl ⟨_, rfl, by rw [book_cases, if_neg (by dsimp only; omega), if_neg (by rw [hbf]; simp)]; exact ⟨rfl, by rw [← told_rep _ [_]]; rfl, t, l, ⟨a2, d.book.length + 1, c2⟩, womO_b, book_R (hd8.ext hX9) (hS2.ext hX9) hc2 (by have := ent_len hdo; omega)⟩⟩⟩)
      rintro Dn ch D6 _ hsz hX6 ⟨rfl, rfl, hbt⟩
      refine g [[2]] ?_
      first
        | exact WP.panicMs [] [] rfl zU1 zU2 (fun w1 hI => ⟨_, _, DExt.lent hxn (DExt.refl _ _), hI.thawS hxD (.inl (by simp)), .inr ⟨_, rfl, by rw [book_cases, if_pos (by dsimp only; omega)]; exact ⟨by simp [errD], rfl, rfl⟩⟩⟩)
        | exact WP.panicMs [Dn] [] rfl zU1 zU2 (fun w1 hI => ⟨_, _, DExt.lent hxn (hX2.trans hX6 (Nat.le_refl _)), hI.thawS (hX6.old _ _ hxD2) (.inl (by simp)), .inr ⟨_, rfl, by rw [book_cases, if_neg (by dsimp only; omega), if_pos hbt]; exact ⟨by simp [errD], rfl, rfl⟩⟩⟩)
    refine WHo.so rfl (SO.alloc ZvF.h rfl) rfl ?_
    rintro _ _ _ ⟨b6, hb6, rfl, rfl, rfl⟩
    refine ⟨(fun _ hI => hI.nil), ?_⟩
    refine WH.know 23 (wickV x m s) rfl rfl ?_
    refine WH.one (i := 9) zk (WHo.so rfl (SO.call (Enters.meth CaF.h (fun w => by kernel_rfl) rfl rfl) (fun w hI => entF_g x m s ls al _ cl _ hls hnl _ hI.imm kd)) rfl ?_)
    rintro _ _ _ ⟨rfl, rfl, rfl⟩
    refine ⟨(fun _ hI => hI.nil), ?_⟩
    refine WH.one (i := 11) zk (WHo.so rfl (SO.store 0 rfl SzF.h rfl rfl rfl rfl (zqb rfl) (oneB_spec rfl)) rfl ?_)
    rintro _ _ _ ⟨rfl, rfl, rfl⟩
    refine ⟨(fun _ hI => hI.nil), ?_⟩
    refine WH.nil zk (g [[4],[4,6,5,0]] ?_)
    refine WL.so (SO.makes (Enters.func Tryz.call226 rfl) (fun w hI => of_g xb (gt ls 0) _ _ hI.imm)) rfl ?_
    rintro _ D2 _ ⟨hX2, ⟨bx, bn, rfl, hbx, hbn⟩, rfl⟩
    have hxD2 := hX2.old _ _ hxD
    replace hd := hd.ext hX2
    replace hL := hL.ext hX2
    refine g [[3],[0,0,6,32]] ?_
    refine WCn.rangeIterP (gf := 273) (lb := [pt bx, pt bn]) (N := (ofT d (gt ls 0)).length) (arg := fun k => entV (gt (ofT d (gt ls 0)) k)) [] [(b6, .cells (List.toArray (entC (⟨(gt ls 0), kd, if kd = 2 then x.fine else x.price⟩ : Ent))) 46 (0, 0))] rfl Tryz.func225 (fun w' _ _ => of_iter x d m s t l b xb (gt ls 0) bx bn D2 hxD2 hd hbx hbn w') rfl Tryz.call273 rfl (fun k _ h => h = [(b6, .cells (List.toArray (entC (⟨(gt ls 0), kd, if kd = 2 then x.fine else x.price⟩ : Ent))) 46 (0, 0))] ∧ ∀ j, j < k → ¬ (gt (ofT d (gt ls 0)) j).kind = (⟨(gt ls 0), kd, if kd = 2 then x.fine else x.price⟩ : Ent).kind) (fun ch _ h => ch = stopW 5 ∧ h = [(b6, .cells (List.toArray (entC (⟨(gt ls 0), kd, if kd = 2 then x.fine else x.price⟩ : Ent))) 46 (0, 0))] ∧ bookedB d.book (gt ls 0) (⟨(gt ls 0), kd, if kd = 2 then x.fine else x.price⟩ : Ent).kind = true) (fun _ _ _ _ _ h => h) ⟨rfl, by intro j hj; omega⟩ ?_ ?_ ?_
    · rintro rec l2 Dn k D5 _ w1 hrec hk ⟨rfl, hd5⟩ hX5 hsz
      unfold RoundGP
      refine g [[1,33,6]] ?_
      refine WLF.so (zn rfl) (SO.alloc ZvF.h rfl) rfl (zw fun b7 hb7 => ?_)
      refine g [[2]] ?_
      refine WP.iterBegin 1 rfl hrec (g [[1],[6,7,6]] ?_)
      refine WLF.part 38 rfl (fun g38 => ?_) (fun g38 => ?_)
      · try simp only [zq] at g38
        refine WLF.cl rfl (fun w hI => mustW_ok _ _) (g [[2]] ?_)
        exact WP.iterOnP hrec (pre := [(Dn, _)]) (h1 := [(b6, .cells (List.toArray (entC (⟨(gt ls 0), kd, if kd = 2 then x.fine else x.price⟩ : Ent))) 46 (0, 0))]) zU1 zU2 (DExt.refl _ _) ⟨rfl, ext_roundN hd5 g38⟩
      try simp only [zq] at g38
      refine WLF.no (zn rfl) (SO.fail (Enters.func CaF.h rfl) (fun w hI => mustW_no _ _) (g [[1]] ?_))
      exact WP.iterPanic (pre := [(Dn, _)]) (h1 := [(b6, .cells (List.toArray (entC (⟨(gt ls 0), kd, if kd = 2 then x.fine else x.price⟩ : Ent))) 46 (0, 0))]) rfl zU1 zU2 (DExt.refl _ _) ⟨rfl, rfl, booked_y hk (Decidable.not_not.1 g38)⟩
    · rintro Dn D6 _ hsz hX6 ⟨rfl, hd6⟩
      refine g [[4]] ?_
      have hbf : bookedB d.book (gt ls 0) (⟨(gt ls 0), kd, if kd = 2 then x.fine else x.price⟩ : Ent).kind = false := booked_n hd6
      have hxD6 := hX6.old _ _ hxD2
      refine WC.thawS hxD6 (.inl (by simp)) ?_
      refine WC.hpPerm [(Dn, _), (xb, _), (b6, .cells (List.toArray (entC (⟨(gt ls 0), kd, if kd = 2 then x.fine else x.price⟩ : Ent))) 46 (0, 0))] (List.Perm.swap _ _ _) ?_
      have hXa := DExt.lent hxn (hX2.trans hX6 (Nat.le_refl _))
      have hLa := hL0.ext hXa
      have hda := hd0.ext hXa
      clear hL hd
      have hL := hLa
      have hd := hda
      clear hLa hda
      generalize D6.minus xb = D7 at hXa hd hL ⊢
      refine g [[0,0,6]] ?_
      refine WC.drawD [_] (pz [1,3,5,7,9,13,10,14,17,19,21,22]) zk zk zX (fun _ hI => hI.tail.tail) (g [[6]] ?_)
      refine WA.so rfl (SO.ofYd (Yd.l1 rfl (Rd.own (k := 1) rfl rfl))) rfl ?_
      rintro _ _ _ ⟨rfl, rfl, rfl⟩
      refine ⟨fun _ hI => hI.tail.tail, ?_⟩
      refine WA.so rfl (SO.makes (Enters.func Tryz.call227 rfl) (fun w1 hI => grownEnt_g d.book (⟨(gt ls 0), kd, if kd = 2 then x.fine else x.price⟩ : Ent) b.a _ b.c _ hd.book hd.len.2.2 w1 hI.imm)) rfl ?_
      rintro _ D8 _ ⟨hX8, ⟨a2, c2, rfl, hS2, hc2⟩, rfl⟩
      replace hL := hL.ext hX8
      have hd8 := hd.ext hX8
      refine ⟨fun _ hI => hI.tail.tail.shrink hX8.old, ?_⟩
      refine g [[3]] ?_
      refine WA.so rfl (SO.store 1 rfl SzF.h rfl rfl rfl rfl (zqb rfl) (oneB_spec rfl)) rfl ?_
      rintro _ _ _ ⟨rfl, rfl, rfl⟩
      refine ⟨fun _ hI => hI.tail.tail.shrink hX8.old, ?_⟩
      refine g [[4],[8,0]] ?_
      refine WL.know 57 (it ((d.book.length : Int) + 1)) rfl (by rw [List.length_append]; rfl) (g [[1]] ?_)
      refine WL.know 58 (it (d.book.length : Int)) rfl (by rw [show (d.book.length : Int) + 1 - 1 = d.book.length by omega]) (g [[1]] ?_)
      refine WL.so (SO.buildSlice1 UnF.h SzF.h ZvF.h rfl rfl rfl (vs := [_, _]) rfl rfl rfl) rfl ?_
      rintro _ _ _ ⟨b60, hb60, rfl, rfl, rfl⟩
      refine WL.freezeN 0 b60 (.cells (List.toArray ([Pt.s paidS, Pt.n (d.book.length : Int)].flatMap ptI ++ [])) 20 (0, 0)) rfl rfl hb60 (fun D9 hX9 h60 => ?_)
      refine WL.cl rfl (fun w hI => told_g [Pt.s paidS, Pt.n (d.book.length : Int)] (some ⟨b60, 0, none⟩) 2 2 D9 (hL.ext hX9) (SlL.ofBlock ptI_len h60) (by decide) (by intro p hp; simp only [List.mem_cons, List.not_mem_nil, or_false] at hp; rcases hp with rfl | rfl; exact (show List.length _ ≤ 100 by decide); exact (by unfold ptB; unfold i64B; omega)) _ hI.imm) (g [[5]] ?_)
      refine WP.retMs [Dn] [(xb, _)] [_] [_] rfl rfl zU1 zU2 rfl zV (fun w1 hI => ⟨D9, _, (hXa.trans hX8 (Nat.le_refl _)).trans hX9 (Nat.le_refl _), hI, .inl ⟨_, rfl, by rw [book_cases, if_neg (by dsimp only; omega), if_neg (by rw [hbf]; simp)]; exact ⟨rfl, by rw [← told_rep _ [_]]; rfl, t, l, ⟨a2, d.book.length + 1, c2⟩, womO_b, book_R (hd8.ext hX9) (hS2.ext hX9) hc2 (by have := ent_len hdo; omega)⟩⟩⟩)
    rintro Dn ch D6 _ hsz hX6 ⟨rfl, rfl, hbt⟩
    refine g [[2]] ?_
    first
      | exact WP.panicMs [] [] rfl zU1 zU2 (fun w1 hI => ⟨_, _, DExt.lent hxn (DExt.refl _ _), hI.thawS hxD (.inl (by simp)), .inr ⟨_, rfl, by rw [book_cases, if_pos (by dsimp only; omega)]; exact ⟨by simp [errD], rfl, rfl⟩⟩⟩)
      | exact WP.panicMs [Dn] [] rfl zU1 zU2 (fun w1 hI => ⟨_, _, DExt.lent hxn (hX2.trans hX6 (Nat.le_refl _)), hI.thawS (hX6.old _ _ hxD2) (.inl (by simp)), .inr ⟨_, rfl, by rw [book_cases, if_neg (by dsimp only; omega), if_pos hbt]; exact ⟨by simp [errD], rfl, rfl⟩⟩⟩)
  try simp only [zq] at g17
  refine WL.nf rfl (fun w hI => mustW_no _ _) (g [[1]] ?_)
  first
    | exact WP.panicMs [] [] rfl zU1 zU2 (fun w1 hI => ⟨_, _, DExt.lent hxn (DExt.refl _ _), hI.thawS hxD (.inl (by simp)), .inr ⟨_, rfl, by rw [book_cases, if_pos (by dsimp only; omega)]; exact ⟨by simp [errD], rfl, rfl⟩⟩⟩)
    | exact WP.panicMs [Dn] [] rfl zU1 zU2 (fun w1 hI => ⟨_, _, DExt.lent hxn (hX2.trans hX6 (Nat.le_refl _)), hI.thawS (hX6.old _ _ hxD2) (.inl (by simp)), .inr ⟨_, rfl, by rw [book_cases, if_neg (by dsimp only; omega), if_pos hbt]; exact ⟨by simp [errD], rfl, rfl⟩⟩⟩)
theorem bookedG_g (x : Wick) (d : Day) (m s t l b : Sl) (xb : Nat) (D : Imm) (w : World) (hw : wickB x = true) (hdo : DayOk x d) (hW : WickR D x m s) (hd : DayR D d t l b) (hL : LibW D) (ls : List Int) (al : Option Addr) (nl cl : Nat) (hls : SlL D 1 (ls.map intC) al nl) (hnl : ls.length = 2) (hll : nl ≤ 1000) (hI0 : Inv D [(xb, womO x m s t l b)] [xb] w w) (kd : Int) (bk : Nat) (hbk : D bk = some (.cells (List.toArray [.iface 222 (.agg #[it kd])]) 220 (0, 0))) : AltersV Tryz.prog 225 [pt xb, .slice al nl cl, pt bk] w D [xb] (PutK x m s xb (bookD d (⟨(gt ls 0), kd, (gt ls 1)⟩ : Ent))) (PutC x m s t l b xb (bookD d (⟨(gt ls 0), kd, (gt ls 1)⟩ : Ent))) := by
  unfold AltersV
  obtain rfl := hls.len'
  have htn : t.n = d.tks.length := hd.tks.len'
  have hbn' : b.n = d.book.length := hd.book.len'
  have hb3 := hd.len
  obtain ⟨hxn, hI1⟩ := lendI hI0
  have hd0 := hd
  have hL0 := hL
  have hXx : DExt { w with heap := #[] } D (D.add xb (womO x m s t l b)) := ⟨add_old hxn, fun b h => by simp at h⟩
  replace hW := hW.ext hXx
  replace hd := hd.ext hXx
  replace hL := hL.ext hXx
  replace hls := hls.ext hXx
  replace hbk := hXx.old _ _ hbk
  have hxD := Imm.add_self D xb (womO x m s t l b)
  refine enN Tryz.func225 rfl Tryz.ntmps225 hI1 (g [[2],[6,0,1,2],[0,5,0,1,2],[3009],[1]] ?_)
  refine WQ.q rfl (Yd.qt (Yd.ix rfl rfl (hls.addr 0 (by omega)))) rfl (WQ.q rfl (Yd.qt (Yd.l1 rfl ((hls.at 0 (by omega)).rd 0 rfl))) rfl (g [[8]] ?_))
  refine WL.part 17 rfl (fun g17 => ?_) (fun g17 => ?_)
  · try simp only [zq] at g17
    refine WL.cl rfl (fun w hI => mustW_ok _ _) (g [[4],[0,5,0,1,2]] ?_)
    refine WC.drawH [] zk (fun _ hI => hI.nil) (g [[1000],[1001],[1002],[1003],[1004],[1005],[1006]] ?_)
    refine WH.yd (i := 7) zk zX rfl (Yd.nilCheckM rfl (fun w => by kernel_rfl)) rfl (g [[1008]] ?_)
    refine WH.two (i := 9) (j := 10) zk ?_ ?_
    · refine WHo.so rfl (SO.call (Enters.meth CaF.h (fun w => by kernel_rfl) rfl rfl) (fun w hI => entG_g x m s ls al _ cl _ hls hnl _ hI.imm kd)) rfl ?_
      rintro _ _ _ ⟨rfl, rfl, rfl⟩
      refine ⟨(fun _ hI => hI.nil), ?_⟩
      refine WH.one (i := 10) zk (WHo.so rfl (SO.alloc ZvF.h rfl) rfl ?_)
      rintro _ _ _ ⟨b6, hb6, rfl, rfl, rfl⟩
      refine ⟨(fun _ hI => hI.nil), ?_⟩
      refine WH.one (i := 11) zk (WHo.so rfl (SO.store 0 rfl SzF.h rfl rfl rfl rfl (zqb rfl) (oneB_spec rfl)) rfl ?_)
      rintro _ _ _ ⟨rfl, rfl, rfl⟩
      refine ⟨(fun _ hI => hI.nil), ?_⟩
      refine WH.nil zk (g [[4],[4,6,5,0]] ?_)
      refine WL.so (SO.makes (Enters.func Tryz.call226 rfl) (fun w hI => of_g xb (gt ls 0) _ _ hI.imm)) rfl ?_
      rintro _ D2 _ ⟨hX2, ⟨bx, bn, rfl, hbx, hbn⟩, rfl⟩
      have hxD2 := hX2.old _ _ hxD
      replace hd := hd.ext hX2
      replace hL := hL.ext hX2
      refine g [[3],[0,0,6,32]] ?_
      refine WCn.rangeIterP (gf := 273) (lb := [pt bx, pt bn]) (N := (ofT d (gt ls 0)).length) (arg := fun k => entV (gt (ofT d (gt ls 0)) k)) [] [(b6, .cells (List.toArray (entC (⟨(gt ls 0), kd, (gt ls 1)⟩ : Ent))) 46 (0, 0))] rfl Tryz.func225 (fun w' _ _ => of_iter x d m s t l b xb (gt ls 0) bx bn D2 hxD2 hd hbx hbn w') rfl Tryz.call273 rfl (fun k _ h => h = [(b6, .cells (List.toArray (entC (⟨(gt ls 0), kd, (gt ls 1)⟩ : Ent))) 46 (0, 0))] ∧ ∀ j, j < k → ¬ (gt (ofT d (gt ls 0)) j).kind = (⟨(gt ls 0), kd, (gt ls 1)⟩ : Ent).kind) (fun ch _ h => ch = stopW 5 ∧ h = [(b6, .cells (List.toArray (entC (⟨(gt ls 0), kd, (gt ls 1)⟩ : Ent))) 46 (0, 0))] ∧ bookedB d.book (gt ls 0) (⟨(gt ls 0), kd, (gt ls 1)⟩ : Ent).kind = true) (fun _ _ _ _ _ h => h) ⟨rfl, by intro j hj; omega⟩ ?_ ?_ ?_
      · rintro rec l2 Dn k D5 _ w1 hrec hk ⟨rfl, hd5⟩ hX5 hsz
        unfold RoundGP
        refine g [[1,33,6]] ?_
        refine WLF.so (zn rfl) (SO.alloc ZvF.h rfl) rfl (zw fun b7 hb7 => ?_)
        refine g [[2]] ?_
        refine WP.iterBegin 1 rfl hrec (g [[1],[6,7,6]] ?_)
        refine WLF.part 38 rfl (fun g38 => ?_) (fun g38 => ?_)
        · try simp only [zq] at g38
          refine WLF.cl rfl (fun w hI => mustW_ok _ _) (g [[2]] ?_)
          exact WP.iterOnP hrec (pre := [(Dn, _)]) (h1 := [(b6, .cells (List.toArray (entC (⟨(gt ls 0), kd, (gt ls 1)⟩ : Ent))) 46 (0, 0))]) zU1 zU2 (DExt.refl _ _) ⟨rfl, ext_roundN hd5 g38⟩
        try simp only [zq] at g38
        refine WLF.no (zn rfl) (SO.fail (Enters.func CaF.h rfl) (fun w hI => mustW_no _ _) (g [[1]] ?_))
        exact WP.iterPanic (pre := [(Dn, _)]) (h1 := [(b6, .cells (List.toArray (entC (⟨(gt ls 0), kd, (gt ls 1)⟩ : Ent))) 46 (0, 0))]) rfl zU1 zU2 (DExt.refl _ _) ⟨rfl, rfl, booked_y hk (Decidable.not_not.1 g38)⟩
      · rintro Dn D6 _ hsz hX6 ⟨rfl, hd6⟩
        refine g [[4]] ?_
        have hbf : bookedB d.book (gt ls 0) (⟨(gt ls 0), kd, (gt ls 1)⟩ : Ent).kind = false := booked_n hd6
        have hxD6 := hX6.old _ _ hxD2
        refine WC.thawS hxD6 (.inl (by simp)) ?_
        refine WC.hpPerm [(Dn, _), (xb, _), (b6, .cells (List.toArray (entC (⟨(gt ls 0), kd, (gt ls 1)⟩ : Ent))) 46 (0, 0))] (List.Perm.swap _ _ _) ?_
        have hXa := DExt.lent hxn (hX2.trans hX6 (Nat.le_refl _))
        have hLa := hL0.ext hXa
        have hda := hd0.ext hXa
        clear hL hd
        have hL := hLa
        have hd := hda
        clear hLa hda
        generalize D6.minus xb = D7 at hXa hd hL ⊢
        refine g [[0,0,6]] ?_
        refine WC.drawD [_] (pz [1,3,5,7,9,13,10,14,17,19,21,22]) zk zk zX (fun _ hI => hI.tail.tail) (g [[6]] ?_)
        refine WA.so rfl (SO.ofYd (Yd.l1 rfl (Rd.own (k := 1) rfl rfl))) rfl ?_
        rintro _ _ _ ⟨rfl, rfl, rfl⟩
        refine ⟨fun _ hI => hI.tail.tail, ?_⟩
        refine WA.so rfl (SO.makes (Enters.func Tryz.call227 rfl) (fun w1 hI => grownEnt_g d.book (⟨(gt ls 0), kd, (gt ls 1)⟩ : Ent) b.a _ b.c _ hd.book hd.len.2.2 w1 hI.imm)) rfl ?_
        rintro _ D8 _ ⟨hX8, ⟨a2, c2, rfl, hS2, hc2⟩, rfl⟩
        replace hL := hL.ext hX8
        have hd8 := hd.ext hX8
        refine ⟨fun _ hI => hI.tail.tail.shrink hX8.old, ?_⟩
        refine g [[3]] ?_
        refine WA.so rfl (SO.store 1 rfl SzF.h rfl rfl rfl rfl (zqb rfl) (oneB_spec rfl)) rfl ?_
        rintro _ _ _ ⟨rfl, rfl, rfl⟩
        refine ⟨fun _ hI => hI.tail.tail.shrink hX8.old, ?_⟩
        refine g [[4],[8,0]] ?_
        refine WL.know 57 (it ((d.book.length : Int) + 1)) rfl (by rw [List.length_append]; rfl) (g [[1]] ?_)
        refine WL.know 58 (it (d.book.length : Int)) rfl (by rw [show (d.book.length : Int) + 1 - 1 = d.book.length by omega]) (g [[1]] ?_)
        refine WL.so (SO.buildSlice1 UnF.h SzF.h ZvF.h rfl rfl rfl (vs := [_, _]) rfl rfl rfl) rfl ?_
        rintro _ _ _ ⟨b60, hb60, rfl, rfl, rfl⟩
        refine WL.freezeN 0 b60 (.cells (List.toArray ([Pt.s paidS, Pt.n (d.book.length : Int)].flatMap ptI ++ [])) 20 (0, 0)) rfl rfl hb60 (fun D9 hX9 h60 => ?_)
        refine WL.cl rfl (fun w hI => told_g [Pt.s paidS, Pt.n (d.book.length : Int)] (some ⟨b60, 0, none⟩) 2 2 D9 (hL.ext hX9) (SlL.ofBlock ptI_len h60) (by decide) (by intro p hp; simp only [List.mem_cons, List.not_mem_nil, or_false] at hp; rcases hp with rfl | rfl; exact (show List.length _ ≤ 100 by decide); exact (by unfold ptB; unfold i64B; omega)) _ hI.imm) (g [[5]] ?_)
        refine WP.retMs [Dn] [(xb, _)] [_] [_] rfl rfl zU1 zU2 rfl zV (fun w1 hI => ⟨D9, _, (hXa.trans hX8 (Nat.le_refl _)).trans hX9 (Nat.le_refl _), hI, .inl ⟨_, rfl, by rw [book_cases, if_neg (by dsimp only; omega), if_neg (by rw [hbf]; simp)]; exact ⟨rfl, by rw [← told_rep _ [_]]; rfl, t, l, ⟨a2, d.book.length + 1, c2⟩, womO_b, book_R (hd8.ext hX9) (hS2.ext hX9) hc2 (by have := ent_len hdo; omega)⟩⟩⟩)
      rintro Dn ch D6 _ hsz hX6 ⟨rfl, rfl, hbt⟩
      refine g [[2]] ?_
      first
        | exact WP.panicMs [] [] rfl zU1 zU2 (fun w1 hI => ⟨_, _, DExt.lent hxn (DExt.refl _ _), hI.thawS hxD (.inl (by simp)), .inr ⟨_, rfl, by rw [book_cases, if_pos (by dsimp only; omega)]; exact ⟨by simp [errD], rfl, rfl⟩⟩⟩)
        | exact WP.panicMs [Dn] [] rfl zU1 zU2 (fun w1 hI => ⟨_, _, DExt.lent hxn (hX2.trans hX6 (Nat.le_refl _)), hI.thawS (hX6.old _ _ hxD2) (.inl (by simp)), .inr ⟨_, rfl, by rw [book_cases, if_neg (by dsimp only; omega), if_pos hbt]; exact ⟨by simp [errD], rfl, rfl⟩⟩⟩)
    refine WHo.so rfl (SO.alloc ZvF.h rfl) rfl ?_
    rintro _ _ _ ⟨b6, hb6, rfl, rfl, rfl⟩
    refine ⟨(fun _ hI => hI.nil), ?_⟩
    refine WH.know 23 (wickV x m s) rfl rfl ?_
    refine WH.one (i := 9) zk (WHo.so rfl (SO.call (Enters.meth CaF.h (fun w => by kernel_rfl) rfl rfl) (fun w hI => entG_g x m s ls al _ cl _ hls hnl _ hI.imm kd)) rfl ?_)
    rintro _ _ _ ⟨rfl, rfl, rfl⟩
    refine ⟨(fun _ hI => hI.nil), ?_⟩
    refine WH.one (i := 11) zk (WHo.so rfl (SO.store 0 rfl SzF.h rfl rfl rfl rfl (zqb rfl) (oneB_spec rfl)) rfl ?_)
    rintro _ _ _ ⟨rfl, rfl, rfl⟩
    refine ⟨(fun _ hI => hI.nil), ?_⟩
    refine WH.nil zk (g [[4],[4,6,5,0]] ?_)
    refine WL.so (SO.makes (Enters.func Tryz.call226 rfl) (fun w hI => of_g xb (gt ls 0) _ _ hI.imm)) rfl ?_
    rintro _ D2 _ ⟨hX2, ⟨bx, bn, rfl, hbx, hbn⟩, rfl⟩
    have hxD2 := hX2.old _ _ hxD
    replace hd := hd.ext hX2
    replace hL := hL.ext hX2
    refine g [[3],[0,0,6,32]] ?_
    refine WCn.rangeIterP (gf := 273) (lb := [pt bx, pt bn]) (N := (ofT d (gt ls 0)).length) (arg := fun k => entV (gt (ofT d (gt ls 0)) k)) [] [(b6, .cells (List.toArray (entC (⟨(gt ls 0), kd, (gt ls 1)⟩ : Ent))) 46 (0, 0))] rfl Tryz.func225 (fun w' _ _ => of_iter x d m s t l b xb (gt ls 0) bx bn D2 hxD2 hd hbx hbn w') rfl Tryz.call273 rfl (fun k _ h => h = [(b6, .cells (List.toArray (entC (⟨(gt ls 0), kd, (gt ls 1)⟩ : Ent))) 46 (0, 0))] ∧ ∀ j, j < k → ¬ (gt (ofT d (gt ls 0)) j).kind = (⟨(gt ls 0), kd, (gt ls 1)⟩ : Ent).kind) (fun ch _ h => ch = stopW 5 ∧ h = [(b6, .cells (List.toArray (entC (⟨(gt ls 0), kd, (gt ls 1)⟩ : Ent))) 46 (0, 0))] ∧ bookedB d.book (gt ls 0) (⟨(gt ls 0), kd, (gt ls 1)⟩ : Ent).kind = true) (fun _ _ _ _ _ h => h) ⟨rfl, by intro j hj; omega⟩ ?_ ?_ ?_
    · rintro rec l2 Dn k D5 _ w1 hrec hk ⟨rfl, hd5⟩ hX5 hsz
      unfold RoundGP
      refine g [[1,33,6]] ?_
      refine WLF.so (zn rfl) (SO.alloc ZvF.h rfl) rfl (zw fun b7 hb7 => ?_)
      refine g [[2]] ?_
      refine WP.iterBegin 1 rfl hrec (g [[1],[6,7,6]] ?_)
      refine WLF.part 38 rfl (fun g38 => ?_) (fun g38 => ?_)
      · try simp only [zq] at g38
        refine WLF.cl rfl (fun w hI => mustW_ok _ _) (g [[2]] ?_)
        exact WP.iterOnP hrec (pre := [(Dn, _)]) (h1 := [(b6, .cells (List.toArray (entC (⟨(gt ls 0), kd, (gt ls 1)⟩ : Ent))) 46 (0, 0))]) zU1 zU2 (DExt.refl _ _) ⟨rfl, ext_roundN hd5 g38⟩
      try simp only [zq] at g38
      refine WLF.no (zn rfl) (SO.fail (Enters.func CaF.h rfl) (fun w hI => mustW_no _ _) (g [[1]] ?_))
      exact WP.iterPanic (pre := [(Dn, _)]) (h1 := [(b6, .cells (List.toArray (entC (⟨(gt ls 0), kd, (gt ls 1)⟩ : Ent))) 46 (0, 0))]) rfl zU1 zU2 (DExt.refl _ _) ⟨rfl, rfl, booked_y hk (Decidable.not_not.1 g38)⟩
    · rintro Dn D6 _ hsz hX6 ⟨rfl, hd6⟩
      refine g [[4]] ?_
      have hbf : bookedB d.book (gt ls 0) (⟨(gt ls 0), kd, (gt ls 1)⟩ : Ent).kind = false := booked_n hd6
      have hxD6 := hX6.old _ _ hxD2
      refine WC.thawS hxD6 (.inl (by simp)) ?_
      refine WC.hpPerm [(Dn, _), (xb, _), (b6, .cells (List.toArray (entC (⟨(gt ls 0), kd, (gt ls 1)⟩ : Ent))) 46 (0, 0))] (List.Perm.swap _ _ _) ?_
      have hXa := DExt.lent hxn (hX2.trans hX6 (Nat.le_refl _))
      have hLa := hL0.ext hXa
      have hda := hd0.ext hXa
      clear hL hd
      have hL := hLa
      have hd := hda
      clear hLa hda
      generalize D6.minus xb = D7 at hXa hd hL ⊢
      refine g [[0,0,6]] ?_
      refine WC.drawD [_] (pz [1,3,5,7,9,13,10,14,17,19,21,22]) zk zk zX (fun _ hI => hI.tail.tail) (g [[6]] ?_)
      refine WA.so rfl (SO.ofYd (Yd.l1 rfl (Rd.own (k := 1) rfl rfl))) rfl ?_
      rintro _ _ _ ⟨rfl, rfl, rfl⟩
      refine ⟨fun _ hI => hI.tail.tail, ?_⟩
      refine WA.so rfl (SO.makes (Enters.func Tryz.call227 rfl) (fun w1 hI => grownEnt_g d.book (⟨(gt ls 0), kd, (gt ls 1)⟩ : Ent) b.a _ b.c _ hd.book hd.len.2.2 w1 hI.imm)) rfl ?_
      rintro _ D8 _ ⟨hX8, ⟨a2, c2, rfl, hS2, hc2⟩, rfl⟩
      replace hL := hL.ext hX8
      have hd8 := hd.ext hX8
      refine ⟨fun _ hI => hI.tail.tail.shrink hX8.old, ?_⟩
      refine g [[3]] ?_
      refine WA.so rfl (SO.store 1 rfl SzF.h rfl rfl rfl rfl (zqb rfl) (oneB_spec rfl)) rfl ?_
      rintro _ _ _ ⟨rfl, rfl, rfl⟩
      refine ⟨fun _ hI => hI.tail.tail.shrink hX8.old, ?_⟩
      refine g [[4],[8,0]] ?_
      refine WL.know 57 (it ((d.book.length : Int) + 1)) rfl (by rw [List.length_append]; rfl) (g [[1]] ?_)
      refine WL.know 58 (it (d.book.length : Int)) rfl (by rw [show (d.book.length : Int) + 1 - 1 = d.book.length by omega]) (g [[1]] ?_)
      refine WL.so (SO.buildSlice1 UnF.h SzF.h ZvF.h rfl rfl rfl (vs := [_, _]) rfl rfl rfl) rfl ?_
      rintro _ _ _ ⟨b60, hb60, rfl, rfl, rfl⟩
      refine WL.freezeN 0 b60 (.cells (List.toArray ([Pt.s paidS, Pt.n (d.book.length : Int)].flatMap ptI ++ [])) 20 (0, 0)) rfl rfl hb60 (fun D9 hX9 h60 => ?_)
      refine WL.cl rfl (fun w hI => told_g [Pt.s paidS, Pt.n (d.book.length : Int)] (some ⟨b60, 0, none⟩) 2 2 D9 (hL.ext hX9) (SlL.ofBlock ptI_len h60) (by decide) (by intro p hp; simp only [List.mem_cons, List.not_mem_nil, or_false] at hp; rcases hp with rfl | rfl; exact (show List.length _ ≤ 100 by decide); exact (by unfold ptB; unfold i64B; omega)) _ hI.imm) (g [[5]] ?_)
      refine WP.retMs [Dn] [(xb, _)] [_] [_] rfl rfl zU1 zU2 rfl zV (fun w1 hI => ⟨D9, _, (hXa.trans hX8 (Nat.le_refl _)).trans hX9 (Nat.le_refl _), hI, .inl ⟨_, rfl, by rw [book_cases, if_neg (by dsimp only; omega), if_neg (by rw [hbf]; simp)]; exact ⟨rfl, by rw [← told_rep _ [_]]; rfl, t, l, ⟨a2, d.book.length + 1, c2⟩, womO_b, book_R (hd8.ext hX9) (hS2.ext hX9) hc2 (by have := ent_len hdo; omega)⟩⟩⟩)
    rintro Dn ch D6 _ hsz hX6 ⟨rfl, rfl, hbt⟩
    refine g [[2]] ?_
    first
      | exact WP.panicMs [] [] rfl zU1 zU2 (fun w1 hI => ⟨_, _, DExt.lent hxn (DExt.refl _ _), hI.thawS hxD (.inl (by simp)), .inr ⟨_, rfl, by rw [book_cases, if_pos (by dsimp only; omega)]; exact ⟨by simp [errD], rfl, rfl⟩⟩⟩)
      | exact WP.panicMs [Dn] [] rfl zU1 zU2 (fun w1 hI => ⟨_, _, DExt.lent hxn (hX2.trans hX6 (Nat.le_refl _)), hI.thawS (hX6.old _ _ hxD2) (.inl (by simp)), .inr ⟨_, rfl, by rw [book_cases, if_neg (by dsimp only; omega), if_pos hbt]; exact ⟨by simp [errD], rfl, rfl⟩⟩⟩)
  try simp only [zq] at g17
  refine WL.nf rfl (fun w hI => mustW_no _ _) (g [[1]] ?_)
  first
    | exact WP.panicMs [] [] rfl zU1 zU2 (fun w1 hI => ⟨_, _, DExt.lent hxn (DExt.refl _ _), hI.thawS hxD (.inl (by simp)), .inr ⟨_, rfl, by rw [book_cases, if_pos (by dsimp only; omega)]; exact ⟨by simp [errD], rfl, rfl⟩⟩⟩)
    | exact WP.panicMs [Dn] [] rfl zU1 zU2 (fun w1 hI => ⟨_, _, DExt.lent hxn (hX2.trans hX6 (Nat.le_refl _)), hI.thawS (hX6.old _ _ hxD2) (.inl (by simp)), .inr ⟨_, rfl, by rw [book_cases, if_neg (by dsimp only; omega), if_pos hbt]; exact ⟨by simp [errD], rfl, rfl⟩⟩⟩)
end Go.Proofs.YtejgofaeafphjaaGreatDoor
namespace Go.Proofs.YtejgofaeafphjaaGreatDoor
open Go.W Go.Ti
def DoX (x : Wick) (f : FuncId) (cap : List Value) (K : Nat) (R : Day → List Int → Rep) (D0 : Imm) : Prop :=
  (∀ args w, (callFunc f args).run Tryz.prog w = .ok (.enter f args) w) ∧
  ∀ (d : Day) (m s t l b : Sl) (xb : Nat) (D : Imm) (w : World), (∀ b o, D0 b = some o → D b = some o) → wickB x = true → DayOk x d → WickR D x m s → DayR D d t l b → LibW D → ∀ (ls : List Int) (al : Option Addr) (nl cl : Nat), SlL D 1 (ls.map intC) al nl → ls.length = K → nl ≤ 1000 → Inv D [(xb, womO x m s t l b)] [xb] w w →
    AltersV Tryz.prog f ([pt xb, .slice al nl cl] ++ cap) w D [xb] (PutK x m s xb (R d ls)) (PutC x m s t l b xb (R d ls))
theorem put_ask {x : Wick} {d : Day} {m s t l b : Sl} {xb : Nat} {D : Imm} {w : World} {f : FuncId} {A : List Value} {r : Rep} (hd : DayR D d t l b) (hI : Inv D [(xb, womO x m s t l b)] [xb] w w) (hr : r.1 = d) (h : Calls Tryz.prog f A.toArray w fun e w' => AskK w r e w') :
    AltersV Tryz.prog f A w D [xb] (PutK x m s xb r) (PutC x m s t l b xb r) := by
  refine h.mono fun e w' ⟨hk, he⟩ => ⟨D, [(xb, womO x m s t l b)], DExt.refl _ _, hI.grow hk (hI.imm.keep hk) (DExt.refl _ _), ?_⟩
  rcases he with ⟨h0, rfl⟩ | ⟨h0, rfl⟩
  · exact .inl ⟨_, rfl, h0, rfl, t, l, b, rfl, by rw [hr]; exact hd⟩
  exact .inr ⟨_, rfl, h0, rfl, rfl⟩
theorem ask_day (d : Day) (s : Bs) (r : List Int) (e : Int) : (askD d s r e).1 = d := by unfold askD errD; split <;> rfl
theorem inv_xb {D : Imm} {xb : Nat} {o : Obj} {w : World} (hI : Inv D [(xb, o)] [xb] w w) : D xb = none ∧ w.heap[xb]? = some o := ⟨hI.apart _ _ (List.mem_singleton.2 rfl), hI.own _ _ (List.mem_singleton.2 rfl)⟩
theorem do_turnX (x : Wick) (D0 : Imm) : DoX x 153 [] 1 (fun d ls => doD x d turnS ls) D0 :=
  ⟨fun _ _ => Tryz.call153 _ _, fun d m s t l b xb D w _ hw hdo hW hd hL ls al nl cl hls hnl hll hI => put_ask hd hI (by dsimp only; rw [do_turn]; exact ask_day _ _ _ _) (turnX_g x d m s t l b xb D w hw hdo hW hd hL hI.imm (inv_xb hI).1 (inv_xb hI).2 ls al nl cl hls hnl hll)⟩
theorem do_whoseX (x : Wick) (D0 : Imm) : DoX x 154 [] 1 (fun d ls => doD x d whoseS ls) D0 :=
  ⟨fun _ _ => Tryz.call154 _ _, fun d m s t l b xb D w _ hw hdo hW hd hL ls al nl cl hls hnl hll hI => put_ask hd hI (by dsimp only; rw [do_whose]; exact ask_day _ _ _ _) (whoseX_g x d m s t l b xb D w hw hdo hW hd hL hI.imm (inv_xb hI).1 (inv_xb hI).2 ls al nl cl hls hnl hll)⟩
theorem do_freeX (x : Wick) (D0 : Imm) : DoX x 155 [] 2 (fun d ls => doD x d freeS ls) D0 :=
  ⟨fun _ _ => Tryz.call155 _ _, fun d m s t l b xb D w _ hw hdo hW hd hL ls al nl cl hls hnl hll hI => put_ask hd hI (by dsimp only; rw [do_free]; exact ask_day _ _ _ _) (freeX_g x d m s t l b xb D w hw hdo hW hd hL hI.imm (inv_xb hI).1 (inv_xb hI).2 ls al nl cl hls hnl hll)⟩
theorem do_depthX (x : Wick) (D0 : Imm) : DoX x 156 [] 2 (fun d ls => doD x d depthS_ ls) D0 :=
  ⟨fun _ _ => Tryz.call156 _ _, fun d m s t l b xb D w _ hw hdo hW hd hL ls al nl cl hls hnl hll hI => put_ask hd hI (by dsimp only; rw [do_depth]; exact ask_day _ _ _ _) (depthX_g x d m s t l b xb D w hw hdo hW hd hL hI.imm (inv_xb hI).1 (inv_xb hI).2 ls al nl cl hls hnl hll)⟩
theorem do_firstX (x : Wick) (D0 : Imm) : DoX x 157 [] 3 (fun d ls => doD x d firstS ls) D0 :=
  ⟨fun _ _ => Tryz.call157 _ _, fun d m s t l b xb D w _ hw hdo hW hd hL ls al nl cl hls hnl hll hI => put_ask hd hI (by dsimp only; rw [do_first]; exact ask_day _ _ _ _) (firstX_g x d m s t l b xb D w hw hdo hW hd hL hI.imm (inv_xb hI).1 (inv_xb hI).2 ls al nl cl hls hnl hll)⟩
theorem do_bookX (x : Wick) (D0 : Imm) : DoX x 158 [] 0 (fun d ls => doD x d bookS ls) D0 :=
  ⟨fun _ _ => Tryz.call158 _ _, fun d m s t l b xb D w _ hw hdo hW hd hL ls al nl cl hls hnl hll hI => put_ask hd hI (by dsimp only; rw [do_book]; exact (by split; rfl; exact ask_day _ _ _ _)) (bookX_g x d m s t l b xb D w hw hdo hW hd hL hI.imm (inv_xb hI).1 (inv_xb hI).2 ls al nl cl hls hnl hll)⟩
theorem do_sumX (x : Wick) (D0 : Imm) : DoX x 159 [] 0 (fun d ls => doD x d sumS ls) D0 :=
  ⟨fun _ _ => Tryz.call159 _ _, fun d m s t l b xb D w _ hw hdo hW hd hL ls al nl cl hls hnl hll hI => put_ask hd hI (by dsimp only; rw [do_sum]; exact ask_day _ _ _ _) (sumX_g x d m s t l b xb D w hw hdo hW hd hL hI.imm (inv_xb hI).1 (inv_xb hI).2 ls al nl cl hls hnl hll)⟩
theorem do_sellX (x : Wick) (D0 : Imm) : DoX x 151 [] 5 (fun d ls => doD x d ticketS ls) D0 :=
  ⟨fun _ _ => Tryz.call151 _ _, fun d m s t l b xb D w _ hw hdo hW hd hL ls al nl cl hls hnl hll hI => sellX_g x d m s t l b xb D w hw hdo hW hd hL ls al nl cl hls hnl hll hI⟩
theorem do_lookX (x : Wick) (D0 : Imm) : DoX x 152 [] 4 (fun d ls => doD x d lookS ls) D0 :=
  ⟨fun _ _ => Tryz.call152 _ _, fun d m s t l b xb D w _ hw hdo hW hd hL ls al nl cl hls hnl hll hI => lookX_g x d m s t l b xb D w hw hdo hW hd hL ls al nl cl hls hnl hll hI⟩
theorem do_payX (x : Wick) (D0 : Imm) (bk : Nat) (hbk : D0 bk = some (.cells (List.toArray [.iface 218 (.agg #[it 1])]) 220 (0, 0))) : DoX x 225 [pt bk] 1 (fun d ls => doD x d payS ls) D0 :=
  ⟨fun _ _ => Tryz.call225 _ _, fun d m s t l b xb D w hDD hw hdo hW hd hL ls al nl cl hls hnl hll hI => by
    have := bookedF_g x d m s t l b xb D w hw hdo hW hd hL ls al nl cl hls hnl hll hI 1 bk (hDD _ _ hbk)
    dsimp only
    rw [do_pay]
    exact this⟩
theorem do_fineX (x : Wick) (D0 : Imm) (bk : Nat) (hbk : D0 bk = some (.cells (List.toArray [.iface 218 (.agg #[it 2])]) 220 (0, 0))) : DoX x 225 [pt bk] 1 (fun d ls => doD x d fineS ls) D0 :=
  ⟨fun _ _ => Tryz.call225 _ _, fun d m s t l b xb D w hDD hw hdo hW hd hL ls al nl cl hls hnl hll hI => by
    have := bookedF_g x d m s t l b xb D w hw hdo hW hd hL ls al nl cl hls hnl hll hI 2 bk (hDD _ _ hbk)
    dsimp only
    rw [do_fine]
    exact this⟩
theorem do_backX (x : Wick) (D0 : Imm) (bk : Nat) (hbk : D0 bk = some (.cells (List.toArray [.iface 222 (.agg #[it 3])]) 220 (0, 0))) : DoX x 225 [pt bk] 2 (fun d ls => doD x d backS ls) D0 :=
  ⟨fun _ _ => Tryz.call225 _ _, fun d m s t l b xb D w hDD hw hdo hW hd hL ls al nl cl hls hnl hll hI => by
    have := bookedG_g x d m s t l b xb D w hw hdo hW hd hL ls al nl cl hls hnl hll hI 3 bk (hDD _ _ hbk)
    dsimp only
    rw [do_back]
    exact this⟩
end Go.Proofs.YtejgofaeafphjaaGreatDoor
namespace Go.Proofs.YtejgofaeafphjaaGreatDoor
open Go.W Go.Ti
theorem SA123 : StructAt Tryz.prog 123 [.int .i64 0, .nilFunc] [(0, 1), (1, 1)] := ⟨⟨_, Tryz.zeroValue123, rfl⟩, _, Tryz.underlying123, fun w => by simp [Tryz.sizeOf3, Tryz.sizeOf121]⟩
@[reducible, instance] def ISA123 := SaF.mk SA123
theorem SA218 : StructAt Tryz.prog 218 [.int .i64 0] [(0, 1)] := ⟨⟨_, Tryz.zeroValue218, rfl⟩, _, Tryz.underlying218, fun w => by simp [Tryz.sizeOf3]⟩
@[reducible, instance] def ISA218 := SaF.mk SA218
theorem SA222 : StructAt Tryz.prog 222 [.int .i64 0] [(0, 1)] := ⟨⟨_, Tryz.zeroValue222, rfl⟩, _, Tryz.underlying222, fun w => by simp [Tryz.sizeOf218]⟩
@[reducible, instance] def ISA222 := SaF.mk SA222
def wdV (n : Int) (f : Value) : Value := .agg #[it n, f]
def w9L : List (Bs × Value) := [(ticketS, wdV 5 (.func (.func 151) #[] #[])), (lookS, wdV 4 (.func (.func 152) #[] #[])), (turnS, wdV 1 (.func (.func 153) #[] #[])), (whoseS, wdV 1 (.func (.func 154) #[] #[])), (freeS, wdV 2 (.func (.func 155) #[] #[])), (depthS_, wdV 2 (.func (.func 156) #[] #[])), (firstS, wdV 3 (.func (.func 157) #[] #[])), (bookS, wdV 0 (.func (.func 158) #[] #[])), (sumS, wdV 0 (.func (.func 159) #[] #[]))]
def entN (k : Nat) : Bs := match k with | 1 => payS | 2 => fineS | 3 => backS | _ => []
def entI (k : Nat) : Value := if k = 3 then .iface 222 (.agg #[nt k]) else .iface 218 (.agg #[nt k])
def bkV (b : Nat) : Value := .func (.func 225) #[] #[pt b]
def entW (b : Nat → Nat) : Nat → List (Bs × Value)
  | 0 => []
  | k + 1 => entW b k ++ if k = 0 then [] else [(entN k, wdV (if k = 3 then 2 else 1) (bkV (b k)))]
theorem entW_cg {b c : Nat → Nat} : ∀ {k : Nat}, (∀ j, j < k → b j = c j) → entW b k = entW c k
  | 0, _ => rfl
  | k + 1, h => by rw [entW, entW, entW_cg (fun j hj => h j (by omega)), h k (by omega)]
theorem ent_new {b : Nat → Nat} {k : Nat} (h1 : 1 ≤ k) (h3 : k < 4) : entN k ∉ (w9L ++ entW b k).map (·.1) := by
  match k, h1, h3 with
  | 1, _, _ => show payS ∉ [ticketS, lookS, turnS, whoseS, freeS, depthS_, firstS, bookS, sumS]; decide
  | 2, _, _ => show fineS ∉ [ticketS, lookS, turnS, whoseS, freeS, depthS_, firstS, bookS, sumS, payS]; decide
  | 3, _, _ => show backS ∉ [ticketS, lookS, turnS, whoseS, freeS, depthS_, firstS, bookS, sumS, payS, fineS]; decide
theorem entN_len (k : Nat) : (entN k).length ≤ 2 ^ 40 := by
  unfold entN; split <;> decide
def EntH (b : Nat → Nat) (D : Imm) (k : Nat) : Prop := ∀ j, 1 ≤ j → j < k → D (b j) = some (.cells (List.toArray [entI j]) 220 (0, 0))
def updB (b : Nat → Nat) (k v : Nat) : Nat → Nat := fun j => if j = k then v else b j
theorem entW_upd {b : Nat → Nat} {k v : Nat} : entW (updB b k v) (k + 1) = entW b k ++ if k = 0 then [] else [(entN k, wdV (if k = 3 then 2 else 1) (bkV v))] := by
  rw [entW, entW_cg (c := b) (fun j hj => by unfold updB; rw [if_neg (by omega)])]
  unfold updB; rw [if_pos rfl]
theorem EntH.upd {b : Nat → Nat} {D D' : Imm} {k v : Nat} {w : World} (h : EntH b D k) (hX : DExt w D D') (hv : D' v = some (.cells (List.toArray [entI k]) 220 (0, 0))) : EntH (updB b k v) D' (k + 1) := fun j h1 h2 => by
  unfold updB
  by_cases e : j = k
  · subst e; rw [if_pos rfl]; exact hv
  rw [if_neg e]; exact hX.old _ _ (h j h1 (by omega))
theorem al_upd {es : Array MapEntry} {b : Nat → Nat} {k v : Nat} {u : Value} (h1 : 1 ≤ k) (hn : wdV (if k = 3 then 2 else 1) (bkV v) = u) (h : AL es ((w9L ++ entW b k) ++ [(entN k, u)])) : AL es (w9L ++ entW (updB b k v) (k + 1)) := by
  rw [entW_upd, if_neg (by omega), hn, ← List.append_assoc]; exact h
theorem strK : Go.Maps.Keyed Tryz.prog 9 := Go.Maps.Keyed.of_law (WideMaps.string_law Tryz.underlying9)
theorem numbersF_g (k : Int) (w : World) : Gives Tryz.prog 340 [.agg #[it k]] w (it 1) := by
  unfold Gives
  refine en Tryz.func340 rfl Tryz.ntmps340 zI (g [[1],[1,0]] ?_)
  refine WL.so (SO.box rfl rfl) rfl (zw fun b1 hb1 => ?_)
  refine g [[4],[5,2]] ?_
  refine WP.ret1 rfl rfl rfl (RV.tmp rfl) (fun w hI => ⟨rfl, hI.keep⟩)
theorem numbersG_g (k : Int) (w : World) : Gives Tryz.prog 342 [.agg #[it k]] w (it 2) := by
  unfold Gives
  refine en Tryz.func342 rfl Tryz.ntmps342 zI (g [[1],[1,0]] ?_)
  refine WL.so (SO.box rfl rfl) rfl (zw fun b1 hb1 => ?_)
  refine g [[4],[5,2]] ?_
  refine WP.ret1 rfl rfl rfl (RV.tmp rfl) (fun w hI => ⟨rfl, hI.keep⟩)
theorem bookedM_g (t : TypeId) (u : Value) (D : Imm) (w : World) (hH : Holds D w) : Makes Tryz.prog 160 [.iface t u] w D (fun v D' => ∃ bk, v = bkV bk ∧ D' bk = some (.cells (List.toArray [.iface t u]) 220 (0, 0))) := by
  unfold Makes
  refine en Tryz.func160 rfl Tryz.ntmps160 (Inv.start hH) (g [[1],[1,0]] ?_)
  refine WL.so (SO.box rfl rfl) rfl (zw fun b1 hb1 => ?_)
  refine g [[4]] ?_
  refine WC.freezeN 0 b1 (.cells (List.toArray [.iface t u]) 220 (0, 0)) rfl rfl hb1 (fun D1 hX1 h1 => ?_)
  
  refine g [[6,2,1]] ?_
  refine WP.ret1 rfl rfl rfl (RV.tmp rfl) (fun w1 hI => ⟨_, D1, rfl, hI.keep, hI.imm, hX1, b1, rfl, h1⟩)
theorem words_g (D : Imm) (hL : LibW D) (w : World) (hH : Holds D w) : Makes Tryz.prog 73 [] w D (fun v D' => ∃ bm es ck bq, v = .map (some bm) ∧ D' bm = some (.map es ck) ∧ AL es (w9L ++ entW bq 4) ∧ EntH bq D' 4) := by
  unfold Makes
  obtain ⟨mt, mfz, hmk⟩ := hL.ents
  refine en Tryz.func73 rfl Tryz.ntmps73 (Inv.start hH) (g [[1]] ?_)
  refine WC.ofFr [] trivial (g [[5],[1,0]] ?_)
  refine WL.so SO.makeMap rfl ?_
  rintro _ _ _ ⟨b5, hb5, rfl, rfl, rfl⟩
  refine g [[1]] ?_
  refine WL.so (SO.insA (j := 0) strK UnF.h UnF.h rfl (y := ticketS) (by decide) rfl rfl rfl AL.nil (G := []) (by decide)) rfl ?_
  rintro _ _ _ ⟨rfl, es1, ck1, rfl, hM1⟩
  have hM := hM1
  clear hM1
  refine g [[1]] ?_
  refine WL.so (SO.insA (j := 0) strK UnF.h UnF.h rfl (y := lookS) (by decide) rfl rfl rfl hM (G := [(ticketS, wdV 5 (.func (.func 151) #[] #[]))]) (by decide)) rfl ?_
  rintro _ _ _ ⟨rfl, es1, ck1, rfl, hM1⟩
  clear hM
  have hM := hM1
  clear hM1
  refine g [[1]] ?_
  refine WL.so (SO.insA (j := 0) strK UnF.h UnF.h rfl (y := turnS) (by decide) rfl rfl rfl hM (G := [(ticketS, wdV 5 (.func (.func 151) #[] #[])), (lookS, wdV 4 (.func (.func 152) #[] #[]))]) (by decide)) rfl ?_
  rintro _ _ _ ⟨rfl, es1, ck1, rfl, hM1⟩
  clear hM
  have hM := hM1
  clear hM1
  refine g [[1]] ?_
  refine WL.so (SO.insA (j := 0) strK UnF.h UnF.h rfl (y := whoseS) (by decide) rfl rfl rfl hM (G := [(ticketS, wdV 5 (.func (.func 151) #[] #[])), (lookS, wdV 4 (.func (.func 152) #[] #[])), (turnS, wdV 1 (.func (.func 153) #[] #[]))]) (by decide)) rfl ?_
  rintro _ _ _ ⟨rfl, es1, ck1, rfl, hM1⟩
  clear hM
  have hM := hM1
  clear hM1
  refine g [[1]] ?_
  refine WL.so (SO.insA (j := 0) strK UnF.h UnF.h rfl (y := freeS) (by decide) rfl rfl rfl hM (G := [(ticketS, wdV 5 (.func (.func 151) #[] #[])), (lookS, wdV 4 (.func (.func 152) #[] #[])), (turnS, wdV 1 (.func (.func 153) #[] #[])), (whoseS, wdV 1 (.func (.func 154) #[] #[]))]) (by decide)) rfl ?_
  rintro _ _ _ ⟨rfl, es1, ck1, rfl, hM1⟩
  clear hM
  have hM := hM1
  clear hM1
  refine g [[1]] ?_
  refine WL.so (SO.insA (j := 0) strK UnF.h UnF.h rfl (y := depthS_) (by decide) rfl rfl rfl hM (G := [(ticketS, wdV 5 (.func (.func 151) #[] #[])), (lookS, wdV 4 (.func (.func 152) #[] #[])), (turnS, wdV 1 (.func (.func 153) #[] #[])), (whoseS, wdV 1 (.func (.func 154) #[] #[])), (freeS, wdV 2 (.func (.func 155) #[] #[]))]) (by decide)) rfl ?_
  rintro _ _ _ ⟨rfl, es1, ck1, rfl, hM1⟩
  clear hM
  have hM := hM1
  clear hM1
  refine g [[1]] ?_
  refine WL.so (SO.insA (j := 0) strK UnF.h UnF.h rfl (y := firstS) (by decide) rfl rfl rfl hM (G := [(ticketS, wdV 5 (.func (.func 151) #[] #[])), (lookS, wdV 4 (.func (.func 152) #[] #[])), (turnS, wdV 1 (.func (.func 153) #[] #[])), (whoseS, wdV 1 (.func (.func 154) #[] #[])), (freeS, wdV 2 (.func (.func 155) #[] #[])), (depthS_, wdV 2 (.func (.func 156) #[] #[]))]) (by decide)) rfl ?_
  rintro _ _ _ ⟨rfl, es1, ck1, rfl, hM1⟩
  clear hM
  have hM := hM1
  clear hM1
  refine g [[1]] ?_
  refine WL.so (SO.insA (j := 0) strK UnF.h UnF.h rfl (y := bookS) (by decide) rfl rfl rfl hM (G := [(ticketS, wdV 5 (.func (.func 151) #[] #[])), (lookS, wdV 4 (.func (.func 152) #[] #[])), (turnS, wdV 1 (.func (.func 153) #[] #[])), (whoseS, wdV 1 (.func (.func 154) #[] #[])), (freeS, wdV 2 (.func (.func 155) #[] #[])), (depthS_, wdV 2 (.func (.func 156) #[] #[])), (firstS, wdV 3 (.func (.func 157) #[] #[]))]) (by decide)) rfl ?_
  rintro _ _ _ ⟨rfl, es1, ck1, rfl, hM1⟩
  clear hM
  have hM := hM1
  clear hM1
  refine g [[1]] ?_
  refine WL.so (SO.insA (j := 0) strK UnF.h UnF.h rfl (y := sumS) (by decide) rfl rfl rfl hM (G := [(ticketS, wdV 5 (.func (.func 151) #[] #[])), (lookS, wdV 4 (.func (.func 152) #[] #[])), (turnS, wdV 1 (.func (.func 153) #[] #[])), (whoseS, wdV 1 (.func (.func 154) #[] #[])), (freeS, wdV 2 (.func (.func 155) #[] #[])), (depthS_, wdV 2 (.func (.func 156) #[] #[])), (firstS, wdV 3 (.func (.func 157) #[] #[])), (bookS, wdV 0 (.func (.func 158) #[] #[]))]) (by decide)) rfl ?_
  rintro _ _ _ ⟨rfl, es1, ck1, rfl, hM1⟩
  clear hM
  have hM := hM1
  clear hM1
  refine g [[6],[6,1,0]] ?_
  refine WC.loop (fun y : Nat × Imm × Array MapEntry × Nat × (Nat → Nat) => [(1, .map (some b5)), (16, .agg (List.toArray [st [], st payS, st fineS, st backS])), (17, nt y.1)]) (fun y => [(b5, .map y.2.2.1 y.2.2.2.1)]) (fun y => y.2.1) (fun y => y.1 ≤ 4 ∧ DExt w D y.2.1 ∧ EntH y.2.2.2.2 y.2.1 y.1 ∧ AL y.2.2.1 (w9L ++ entW y.2.2.2.2 y.1)) (fun y => 4 - y.1) ⟨0, D, es1, ck1, fun _ => 0⟩ ⟨by omega, DExt.refl _ _, fun j h1 h2 => by simp only at h2; omega, hM⟩ (fun a w h => at_fr h ⟨rfl, rfl, rfl, trivial⟩) ?_
  rintro ⟨k, D1, es, ck, bq⟩ ⟨hk, hX1, hE, hM⟩
  dsimp only at hk hX1 hE hM
  refine g [[1],[5,1,16,17]] ?_
  refine WC.cond rfl (fun c18 => ?_) (fun c18 => ?_)
  · try simp only [zq] at c18
    have hk4 : k < 4 := by omega
    refine g [[5],[2,1,16,17]] ?_
    refine WL.yd (Yd.indexV UnF.h AgF.h SzF.h rfl rfl (by omega) (v := st (entN k)) (by match k, hk4 with | 0, _ => rfl | 1, _ => rfl | 2, _ => rfl | 3, _ => rfl)) rfl (g [[6],[5,3,2,1,16,17]] ?_)
    refine WC.cond rfl (fun c22 => ?_) (fun c22 => ?_)
    · try simp only [zq] at c22
      refine g [[4],[4,1,16,17]] ?_
      obtain rfl : k = 0 := by omega
      exact WP.again (⟨1, D1, es, ck, bq⟩ : Nat × Imm × Array MapEntry × Nat × (Nat → Nat)) ⟨by simp only; omega, hX1, fun j h1 h2 => by simp only at h2; omega, hM⟩ (by simp only; omega) (fun aa ww h => at_drop 0 h ⟨rfl, rfl, rfl, trivial⟩ (List.Perm.refl _))
    try simp only [zq] at c22
    refine g [[3],[9,3,2,1,16,17],[5,4,3,2,1,16,17]] ?_
    refine WC.cond rfl (fun c27 => ?_) (fun c27 => ?_)
    · try simp only [zq] at c27
      refine g [[8,4,3,2,1,16,17],[4,4,3,1,16,17]] ?_
      refine WL.so (SO.call (Enters.meth CaF.h (fun w => by kernel_rfl) rfl rfl) (fun w hI => numbersG_g k _)) rfl (zs (g [[1]] ?_))
      refine WL.so (SO.makes (Enters.func Tryz.call160 rfl) (fun w1 hI => bookedM_g _ _ _ _ hI.imm)) rfl ?_
      rintro _ D2 _ ⟨hX2, ⟨bk, rfl, hbk⟩, rfl⟩
      refine g [[1]] ?_
      refine WL.so (SO.updA (j := 0) strK UnF.h UnF.h rfl (entN_len k) rfl rfl rfl hM (ent_new (by omega) hk4)) rfl ?_
      rintro _ _ _ ⟨rfl, es1, ck1, rfl, hM1⟩
      refine g [[3],[4,1,16,17]] ?_
      obtain rfl : k = 3 := by omega
      exact WP.again (⟨4, D2, es1, ck1, updB bq 3 bk⟩ : Nat × Imm × Array MapEntry × Nat × (Nat → Nat)) ⟨by simp only; omega, hX1.trans hX2 (Nat.le_refl _), hE.upd hX2 hbk, al_upd (by omega) rfl hM1⟩ (by simp only; omega) (fun aa ww h => at_drop 0 h ⟨rfl, rfl, rfl, trivial⟩ (List.Perm.refl _))
    try simp only [zq] at c27
    refine g [[2],[4,4,3,1,16,17]] ?_
    refine WL.so (SO.call (Enters.meth CaF.h (fun w => by kernel_rfl) rfl rfl) (fun w hI => numbersF_g k _)) rfl (zs (g [[1]] ?_))
    refine WL.so (SO.makes (Enters.func Tryz.call160 rfl) (fun w1 hI => bookedM_g _ _ _ _ hI.imm)) rfl ?_
    rintro _ D2 _ ⟨hX2, ⟨bk, rfl, hbk⟩, rfl⟩
    refine g [[1]] ?_
    refine WL.so (SO.updA (j := 0) strK UnF.h UnF.h rfl (entN_len k) rfl rfl rfl hM (ent_new (by omega) hk4)) rfl ?_
    rintro _ _ _ ⟨rfl, es1, ck1, rfl, hM1⟩
    refine g [[3],[4,1,16,17]] ?_
    exact WP.again (⟨k + 1, D2, es1, ck1, updB bq k bk⟩ : Nat × Imm × Array MapEntry × Nat × (Nat → Nat)) ⟨by simp only; omega, hX1.trans hX2 (Nat.le_refl _), hE.upd hX2 (by dsimp only; rw [hbk]; unfold entI; rw [if_neg (by omega)]; rfl), al_upd (by omega) (by rw [if_neg (by omega)]; rfl) hM1⟩ (by simp only; omega) (fun aa ww h => at_drop 0 h ⟨rfl, rfl, rfl, trivial⟩ (List.Perm.refl _))
  try simp only [zq] at c18
  obtain rfl : k = 4 := by omega
  refine g [[6]] ?_
  refine WC.freezeN 0 b5 (.map es ck) rfl rfl hb5 (fun D3 hX3 h5 => ?_)
  refine g [[6,1]] ?_
  refine WP.ret1 rfl rfl rfl (RV.tmp rfl) (fun w1 hI => ⟨_, D3, rfl, hI.keep, hI.imm, hX1.trans hX3 (Nat.le_refl _), b5, es, ck, bq, rfl, h5, hM, fun j h1 h2 => hX3.old _ _ (hE j h1 h2)⟩)
end Go.Proofs.YtejgofaeafphjaaGreatDoor
