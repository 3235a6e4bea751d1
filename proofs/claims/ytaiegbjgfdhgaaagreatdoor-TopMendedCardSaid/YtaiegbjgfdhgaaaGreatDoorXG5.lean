import Derived.Test.YtaiegbjgfdhgaaaGreatDoorXG4
import Derived.Test.YtaiegbjgfdhgaaaGreatDoorXG1
import Derived.Test.YtaiegbjgfdhgaaaGreatDoorXG0
import Derived.Test.YtaiegbjgfdhgaaaGreatDoorXG2
set_option linter.all false
set_option maxRecDepth 100000
set_option maxHeartbeats 4000000
attribute [local irreducible] Go.W.WL Go.W.WLF Go.W.WC Go.W.WCF Go.W.WP Go.W.WA Go.W.WQ Go.W.WH Go.W.WHo Go.W.WCn Go.W.Yd Go.W.Qt Go.W.SO Go.Code.wp Go.Code.wpIn
namespace Go.Proofs.YtaiegbjgfdhgaaaGreatDoor
open Go.W Go.Bk
theorem zyA : zj Tryz.prog 135 [] [] := ⟨⟨_, Tryz.zeroValue135, rfl⟩, _, Tryz.underlying135, fun w => by simp []⟩
abbrev zwH := SaF.mk zyA
attribute [instance] zwH
theorem zyB : zj Tryz.prog 136 [] [] := ⟨⟨_, Tryz.zeroValue136, rfl⟩, _, Tryz.underlying136, fun w => by simp []⟩
abbrev zwI := SaF.mk zyB
attribute [instance] zwI
def utC (n : Nat) : List Value := [ut n]
theorem znB : ∀ s, (utC s).length = 1 := fun _ => rfl
def zmW (f : Nat → Int) : Prop := ∀ (x : Nat) (w : World), z8 Tryz.prog 165 [ut x] w (it (f x))
theorem zqo (s n : Nat) : decide (((s / 2 ^ n % 2 : Nat) : Int) = 1) = hasN s n := by
  unfold hasN; rw [Bool.eq_iff_iff]; simp only [decide_eq_true_eq]; omega
theorem zna {k : Nat} (h : k ≤ 60) : 2 ^ k < 2 ^ 63 := Nat.pow_lt_pow_right (by decide) (by omega)
theorem lt63 {a n : Nat} (h : a < 2 ^ n) (hn : n ≤ 60) : a < 2 ^ 63 := Nat.lt_trans h (zna hn)
theorem zvT : ∃ f : Nat → Int, zmW f ∧ zoE f znj 1 = ([-1, 0, -1], 1, 0) ∧ (KT f zoU true).1 = 2 := by
  apply Exists.intro;apply And.intro;intro x w;unfold z8;refine en Tryz.func165 rfl Tryz.ntmps165 zI (g [[1],[5,0],[2,2,0]] ?_);refine WL.yd (Yd.shr rfl rfl (by omega)) rfl (WL.yd (Yd.andW rfl rfl) rfl (g [[1]] ?_));refine WL.yd (Yd.andW rfl rfl) rfl (WL.yd (Yd.addW rfl rfl) rfl (g [[4],[2,0,2]] ?_));refine WL.yd (Yd.shr rfl rfl (by omega)) rfl (WL.yd (Yd.andW rfl rfl) rfl (g [[1]] ?_));refine WL.yd (Yd.andW rfl rfl) rfl (WL.yd (Yd.addW rfl rfl) rfl (g [[4],[2,0,2]] ?_));refine WL.yd (Yd.shr rfl rfl (by omega)) rfl (g [[1]] ?_);refine WL.yd (Yd.addW rfl rfl) rfl (WL.yd (Yd.andW rfl rfl) rfl (g [[4],[3,0,2]] ?_));refine WL.yd (Yd.shr rfl rfl (by omega)) rfl (WL.yd (Yd.addW rfl rfl) rfl (g [[4],[3,0,2]] ?_));refine WL.yd (Yd.shr rfl rfl (by omega)) rfl (WL.yd (Yd.addW rfl rfl) rfl (g [[4],[3,0,2]] ?_));refine WL.yd (Yd.shr rfl rfl (by omega)) rfl (WL.yd (Yd.addW rfl rfl) rfl (g [[4],[2,0,2]] ?_));refine WL.yd (Yd.convW UnF.h UnF.h rfl) rfl (WL.yd (Yd.andW rfl rfl) rfl (g [[4]] ?_));refine WP.ret1 rfl rfl rfl (RV.tmp rfl) (fun w hI => ⟨rfl, hI.keep⟩);exact ⟨by decide +kernel, by decide +kernel⟩
theorem zux (f : Nat → Int) (hf : zmW f) (x : Nat) (w : World) : z8 Tryz.prog 90 [ut x] w (it (f x)) := by
  unfold z8;refine en Tryz.func90 rfl Tryz.ntmps90 zI (g [[1],[9,0],[2,2,0]] ?_);refine WL.cl rfl (fun w hI => hf _ _) (g [[4]] ?_);refine WP.ret1 rfl rfl rfl (RV.tmp rfl) (fun w hI => ⟨rfl, hI.keep⟩)
theorem znE (s n : Nat) (hn : n ≤ 60) (w : World) : z8 Tryz.prog 63 [ut s, nt n] w (.bool (hasN s n)) := by
  unfold z8;refine en Tryz.func63 rfl Tryz.ntmps63 zI (g [[1],[5,0,1],[3,4,0,1]] ?_);refine WL.yd (Yd.shrG (.inl rfl) (by omega) rfl rfl) rfl (WL.yd (Yd.andU1 rfl rfl) rfl (g [[5]] ?_));refine WP.ret1 rfl rfl rfl (RV.tmp rfl) (fun w hI => ⟨zb (zqo s n), hI.keep⟩)
theorem zui (s o : Nat) (hs : s < 2 ^ 63) (ho : o < 2 ^ 63) (w : World) : z8 Tryz.prog 64 [ut s, ut o] w (ut (butN s o)) := by
  unfold z8;refine en Tryz.func64 rfl Tryz.ntmps64 zI (g [[1],[5,0,1],[3,4,0,1]] ?_);refine WL.yd (Yd.butG (.inl rfl) hs ho rfl rfl) rfl (g [[4]] ?_);refine WP.ret1 rfl rfl rfl (RV.tmp rfl) (fun w hI => ⟨rfl, hI.keep⟩)
theorem zst (f : Nat → Int) (hf : zmW f) (s : Nat) (w : World) : z8 Tryz.prog 123 [ut s] w (it (f s)) := by
  unfold z8;refine en Tryz.func123 rfl Tryz.ntmps123 zI (g [[1],[5,0],[2,2,0]] ?_);refine WL.cl rfl (fun w hI => zux f hf _ _) (g [[4]] ?_);refine WP.ret1 rfl rfl rfl (RV.tmp rfl) (fun w hI => ⟨rfl, hI.keep⟩)
theorem zp8 {l : List Nat} {k : Nat} (h : k < l.length) : uniN (l.take (k + 1)) = uniN (l.take k) ||| gt l k := by
  have e : gt l k = l[k] := by simp [gt, List.getD, h]
  unfold uniN;rw [List.take_succ_eq_append_getElem h, List.foldl_append, e]; rfl
theorem zuO {n : Nat} : ∀ (l : List Nat) (a : Nat), a < 2 ^ n → (∀ x ∈ l, x < 2 ^ n) → l.foldl (fun a b => a ||| b) a < 2 ^ n
  | [], _, h, _ => h
  | x :: l, a, h, hl => zuO l (a ||| x) (Nat.or_lt_two_pow h (hl x (by simp))) fun y hy => hl y (by simp [hy])
theorem zqO {n : Nat} {l : List Nat} (h : ∀ x ∈ l, x < 2 ^ n) (k : Nat) : uniN (l.take k) < 2 ^ n := zuO _ _ (Nat.two_pow_pos n) fun x hx => h x (List.mem_of_mem_take hx)
theorem yE {α : Type} [Inhabited α] {l : List α} {k : Nat} (h : k < l.length) : gt l k ∈ l := by
  have : gt l k = l[k] := by simp [gt, List.getD, h]
  rw [this]; exact List.getElem_mem h
theorem zqP (l : List Nat) (hl : ∀ x ∈ l, x < 2 ^ 63) (a : Option Addr) (n c : Nat) (D : Imm) (hS : SlL D 1 (l.map utC) a n) (hn : n ≤ 1000) (w : World) (hH : Holds D w) : z8 Tryz.prog 121 [.slice a n c] w (ut (uniN l)) := by
  unfold z8;obtain rfl := hS.len';refine en Tryz.func121 rfl Tryz.ntmps121 (Inv.start hH) (g [[1],[6,0],[7,2,0]] ?_);refine WC.loopF (fun k : Nat => [(2, ut (uniN (l.take k))), (5, .slice a l.length c), (6, nt l.length), (7, nt k)]) (fun k => k ≤ l.length) (fun k => l.length - k) 0 (Nat.zero_le _) (by exact ⟨rfl, rfl, rfl, rfl, trivial⟩) ?_;intro k hk;refine g [[1],[5,2,5,6,7]] ?_;refine WC.cond rfl (fun c8 => ?_) (fun c8 => ?_)
  · try simp only [zq] at c8
    have hkl : k < l.length := by omega
    refine g [[5],[1,2,5,6,7]] ?_;refine WL.yd (Yd.ix rfl rfl (hS.addr k (by omega))) rfl (WL.yd (Yd.l1 rfl ((hS.at k (by omega)).rd 0 rfl)) rfl (g [[3],[3,4,2,5,6,7]] ?_));refine WL.yd (Yd.orG (.inl rfl) (zqO hl k) (hl _ (yE hkl)) rfl rfl) rfl (g [[4],[4,2,5,6,7]] ?_);exact WP.againF (k + 1) hkl (by omega) ⟨by rw [zp8 hkl]; rfl, rfl, rfl, rfl, trivial⟩ (fun _ h => h) (fun h => h)
  try simp only [zq] at c8
  obtain rfl : k = l.length := by omega
  refine g [[6],[6,2]] ?_;refine WP.ret1 rfl rfl rfl (RV.tmp rfl) (fun w hI => ⟨by rw [List.take_length], hI.keep⟩)
theorem zra (m : Mv) (w : World) : z8 Tryz.prog 292 [.agg #[], .agg #[it m.at_, it m.place, it m.long.lo, it m.long.hi]] w (it (takI true m)) := by
  unfold z8;refine en Tryz.func292 rfl Tryz.ntmps292 zI (g [[1],[1,0,1]] ?_);refine WL.so (SO.box rfl rfl) rfl (zw fun b2 hb2 => ?_);refine WL.so (SO.box rfl rfl) rfl (zw fun b3 hb3 => ?_);refine g [[4],[8,4,3]] ?_;refine WP.ret1 rfl rfl rfl (RV.tmp rfl) (fun w hI => ⟨rfl, hI.keep⟩)
theorem zr9 (m : Mv) (w : World) : z8 Tryz.prog 293 [.agg #[], .agg #[it m.at_, it m.place, it m.long.lo, it m.long.hi]] w (it (takI false m)) := by
  unfold z8;refine en Tryz.func293 rfl Tryz.ntmps293 zI (g [[1],[1,0,1]] ?_);refine WL.so (SO.box rfl rfl) rfl (zw fun b2 hb2 => ?_);refine WL.so (SO.box rfl rfl) rfl (zw fun b3 hb3 => ?_);refine g [[4],[8,4,3]] ?_;refine WP.ret1 rfl rfl rfl (RV.tmp rfl) (fun w hI => ⟨rfl, hI.keep⟩)
def trT (sure : Bool) : TypeId := if sure then 135 else 136
def trV (sure : Bool) : Value := .iface (trT sure) (.agg #[])
def trF (sure : Bool) : FuncId := if sure then 292 else 293
theorem zqM (sure : Bool) : ∀ args w, (callFunc (trF sure) args).run Tryz.prog w = .ok (.enter (trF sure) args) w := by
  cases sure
  · exact Tryz.call293
  exact Tryz.call292
theorem zqN (sure : Bool) (w : World) : (method (Tryz.prog.types.size + Made.depth) (trT sure) (.agg #[]) "dipworks/horse.takes").run Tryz.prog w = .ok (trF sure, .agg #[]) w := by
  cases sure <;> kernel_rfl
theorem zsH (sure : Bool) (m : Mv) (w : World) : z8 Tryz.prog (trF sure) [.agg #[], .agg #[it m.at_, it m.place, it m.long.lo, it m.long.hi]] w (it (takI sure m)) := by
  cases sure
  · exact zr9 m w
  exact zra m w
theorem zsO (w : World) : z8 Tryz.prog 47 [.bool true] w (trV true) := by
  unfold z8;refine en Tryz.func47 rfl Tryz.ntmps47 zI (g [[1],[6,0],[6,2,0],[8,2]] ?_);refine WP.ret1 rfl rfl rfl (RV.tmp rfl) (fun w hI => ⟨rfl, hI.keep⟩)
theorem zsN (w : World) : z8 Tryz.prog 47 [.bool false] w (trV false) := by
  unfold z8;refine en Tryz.func47 rfl Tryz.ntmps47 zI (g [[1],[6,0],[8,2,0],[7,2]] ?_);refine WP.ret1 rfl rfl rfl (RV.tmp rfl) (fun w hI => ⟨rfl, hI.keep⟩)
theorem zn1 (sure : Bool) (w : World) : z8 Tryz.prog 47 [.bool sure] w (trV sure) := by
  cases sure
  · exact zsN w
  exact zsO w
theorem zwn {h : Hors} (hv : zmV h) (sure : Bool) {b : Int} (hb : 0 ≤ b ∧ b ≤ 1000) {i k : Nat} (hi : i < h.moves.length) (hk : k < h.moves.length) : (0 ≤ (gt h.moves i).place ∧ (gt h.moves i).place ≤ 30) ∧ (0 ≤ (gt h.moves k).place ∧ (gt h.moves k).place ≤ 30) ∧ (0 ≤ takI sure (gt h.moves i) ∧ takI sure (gt h.moves i) ≤ 20) ∧ 0 ≤ h.pace * max ((gt h.moves i).place - (gt h.moves k).place) ((gt h.moves k).place - (gt h.moves i).place) ∧ h.pace * max ((gt h.moves i).place - (gt h.moves k).place) ((gt h.moves k).place - (gt h.moves i).place) ≤ 90 := by
  have h1 := hv.moves _ (yE hi);have h2 := hv.moves _ (yE hk);have hp := hv.pace;refine ⟨h1.2.1, h2.2.1, ?_, ?_⟩
  · unfold takI; split <;> omega
  have hm : 0 ≤ max ((gt h.moves i).place - (gt h.moves k).place) ((gt h.moves k).place - (gt h.moves i).place) ∧ max ((gt h.moves i).place - (gt h.moves k).place) ((gt h.moves k).place - (gt h.moves i).place) ≤ 30 := by omega
  exact ⟨Int.mul_nonneg hp.1 hm.1, Int.le_trans (Int.mul_le_mul hp.2 hm.2 hm.1 (by decide)) (by decide)⟩
theorem uni2 (a b : Nat) : uniN [a, b] = a ||| b := by simp [uniN]
def chC (F : Nat → Nat) : List Value := [ut (F 0), ut (F 1), ut (F 2), ut (F 3), ut (F 4), ut (F 5), ut (F 6)]
abbrev chV (F : Nat → Nat) : Value := .agg (chC F).toArray
theorem zqW (F : Nat → Nat) {i : Nat} (hi : i < 7) : (chC F)[0 + i * 1]? = some (ut (F i)) := by
  rcases (show i = 0 ∨ i = 1 ∨ i = 2 ∨ i = 3 ∨ i = 4 ∨ i = 5 ∨ i = 6 by omega) with rfl | rfl | rfl | rfl | rfl | rfl | rfl <;> rfl
theorem zxk (F : Nat → Nat) {i : Nat} (hi : i < 7) (v : Nat) : splice (chC F) (0 + i * 1) [ut v] = chC (fun j => if j = i then v else F j) := by
  rcases (show i = 0 ∨ i = 1 ∨ i = 2 ∨ i = 3 ∨ i = 4 ∨ i = 5 ∨ i = 6 by omega) with rfl | rfl | rfl | rfl | rfl | rfl | rfl <;> simp [chC, splice]
def chG (h : Hors) (sure : Bool) (i k : Nat) : Nat → Nat := fun j => if j < i then chaN h sure j else if j = i then orF (folB h sure i) k else 0
theorem zt7 (h : Hors) (sure : Bool) : chG h sure 0 0 = fun _ => 0 := by
  funext j; unfold chG; rw [if_neg (Nat.not_lt_zero _)]; split <;> rfl
section
variable {h : Hors} {sure : Bool}
include h sure
theorem zt6 {i k : Nat} (hf : folB h sure i k = true) : (fun j => if j = i then chG h sure i k i ||| 2 ^ k else chG h sure i k j) = chG h sure i (k + 1) := by
  funext j; unfold chG;by_cases e : j = i
  · subst e; simp [orF, hf]
  simp [e]
theorem zv3 {i k : Nat} (hi : i < 7) (hf : folB h sure i k = true) : splice (chC (chG h sure i k)) (0 + i * 1) [ut (uniN [chG h sure i k i, 2 ^ k])] = chC (chG h sure i (k + 1)) := by rw [uni2, zxk _ hi, zt6 hf]
theorem zt5 {i k : Nat} (hf : folB h sure i k = false) : chG h sure i k = chG h sure i (k + 1) := by
  funext j; unfold chG;by_cases e : j = i
  · subst e; simp [orF, hf]
  simp [e]
theorem chG_row {i : Nat} (hi : i < h.moves.length) : chG h sure i h.moves.length = chG h sure (i + 1) 0 := by
  funext j; unfold chG;by_cases e : j = i
  · subst e; simp [chaN, hi]
  by_cases e2 : j < i
  · simp [e2, show j < i + 1 by omega]
  simp [e, e2, show ¬ j < i + 1 by omega, orF]
end
theorem zv2 (h : Hors) (sure : Bool) : chG h sure h.moves.length 0 = chaN h sure := by
  funext j; unfold chG;by_cases e : j < h.moves.length
  · simp [e]
  simp [e, chaN, orF]
theorem zxi {h : Hors} (hn : h.moves.length ≤ 7) {sure : Bool} {i k : Nat} (hk : k ≤ h.moves.length) (j : Nat) : chG h sure i k j < 2 ^ 7 := by
  unfold chG;split
  · exact znV h hn sure j
  split
  · exact Nat.lt_of_lt_of_le (znu _ _) (Nat.pow_le_pow_right (n := 2) (by decide) (by omega))
  decide
theorem zqv (n : Int) (h : Hors) (m : Sl) (D : Imm) (hR : Ky D h m) (w : World) (hH : Holds D w) : z8 Tryz.prog 69 [k3 h m, it n] w (.bool (zn9 h n)) := by
  unfold z8;obtain ⟨ma, mn, mc⟩ := m;obtain rfl : mn = h.moves.length := hR.r.len';have hRm : SlL D 4 (h.moves.map mvC) ma h.moves.length := hR.r;have nm : h.moves.length ≤ 9223372036854775807 := hR.n;dsimp only [k3, slV];refine en Tryz.func69 rfl Tryz.ntmps69 (Inv.start hH) (g [[1],[1,0,1]] ?_);refine WL.so (SO.box rfl rfl) rfl (zw fun b2 hb2 => ?_);refine g [[4],[7,4,2,1]] ?_;refine WL.cl rfl (fun w hI => znl _ _ _ _) (g [[4]] ?_);refine WP.ret1 rfl rfl rfl (RV.tmp rfl) (fun w hI => ⟨rfl, hI.keep⟩)
theorem zo4 (h : Hors) (hn : h.moves.length ≤ 7) (m : Sl) (D : Imm) (hR : Ky D h m) (w : World) (hH : Holds D w) : z8 Tryz.prog 49 [k3 h m] w (ut (2 ^ h.moves.length - 1)) := by
  unfold z8;obtain ⟨ma, mn, mc⟩ := m;obtain rfl : mn = h.moves.length := hR.r.len';have hRm : SlL D 4 (h.moves.map mvC) ma h.moves.length := hR.r;have nm : h.moves.length ≤ 9223372036854775807 := hR.n;dsimp only [k3, slV];refine en Tryz.func49 rfl Tryz.ntmps49 (Inv.start hH) (g [[1],[1,0]] ?_);refine WL.so (SO.box rfl rfl) rfl (zw fun b1 hb1 => ?_);refine g [[4],[5,2,1]] ?_;refine WL.yd (Yd.shlU rfl rfl (by omega)) rfl (WL.yd (Yd.subU (i := 2 ^ h.moves.length) (j := 1) rfl rfl (Nat.one_le_two_pow) (Nat.pow_le_pow_right (by omega) (by omega))) rfl (g [[4]] ?_));refine WP.ret1 rfl rfl rfl (RV.tmp rfl) (fun w hI => ⟨rfl, hI.keep⟩)
theorem zwm (sure : Bool) (b0 : Int) (i k : Nat) (h : Hors) (m : Sl) (D : Imm) (hR : Ky D h m) (w : World) (hH : Holds D w) (hv : zmV h) (hb : 0 ≤ b0 ∧ b0 ≤ 1000) (hi : i < h.moves.length) (hk : k < h.moves.length) : z8 Tryz.prog 120 [k3 h m, it b0, nt i, nt k, trV sure] w (it (thrI h sure b0 i k)) := by
  unfold z8;obtain ⟨ma, mn, mc⟩ := m;obtain rfl : mn = h.moves.length := hR.r.len';have hRm : SlL D 4 (h.moves.map mvC) ma h.moves.length := hR.r;have nm : h.moves.length ≤ 9223372036854775807 := hR.n;dsimp only [k3, slV];obtain ⟨hn1, hn2, hn3, hn4, hn5⟩ := zwn hv sure hb hi hk;have hpc := hv.pace;refine en Tryz.func120 rfl Tryz.ntmps120 (Inv.start hH) (g [[1],[1,0,1,2,3,4]] ?_);refine WL.so (SO.box rfl rfl) rfl (zw fun b5 hb5 => ?_);refine g [[4],[0,10,5,1,2,3,4]] ?_;refine WC.drawH [(b5, _)] zk zHl (g [[1000],[1001],[1002],[1003]] ?_);refine WH.yd (i := 4) zk zX rfl (Yd.ix rfl rfl (hRm.addr i (by omega))) rfl (WH.yd (i := 5) zk zX rfl (Yd.lV [_, _, _, _] rfl ((hRm.at i (by omega)).rdn 0 4 rfl)) rfl (g [[1006],[1007],[1008],[1009]] ?_));refine WH.yd (i := 10) zk zX rfl (Yd.ix rfl rfl (hRm.addr i (by omega))) rfl (WH.yd (i := 11) zk zX rfl (Yd.lV [_, _, _, _] rfl ((hRm.at k (by omega)).rdn 0 4 rfl)) rfl ?_);refine WH.two (i := 12) (j := 13) zk ?_ ?_
  · refine WHo.so rfl (SO.alloc ZvF.h rfl) rfl ?_;rintro _ _ _ ⟨b11, hb11, rfl, rfl, rfl⟩;refine ⟨(fun _ hI => hI.drop 1), ?_⟩;refine WH.one (i := 13) zk (WHo.so rfl (SO.alloc ZvF.h rfl) rfl ?_);rintro _ _ _ ⟨b12, hb12, rfl, rfl, rfl⟩;refine ⟨(fun _ hI => hI.drop 2), ?_⟩;refine WH.one (i := 14) zk (WHo.so rfl (SO.store 1 rfl SzF.h rfl rfl rfl rfl (zqb rfl) (za rfl)) rfl ?_);rintro _ _ _ ⟨rfl, rfl, rfl⟩;refine ⟨(fun _ hI => hI.drop 2), ?_⟩;refine WH.one (i := 15) zk (WHo.so rfl (SO.store 0 rfl SzF.h rfl rfl rfl rfl (zqb rfl) (za rfl)) rfl ?_);rintro _ _ _ ⟨rfl, rfl, rfl⟩;refine ⟨(fun _ hI => hI.drop 2), ?_⟩;refine WH.nil zk (g [[2],[0,12,11,10,5,1,4],[3020],[3]] ?_);refine WQ.q rfl (Qt.call (Enters.meth (zqM sure) (zqN sure) rfl rfl) (fun w hI => zsH sure _ _)) rfl (g [[14]] ?_);refine WQ.q rfl (Yd.qt (Yd.max2 rfl rfl)) rfl (g [[7]] ?_);refine WP.ret1 rfl rfl rfl (RV.tmp rfl) (fun w hI => ⟨rfl, hI.keep⟩)
  refine WHo.so rfl (SO.alloc ZvF.h rfl) rfl ?_;rintro _ _ _ ⟨b12, hb12, rfl, rfl, rfl⟩;refine ⟨(fun _ hI => hI.drop 1), ?_⟩;refine WH.one (i := 12) zk (WHo.so rfl (SO.alloc ZvF.h rfl) rfl ?_);rintro _ _ _ ⟨b11, hb11, rfl, rfl, rfl⟩;refine ⟨(fun _ hI => hI.drop 2), ?_⟩;refine WH.one (i := 14) zk (WHo.so rfl (SO.store 0 rfl SzF.h rfl rfl rfl rfl (zqb rfl) (za rfl)) rfl ?_);rintro _ _ _ ⟨rfl, rfl, rfl⟩;refine ⟨(fun _ hI => hI.drop 2), ?_⟩;refine WH.one (i := 15) zk (WHo.so rfl (SO.store 1 rfl SzF.h rfl rfl rfl rfl (zqb rfl) (za rfl)) rfl ?_);rintro _ _ _ ⟨rfl, rfl, rfl⟩;refine ⟨(fun _ hI => hI.drop 2), ?_⟩;refine WH.nil zk (g [[2],[0,11,12,10,5,1,4],[3020],[3]] ?_);refine WQ.q rfl (Qt.call (Enters.meth (zqM sure) (zqN sure) rfl rfl) (fun w hI => zsH sure _ _)) rfl (g [[14]] ?_);refine WQ.q rfl (Yd.qt (Yd.max2 rfl rfl)) rfl (g [[7]] ?_);refine WP.ret1 rfl rfl rfl (RV.tmp rfl) (fun w hI => ⟨rfl, hI.keep⟩)
theorem zmO (sure : Bool) (h : Hors) (m : Sl) (D : Imm) (hR : Ky D h m) (w : World) (hH : Holds D w) (hv : zmV h) : z8 Tryz.prog 46 [k3 h m, trV sure] w (chV (chaN h sure)) := by
  unfold z8;obtain ⟨ma, mn, mc⟩ := m;obtain rfl : mn = h.moves.length := hR.r.len';have hRm : SlL D 4 (h.moves.map mvC) ma h.moves.length := hR.r;have nm : h.moves.length ≤ 9223372036854775807 := hR.n;dsimp only [k3, slV];have hn7 := hv.n;refine en Tryz.func46 rfl Tryz.ntmps46 (Inv.start hH) (g [[1],[1,0,1]] ?_);refine WL.so (SO.box rfl rfl) rfl (zw fun b2 hb2 => ?_);refine WL.so (SO.alloc ZvF.h rfl) rfl (zw fun b4 hb4 => ?_);refine g [[4],[9,4,2,1]] ?_;refine WC.loop (fun i : Nat => [(1, trV sure), (2, pt b2), (4, pt b4), (11, .slice ma h.moves.length mc), (12, nt h.moves.length), (13, nt i)]) (fun i => [(b4, .cells (List.toArray (chC (chG h sure i 0))) 99 (0, 0)), (b2, .cells (List.toArray [it h.pace, .slice ma h.moves.length mc]) 93 (0, 0))]) (fun _ => D) (fun i => i ≤ h.moves.length) (fun i => h.moves.length - i) 0 (Nat.zero_le _) (fun a w ha => by rw [zt7]; exact y4 ha ⟨rfl, rfl, rfl, rfl, rfl, rfl, trivial⟩) ?_;intro i hi;refine g [[1],[5,1,2,4,11,12,13]] ?_;refine WC.cond rfl (fun c14 => ?_) (fun c14 => ?_)
  · try simp only [zq] at c14
    have hin : i < h.moves.length := by omega
    have hi7 : i < 7 := by omega
    have hmi := hv.moves _ (yE hin);refine g [[5],[2,1,2,4,11,12,13]] ?_;refine WL.yd (Yd.ix rfl rfl (hRm.addr i (by omega))) rfl (WL.yd (Yd.lV [_, _, _, _] rfl ((hRm.at i (by omega)).rdn 0 4 rfl)) rfl ?_);refine WL.so (SO.alloc ZvF.h rfl) rfl (zw fun b6 hb6 => ?_);refine g [[5],[9,5,6,1,2,4,11,12,13]] ?_;refine WC.loop (fun k : Nat => [(1, trV sure), (2, pt b2), (4, pt b4), (5, nt i), (6, pt b6), (11, .slice ma h.moves.length mc), (12, nt h.moves.length), (13, nt i), (20, .slice ma h.moves.length mc), (21, nt h.moves.length), (22, nt k)]) (fun k => [(b6, .cells (List.toArray (mvC (gt h.moves i))) 111 (0, 0)), (b4, .cells (List.toArray (chC (chG h sure i k))) 99 (0, 0)), (b2, .cells (List.toArray [it h.pace, .slice ma h.moves.length mc]) 93 (0, 0))]) (fun _ => D) (fun k => k ≤ h.moves.length) (fun k => h.moves.length - k) 0 (Nat.zero_le _) (fun a w ha => y4 ha ⟨rfl, rfl, rfl, rfl, rfl, rfl, rfl, rfl, rfl, rfl, rfl, trivial⟩) ?_;intro k hk;refine g [[1],[5,1,2,4,5,6,11,12,13,20,21,22]] ?_;refine WC.cond rfl (fun c23 => ?_) (fun c23 => ?_)
    · try simp only [zq] at c23
      have hkn : k < h.moves.length := by omega
      have hgl := lt63 (zxi hv.n (sure := sure) (i := i) (k := k) (by omega) i) (by omega);refine g [[5],[2,1,2,4,5,6,11,12,13,20,21,22]] ?_;refine WL.yd (Yd.ix rfl rfl (hRm.addr i (by omega))) rfl (WL.yd (Yd.lV [_, _, _, _] rfl ((hRm.at k (by omega)).rdn 0 4 rfl)) rfl ?_);refine WL.so (SO.alloc ZvF.h rfl) rfl (zw fun b8 hb8 => ?_);refine g [[5],[0,7,8,1,2,4,5,6,11,12,13,20,21,22],[3009],[6]] ?_;refine WQ.q rfl (Qt.callP CaF.h rfl (fun w hI => zwm sure (gt h.moves i).at_ i k h ⟨ma, h.moves.length, mc⟩ D ⟨hRm, nm⟩ _ hI.imm hv (by omega) hin hkn)) rfl (g [[6]] ?_);refine WC.cond rfl (fun c36 => ?_) (fun c36 => ?_)
      · try simp only [zq] at c36
        refine g [[0,7,1,2,4,5,6,11,12,13,20,21,22]] ?_;refine WC.drawH _ zk (fun _ hI => hI.drop 99) (g [[1000],[1001]] ?_);refine WH.yd (i := 2) zk zX rfl (Yd.indexA UnF.h SzF.h rfl rfl (by omega) (by omega)) rfl (g [[1004]] ?_);refine WH.yd (i := 5) zk zX rfl (Yd.shlU rfl rfl (by omega)) rfl ?_;refine WH.one (i := 3) zk (WHo.yd rfl (Yd.l1 rfl (Rd.own (k := 2) rfl (zqW _ hi7))) rfl ?_);refine WH.one (i := 6) zk (WHo.so rfl (SO.buildSlice1 UnF.h SzF.h ZvF.h rfl rfl rfl (vs := [_, _]) rfl rfl rfl) rfl ?_);rintro _ _ _ ⟨b43, hb43, rfl, rfl, rfl⟩;refine ⟨(fun _ hI => hI.drop 99), ?_⟩;refine WH.freezeN 0 b43 (.cells (List.toArray ([chG h sure i k i, 2 ^ k].flatMap utC ++ [])) 97 (0, 0)) rfl rfl hb43 (fun D43 hX43 h43 => ?_);refine WH.one (i := 7) zk (WHo.so rfl (SO.callP CaF.h rfl (fun w hI => zqP [chG h sure i k i, 2 ^ k] (by intro x hx; simp only [List.mem_cons, List.not_mem_nil, or_false] at hx; rcases hx with rfl | rfl; exact hgl; exact zna (by omega)) (some ⟨b43, 0, none⟩) 2 2 D43 (SlL.ofBlock (f := utC) (l := [chG h sure i k i, 2 ^ k]) (rest := []) znB h43) (by omega) _ hI.imm)) rfl (zs ⟨(fun _ hI => (hI.drop 99).shrink hX43.old), ?_⟩));refine WH.yd (i := 8) zk zX rfl (Yd.indexA UnF.h SzF.h rfl rfl (by omega) (by omega)) rfl ?_;refine WH.one (i := 9) zk (WHo.so rfl (SO.store 2 rfl SzF.h rfl rfl rfl rfl (by show 0 + i * 1 + 1 ≤ 7; omega) (za rfl)) rfl ?_);rintro _ _ _ ⟨rfl, rfl, rfl⟩;refine ⟨(fun _ hI => (hI.drop 99).shrink hX43.old), ?_⟩;refine WH.nil zk (g [[2],[4,1,2,4,5,6,11,12,13,20,21,22]] ?_);exact WP.again (k + 1) hkn (by omega) (fun a w ha => yM 1 ha ⟨rfl, rfl, rfl, rfl, rfl, rfl, rfl, rfl, rfl, rfl, rfl, trivial⟩ (by rw [← zv3 (h := h) (sure := sure) hi7 (decide_eq_true c36)]; exact List.Perm.refl _) hX43.old)
      try simp only [zq] at c36
      refine g [[3],[4,1,2,4,5,6,11,12,13,20,21,22]] ?_;exact WP.again (k + 1) hkn (by omega) (fun a w ha => zL 1 ha ⟨rfl, rfl, rfl, rfl, rfl, rfl, rfl, rfl, rfl, rfl, rfl, trivial⟩ (by rw [← zt5 (show folB h sure i k = false from decide_eq_false (by omega))]; exact List.Perm.refl _))
    try simp only [zq] at c23
    obtain rfl : k = h.moves.length := by omega
    refine g [[6],[4,1,2,4,11,12,13]] ?_;exact WP.again (i + 1) hin (by omega) (fun a w ha => zL 1 ha ⟨rfl, rfl, rfl, rfl, rfl, rfl, trivial⟩ (by rw [chG_row hin]; exact List.Perm.refl _))
  try simp only [zq] at c14
  obtain rfl : i = h.moves.length := by omega
  refine g [[6],[6,4]] ?_;refine WP.ret1 rfl rfl rfl (RV.cellN AgF.h SzF.h rfl (vs := [_, _, _, _, _, _, _]) rfl (RdN.own (k := 0) (n := 7) rfl rfl)) (fun w hI => ⟨congrArg (fun F => Ending.returned (chV F)) (zv2 h sure), hI.keep⟩)
theorem SA93 : zj Tryz.prog 93 [.int .i64 0, .slice none 0 0] [(0, 2)] := ⟨⟨_, Tryz.zeroValue93, rfl⟩, _, Tryz.underlying93, fun w => by simp [Tryz.sizeOf24]⟩
abbrev zys := SaF.mk SA93
attribute [instance] zys
def zyt (v : Bool) (is : Bool) (e1 e2 : List PanicEntry) (r : Value) (w : World) (e : Ending) (w' : World) : Prop :=
  (v = false → e = .panicked e1 ∧ Keep [] w w') ∧ (v = true → is = false → e = .panicked e2 ∧ Keep [] w w') ∧ (v = true → is = true → e = .returned r ∧ Keep [] w w')
theorem zor {α : Type} [Inhabited α] {l : List α} {p : α → Bool} : l.all p = true ↔ ∀ i, i < l.length → p (gt l i) = true := by
  rw [List.all_eq_true];constructor
  · exact fun h i hi => h _ (yE hi)
  intro h x hx;obtain ⟨i, hi, rfl⟩ := List.getElem_of_mem hx;have := h i hi;simpa [gt, List.getD, hi] using this
theorem zod {φ : Nat → Prop} {k : Nat} (h : ∀ j, j < k → φ j) (hk : φ k) : ∀ j, j < k + 1 → φ j := fun j hj => by
  rcases Nat.lt_or_ge j k with h1 | h1
  · exact h j h1
  obtain rfl : j = k := by omega
  exact hk
theorem zxS {m : Mv} (h1 : inB m.at_ 0 200 = true) (h2 : inB m.place 0 30 = true) (h3 : 1 ≤ m.long.lo) (h4 : m.long.lo ≤ m.long.hi) (h5 : m.long.hi ≤ 20) : moveB m = true := by
  simp only [moveB, h1, h2, spB, Bool.and_true, Bool.true_and, decide_eq_true_eq]; exact ⟨h3, h4, h5⟩
theorem zs0 {m : Mv} (h : moveB m = true) : inB m.at_ 0 200 = true ∧ inB m.place 0 30 = true ∧ 1 ≤ m.long.lo ∧ m.long.lo ≤ m.long.hi ∧ m.long.hi ≤ 20 := by
  simp only [moveB, spB, Bool.and_eq_true, decide_eq_true_eq] at h; exact ⟨h.1.1, h.1.2, h.2.1, h.2.2.1, h.2.2.2⟩
theorem zq1 (h : Hors) (m : Sl) (D : Imm) (hR : Ky D h m) (w : World) (hH : Holds D w) (fi : FuncId) (cp : List Value) (is : Bool) (hfi : ∀ args w, (callFunc fi args).run Tryz.prog w = .ok (.enter fi args) w) (hIs : qn h = true → ∀ w', Holds D w' → z8 Tryz.prog fi (k3 h m :: cp) w' (.bool is)) : Calls Tryz.prog 44 (List.toArray [k3 h m, .func (.func fi) #[] cp.toArray]) w fun e w' => zyt (qn h) is (zsz 1) (zsz 2) (k3 h m) w e w' := by
  obtain ⟨ma, mn, mc⟩ := m;obtain rfl : mn = h.moves.length := hR.r.len';have hRm : SlL D 4 (h.moves.map mvC) ma h.moves.length := hR.r;have nm : h.moves.length ≤ 9223372036854775807 := hR.n;dsimp only [k3, slV];refine en Tryz.func44 rfl Tryz.ntmps44 (Inv.start hH) (g [[1],[1,0,1]] ?_);refine WL.so (SO.box rfl rfl) rfl (zw fun b2 hb2 => ?_);refine WL.so (SO.alloc ZvF.h rfl) rfl (zw fun b4 hb4 => ?_);refine g [[3],[3,4,2,1]] ?_;refine WL.cl rfl (fun w hI => znl _ _ _ _) (g [[1]] ?_);refine WL.part 11 rfl (fun g11 => ?_) (fun g11 => ?_)
  · refine g [[5]] ?_;refine WL.part 16 rfl (fun g16 => ?_) (fun g16 => ?_)
    · try simp only [zq] at g16
      refine WL.cl rfl (fun w hI => zoZ _ _) (g [[4],[8,4,2,1]] ?_);refine WC.loopF (fun k : Nat => [(1, .func (.func fi) #[] cp.toArray), (2, pt b2), (4, pt b4), (19, .slice ma h.moves.length mc), (20, nt h.moves.length), (21, nt k)]) (fun k => k ≤ h.moves.length ∧ ∀ i, i < k → moveB (gt h.moves i) = true) (fun k => h.moves.length - k) 0 ⟨by omega, by intro i hi; omega⟩ (by exact ⟨rfl, rfl, rfl, rfl, rfl, rfl, trivial⟩) ?_;intro k ⟨hk, hd⟩;refine g [[1],[5,1,2,4,19,20,21]] ?_;refine WC.cond rfl (fun c22 => ?_) (fun c22 => ?_)
      · try simp only [zq] at c22
        have hkl : k < h.moves.length := by omega
        refine g [[5],[1,1,2,4,19,20,21]] ?_;refine WL.yd (Yd.ix rfl rfl (hRm.addr k (by omega))) rfl (WL.yd (Yd.lV [_, _, _, _] rfl ((hRm.at k (by omega)).rdn 0 4 rfl)) rfl ?_);refine WL.so (SO.alloc ZvF.h rfl) rfl (zw fun b6 hb6 => ?_);refine g [[3],[3,6,1,2,4,19,20,21]] ?_;refine WL.cl rfl (fun w hI => znl _ _ _ _) (g [[1]] ?_);refine WL.part 28 rfl (fun g28 => ?_) (fun g28 => ?_)
        · refine g [[2]] ?_;refine WL.sog rfl (SO.callP CaF.h rfl (fun w hI => znl _ _ _ _)) rfl (zs (g [[2]] ?_));refine WL.part 33 rfl (fun g33 => ?_) (fun g33 => ?_)
          · refine g [[6]] ?_;refine WL.part 39 rfl (fun g39 => ?_) (fun g39 => ?_)
            · try simp only [zq] at g39
              refine g [[9]] ?_;refine WL.part 48 rfl (fun g48 => ?_) (fun g48 => ?_)
              · try simp only [zq] at g48
                refine g [[5]] ?_;refine WL.part 53 rfl (fun g53 => ?_) (fun g53 => ?_)
                · try simp only [zq] at g53
                  refine WL.cl rfl (fun w hI => zoZ _ _) (g [[3],[4,1,2,4,19,20,21]] ?_);exact WP.againF (k + 1) ⟨hkl, zod hd (zxS (by assumption) (by assumption) (by assumption) (by assumption) (by assumption))⟩ (by omega) ⟨rfl, rfl, rfl, rfl, rfl, rfl, trivial⟩ (fun _ h => List.mem_cons_of_mem _ h) (fun h => (List.nodup_cons.1 h).2)
                try simp only [zq] at g53
                refine WL.nf rfl (fun w hI => zmR _ _) (g [[5]] ?_);refine WP.panicBody rfl (fun w hI => ?_)
                have hno : qn h = false := by
                  cases hb : qn h with
                  | false => rfl
                  | true =>
                    exfalso
                    simp only [qn, Bool.and_eq_true, decide_eq_true_eq] at hb;have := zs0 (zor.1 hb.2 k hkl); simp_all; omega
                exact ⟨fun _ => ⟨rfl, hI.keep⟩, fun h => absurd (hno.symm.trans h) (by decide), fun h => absurd (hno.symm.trans h) (by decide)⟩
              try simp only [zq] at g48
              refine g [[5]] ?_;refine WL.nf rfl (fun w hI => zmR _ _) (g [[5]] ?_);refine WP.panicBody rfl (fun w hI => ?_)
              have hno : qn h = false := by
                cases hb : qn h with
                | false => rfl
                | true =>
                  exfalso
                  simp only [qn, Bool.and_eq_true, decide_eq_true_eq] at hb;have := zs0 (zor.1 hb.2 k hkl); simp_all; omega
              exact ⟨fun _ => ⟨rfl, hI.keep⟩, fun h => absurd (hno.symm.trans h) (by decide), fun h => absurd (hno.symm.trans h) (by decide)⟩
            try simp only [zq] at g39
            refine g [[14]] ?_;refine WL.nf rfl (fun w hI => zmR _ _) (g [[5]] ?_);refine WP.panicBody rfl (fun w hI => ?_)
            have hno : qn h = false := by
              cases hb : qn h with
              | false => rfl
              | true =>
                exfalso
                simp only [qn, Bool.and_eq_true, decide_eq_true_eq] at hb;have := zs0 (zor.1 hb.2 k hkl); simp_all; omega
            exact ⟨fun _ => ⟨rfl, hI.keep⟩, fun h => absurd (hno.symm.trans h) (by decide), fun h => absurd (hno.symm.trans h) (by decide)⟩
          refine g [[20]] ?_;refine WL.nf rfl (fun w hI => zmR _ _) (g [[5]] ?_);refine WP.panicBody rfl (fun w hI => ?_)
          have hno : qn h = false := by
            cases hb : qn h with
            | false => rfl
            | true =>
              exfalso
              simp only [qn, Bool.and_eq_true, decide_eq_true_eq] at hb;have := zs0 (zor.1 hb.2 k hkl); simp_all; done
          exact ⟨fun _ => ⟨rfl, hI.keep⟩, fun h => absurd (hno.symm.trans h) (by decide), fun h => absurd (hno.symm.trans h) (by decide)⟩
        refine g [[25]] ?_;refine WL.nf rfl (fun w hI => zmR _ _) (g [[5]] ?_);refine WP.panicBody rfl (fun w hI => ?_)
        have hno : qn h = false := by
          cases hb : qn h with
          | false => rfl
          | true =>
            exfalso
            simp only [qn, Bool.and_eq_true, decide_eq_true_eq] at hb;have := zs0 (zor.1 hb.2 k hkl); simp_all; done
        exact ⟨fun _ => ⟨rfl, hI.keep⟩, fun h => absurd (hno.symm.trans h) (by decide), fun h => absurd (hno.symm.trans h) (by decide)⟩
      try simp only [zq] at c22
      obtain rfl : k = h.moves.length := by omega
      have hok : qn h = true := by
        simp only [qn, Bool.and_eq_true]; exact ⟨⟨by assumption, decide_eq_true (by omega)⟩, zor.2 hd⟩
      refine g [[6],[3,1,2,4]] ?_;refine WL.so (SO.alloc ZvF.h rfl) rfl (zw fun b7 hb7 => ?_);refine g [[4],[3,7,1,4]] ?_;refine WL.so (SO.call (Enters.val hfi rfl rfl) (fun w hI => hIs hok _ hI.imm)) rfl (zs ?_);refine WL.part 60 rfl (fun g60 => ?_) (fun g60 => ?_)
      · refine WL.cl rfl (fun w hI => zoZ _ _) (g [[3],[6,7,4]] ?_);refine WP.ret1 rfl rfl rfl (RV.cellN AgF.h SzF.h rfl (vs := [_, _]) rfl (RdN.own (k := 1) (n := 2) rfl rfl)) (fun w1 hI => ⟨fun h => absurd (hok.symm.trans h) (by decide), fun _ h => by simp_all, fun _ _ => ⟨rfl, hI.keep⟩⟩)
      refine WL.nf rfl (fun w hI => zmR _ _) (g [[1]] ?_);exact WP.panicBody rfl (fun w hI => ⟨fun h => absurd (hok.symm.trans h) (by decide), fun _ _ => ⟨rfl, hI.keep⟩, fun _ h => by simp_all⟩)
    try simp only [zq] at g16
    refine WL.nf rfl (fun w hI => zmR _ _) (g [[1]] ?_);refine WP.panicBody rfl (fun w hI => ?_)
    have hno : qn h = false := by
      cases hb : qn h with
      | false => rfl
      | true =>
        exfalso
        simp only [qn, Bool.and_eq_true, decide_eq_true_eq] at hb;have := hb.1.2; omega
    exact ⟨fun _ => ⟨rfl, hI.keep⟩, fun h => absurd (hno.symm.trans h) (by decide), fun h => absurd (hno.symm.trans h) (by decide)⟩
  refine g [[5]] ?_;refine WL.nf rfl (fun w hI => zmR _ _) (g [[1]] ?_);refine WP.panicBody rfl (fun w hI => ?_)
  have hno : qn h = false := by
    cases hb : qn h with
    | false => rfl
    | true =>
      exfalso
      simp only [qn, Bool.and_eq_true, decide_eq_true_eq] at hb;simp_all; done
  exact ⟨fun _ => ⟨rfl, hI.keep⟩, fun h => absurd (hno.symm.trans h) (by decide), fun h => absurd (hno.symm.trans h) (by decide)⟩
theorem zuW (F : Nat → Nat) (i k : Nat) (hi : i < 7) (hk : k < 7) (w : World) : z8 Tryz.prog 51 [chV F, nt i, nt k] w (.bool (apaB F i k)) := by
  unfold z8;refine en Tryz.func51 rfl Tryz.ntmps51 zI (g [[1],[1,0,1,2]] ?_);refine WL.so (SO.box rfl rfl) rfl (zw fun b3 hb3 => ?_);refine g [[4],[2,6,3,1,2]] ?_;refine WL.yd (Yd.indexA UnF.h SzF.h rfl rfl (by omega) (by omega)) rfl (WL.yd (Yd.l1 rfl (Rd.own (k := 0) rfl (zqW F hi))) rfl (g [[1]] ?_));refine WL.cl rfl (fun w hI => znE _ k (by omega) _) (g [[2]] ?_);refine WL.part 13 rfl (fun g13 => ?_) (fun g13 => ?_)
  · try simp only [zq] at g13
    refine g [[1]] ?_;refine WL.ydg rfl (Yd.indexA UnF.h SzF.h rfl rfl (by omega) (by omega)) rfl (WL.ydg rfl (Yd.l1 rfl (Rd.own (k := 0) rfl (zqW F hk))) rfl (g [[1]] ?_));refine WL.sog rfl (SO.callP CaF.h rfl (fun w hI => znE _ i (by omega) _)) rfl (zs (g [[6]] ?_));refine WP.ret1 rfl rfl rfl (RV.tmp rfl) (fun w hI => ⟨zb (by simp_all [apaB]), hI.keep⟩)
  try simp only [zq] at g13
  refine g [[11]] ?_;refine WP.ret1 rfl rfl rfl (RV.tmp rfl) (fun w hI => ⟨zb (by simp_all [apaB]), hI.keep⟩)
theorem w3 {n k : Nat} (h : k < n) : (List.range n).drop k = k :: (List.range n).drop (k + 1) := by
  rw [List.drop_eq_getElem_cons (by simpa using h), List.getElem_range]
theorem zmJ (n : Nat) : (List.range n).drop n = [] := List.drop_of_length_le (by simp)
section
variable {c : Nat → Nat} {sm : Nat} {rec : Nat → MSt → Bool × MSt}
include c sm rec
theorem zoY {i k : Nat} {ks : List Nat} {s : MSt} (h : hasN sm k = false ∨ hasN (c i) k = false ∨ hasN s.1 k = true) : matL c sm rec i (k :: ks) s = matL c sm rec i ks s := by
  rw [matL, if_pos h]
theorem ztG {i k : Nat} {ks : List Nat} {s : MSt} (h : ¬ (hasN sm k = false ∨ hasN (c i) k = false ∨ hasN s.1 k = true)) (hF : s.2 k = none) : matL c sm rec i (k :: ks) s = (true, (s.1 ||| 2 ^ k, putG s.2 k i)) := by
  rw [matL, if_neg h, hF]
section
variable {i k f : Nat} {ks : List Nat} {s : MSt} (h : ¬ (hasN sm k = false ∨ hasN (c i) k = false ∨ hasN s.1 k = true)) (hF : s.2 k = some f)
include i k f ks s h hF
theorem zvP (hr : (rec f (s.1 ||| 2 ^ k, s.2)).1 = true) : matL c sm rec i (k :: ks) s = (true, ((rec f (s.1 ||| 2 ^ k, s.2)).2.1, putG (rec f (s.1 ||| 2 ^ k, s.2)).2.2 k i)) := by
  rw [matL, if_neg h, hF];dsimp only;generalize rec f (s.1 ||| 2 ^ k, s.2) = q at hr ⊢;obtain ⟨b, s'⟩ := q;dsimp only at hr; subst hr; rfl
theorem zxR (hr : (rec f (s.1 ||| 2 ^ k, s.2)).1 = false) : matL c sm rec i (k :: ks) s = matL c sm rec i ks (rec f (s.1 ||| 2 ^ k, s.2)).2 := by
  conv => lhs; rw [matL, if_neg h, hF]
  dsimp only;generalize rec f (s.1 ||| 2 ^ k, s.2) = q at hr ⊢;obtain ⟨b, s'⟩ := q;dsimp only at hr; subst hr; rfl
end
end
def unsN (x : Nat) : Nat := ((List.range 7).filter fun k => !hasN x k).length
theorem zud {x k : Nat} (hx : x < 128) (hk : k < 7) (h : hasN x k = false) : unsN (x ||| 2 ^ k) + 1 = unsN x := by
  have : ∀ x, x < 128 → ∀ k, k < 7 → hasN x k = false → unsN (x ||| 2 ^ k) + 1 = unsN x := by decide +kernel
  exact this x hx k hk h
theorem zuy {x k : Nat} (hx : x < 128) (hk : k < 7) : x ||| 2 ^ k < 128 := Nat.or_lt_two_pow (n := 7) hx (Nat.pow_lt_pow_right (by decide) hk)
def FOk (F : Nat → Option Nat) : Prop := ∀ k v, F k = some v → k < 7 ∧ v < 7
theorem FOk.put {F : Nat → Option Nat} (h : FOk F) {k v : Nat} (hk : k < 7) (hv : v < 7) : FOk (putG F k v) := fun j u e => by
  unfold putG at e;split at e
  · rename_i e2; cases e; exact ⟨e2 ▸ hk, hv⟩
  exact h j u e
theorem wf_n {n : Nat} (h : n ≤ 1000) : (Lit.int .i64 (n : Int)).wf = true := by
  simp only [Lit.wf, Bool.and_eq_true, decide_eq_true_eq];exact ⟨Int.le_trans (by decide) (Int.natCast_nonneg n), Int.le_trans (show (n : Int) ≤ 1000 by omega) (by decide)⟩
theorem intK : Go.Maps.Keyed Tryz.prog 3 := Go.Maps.int_keyed Tryz.underlying3
theorem zvH {n : Nat} (h : n ≤ 1000) : keyOf Tryz.prog 3 (nt n) = some (.int .i64 (n : Int)) := Go.Maps.keyOf_int_mk Tryz.underlying3 (wf_n h)
theorem zqA : ∀ x y : Nat, nt x = nt y → x = y := fun x y h => by simp only [Value.int.injEq, true_and] at h; omega
abbrev MapM (es : Array MapEntry) (F : Nat → Option Nat) : Prop := MapG Tryz.prog 3 (fun n : Nat => nt n) (fun n : Nat => nt n) es F
theorem zvO {es : Array MapEntry} {F : Nat → Option Nat} (h : MapM es F) (hF : FOk F) : es.size = cntF F :=
  h.size zqA _ (List.Pairwise.filter _ List.nodup_range) fun x => by
    rw [List.mem_filter, List.mem_range];exact ⟨fun h => h.2, fun h => ⟨by obtain ⟨v, hv⟩ := Option.isSome_iff_exists.1 h; exact (hF x v hv).1, h⟩⟩
def setO (x : Nat) : Obj := .cells (List.toArray [ut x]) 97 (0, 0)
structure MEnv (D : Imm) (c : Nat → Nat) (sm bs bc be bf bm mb : Nat) : Prop where
  s : D bs = some (setO sm)
  c : D bc = some (.cells (List.toArray (chC c)) 99 (0, 0))
  f : D bf = some (.cells (List.toArray [.map (some mb)]) 215 (0, 0))
  m : D bm = some (.cells (List.toArray [.func (.func 122) #[] #[pt bs, pt bc, pt be, pt bf, pt bm]]) 107 (0, 0))
theorem MEnv.ext {w : World} {D D' : Imm} (hD : DExt w D D') {c : Nat → Nat} {sm bs bc be bf bm mb : Nat} (h : MEnv D c sm bs bc be bf bm mb) : MEnv D' c sm bs bc be bf bm mb := ⟨hD.old _ _ h.s, hD.old _ _ h.c, hD.old _ _ h.f, hD.old _ _ h.m⟩
def MatK (r : Bool × MSt) (u : Nat) (be mb : Nat) (D : Imm) (v : Value) (D' : Imm) (hp' : Hp) : Prop :=
  D' = D ∧ v = .bool r.1 ∧ r.2.1 < 128 ∧ unsN r.2.1 ≤ u ∧ FOk r.2.2 ∧ ∃ es clock, MapM es r.2.2 ∧ hp' = [(be, setO r.2.1), (mb, .map es clock)]
def MatS (c : Nat → Nat) (sm bs bc be bf bm mb : Nat) (f : Nat → MSt → Bool × MSt) (N : Nat) : Prop :=
  ∀ (i : Nat) (s : MSt) (es : Array MapEntry) (clock : Nat) (D : Imm) (w : World), i < 7 → s.1 < 128 → unsN s.1 + 1 ≤ N → MEnv D c sm bs bc be bf bm mb → FOk s.2 → MapM es s.2 → Inv D [(be, setO s.1), (mb, .map es clock)] [be, mb] w w →
    zp Tryz.prog 122 [nt i, pt bs, pt bc, pt be, pt bf, pt bm] w D [be, mb] (MatK (f i s) (unsN s.1) be mb D)
theorem zoA (c : Nat → Nat) (hc : ∀ i, c i < 128) (sm bs bc be bf bm mb : Nat) (rec : Nat → MSt → Bool × MSt) (N : Nat) (ih : MatS c sm bs bc be bf bm mb rec N) : MatS c sm bs bc be bf bm mb (fun i s => matL c sm rec i (List.range 7) s) (N + 1) := by
  intro i s es clock D w hi hs0 hun he hF0 hM0 hI0
  show zp _ _ _ _ _ _ (MatK (matL c sm rec i (List.range 7) s) (unsN s.1) be mb D);unfold zp;refine en Tryz.func122 rfl Tryz.ntmps122 hI0 (g [[1],[6,0,1,2,3,4,5],[5,7,0,1,2,3,4,5]] ?_);refine WC.loop (fun y : Nat × MSt × Array MapEntry × Nat => [(0, nt i), (1, pt bs), (2, pt bc), (3, pt be), (4, pt bf), (5, pt bm), (11, nt y.1)]) (fun y => [(be, setO y.2.1.1), (mb, .map y.2.2.1 y.2.2.2)]) (fun _ => D) (fun y => y.1 ≤ 7 ∧ matL c sm rec i (List.range 7) s = matL c sm rec i ((List.range 7).drop y.1) y.2.1 ∧ y.2.1.1 < 128 ∧ unsN y.2.1.1 ≤ unsN s.1 ∧ FOk y.2.1.2 ∧ MapM y.2.2.1 y.2.1.2) (fun y => 7 - y.1) (0, s, es, clock) ⟨by omega, rfl, hs0, Nat.le_refl _, hF0, hM0⟩ (fun a w ha => y4 ha ⟨rfl, rfl, rfl, rfl, rfl, rfl, rfl, trivial⟩) ?_;rintro ⟨k, t, es1, cl1⟩ ⟨hk, hres, hs1, hs2, hs3, hM1⟩;dsimp only at hk hres hs1 hs2 hs3 hM1;refine g [[1],[5,0,1,2,3,4,5,11]] ?_;refine WC.cond rfl (fun c12 => ?_) (fun c12 => ?_)
  · try simp only [zq] at c12
    have hk7 : k < 7 := by omega
    refine g [[5],[7,0,1,2,3,4,5,11],[1,8,0,1,2,3,4,5,11]] ?_;refine WL.yd (Yd.l1 rfl (Rd.imm he.s rfl)) rfl (g [[1]] ?_);refine WL.cl rfl (fun w hI => znE _ k (by omega) _) (g [[2]] ?_);refine WL.part 18 rfl (fun g18 => ?_) (fun g18 => ?_)
    · try simp only [zq] at g18
      refine g [[19],[4,0,1,2,3,4,5,11]] ?_;exact WP.again (k + 1, t, es1, cl1) ⟨hk7, by rw [hres, w3 hk7, zoY (.inl (by assumption))], hs1, hs2, hs3, hM1⟩ (by show 7 - (k + 1) < 7 - k; omega) (fun a w ha => y4 ha ⟨rfl, rfl, rfl, rfl, rfl, rfl, rfl, trivial⟩)
    try simp only [zq] at g18
    refine g [[1]] ?_;refine WL.ydg rfl (Yd.indexA UnF.h SzF.h rfl rfl (by omega) (by omega)) rfl (WL.ydg rfl (Yd.l1 rfl (Rd.imm he.c (zqW c hi))) rfl (g [[1]] ?_));refine WL.sog rfl (SO.callP CaF.h rfl (fun w hI => znE _ k (by omega) _)) rfl (zs (g [[3]] ?_));refine WL.part 26 rfl (fun g26 => ?_) (fun g26 => ?_)
    · try simp only [zq] at g26
      refine g [[11],[4,0,1,2,3,4,5,11]] ?_;exact WP.again (k + 1, t, es1, cl1) ⟨hk7, by rw [hres, w3 hk7, zoY (.inr (.inl (by assumption)))], hs1, hs2, hs3, hM1⟩ (by show 7 - (k + 1) < 7 - k; omega) (fun a w ha => y4 ha ⟨rfl, rfl, rfl, rfl, rfl, rfl, rfl, trivial⟩)
    try simp only [zq] at g26
    refine g [[2]] ?_;refine WL.sog rfl (SO.callP CaF.h rfl (fun w hI => znE _ k (by omega) _)) rfl (zs (g [[3]] ?_));refine WC.cond rfl (fun c30 => ?_) (fun c30 => ?_)
    · try simp only [zq] at c30
      refine g [[4],[4,0,1,2,3,4,5,11]] ?_;exact WP.again (k + 1, t, es1, cl1) ⟨hk7, by rw [hres, w3 hk7, zoY (.inr (.inr (by assumption)))], hs1, hs2, hs3, hM1⟩ (by show 7 - (k + 1) < 7 - k; omega) (fun a w ha => y4 ha ⟨rfl, rfl, rfl, rfl, rfl, rfl, rfl, trivial⟩)
    try simp only [zq] at c30
    have hno : ¬ (hasN sm k = false ∨ hasN (c i) k = false ∨ hasN t.1 k = true) := by rintro (h | h | h) <;> simp_all
    have hsn : hasN t.1 k = false := by cases hh : hasN t.1 k with
      | false => rfl
      | true => exact absurd (.inr (.inr hh)) hno
    have hul := zud hs1 hk7 hsn;refine g [[3],[0,8,0,1,2,3,4,5,11]] ?_;refine WC.drawH _ zk (fun _ hI => hI.drop 99) (g [[1001]] ?_);refine WH.yd (i := 2) zk zX rfl (Yd.shlU rfl rfl (by omega)) rfl ?_;refine WH.one (i := 0) zk (WHo.yd rfl (Yd.l1 rfl (Rd.own (k := 0) rfl rfl)) rfl ?_);refine WH.one (i := 3) zk (WHo.so rfl (SO.buildSlice1 UnF.h SzF.h ZvF.h rfl rfl rfl (vs := [_, _]) rfl rfl rfl) rfl ?_);rintro _ _ _ ⟨b34, hb34, rfl, rfl, rfl⟩;refine ⟨(fun _ hI => hI.drop 99), ?_⟩;refine WH.freezeN 0 b34 (.cells (List.toArray ([t.1, 2 ^ k].flatMap utC ++ [])) 97 (0, 0)) rfl rfl hb34 (fun D34 hX34 h34 => ?_);have he2 := he.ext hX34;refine WH.one (i := 4) zk (WHo.so rfl (SO.callP CaF.h rfl (fun w hI => zqP [t.1, 2 ^ k] (by intro x hx; simp only [List.mem_cons, List.not_mem_nil, or_false] at hx; rcases hx with rfl | rfl; exact lt63 (n := 7) hs1 (by omega); exact zna (by omega)) (some ⟨b34, 0, none⟩) 2 2 D34 (SlL.ofBlock (f := utC) (l := [t.1, 2 ^ k]) (rest := []) znB h34) (by omega) _ hI.imm)) rfl (zs ⟨(fun _ hI => (hI.drop 99).shrink hX34.old), ?_⟩));refine WH.one (i := 5) zk (WHo.so rfl (SO.store 0 rfl SzF.h rfl rfl rfl rfl (zqb rfl) (za rfl)) rfl ?_);rintro _ _ _ ⟨rfl, rfl, rfl⟩;refine ⟨(fun _ hI => (hI.drop 99).shrink hX34.old), ?_⟩;refine WH.nil zk (g [[2],[1,8,0,1,2,3,4,5,11]] ?_);refine WL.yd (Yd.l1 rfl (Rd.imm he2.f rfl)) rfl (g [[1]] ?_);refine WL.yd (Yd.lookGOk (kv := fun n : Nat => nt n) (vv := fun n : Nat => nt n) (y := k) zqA intK UnF.h ZvF.h rfl (zvH (by omega)) rfl (j := 1) rfl hM1) rfl (g [[8],[4,10,9,8,0,1,2,3,4,5,11]] ?_);refine WL.part 44 rfl (fun g44 => ?_) (fun g44 => ?_)
    · try simp only [zq] at g44
      have hnn : t.2 k = none := by cases hh : t.2 k with
        | none => rfl
        | some v => simp_all
      have hE1 : matL c sm rec i (List.range 7) s = (true, (t.1 ||| 2 ^ k, putG t.2 k i)) := by rw [hres, w3 hk7, ztG hno hnn]
      refine g [[8]] ?_;skip;refine g [[1,8,0,1,2,3,4,5,11]] ?_;refine WL.yd (Yd.l1 rfl (Rd.imm he2.f rfl)) rfl (g [[2]] ?_);refine WL.so (SO.putG (kv := fun n : Nat => nt n) (vv := fun n : Nat => nt n) (y := k) (u := i) zqA intK UnF.h rfl (zvH (by omega)) rfl rfl (j := 1) rfl hM1) rfl ?_;rintro _ _ _ ⟨rfl, es3, cl3, rfl, hM3⟩;refine g [[3],[10,0,1,2,3,4,5,11]] ?_;refine WP.ret1 rfl rfl rfl (RV.tmp rfl) (fun w1 hI => ⟨_, D, _, rfl, DExt.refl _ _, hI.shrink hX34.old, rfl, congrArg Value.bool (by rw [hE1]), by rw [hE1]; exact zuy hs1 hk7, by rw [hE1]; dsimp only; omega, by rw [hE1]; exact hs3.put hk7 hi, es3, cl3, by rw [hE1]; exact hM3, by rw [hE1, ← uni2]; rfl⟩)
    try simp only [zq] at g44
    refine WL.ydg rfl (Yd.l1 rfl (Rd.imm he2.m rfl)) rfl (g [[1]] ?_);obtain ⟨f, hf⟩ := Option.isSome_iff_exists.1 (show (t.2 k).isSome = true by assumption);have hfv := hs3 k f hf;refine WL.know 46 (nt f) rfl (by rw [hf]; rfl) ?_;refine WL.sog rfl (SO.altersN (own := []) (hpc := [(be, setO (t.1 ||| 2 ^ k)), (mb, .map es1 cl1)]) (by rw [← uni2]; exact fun _ h => h) (fun h => h) (fun _ h => h) (fun _ h => h) (Enters.val CaF.h rfl rfl) (fun w1 hI => ih f (t.1 ||| 2 ^ k, t.2) es1 cl1 D34 w1 hfv.2 (zuy hs1 hk7) (by show unsN (t.1 ||| 2 ^ k) + 1 ≤ N; omega) he2 hs3 hM1 hI)) rfl ?_;rintro _ _ _ ⟨hp3, _, ⟨rfl, rfl, hr1, hr2, hr3, es2, cl2, hM2, rfl⟩, rfl⟩;dsimp only at hr2;refine g [[3]] ?_;refine WC.cond rfl (fun c48 => ?_) (fun c48 => ?_)
    · refine g [[1]] ?_;have hE2 : matL c sm rec i (List.range 7) s = (true, ((rec f (t.1 ||| 2 ^ k, t.2)).2.1, putG (rec f (t.1 ||| 2 ^ k, t.2)).2.2 k i)) := by rw [hres, w3 hk7, zvP hno hf (by assumption)]
      refine g [[1,8,0,1,2,3,4,5,11]] ?_;refine WL.yd (Yd.l1 rfl (Rd.imm he2.f rfl)) rfl (g [[2]] ?_);refine WL.so (SO.putG (kv := fun n : Nat => nt n) (vv := fun n : Nat => nt n) (y := k) (u := i) zqA intK UnF.h rfl (zvH (by omega)) rfl rfl (j := 1) rfl hM2) rfl ?_;rintro _ _ _ ⟨rfl, es3, cl3, rfl, hM3⟩;refine g [[3],[10,0,1,2,3,4,5,11]] ?_;refine WP.ret1 rfl rfl rfl (RV.tmp rfl) (fun w1 hI => ⟨_, D, _, rfl, DExt.refl _ _, hI.shrink hX34.old, rfl, congrArg Value.bool (by rw [hE2]), by rw [hE2]; exact hr1, by rw [hE2]; exact Nat.le_trans hr2 (by omega), by rw [hE2]; exact hr3.put hk7 hi, es3, cl3, by rw [hE2]; exact hM3, by rw [hE2]; rfl⟩)
    refine g [[3],[4,0,1,2,3,4,5,11]] ?_;exact WP.again (k + 1, (rec f (t.1 ||| 2 ^ k, t.2)).2, es2, cl2) ⟨hk7, by rw [hres, w3 hk7, zxR hno hf (by assumption)], hr1, Nat.le_trans hr2 (by omega), hr3, hM2⟩ (by show 7 - (k + 1) < 7 - k; omega) (fun a w ha => yM 0 ha ⟨rfl, rfl, rfl, rfl, rfl, rfl, rfl, trivial⟩ (List.Perm.refl _) hX34.old)
  try simp only [zq] at c12
  obtain rfl : k = 7 := by omega
  have hend : matL c sm rec i (List.range 7) s = (false, t) := by rw [hres, zmJ]; rfl
  refine g [[6]] ?_;refine WC.ofFr [] trivial (g [[5]] ?_);refine WP.ret1 rfl rfl rfl (RV.tmp rfl) (fun w1 hI => ⟨_, D, _, rfl, DExt.refl _ _, hI, rfl, congrArg Value.bool (by rw [hend]), by rw [hend]; exact hs1, by rw [hend]; exact hs2, by rw [hend]; exact hs3, es1, cl1, by rw [hend]; exact hM1, by rw [hend]⟩)
theorem zrT (c : Nat → Nat) (hc : ∀ i, c i < 128) (sm bs bc be bf bm mb : Nat) : ∀ n, MatS c sm bs bc be bf bm mb (matF c sm n) (n + 1)
  | 0 => zoA c hc sm bs bc be bf bm mb (fun _ s => (false, s)) 0 (fun _ _ _ _ _ _ _ _ h => absurd h (by omega))
  | n + 1 => zoA c hc sm bs bc be bf bm mb (matF c sm n) (n + 1) (zrT c hc sm bs bc be bf bm mb n)
theorem zpd (c : Nat → Nat) (sm : Nat) {k : Nat} (hk : k < 7) (F : Nat → Option Nat) : allF c sm ((List.range 7).drop k) F = allF c sm ((List.range 7).drop (k + 1)) (if hasN sm k = false then F else (matF c sm 7 k (0, F)).2.2) := by
  conv => lhs; rw [w3 hk, allF]
theorem zo5 (pc : Nat → Int) (hpc : zmW pc) (c : Nat → Nat) (hc : ∀ i, c i < 128) (sm : Nat) (D : Imm) (w : World) (hH : Holds D w) : z8 Tryz.prog 48 [chV c, ut sm] w (it (horI pc c sm)) := by
  unfold z8;refine en Tryz.func48 rfl Tryz.ntmps48 (Inv.start hH) (g [[1],[1,0,1]] ?_);refine WL.so (SO.box rfl rfl) rfl (zw fun b2 hb2 => ?_);refine WL.so (SO.box rfl rfl) rfl (zw fun b3 hb3 => ?_);refine g [[4],[1,4,3,2]] ?_;refine WL.so SO.makeMap rfl ?_;rintro _ _ _ ⟨b9, hb9, rfl, rfl, rfl⟩;refine WL.so (SO.alloc ZvF.h rfl) rfl (zw fun b5 hb5 => ?_);refine g [[5]] ?_;refine WC.freezeN 0 b5 (.cells (List.toArray [.map (some b9)]) 215 (0, 0)) rfl rfl hb5 (fun D5 hX5 h5 => ?_);refine WC.freezeN 1 b3 (setO sm) rfl rfl hb3 (fun D3 hX3 h3 => ?_);refine WC.freezeN 1 b2 (.cells (List.toArray (chC c)) 99 (0, 0)) rfl rfl hb2 (fun D2 hX2 h2 => ?_);have h5 := hX2.old _ _ (hX3.old _ _ h5);have h3 := hX2.old _ _ h3;refine g [[5,5,4,3,2]] ?_;refine WC.loop (fun y : Nat × (Nat → Option Nat) × Array MapEntry × Nat => [(2, pt b2), (3, pt b3), (5, pt b5), (10, nt y.1)]) (fun y => [(b9, .map y.2.2.1 y.2.2.2)]) (fun _ => D2) (fun y => y.1 ≤ 7 ∧ allF c sm (List.range 7) (fun _ => none) = allF c sm ((List.range 7).drop y.1) y.2.1 ∧ FOk y.2.1 ∧ MapM y.2.2.1 y.2.1) (fun y => 7 - y.1) (0, fun _ => none, #[], 0) ⟨by show 0 ≤ 7; omega, rfl, (fun k v e => nomatch e), MapG.empty⟩ (fun a w ha => y4 ha ⟨rfl, rfl, rfl, rfl, trivial⟩) ?_;rintro ⟨k, F, es, cl⟩ ⟨hk, hres, hF, hM⟩;dsimp only at hk hres hF hM;refine g [[1],[5,2,3,5,10]] ?_;refine WC.cond rfl (fun c11 => ?_) (fun c11 => ?_)
  · try simp only [zq] at c11
    have hk7 : k < 7 := by omega
    refine g [[5],[7,2,3,5,10],[3,6,2,3,5,10]] ?_;refine WL.cl rfl (fun w hI => znE _ k (by omega) _) (g [[3]] ?_);refine WC.cond rfl (fun c16 => ?_) (fun c16 => ?_)
    · try simp only [zq] at c16
      refine g [[4],[4,2,3,5,10]] ?_;exact WP.again (k + 1, F, es, cl) ⟨hk7, by rw [hres, zpd c sm hk7, if_pos (by assumption)], hF, hM⟩ (by show 7 - (k + 1) < 7 - k; omega) (fun a w ha => y4 ha ⟨rfl, rfl, rfl, rfl, trivial⟩)
    try simp only [zq] at c16
    refine g [[3],[1,6,2,3,5,10]] ?_;refine WL.so (SO.alloc ZvF.h rfl) rfl (zw fun b7 hb7 => ?_);refine g [[4],[1,7,6,2,3,5,10]] ?_;refine WL.so (SO.alloc ZvF.h rfl) rfl (zw fun b8 hb8 => ?_);refine g [[3],[5,8,7,6,2,3,5,10]] ?_;refine WC.freezeN 0 b8 (.cells (List.toArray [.func (.func 122) #[] #[pt b3, pt b2, pt b7, pt b5, pt b8]]) 107 (0, 0)) rfl rfl hb8 (fun D8 hX8 h8 => ?_);refine g [[3,8,6,2,3,5,10]] ?_;refine WL.so (SO.altersN (own := []) (hpc := [(b7, setO 0), (b9, .map es cl)]) (fun _ h => h) (fun h => h) (fun _ h => h) (fun _ h => h) (Enters.val CaF.h rfl rfl) (fun w1 hI => zrT c hc sm b3 b2 b7 b5 b8 b9 7 k (0, F) es cl D8 w1 hk7 (show (0 : Nat) < 128 by decide) (show unsN 0 + 1 ≤ 7 + 1 by decide) ⟨hX8.old _ _ h3, hX8.old _ _ h2, hX8.old _ _ h5, h8⟩ hF hM hI)) rfl ?_;rintro _ _ _ ⟨hp3, _, ⟨rfl, rfl, hr1, hr2, hr3, es2, cl2, hM2, rfl⟩, rfl⟩;refine g [[3],[4,2,3,5,10]] ?_;exact WP.again (k + 1, (matF c sm 7 k (0, F)).2.2, es2, cl2) ⟨hk7, by rw [hres, zpd c sm hk7, if_neg (by simp_all)], hr3, hM2⟩ (by show 7 - (k + 1) < 7 - k; omega) (fun a w ha => yM 1 ha ⟨rfl, rfl, rfl, rfl, trivial⟩ (List.Perm.refl _) hX8.old)
  try simp only [zq] at c11
  obtain rfl : k = 7 := by omega
  have hend : allF c sm (List.range 7) (fun _ => none) = F := by rw [hres, zmJ]; rfl
  refine g [[6],[0,3,5],[3003],[1]] ?_;refine WQ.q rfl (Qt.callP CaF.h rfl (fun w hI => zst pc hpc _ _)) rfl (g [[2]] ?_);refine WL.yd (Yd.lenM rfl Tryz.underlying215 rfl (j := 0) rfl (zvO hM hF)) rfl (WL.yd (Yd.subW rfl rfl) rfl (g [[4]] ?_));refine WP.ret1 rfl rfl rfl (RV.tmp rfl) (fun w1 hI => ⟨congrArg (fun F => Ending.returned (it (wrI (pc sm - (cntF F : Int))))) hend.symm, hI.keep⟩)
def fstL (pc : Nat → Int) (n : Nat) (up : Bool) (i s : Nat) : List Nat := ((List.range (2 ^ n)).drop s).filter (fun s => decide (pc s = if up then (i : Int) else (n : Int) - (i : Int)))
def rstL (pc : Nat → Int) (n : Nat) (up : Bool) (i : Nat) : List Nat := ((List.range (n + 1)).drop i).flatMap fun (i : Nat) => (List.range (2 ^ n)).filter fun s => decide (pc s = if up then (i : Int) else (n : Int) - (i : Int))
section
variable (pc : Nat → Int)
include pc
theorem ztV {n i : Nat} (up : Bool) (h : i < n + 1) : rstL pc n up i = fstL pc n up i 0 ++ rstL pc n up (i + 1) := by
  unfold rstL fstL;rw [w3 h, List.flatMap_cons, List.drop_zero]
theorem zvn (n : Nat) (up : Bool) (i : Nat) : fstL pc n up i (2 ^ n) = [] := by unfold fstL; rw [zmJ]; rfl
theorem zw6 (n : Nat) (up : Bool) : rstL pc n up (n + 1) = [] := by unfold rstL; rw [zmJ]; rfl
theorem zxw {n s : Nat} (up : Bool) {i : Nat} (h : s < 2 ^ n) (hp : ¬ pc s = if up then (i : Int) else (n : Int) - (i : Int)) : fstL pc n up i s = fstL pc n up i (s + 1) := by
  unfold fstL;rw [w3 h, List.filter_cons, if_neg (by simpa using hp)]
theorem zvp {n s : Nat} (up : Bool) {i : Nat} (h : s < 2 ^ n) (hp : pc s = if up then (i : Int) else (n : Int) - (i : Int)) : fstL pc n up i s = s :: fstL pc n up i (s + 1) := by
  conv => lhs; unfold fstL
  rw [w3 h, List.filter_cons, if_pos (by simpa using hp)]; rfl
end
theorem znR {α : Type} [Inhabited α] {L done rest : List α} {x : α} (h : done ++ x :: rest = L) : done.length < L.length ∧ gt L done.length = x ∧ (done ++ [x]) ++ rest = L ∧ (done ++ [x]).length = done.length + 1 := by
  subst h;refine ⟨by simp, by simp [gt, List.getD], by simp, by simp⟩
theorem zpF (pc : Nat → Int) (hpc : zmW pc) (up : Bool) (h : Hors) (hn7 : h.moves.length ≤ 7) (m : Sl) (bb bu : Nat) (D : Imm) (hR : Ky D h m) (hb : D bb = some (.cells (List.toArray [it h.pace, slV m]) 93 (0, 0))) (hu : D bu = some (.cells (List.toArray [.bool up]) 4 (0, 0))) (w : World) : V9 Tryz.prog 128 [pt bb, pt bu] (setL pc h.moves.length up).length (fun k => ut (gt (setL pc h.moves.length up) k)) D w := by
  obtain ⟨ma, mn, mc⟩ := m;obtain rfl : mn = h.moves.length := hR.r.len';have hRm : SlL D 4 (h.moves.map mvC) ma h.moves.length := hR.r;have nm : h.moves.length ≤ 9223372036854775807 := hR.n;dsimp only [slV] at hb;have hp2 : 2 ^ h.moves.length ≤ 2 ^ 7 := Nat.pow_le_pow_right (by decide) hn7;intro ly St Sp hSm hround h0 hS0 hI0;unfold zp;refine en Tryz.func128 rfl Tryz.ntmps128 hI0 (WC.scope (g [[1],[9,0,1,2],[5,4,0,1,2]] ?_));refine WC.label (g [[2],[7,5,4,0,1,2]] ?_);refine WC.loop (fun y : Nat × Imm × Hp × List Nat => [(0, .func (.yield ly) #[] #[]), (1, pt bb), (2, pt bu), (4, nt h.moves.length), (5, .func (.func 123) #[] #[]), (14, nt (h.moves.length + 1)), (15, nt y.1)]) (fun y => y.2.2.1) (fun y => y.2.1) (fun y => y.1 ≤ h.moves.length + 1 ∧ DExt w D y.2.1 ∧ St y.2.2.2.length y.2.1 y.2.2.1 ∧ y.2.2.2 ++ rstL pc h.moves.length up y.1 = (setL pc h.moves.length up)) (fun y => h.moves.length + 1 - y.1) (0, D, h0, []) ⟨Nat.zero_le _, DExt.refl _ _, hS0, rfl⟩ (fun a w ha => y4 ha ⟨rfl, rfl, rfl, rfl, rfl, rfl, rfl, trivial⟩) ?_;rintro ⟨i, D1, h1, done⟩ ⟨hi, hX1, hS1, hL⟩;dsimp only at hi hX1 hS1 hL;have hb1 := hX1.old _ _ hb;have hu1 := hX1.old _ _ hu;refine g [[1],[5,0,1,2,4,5,14,15]] ?_;refine WC.cond rfl (fun c16 => ?_) (fun c16 => ?_)
  · try simp only [zq] at c16
    have hi2 : i < h.moves.length + 1 := by omega
    refine g [[5],[6,0,1,2,4,5,14,15],[7,6,0,1,2,4,5,14,15]] ?_;refine WC.seqJ (α := Unit) (fun _ => [(0, .func (.yield ly) #[] #[]), (1, pt bb), (2, pt bu), (4, nt h.moves.length), (5, .func (.func 123) #[] #[]), (7, it (if up then (i : Int) else (h.moves.length : Int) - (i : Int))), (14, nt (h.moves.length + 1)), (15, nt i)]) (fun _ => h1) (fun _ => D1) (fun _ => True) ?_ ?_
    · rintro _ -;refine g [[1],[2,0,1,2,4,5,7,14,15]] ?_;refine WL.so (SO.callP CaF.h rfl (fun w hI => zo4 h hn7 ⟨ma, h.moves.length, mc⟩ D1 ⟨hRm.ext hX1, nm⟩ _ hI.imm)) rfl ?_;rintro _ _ _ ⟨rfl, rfl, e2_⟩;obtain rfl := e2_.symm;refine WL.yd (Yd.addU (j := 1) rfl rfl (by omega)) rfl (g [[4]] ?_);rw [ztV pc up hi2] at hL;refine WC.know 25 (ut (2 ^ h.moves.length)) rfl (congrArg ut (by have := Nat.two_pow_pos h.moves.length; omega)) ?_;refine WC.loop (fun y : Nat × Imm × Hp × List Nat => [(0, .func (.yield ly) #[] #[]), (1, pt bb), (2, pt bu), (4, nt h.moves.length), (5, .func (.func 123) #[] #[]), (7, it (if up then (i : Int) else (h.moves.length : Int) - (i : Int))), (14, nt (h.moves.length + 1)), (15, nt i), (25, ut (2 ^ h.moves.length)), (26, ut y.1)]) (fun y => y.2.2.1) (fun y => y.2.1) (fun y => y.1 ≤ 2 ^ h.moves.length ∧ DExt w D y.2.1 ∧ St y.2.2.2.length y.2.1 y.2.2.1 ∧ y.2.2.2 ++ (fstL pc h.moves.length up i y.1 ++ rstL pc h.moves.length up (i + 1)) = (setL pc h.moves.length up)) (fun y => 2 ^ h.moves.length - y.1) (0, D1, h1, done) ⟨Nat.zero_le _, hX1, hS1, hL⟩ (fun a w ha => y4 ha ⟨rfl, rfl, rfl, rfl, rfl, rfl, rfl, rfl, rfl, rfl, trivial⟩) ?_;clear hL hS1 hX1 hb1 hu1;rintro ⟨s, D1, h1, done⟩ ⟨hs, hX1, hS1, hL⟩;dsimp only at hs hX1 hS1 hL;have hb1 := hX1.old _ _ hb;have hu1 := hX1.old _ _ hu;refine g [[1]] ?_;skip;refine g [[1,0,1,2,4,5,7,14,15,25,26]] ?_;skip;refine g [[4]] ?_;refine WC.cond rfl (fun c27 => ?_) (fun c27 => ?_)
      · try simp only [zq] at c27
        have hs2 : s < 2 ^ h.moves.length := by omega
        refine g [[5],[7,0,1,2,4,5,7,14,15,25,26],[3,8,0,1,2,4,5,7,14,15,25,26]] ?_;refine WL.so (SO.call (Enters.val CaF.h rfl rfl) (fun w hI => zst pc hpc s _)) rfl ?_;rintro _ _ _ ⟨rfl, rfl, e2_⟩;obtain rfl := e2_.symm;refine g [[4]] ?_;refine WC.cond rfl (fun c33 => ?_) (fun c33 => ?_)
        · try simp only [zq] at c33
          refine g [[4],[1,0,1,2,4,5,7,14,15,25,26]] ?_;refine WL.yd (Yd.addU (j := 1) rfl rfl (by omega)) rfl (g [[2]] ?_);exact WP.again (s + 1, D1, h1, done) ⟨by show s + 1 ≤ 2 ^ h.moves.length; omega, hX1, hS1, by rw [← hL, zxw pc up hs2 (by simpa using c33)]⟩ (by show 2 ^ h.moves.length - (s + 1) < 2 ^ h.moves.length - s; omega) (fun a w ha => y4 ha ⟨rfl, rfl, rfl, rfl, rfl, rfl, rfl, rfl, rfl, rfl, trivial⟩)
        try simp only [zq] at c33
        refine g [[3],[0,8,0,1,2,4,5,7,14,15,25,26]] ?_;refine WC.ofF (g [[1]] ?_);have hyes : pc s = (if up then (i : Int) else (h.moves.length : Int) - (i : Int)) := by simpa using c33
        rw [zvp pc up hs2 hyes] at hL;obtain ⟨hq1, hq2, hq3, hq4⟩ := znR (show done ++ s :: (fstL pc h.moves.length up i (s + 1) ++ rstL pc h.moves.length up (i + 1)) = (setL pc h.moves.length up) from hL);refine g [[2]] ?_;refine WLF.yieldN (l := ly) (vals := [ut s]) [] h1 (fun _ h => h) (fun h => h) rfl rfl rfl (fun w' hsz hI => by rw [← hq2]; exact hround done.length D1 h1 w' hq1 hsz hX1 hS1 hI) ?_;rintro b36 D5 hp5 hK5 hX5;refine g [[3]] ?_;refine WC.cond rfl (fun c37 => ?_) (fun c37 => ?_)
        · try simp only [zq] at c37
          refine g [[9]] ?_;refine WP.scNormal ?_
          refine WP.ret0 rfl rfl rfl  (fun w1 hI => by
            obtain ⟨htt, _⟩ | ⟨_, hK5⟩ := hK5
            · simp_all
            exact ⟨_, D5, hp5, rfl, hX1.trans hX5 (Nat.le_refl _), hI, .inr hK5⟩)
        try simp only [zq] at c37
        refine g [[3],[1,0,1,2,4,5,7,14,15,25,26]] ?_;refine WL.yd (Yd.addU (j := 1) rfl rfl (by omega)) rfl (g [[2]] ?_);obtain ⟨_, hK5⟩ | ⟨hff, _⟩ := hK5
        · exact WP.again (s + 1, D5, hp5, done ++ [s]) ⟨by show s + 1 ≤ 2 ^ h.moves.length; omega, hX1.trans hX5 (Nat.le_refl _), by rw [hq4]; exact hK5, hq3⟩ (by show 2 ^ h.moves.length - (s + 1) < 2 ^ h.moves.length - s; omega) (fun a w ha => y4 ha ⟨rfl, rfl, rfl, rfl, rfl, rfl, rfl, rfl, rfl, rfl, trivial⟩)
        simp_all
      try simp only [zq] at c27
      obtain rfl : s = 2 ^ h.moves.length := by omega
      refine g [[6],[4,0,1,2,4,5,14,15]] ?_;exact WP.again (i + 1, D1, h1, done) ⟨by show i + 1 ≤ h.moves.length + 1; omega, hX1, hS1, by rw [← hL, zvn]; rfl⟩ (by show h.moves.length + 1 - (i + 1) < h.moves.length + 1 - i; omega) (fun a w ha => y4 ha ⟨rfl, rfl, rfl, rfl, rfl, rfl, rfl, trivial⟩)
    skip;refine g [[1],[4,7,6,0,1,2,4,5,14,15]] ?_;refine WC.cond rfl (fun c21 => ?_) (fun c21 => ?_)
    · refine g [[4,7,6,0,1,2,4,5,14,15]] ?_;exact WP.join () trivial (fun a w ha => y4 ha ⟨rfl, rfl, rfl, rfl, rfl, congrArg (fun z => some (it z)) (by simp_all), rfl, rfl, trivial⟩)
    refine g [[1]] ?_;exact WP.join () trivial (fun a w ha => y4 ha ⟨rfl, rfl, rfl, rfl, rfl, congrArg (fun z => some (it z)) (by simp_all), rfl, rfl, trivial⟩)
  try simp only [zq] at c16
  obtain rfl : i = h.moves.length + 1 := by omega
  refine g [[4]] ?_;refine WP.scNormal ?_;refine WP.ret0 rfl rfl rfl  (fun w1 hI => ⟨_, D1, h1, rfl, hX1, hI, .inl (by rw [zw6, List.append_nil] at hL; rw [← hL]; exact hS1)⟩)
theorem zrr {α : Type} [Inhabited α] {L : List α} {P : α → Bool} {k : Nat} (hk : k < L.length) (hp : P (gt L k) = true) (hno : ∀ j, j < k → P (gt L j) = false) : L.find? P = some (gt L k) := by
  induction L generalizing k with
  | nil => exact absurd hk (Nat.not_lt_zero _)
  | cons a l ih =>
    cases k with
    | zero => exact List.find?_cons_of_pos hp
    | succ k =>
      have h0 : P a = false := hno 0 (by omega);rw [List.find?_cons_of_neg (by simpa using h0)];exact ih (k := k) (by simpa using hk) hp fun j hj => hno (j + 1) (by omega)
theorem zrs {α : Type} [Inhabited α] {L : List α} {P : α → Bool} (hno : ∀ j, j < L.length → P (gt L j) = false) : L.find? P = none := by
  rw [List.find?_eq_none];intro x hx;obtain ⟨i, hi, rfl⟩ := List.getElem_of_mem hx;have := hno i hi;simpa [gt, List.getD, hi] using this
theorem zto {L : List Nat} {P : Nat → Bool} {k : Nat} (hk : k < L.length) (hp : P (gt L k) = true) (hno : ∀ j, j < k → P (gt L j) = false) : ((gt L k = (L.find? P).getD 0) ∧ true = (L.find? P).isSome) := by rw [zrr hk hp hno]; exact ⟨rfl, rfl⟩
theorem zvo {L : List Nat} {P : Nat → Bool} (hno : ∀ j, j < L.length → P (gt L j) = false) : (0 = (L.find? P).getD 0 ∧ false = (L.find? P).isSome) := by rw [zrs hno]; exact ⟨rfl, rfl⟩
theorem zql (L : List Nat) (P : Nat → Bool) (gf : Nat) (lb : List Value) (fi : FuncId) (cp : List Value) (D : Imm) (w : World) (hit : ∀ w1, Holds D w1 → V9 Tryz.prog gf lb L.length (fun k => ut (gt L k)) D w1) (hgf : ∀ args w, (callFunc gf args).run Tryz.prog w = .ok (.enter gf args) w) (hfi : ∀ args w, (callFunc fi args).run Tryz.prog w = .ok (.enter fi args) w) (hP : ∀ s ∈ L, ∀ D' w', DExt w D D' → Holds D' w' → z8 Tryz.prog fi (ut s :: cp) w' (.bool (P s))) (hH : Holds D w) : z8 Tryz.prog 60 [.func (.func gf) #[] lb.toArray, .agg #[.func (.func fi) #[] cp.toArray]] w (.tuple #[ut ((L.find? P).getD 0), .bool (L.find? P).isSome]) := by
  unfold z8;refine enM Tryz.func60 rfl Tryz.ntmps60 (Inv.start hH) (g [[1],[1,0,1]] ?_);refine WL.so (SO.box rfl rfl) rfl (zw fun b3 hb3 => ?_);refine WL.so (SO.alloc ZvF.h rfl) rfl (zw fun b4 hb4 => ?_);refine WL.so (SO.alloc ZvF.h rfl) rfl (zw fun b5 hb5 => ?_);refine g [[4],[5,5,4,3,0],[0,3,4,5,7]] ?_;refine WC.rangeIterN (N := L.length) (arg := fun k => ut (gt L k)) (fun w1 _ hD1 => hit w1 hD1) rfl hgf rfl (fun k _ h => h = [(b5, .cells (List.toArray [.bool false]) 4 (0, 0)), (b4, .cells (List.toArray [ut 0]) 97 (0, 0)), (b3, .cells (List.toArray [.func (.func fi) #[] cp.toArray]) 133 (0, 0))] ∧ ∀ j, j < k → P (gt L j) = false) (fun c _ h => c = .ret ∧ ∃ k, k < L.length ∧ P (gt L k) = true ∧ (∀ j, j < k → P (gt L j) = false) ∧ h = [(b5, .cells (List.toArray [.bool true]) 4 (0, 0)), (b4, .cells (List.toArray [ut (gt L k)]) 97 (0, 0)), (b3, .cells (List.toArray [.func (.func fi) #[] cp.toArray]) 133 (0, 0))]) (fun _ _ _ _ _ h => h) ⟨rfl, fun j hj => absurd hj (Nat.not_lt_zero j)⟩ ?_ ?_ ?_
  · rintro rec1 l1 Dn0 k D5 _ w1 hrec hk ⟨rfl, hno⟩ hX5 hsz;unfold yP;refine g [[3,8,3,4,5]] ?_;refine WP.iterBegin 0 rfl hrec (g [[2],[4,6,3,4,5]] ?_);refine WLF.so (zn rfl) (SO.call (Enters.val hfi rfl rfl) (fun w hI => hP _ (yE hk) _ _ hX5 hI.imm)) rfl (zs (g [[2]] ?_));refine WCF.cond rfl (fun c12 => ?_) (fun c12 => ?_)
    · refine g [[1],[8,6,4,5]] ?_;exact WP.iterRetN (h1 := [_, _, _]) (fun _ h => h) (fun h => h) (DExt.refl _ _) ⟨rfl, k, hk, by assumption, hno, rfl⟩
    refine g [[2]] ?_;exact WP.iterOnN hrec (h1 := [_, _, _]) (fun _ h => h) (fun h => h) (DExt.refl _ _) ⟨rfl, zod hno (by assumption)⟩
  · rintro Dn1 D6 _ hDn1 hX6 ⟨rfl, hno⟩;have hv := zvo hno;refine g [[3],[7,4,5]] ?_;refine WP.retMs [Dn1] [_, _, _] [_, _] [_, _] rfl rfl (fun _ h => h) (fun h => h) rfl zV (fun w hI => ⟨by rw [← hv.1, ← hv.2]; rfl, hI.keep⟩)
  rintro Dn1 c D6 _ hDn1 hX6 ⟨rfl, k, hk, hp, hno, rfl⟩;have hv := zto hk hp hno;refine g [[3]] ?_;refine WP.retMs [Dn1] [_, _, _] [_, _] [_, _] rfl rfl (fun _ h => h) (fun h => h) rfl zV (fun w hI => ⟨by rw [← hv.1, ← hv.2]; rfl, hI.keep⟩)
theorem zss (up : Bool) (h : Hors) (m : Sl) (D : Imm) (hR : Ky D h m) (w : World) (hH : Holds D w) : y6 Tryz.prog 61 [k3 h m, .bool up] w D (fun v D' => ∃ bb bu, v = .func (.func 128) #[] #[pt bb, pt bu] ∧ D' bb = some (.cells (List.toArray [it h.pace, slV m]) 93 (0, 0)) ∧ D' bu = some (.cells (List.toArray [.bool up]) 4 (0, 0))) := by
  unfold y6;refine en Tryz.func61 rfl Tryz.ntmps61 (Inv.start hH) (g [[1],[1,0,1]] ?_);refine WL.so (SO.box rfl rfl) rfl (zw fun b2 hb2 => ?_);refine WL.so (SO.box rfl rfl) rfl (zw fun b3 hb3 => ?_);refine g [[4]] ?_;refine WC.freezeN 1 b2 (.cells (List.toArray [it h.pace, slV m]) 93 (0, 0)) rfl rfl hb2 (fun D1 hX1 h2 => ?_);refine WC.freezeN 0 b3 (.cells (List.toArray [.bool up]) 4 (0, 0)) rfl rfl hb3 (fun D2 hX2 h3 => ?_);refine g [[6,4,3,2]] ?_;refine WP.ret1 rfl rfl rfl (RV.tmp rfl) (fun w1 hI => ⟨_, D2, rfl, hI.keep, hI.imm, hX1.trans hX2 (Nat.le_refl _), b2, b3, rfl, hX2.old _ _ h2, h3⟩)
theorem zr0 (h : Hors) (m : Sl) (w : World) : z8 Tryz.prog 45 [k3 h m] w (.bool true) := by
  unfold z8;refine en Tryz.func45 rfl Tryz.ntmps45 zI (g [[1],[1,0]] ?_);refine WL.so (SO.box rfl rfl) rfl (zw fun b1 hb1 => ?_);refine g [[4],[5,2]] ?_;refine WP.ret1 rfl rfl rfl (RV.tmp rfl) (fun w hI => ⟨rfl, hI.keep⟩)
theorem zrI (h : Hors) (m : Sl) (w : World) : z8 Tryz.prog 59 [k3 h m] w (.bool true) := by
  unfold z8;refine en Tryz.func59 rfl Tryz.ntmps59 zI (g [[1],[1,0]] ?_);refine WL.so (SO.box rfl rfl) rfl (zw fun b1 hb1 => ?_);refine g [[4],[5,2]] ?_;refine WP.ret1 rfl rfl rfl (RV.tmp rfl) (fun w hI => ⟨rfl, hI.keep⟩)
theorem zps (h : Hors) (m : Sl) (n : Int) (b : Nat) (D : Imm) (hb : D b = some (.cells (List.toArray [it n]) 3 (0, 0))) (w : World) (hH : Holds D w) : z8 Tryz.prog 65 [k3 h m, pt b] w (.bool (inB n 0 7)) := by
  unfold z8;refine en Tryz.func65 rfl Tryz.ntmps65 (Inv.start hH) (g [[1],[1,0,1]] ?_);refine WL.so (SO.box rfl rfl) rfl (zw fun b2 hb2 => ?_);refine g [[4],[2,3,1]] ?_;refine WL.cl rfl (fun w hI => znl _ _ _ _) (g [[4]] ?_);refine WP.ret1 rfl rfl rfl (RV.tmp rfl) (fun w hI => ⟨rfl, hI.keep⟩)
theorem zof (one two : Int) (b1 b2_ : Nat) (h : Hors) (m : Sl) (D : Imm) (hR : Ky D h m) (w : World) (hH : Holds D w) (h1 : D b1 = some (.cells (List.toArray [it one]) 3 (0, 0))) (h2 : D b2_ = some (.cells (List.toArray [it two]) 3 (0, 0))) : z8 Tryz.prog 68 [k3 h m, pt b1, pt b2_] w (.bool (zn9 h one && zn9 h two)) := by
  unfold z8;refine en Tryz.func68 rfl Tryz.ntmps68 (Inv.start hH) (g [[1],[1,0,1,2]] ?_);refine WL.so (SO.box rfl rfl) rfl (zw fun b3 hb3 => ?_);refine g [[4],[3,4,3,1,2]] ?_;refine WL.cl rfl (fun w hI => zqv one h m D hR _ hI.imm) (g [[1]] ?_);refine WL.part 8 rfl (fun g8 => ?_) (fun g8 => ?_)
  · refine g [[2]] ?_;refine WL.sog rfl (SO.callP CaF.h rfl (fun w hI => zqv two h m D hR _ hI.imm)) rfl (zs (g [[5]] ?_));refine WP.ret1 rfl rfl rfl (RV.tmp rfl) (fun w hI => ⟨zb (by simp_all), hI.keep⟩)
  refine g [[8]] ?_;refine WP.ret1 rfl rfl rfl (RV.tmp rfl) (fun w hI => ⟨zb (by simp_all), hI.keep⟩)
theorem zrc {f : Nat → Bool} {n : Nat} : (List.range n).all f = true ↔ ∀ i, i < n → f i = true := by
  rw [List.all_eq_true]; exact ⟨fun h i hi => h i (List.mem_range.2 hi), fun h x hx => h x (List.mem_range.1 hx)⟩
theorem zuU {f : Nat → Bool} {n i : Nat} (hi : i < n) (h : f i = false) : (List.range n).all f = false := by
  cases hb : (List.range n).all f with
  | false => rfl
  | true => exact absurd (h.symm.trans (zrc.1 hb i hi)) (by decide)
def prfI (c : Nat → Nat) (s i : Nat) : Bool := !(hasN s i && !decide (butN s (2 ^ i) &&& c i = 0))
theorem zDq (c : Nat → Nat) (hc : ∀ i, c i < 128) (s : Nat) (hs : s < 128) (bb bc : Nat) (h : Hors) (m : Sl) (D : Imm) (hR : Ky D h m) (w : World) (hH : Holds D w) (hn7 : h.moves.length ≤ 7) (hb : D bb = some (.cells (List.toArray [it h.pace, slV m]) 93 (0, 0))) (hcc : D bc = some (.cells (List.toArray (chC c)) 99 (0, 0))) : z8 Tryz.prog 62 [ut s, pt bb, pt bc] w (.bool ((List.range h.moves.length).all (prfI c s))) := by
  unfold z8;obtain ⟨ma, mn, mc⟩ := m;obtain rfl : mn = h.moves.length := hR.r.len';have hRm : SlL D 4 (h.moves.map mvC) ma h.moves.length := hR.r;have nm : h.moves.length ≤ 9223372036854775807 := hR.n;dsimp only [slV] at hb;refine en Tryz.func62 rfl Tryz.ntmps62 (Inv.start hH) (g [[1],[6,0,1,2],[9,4,0,1,2]] ?_);refine WC.loopF (fun k : Nat => [(0, ut s), (2, pt bc), (9, nt h.moves.length), (10, nt k)]) (fun k => k ≤ h.moves.length ∧ ∀ j, j < k → prfI c s j = true) (fun k => h.moves.length - k) 0 ⟨Nat.zero_le _, fun j hj => absurd hj (Nat.not_lt_zero j)⟩ (by exact ⟨rfl, rfl, rfl, rfl, trivial⟩) ?_;intro k ⟨hk, hd⟩;refine g [[1],[5,0,2,9,10]] ?_;refine WC.cond rfl (fun c11 => ?_) (fun c11 => ?_)
  · try simp only [zq] at c11
    have hkl : k < h.moves.length := by omega
    refine g [[5],[6,0,2,9,10],[0,5,0,2,9,10],[3011],[2]] ?_;refine WQ.q rfl (Qt.callP CaF.h rfl (fun w hI => znE s k (by omega) _)) rfl (g [[1]] ?_);refine WQ.part 16 rfl (fun g16 => ?_) (fun g16 => ?_)
    · refine g [[2]] ?_;refine WQ.qg rfl rfl (Yd.qt (Yd.shlU rfl rfl (by omega))) rfl (WQ.qg rfl rfl (Qt.callP CaF.h rfl (fun w hI => zui s (2 ^ k) (lt63 (n := 7) hs (by omega)) (zna (by omega)) _)) rfl (g [[1]] ?_));refine WQ.qg rfl rfl (Yd.qt (Yd.indexA UnF.h SzF.h rfl rfl (by omega) (by omega))) rfl (WQ.qg rfl rfl (Yd.qt (Yd.l1 rfl (Rd.imm hcc (zqW c (by omega))))) rfl (g [[1]] ?_));refine WL.ydg rfl (Yd.andG (.inl rfl) (lt63 (n := 7) (zoN hs) (by omega)) (lt63 (n := 7) (hc _) (by omega)) rfl rfl) rfl (g [[4]] ?_);refine WC.cond rfl (fun c26 => ?_) (fun c26 => ?_)
      · try simp only [zq] at c26
        refine g [[1],[10,0,2,9,10]] ?_;refine WP.ret1 rfl rfl rfl (RV.tmp rfl) (fun w hI => ⟨zb (zuU hkl (by simp_all [prfI])).symm, hI.keep⟩)
      try simp only [zq] at c26
      refine g [[3],[4,0,2,9,10]] ?_;exact WP.againF (k + 1) ⟨hkl, zod hd (by simp_all [prfI])⟩ (by omega) ⟨rfl, rfl, rfl, rfl, trivial⟩ (fun _ h => h) (fun h => h)
    refine g [[17],[4,0,2,9,10]] ?_;exact WP.againF (k + 1) ⟨hkl, zod hd (by simp_all [prfI])⟩ (by omega) ⟨rfl, rfl, rfl, rfl, trivial⟩ (fun _ h => h) (fun h => h)
  try simp only [zq] at c11
  obtain rfl : k = h.moves.length := by omega
  refine g [[6]] ?_;refine WC.ofFr [] trivial (g [[5]] ?_);refine WP.ret1 rfl rfl rfl (RV.tmp rfl) (fun w hI => ⟨zb (zrc.2 hd).symm, hI.keep⟩)
theorem ztA {l : List Int} {k : Nat} (h : k < l.length) : (l.map it)[0 + k * 1]? = some (it (gt l k)) := by
  simp [gt, List.getD, h]
theorem zoy {l : List Int} {k : Nat} (h : k < l.length) (v : Int) : splice (l.map it) (0 + k * 1) [it v] = (l.set k v).map it := by
  have := zpH l [] k v h
  rwa [List.append_nil, List.append_nil] at this
section
variable {rec : List Int → Bool × List Int} {c : Nat → Nat} {i x : Nat} {xs : List Nat} {l : List Int}
include rec c i x xs l
theorem zua (h : ((List.range i).any fun k => decide (gt l k = (x : Int)) && apaB c i k) = true) : tryL rec c i (x :: xs) l = tryL rec c i xs l := by
  rw [tryL, if_pos h]
section
variable (h : ¬ ((List.range i).any fun k => decide (gt l k = (x : Int)) && apaB c i k) = true)
include h
theorem zwt (hr : (rec (l.set i (x : Int))).1 = true) : tryL rec c i (x :: xs) l = (true, (rec (l.set i (x : Int))).2) := by
  rw [tryL, if_neg h];generalize rec (l.set i (x : Int)) = q at hr ⊢;obtain ⟨b, s'⟩ := q;dsimp only at hr; subst hr; rfl
theorem zyl (hr : (rec (l.set i (x : Int))).1 = false) : tryL rec c i (x :: xs) l = tryL rec c i xs (rec (l.set i (x : Int))).2 := by
  conv => lhs; rw [tryL, if_neg h]
  generalize rec (l.set i (x : Int)) = q at hr ⊢;obtain ⟨b, s'⟩ := q;dsimp only at hr; subst hr; rfl
end
end
def liO (l : List Int) : Obj := .cells (List.toArray (l.map it)) 106 (0, 0)
structure OEnv (D : Imm) (h : Hors) (m : Sl) (c : Nat → Nat) (n : Int) (bb bn bl bc bo : Nat) : Prop where
  b : D bb = some (.cells (List.toArray [it h.pace, slV m]) 93 (0, 0))
  n : D bn = some (.cells (List.toArray [it n]) 3 (0, 0))
  c : D bc = some (.cells (List.toArray (chC c)) 99 (0, 0))
  o : D bo = some (.cells (List.toArray [.func (.func 50) #[] #[pt bb, pt bn, pt bl, pt bc, pt bo]]) 107 (0, 0))
def PlaK (r : Bool × List Int) (bl : Nat) (D : Imm) (v : Value) (D' : Imm) (hp' : Hp) : Prop := D = D' ∧ v = .bool r.1 ∧ r.2.length = 7 ∧ hp' = [(bl, liO r.2)]
def PlaS (h : Hors) (m : Sl) (c : Nat → Nat) (n : Int) (bb bn bl bc bo : Nat) (f : Nat → List Int → Bool × List Int) (N : Nat) : Prop :=
  ∀ (i : Nat) (l : List Int) (D : Imm) (w : World), i + N = h.moves.length → l.length = 7 → OEnv D h m c n bb bn bl bc bo → Inv D [(bl, liO l)] [bl] w w →
    zp Tryz.prog 50 [nt i, pt bb, pt bn, pt bl, pt bc, pt bo] w D [bl] (PlaK (f i l) bl D)
section
variable (h : Hors) (m : Sl) (hm : m.n = h.moves.length) (hn7 : h.moves.length ≤ 7) (c : Nat → Nat) (n : Int) (hnb : n ≤ 9223372036854775807) (bb bn bl bc bo : Nat)
include h m hm hn7 c n hnb bb bn bl bc bo
theorem zxW : PlaS h m c n bb bn bl bc bo (zr5 c n.toNat 0) 0 := by
  intro i l D w hin hl7 he hI0;obtain ⟨ma, mn, mc⟩ := m;obtain rfl : mn = h.moves.length := hm;unfold zp;refine en Tryz.func50 rfl Tryz.ntmps50 hI0 (g [[1],[4,0,1,2,3,4,5]] ?_);refine WC.scope (g [[2],[4,7,0,1,2,3,4,5]] ?_);refine WL.yd (Yd.l1 rfl (Rd.imm he.b rfl)) rfl (g [[4]] ?_);refine WC.cond rfl (fun c15 => ?_) (fun c15 => ?_)
  · try simp only [zq] at c15
    refine g [[1],[6,7,0,2,3,4,5]] ?_;refine WP.scRet ?_;refine WP.ret1 rfl rfl rfl (RV.tmp rfl) (fun w1 hI => ⟨_, D, _, rfl, DExt.refl _ _, hI, rfl, rfl, hl7, rfl⟩)
  try simp only [zq] at c15
  exfalso; omega
theorem zse (rec : Nat → List Int → Bool × List Int) (N : Nat) (ih : PlaS h m c n bb bn bl bc bo rec N) : PlaS h m c n bb bn bl bc bo (fun i l => tryL (rec (i + 1)) c i (List.range n.toNat) l) (N + 1) := by
  intro i l D w hin hl7 he hI0;obtain ⟨ma, mn, mc⟩ := m;obtain rfl : mn = h.moves.length := hm
  show zp _ _ _ _ _ _ (PlaK (tryL (rec (i + 1)) c i (List.range n.toNat) l) bl D);unfold zp;refine en Tryz.func50 rfl Tryz.ntmps50 hI0 (g [[1],[4,0,1,2,3,4,5]] ?_);refine WC.scope (g [[2],[4,7,0,1,2,3,4,5]] ?_);refine WL.yd (Yd.l1 rfl (Rd.imm he.b rfl)) rfl (g [[4]] ?_);refine WC.cond rfl (fun c15 => ?_) (fun c15 => ?_)
  · try simp only [zq] at c15
    exfalso; omega
  try simp only [zq] at c15
  refine g [[3]] ?_;refine WC.label (g [[3],[1,7,0,2,3,4,5]] ?_);refine WL.yd (Yd.l1 rfl (Rd.imm he.n rfl)) rfl (g [[4]] ?_);refine WC.loop (fun y : Nat × List Int => [(0, nt i), (3, pt bl), (4, pt bc), (5, pt bo), (16, it n), (17, nt y.1)]) (fun y => [(bl, liO y.2)]) (fun _ => D) (fun y => y.1 ≤ n.toNat ∧ tryL (rec (i + 1)) c i (List.range n.toNat) l = tryL (rec (i + 1)) c i ((List.range n.toNat).drop y.1) y.2 ∧ y.2.length = 7) (fun y => n.toNat - y.1) (0, l) ⟨Nat.zero_le _, rfl, hl7⟩ (fun a w ha => y4 ha ⟨rfl, rfl, rfl, rfl, rfl, rfl, trivial⟩) ?_;rintro ⟨x, t⟩ ⟨hx, hres, ht7⟩;dsimp only at hx hres ht7;refine g [[1],[5,0,3,4,5,16,17]] ?_;refine WC.cond rfl (fun c18 => ?_) (fun c18 => ?_)
  · try simp only [zq] at c18
    have hxn : x < n.toNat := by omega
    refine g [[5],[7,0,3,4,5,16,17],[6,8,0,3,4,5,16,17]] ?_;refine WC.loopF (fun k : Nat => [(0, nt i), (3, pt bl), (4, pt bc), (5, pt bo), (8, nt x), (16, it n), (17, nt x), (20, nt i), (21, nt k)]) (fun k => k ≤ i ∧ ∀ j, j < k → (fun k => decide (gt t k = (x : Int)) && apaB c i k) j = false) (fun k => i - k) 0 ⟨Nat.zero_le _, fun j hj => absurd hj (Nat.not_lt_zero j)⟩ (by exact ⟨rfl, rfl, rfl, rfl, rfl, rfl, rfl, rfl, rfl, trivial⟩) ?_;intro k ⟨hk, hno⟩;refine g [[1],[5,0,3,4,5,8,16,17,20,21]] ?_;refine WC.cond rfl (fun c22 => ?_) (fun c22 => ?_)
    · try simp only [zq] at c22
      have hki : k < i := by omega
      refine g [[5],[6,0,3,4,5,8,16,17,20,21],[2,9,0,3,4,5,8,16,17,20,21]] ?_;refine WL.yd (Yd.indexA UnF.h SzF.h rfl rfl (by omega) (by omega)) rfl (WL.yd (Yd.l1 rfl (Rd.own (k := 0) rfl (ztA (l := t) (k := k) (by omega)))) rfl (g [[3]] ?_));refine WL.part 29 rfl (fun g29 => ?_) (fun g29 => ?_)
      · try simp only [zq] at g29
        refine WL.ydg rfl (Yd.lV [_, _, _, _, _, _, _] rfl (RdN.imm (n := 7) he.c rfl)) rfl (g [[2]] ?_);refine WL.sog rfl (SO.callP CaF.h rfl (fun w hI => zuW c i k (by omega) (by omega) _)) rfl (zs (g [[3]] ?_));refine WC.cond rfl (fun c34 => ?_) (fun c34 => ?_)
        · refine g [[8],[4,0,3,4,5,16,17]] ?_;have hany : ((List.range i).any fun k => decide (gt t k = (x : Int)) && apaB c i k) = true := List.any_eq_true.2 ⟨k, List.mem_range.2 hki, by simp_all⟩;exact WP.again (x + 1, t) ⟨by show x + 1 ≤ n.toNat; omega, by rw [hres, w3 hxn, zua hany], ht7⟩ (by show n.toNat - (x + 1) < n.toNat - x; omega) (fun a w ha => y4 ha ⟨rfl, rfl, rfl, rfl, rfl, rfl, trivial⟩)
        refine g [[3],[4,0,3,4,5,8,16,17,20,21]] ?_;exact WP.againF (k + 1) ⟨hki, zod hno (by simp_all)⟩ (by omega) ⟨rfl, rfl, rfl, rfl, rfl, rfl, rfl, rfl, rfl, trivial⟩ (fun _ h => h) (fun h => h)
      try simp only [zq] at g29
      refine g [[11],[4,0,3,4,5,8,16,17,20,21]] ?_;exact WP.againF (k + 1) ⟨hki, zod hno (by simp_all)⟩ (by omega) ⟨rfl, rfl, rfl, rfl, rfl, rfl, rfl, rfl, rfl, trivial⟩ (fun _ h => h) (fun h => h)
    try simp only [zq] at c22
    have hnany : ¬ ((List.range i).any fun k => decide (gt t k = (x : Int)) && apaB c i k) = true := fun h => by
      obtain ⟨j, hj, h2⟩ := List.any_eq_true.1 h;have h3 := hno j (by have := List.mem_range.1 hj; omega);dsimp only at h3;rw [h3] at h2; cases h2
    refine g [[6],[3,0,3,4,5,8,16,17]] ?_;refine WL.yd (Yd.indexA UnF.h SzF.h rfl rfl (by omega) (by omega)) rfl ?_;refine WL.so (SO.store 0 rfl SzF.h rfl rfl rfl rfl (by show 0 + i * 1 + 1 ≤ (List.map it t).length; simp; omega) (za rfl)) rfl (zt (g [[3],[1,0,3,4,5,16,17]] ?_));refine WL.yd (Yd.l1 rfl (Rd.imm he.o rfl)) rfl (g [[1]] ?_);refine WL.yd (Yd.addN (i := i) (j := 1) rfl rfl (by omega)) rfl ?_;refine WL.so (SO.altersN (own := []) (hpc := [(bl, liO (t.set i (x : Int)))]) (by intro e he2; rw [liO, ← zoy (show i < t.length by omega)] at he2; exact he2) (fun h => h) (fun _ h => h) (fun _ h => h) (Enters.val CaF.h rfl rfl) (fun w1 hI => ih (i + 1) (t.set i (x : Int)) D w1 (by omega) (by rw [List.length_set]; exact ht7) he hI)) rfl ?_;rintro _ _ _ ⟨hp3, _, ⟨rfl, rfl, hr7, rfl⟩, rfl⟩;refine g [[2]] ?_;refine WC.cond rfl (fun c42 => ?_) (fun c42 => ?_)
    · have hE : tryL (rec (i + 1)) c i (List.range n.toNat) l = (true, (rec (i + 1) (t.set i (x : Int))).2) := by rw [hres, w3 hxn, zwt hnany (by assumption)]
      refine g [[1],[10,0,3,4,5,16,17]] ?_;refine WP.scRet ?_;refine WP.ret1 rfl rfl rfl (RV.tmp rfl) (fun w1 hI => ⟨_, D, _, rfl, DExt.refl _ _, hI, rfl, congrArg Value.bool (by rw [hE]), by rw [hE]; exact hr7, by rw [hE]; rfl⟩)
    refine g [[3],[4,0,3,4,5,16,17]] ?_;exact WP.again (x + 1, (rec (i + 1) (t.set i (x : Int))).2) ⟨by show x + 1 ≤ n.toNat; omega, by rw [hres, w3 hxn, zyl hnany (by assumption)], hr7⟩ (by show n.toNat - (x + 1) < n.toNat - x; omega) (fun a w ha => y4 ha ⟨rfl, rfl, rfl, rfl, rfl, rfl, trivial⟩)
  try simp only [zq] at c18
  obtain rfl : x = n.toNat := by omega
  have hend : tryL (rec (i + 1)) c i (List.range n.toNat) l = (false, t) := by rw [hres, zmJ]; rfl
  refine g [[6]] ?_;refine WC.ofFr [] trivial (g [[5]] ?_);refine WP.scRet ?_;refine WP.ret1 rfl rfl rfl (RV.tmp rfl) (fun w1 hI => ⟨_, D, _, rfl, DExt.refl _ _, hI, rfl, congrArg Value.bool (by rw [hend]), by rw [hend]; exact ht7, by rw [hend]⟩)
end
theorem zuA (h : Hors) (m : Sl) (hm : m.n = h.moves.length) (hn7 : h.moves.length ≤ 7) (c : Nat → Nat) (n : Int) (hnb : n ≤ 9223372036854775807) (bb bn bl bc bo : Nat) : ∀ N, PlaS h m c n bb bn bl bc bo (zr5 c n.toNat N) N
  | 0 => zxW h m hm hn7 c n hnb bb bn bl bc bo
  | N + 1 => zse h m hm hn7 c n hnb bb bn bl bc bo (zr5 c n.toNat N) N (zuA h m hm hn7 c n hnb bb bn bl bc bo N)
theorem zDm (pc : Nat → Int) (hpc : zmW pc) (c : Nat → Nat) (hc : ∀ i, c i < 128) (many : Int) (s : Nat) (hs : s < 128) (bc bb bm : Nat) (h : Hors) (m : Sl) (D : Imm) (hR : Ky D h m) (w : World) (hH : Holds D w) (hn7 : h.moves.length ≤ 7) (hb : D bb = some (.cells (List.toArray [it h.pace, slV m]) 93 (0, 0))) (hcc : D bc = some (.cells (List.toArray (chC c)) 99 (0, 0))) (hmm : D bm = some (.cells (List.toArray [it many]) 3 (0, 0))) : z8 Tryz.prog 67 [ut s, pt bc, pt bb, pt bm] w (.bool (decide (horI pc c (butN (2 ^ h.moves.length - 1) s) ≤ many))) := by
  unfold z8;obtain ⟨ma, mn, mc⟩ := m;obtain rfl : mn = h.moves.length := hR.r.len';have hRm : SlL D 4 (h.moves.map mvC) ma h.moves.length := hR.r;have nm : h.moves.length ≤ 9223372036854775807 := hR.n;dsimp only [slV] at hb;have hp2 : 2 ^ h.moves.length ≤ 2 ^ 7 := Nat.pow_le_pow_right (by decide) hn7;refine en Tryz.func67 rfl Tryz.ntmps67 (Inv.start hH) (g [[1],[5,0,1,2,3],[0,5,0,1,2,3],[3007],[2]] ?_);refine WQ.q rfl (Qt.callP CaF.h rfl (fun w hI => zo4 h hn7 ⟨ma, h.moves.length, mc⟩ D ⟨hRm, nm⟩ _ hI.imm)) rfl (g [[1]] ?_);refine WQ.q rfl (Qt.callP CaF.h rfl (fun w hI => zui _ _ (lt63 (n := 7) (by omega) (by omega)) (lt63 (n := 7) hs (by omega)) _)) rfl (WQ.q rfl (Qt.callP CaF.h rfl (fun w hI => zo5 pc hpc c hc _ D _ hI.imm)) rfl (g [[7]] ?_));refine WP.ret1 rfl rfl rfl (RV.tmp rfl) (fun w hI => ⟨rfl, hI.keep⟩)
section
variable (h : Hors) (m : Sl) (D : Imm) (hR : Ky D h m) (w : World) (hH : Holds D w) (fi : FuncId) (cp : List Value) (hfi : ∀ args w, (callFunc fi args).run Tryz.prog w = .ok (.enter fi args) w)
include h m D hR w hH fi cp hfi
theorem zp2 (hv : qn h = false) : xC Tryz.prog 44 [k3 h m, .func (.func fi) #[] cp.toArray] w (zsz 1) :=
  (zq1 h m D hR w hH fi cp true hfi (fun h2 => absurd (h2.symm.trans hv) (by decide))).mono fun e w' h => h.1 hv
theorem zs7 (hIs : ∀ w', Holds D w' → z8 Tryz.prog fi (k3 h m :: cp) w' (.bool false)) (hv : qn h = true) : xC Tryz.prog 44 [k3 h m, .func (.func fi) #[] cp.toArray] w (zsz 2) :=
  (zq1 h m D hR w hH fi cp false hfi (fun _ => hIs)).mono fun e w' h => h.2.1 hv rfl
theorem zo8 (hIs : ∀ w', Holds D w' → z8 Tryz.prog fi (k3 h m :: cp) w' (.bool true)) (hv : qn h = true) : z8 Tryz.prog 44 [k3 h m, .func (.func fi) #[] cp.toArray] w (k3 h m) :=
  (zq1 h m D hR w hH fi cp true hfi (fun _ => hIs)).mono fun e w' h => h.2.2 hv rfl
end
theorem zxj (F : Nat → Nat) {i : Nat} (hi : i < 7) : (chC F)[i]? = some (ut (F i)) := by have := zqW F hi; rwa [Nat.zero_add, Nat.mul_one] at this
theorem zvB {n lo hi : Int} (h : inB n lo hi = true) : lo ≤ n ∧ n ≤ hi := by simpa [inB] using h
theorem zow {h : Hors} {n : Int} (hm : zn9 h n = true) : ∃ a : Nat, n = (a : Int) ∧ a < h.moves.length := by
  have := zvB hm;exact ⟨n.toNat, by omega, by omega⟩
section
variable (one two : Int) (h : Hors) (m : Sl) (D : Imm) (hR : Ky D h m) (w : World) (hH : Holds D w)
include one two h m D hR w hH
theorem zry (hv : qn h = false) : z8 Tryz.prog 16 [k3 h m, it one, it two] w (.tuple #[it (zmA h one two).1, it (zmA h one two).2]) := by
  unfold z8;have hO : zmA h one two = (0, 1) := by unfold zmA; rw [if_pos hv]
  refine enD Tryz.func16 rfl Tryz.ntmps16 (Inv.start hH) (g [[1],[1,0,1,2]] ?_);refine WL.so (SO.box rfl rfl) rfl (zw fun b3 hb3 => ?_);refine WL.so (SO.box rfl rfl) rfl (zw fun b4 hb4 => ?_);refine WL.so (SO.box rfl rfl) rfl (zw fun b5 hb5 => ?_);refine g [[1]] ?_;refine WL.so (SO.alloc ZvF.h rfl) rfl (zw fun b7 hb7 => ?_);refine g [[3],[1,7,6,5,4,3]] ?_;refine WL.deferA rfl (g [[3]] ?_);refine WC.freezeN 1 b5 (.cells (List.toArray [it two]) 3 (0, 0)) rfl rfl hb5 (fun D5 hX5 h5 => ?_);refine WC.freezeN 1 b4 (.cells (List.toArray [it one]) 3 (0, 0)) rfl rfl hb4 (fun D4 hX4 h4 => ?_);have h5 := hX4.old _ _ h5;have hR4 := (hR.ext hX5).ext hX4;refine g [[3,7,6,5,4,3]] ?_;refine WL.nf rfl (fun w hI => zp2 h m _ hR4 w hI.imm 68 [pt b4, pt b5] CaF.h hv) (g [[1]] ?_);refine WP.panicDA (k := 0) [_, _] [_, _] rfl CaF.h rfl (fun w hI => zmt b7 1 0 _ w (hI.own _ _ (List.mem_of_getElem? (i := 0) rfl))) rfl zV (fun w hI => ⟨congrArg Ending.returned (by rw [hO]; rfl), hI.keep⟩)
theorem zrz (hv : qn h = true) (hw : (zn9 h one && zn9 h two) = false) : z8 Tryz.prog 16 [k3 h m, it one, it two] w (.tuple #[it (zmA h one two).1, it (zmA h one two).2]) := by
  unfold z8;have hO : zmA h one two = (0, 2) := by unfold zmA; rw [if_neg (by rw [hv]; simp), if_pos hw]
  refine enD Tryz.func16 rfl Tryz.ntmps16 (Inv.start hH) (g [[1],[1,0,1,2]] ?_);refine WL.so (SO.box rfl rfl) rfl (zw fun b3 hb3 => ?_);refine WL.so (SO.box rfl rfl) rfl (zw fun b4 hb4 => ?_);refine WL.so (SO.box rfl rfl) rfl (zw fun b5 hb5 => ?_);refine g [[1]] ?_;refine WL.so (SO.alloc ZvF.h rfl) rfl (zw fun b7 hb7 => ?_);refine g [[3],[1,7,6,5,4,3]] ?_;refine WL.deferA rfl (g [[3]] ?_);refine WC.freezeN 1 b5 (.cells (List.toArray [it two]) 3 (0, 0)) rfl rfl hb5 (fun D5 hX5 h5 => ?_);refine WC.freezeN 1 b4 (.cells (List.toArray [it one]) 3 (0, 0)) rfl rfl hb4 (fun D4 hX4 h4 => ?_);have h5 := hX4.old _ _ h5;have hR4 := (hR.ext hX5).ext hX4;refine g [[3,7,6,5,4,3]] ?_;refine WL.nf rfl (fun w hI => zs7 h m _ hR4 w hI.imm 68 [pt b4, pt b5] CaF.h (fun w' hH' => by have := zof one two b4 b5 h m D4 hR4 w' hH' h4 h5; rwa [hw] at this) hv) (g [[1]] ?_);refine WP.panicDA (k := 0) [_, _] [_, _] rfl CaF.h rfl (fun w hI => zmt b7 2 0 _ w (hI.own _ _ (List.mem_of_getElem? (i := 0) rfl))) rfl zV (fun w hI => ⟨congrArg Ending.returned (by rw [hO]; rfl), hI.keep⟩)
theorem zrA (hv : qn h = true) (hw : (zn9 h one && zn9 h two) = true) : z8 Tryz.prog 16 [k3 h m, it one, it two] w (.tuple #[it (zmA h one two).1, it (zmA h one two).2]) := by
  unfold z8;have hok := qs.1 hv;have hn7 := hok.n;have hw2 := hw;rw [Bool.and_eq_true] at hw2;obtain ⟨a, ha, ha2⟩ := zow hw2.1;obtain ⟨b, hb, hb2⟩ := zow hw2.2;have hO : zmA h one two = (if hasN (chaN h true a) b then 2 else if hasN (chaN h false a) b then 1 else 0, 0) := by unfold zmA; rw [if_neg (by rw [hv]; simp), if_neg (by rw [hw]; simp), ha, hb]; rfl
  refine enD Tryz.func16 rfl Tryz.ntmps16 (Inv.start hH) (g [[1],[1,0,1,2]] ?_);refine WL.so (SO.box rfl rfl) rfl (zw fun b3 hb3 => ?_);refine WL.so (SO.box rfl rfl) rfl (zw fun b4 hb4 => ?_);refine WL.so (SO.box rfl rfl) rfl (zw fun b5 hb5 => ?_);refine g [[1]] ?_;refine WL.so (SO.alloc ZvF.h rfl) rfl (zw fun b7 hb7 => ?_);refine g [[3],[1,7,6,5,4,3]] ?_;refine WL.deferA rfl (g [[3]] ?_);refine WC.freezeN 1 b5 (.cells (List.toArray [it two]) 3 (0, 0)) rfl rfl hb5 (fun D5 hX5 h5 => ?_);refine WC.freezeN 1 b4 (.cells (List.toArray [it one]) 3 (0, 0)) rfl rfl hb4 (fun D4 hX4 h4 => ?_);have h5 := hX4.old _ _ h5;have hR4 := (hR.ext hX5).ext hX4;refine g [[3,7,6,5,4,3]] ?_;refine WL.cl rfl (fun w hI => zo8 h m _ hR4 w hI.imm 68 [pt b4, pt b5] CaF.h (fun w' hH' => by have := zof one two b4 b5 h m D4 hR4 w' hH' h4 h5; rwa [hw] at this) hv) ?_;refine WL.so (SO.alloc ZvF.h rfl) rfl (zw fun b8 hb8 => ?_);refine g [[6],[0,8,7,6,5,4],[3007],[3]] ?_;refine WQ.know 15 (trV true) rfl rfl (WQ.q rfl (Qt.callP CaF.h rfl (fun w hI => zmO true h m D4 hR4 _ hI.imm hok)) rfl (g [[1]] ?_));refine WQ.know 17 (nt a) rfl (congrArg it ha) (WQ.q rfl (Yd.qt (Yd.indexV UnF.h AgF.h SzF.h rfl rfl (by omega) (zxj _ (by omega)))) rfl (g [[2]] ?_));refine WL.know 19 (nt b) rfl (congrArg it hb) (WL.cl rfl (fun w hI => znE _ b (by omega) _) (g [[3]] ?_));refine WC.cond rfl (fun c12 => ?_) (fun c12 => ?_)
  · refine g [[1],[8,7,6]] ?_;refine WP.endDA [_, _] [_, _] rfl rfl CaF.h (fun w hI => zmx b7 w) rfl zV (fun w hI => ⟨congrArg Ending.returned (by rw [hO, if_pos c12]; rfl), hI.keep⟩)
  refine g [[1],[0,8,7,6,5,4],[3007],[3]] ?_;refine WQ.know 24 (trV false) rfl rfl (WQ.q rfl (Qt.callP CaF.h rfl (fun w hI => zmO false h m D4 hR4 _ hI.imm hok)) rfl (g [[1]] ?_));refine WQ.know 26 (nt a) rfl (congrArg it ha) (WQ.q rfl (Yd.qt (Yd.indexV UnF.h AgF.h SzF.h rfl rfl (by omega) (zxj _ (by omega)))) rfl (g [[2]] ?_));refine WL.know 28 (nt b) rfl (congrArg it hb) (WL.cl rfl (fun w hI => znE _ b (by omega) _) (g [[3]] ?_));refine WC.cond rfl (fun c21 => ?_) (fun c21 => ?_)
  · refine g [[1],[8,7,6]] ?_;refine WP.endDA [_, _] [_, _] rfl rfl CaF.h (fun w hI => zmx b7 w) rfl zV (fun w hI => ⟨congrArg Ending.returned (by rw [hO, if_neg (by simp_all), if_pos c21]; rfl), hI.keep⟩)
  refine g [[4],[6,7,6]] ?_;refine WP.endDA [_, _] [_, _] rfl rfl CaF.h (fun w hI => zmx b7 w) rfl zV (fun w hI => ⟨congrArg Ending.returned (by rw [hO, if_neg (by simp_all), if_neg (by simp_all)]; rfl), hI.keep⟩)
theorem zpp : z8 Tryz.prog 16 [k3 h m, it one, it two] w (.tuple #[it (zmA h one two).1, it (zmA h one two).2]) := by
  cases hv : qn h with
  | false => exact zry one two h m D hR w hH hv
  | true =>
    cases hw : (zn9 h one && zn9 h two) with
    | false => exact zrz one two h m D hR w hH hv hw
    | true => exact zrA one two h m D hR w hH hv hw
end
theorem zyz : zj Tryz.prog 133 [.nilFunc] [(0, 1)] := ⟨⟨_, Tryz.zeroValue133, rfl⟩, _, Tryz.underlying133, fun w => by simp [Tryz.sizeOf131]⟩
abbrev zwG := SaF.mk zyz
attribute [instance] zwG
section
variable {pc : Nat → Int} {n : Nat}
include pc n
theorem zw8 {up : Bool} {s : Nat} (h : s ∈ setL pc n up) : s < 2 ^ n := by
  obtain ⟨i, _, h2⟩ := List.mem_flatMap.1 h;exact List.mem_range.1 (List.mem_filter.1 h2).1
theorem zp4 (hn : n ≤ 7) {up : Bool} {s : Nat} (h : s ∈ setL pc n up) : s < 128 := Nat.lt_of_lt_of_le (zw8 h) (Nat.pow_le_pow_right (n := 2) (by decide) hn)
theorem zqm (hn : n ≤ 7) {up : Bool} {P : Nat → Bool} : ((setL pc n up).find? P).getD 0 < 2 ^ 63 := by
  cases h : (setL pc n up).find? P with
  | none => decide
  | some s => exact Nat.lt_trans (zp4 hn (List.mem_of_find?_eq_some h)) (by decide)
end
def itC (i : Int) : List Value := [it i]
theorem zoV : ∀ s, (itC s).length = 1 := fun _ => rfl
theorem zrJ (l : List Int) : l.flatMap itC = l.map it := by
  induction l with
  | nil => rfl
  | cons a l ih => rw [List.flatMap_cons, ih]; rfl
section
variable (pc : Nat → Int) (hpc : zmW pc) (sure : Bool) (h : Hors) (m : Sl) (D : Imm) (hR : Ky D h m) (w : World) (hH : Holds D w)
include pc hpc sure h m D hR w hH
theorem zvZ (hv : qn h = false) : z8 Tryz.prog 12 [k3 h m, .bool sure] w (.tuple #[it (znv pc h sure).1, it (znv pc h sure).2]) := by
  unfold z8;have hO : znv pc h sure = (0, 1) := by unfold znv; rw [if_neg (by rw [hv]; simp)]
  refine enD Tryz.func12 rfl Tryz.ntmps12 (Inv.start hH) (g [[1],[1,0,1]] ?_);refine WL.so (SO.box rfl rfl) rfl (zw fun b2 hb2 => ?_);refine g [[1]] ?_;refine WL.so (SO.alloc ZvF.h rfl) rfl (zw fun b5 hb5 => ?_);refine g [[3],[1,5,4,2,1]] ?_;refine WL.deferA rfl (g [[3],[2,5,4,2,1]] ?_);refine WL.nf rfl (fun w hI => zp2 h m _ hR w hI.imm 59 [] CaF.h hv) (g [[1]] ?_);refine WP.panicDA (k := 0) [_, _] [_, _] rfl CaF.h rfl (fun w hI => zmt b5 1 0 _ w (hI.own _ _ (List.mem_of_getElem? (i := 0) rfl))) rfl zV (fun w hI => ⟨congrArg Ending.returned (by rw [hO]; rfl), hI.keep⟩)
theorem zw0 (hv : qn h = true) : z8 Tryz.prog 12 [k3 h m, .bool sure] w (.tuple #[it (znv pc h sure).1, it (znv pc h sure).2]) := by
  unfold z8;have hok := qs.1 hv;have hn7 := hok.n;have hO : znv pc h sure = ((prfN pc h sure : Int), 0) := by unfold znv; rw [if_pos hv]
  refine enD Tryz.func12 rfl Tryz.ntmps12 (Inv.start hH) (g [[1],[1,0,1]] ?_);refine WL.so (SO.box rfl rfl) rfl (zw fun b2 hb2 => ?_);refine g [[1]] ?_;refine WL.so (SO.alloc ZvF.h rfl) rfl (zw fun b5 hb5 => ?_);refine g [[3],[1,5,4,2,1]] ?_;refine WL.deferA rfl (g [[3],[2,5,4,2,1]] ?_);refine WL.cl rfl (fun w hI => zo8 h m _ hR w hI.imm 59 [] CaF.h (fun w1 _ => zrI h m w1) hv) ?_;refine WL.so (SO.alloc ZvF.h rfl) rfl (zw fun b6 hb6 => ?_);refine g [[3]] ?_;refine WC.seqJ (α := Nat) (fun b7 => [(2, pt b2), (5, pt b5), (6, pt b6), (7, pt b7)]) (fun b7 => [(b7, .cells (List.toArray (chC (chaN h sure))) 99 (0, 0)), (b6, .cells (List.toArray [it h.pace, slV m]) 93 (0, 0)), (b5, .cells (List.toArray [it 0]) 28 (0, 0)), (b2, .cells (List.toArray [it h.pace, slV m]) 24 (0, 0))]) (fun _ => D) (fun b7 => w.heap.size ≤ b7) ?_ ?_
  · rintro b7 hb7;refine g [[1]] ?_;refine WC.freezeN 0 b7 (.cells (List.toArray (chC (chaN h sure))) 99 (0, 0)) rfl rfl hb7 (fun D7 hX7 h7 => ?_);refine WC.freezeN 0 b6 (.cells (List.toArray [it h.pace, slV m]) 93 (0, 0)) rfl rfl hb6 (fun D6 hX6 h6 => ?_);refine g [[2,5,6,7]] ?_;refine WL.so (SO.makes (Enters.func Tryz.call61 rfl) (fun w1 hI => zss false h m D6 ((hR.ext hX7).ext hX6) w1 hI.imm)) rfl ?_;rintro _ D1 _ ⟨hX1, ⟨bb, bu, rfl, hbb, hbu⟩, rfl⟩;refine g [[2]] ?_;refine WL.cl rfl (fun w hI => zql (setL pc h.moves.length false) (prfB h sure) 128 [pt bb, pt bu] 62 [pt b6, pt b7] D1 _ (fun w2 hH2 => zpF pc hpc false h hn7 m bb bu D1 (((hR.ext hX7).ext hX6).ext hX1) hbb hbu w2) CaF.h CaF.h (fun s hs D2 w2 hX hH2 => zDq (chaN h sure) (znV h hn7 sure) s (zp4 hn7 hs) b6 b7 h m D2 ((((hR.ext hX7).ext hX6).ext hX1).ext hX) w2 hH2 hn7 (hX.old _ _ (hX1.old _ _ h6)) (hX.old _ _ (hX1.old _ _ (hX6.old _ _ h7)))) hI.imm) (g [[8],[2,8,5]] ?_);refine WL.yd (Yd.convG (.inr rfl) UnF.h UnF.h rfl (zqm hn7)) rfl (g [[5]] ?_);refine WP.endDA [_, _] [_, _] rfl rfl CaF.h (fun w hI => zmx b5 w) rfl zV (fun w hI => ⟨congrArg Ending.returned (by rw [hO]; rfl), hI.keep⟩)
  skip;refine g [[0,6,5,4,2,1]] ?_;refine WC.drawH [_, _, _] zk zHl (g [[1000],[1001]] ?_);refine WH.two (i := 2) (j := 4) zk ?_ ?_
  · refine WHo.so rfl (SO.callP CaF.h rfl (fun w hI => zn1 sure _)) rfl (zs ⟨(fun _ hI => hI.drop 0), ?_⟩);refine WH.two (i := 3) (j := 4) zk ?_ ?_
    · refine WHo.so rfl (SO.callP CaF.h rfl (fun w hI => zmO sure h m D hR _ hI.imm hok)) rfl (zs ⟨(fun _ hI => hI.drop 0), ?_⟩);refine WH.one (i := 4) zk (WHo.so rfl (SO.alloc ZvF.h rfl) rfl ?_);rintro _ _ _ ⟨b7, hb7, rfl, rfl, rfl⟩;refine ⟨(fun _ hI => hI.drop 1), ?_⟩;refine WH.one (i := 5) zk (WHo.so rfl (SO.store 0 rfl SzF.h rfl rfl rfl rfl (zqb rfl) (za rfl)) rfl ?_);rintro _ _ _ ⟨rfl, rfl, rfl⟩;refine ⟨(fun _ hI => hI.drop 1), ?_⟩;refine WH.nil zk ?_;exact WP.join b7 hb7 (fun a w ha => y4 ha ⟨rfl, rfl, rfl, rfl, trivial⟩)
    refine WHo.so rfl (SO.alloc ZvF.h rfl) rfl ?_;rintro _ _ _ ⟨b7, hb7, rfl, rfl, rfl⟩;refine ⟨(fun _ hI => hI.drop 1), ?_⟩;refine WH.one (i := 3) zk (WHo.so rfl (SO.callP CaF.h rfl (fun w hI => zmO sure h m D hR _ hI.imm hok)) rfl (zs ⟨(fun _ hI => hI.drop 1), ?_⟩));refine WH.one (i := 5) zk (WHo.so rfl (SO.store 0 rfl SzF.h rfl rfl rfl rfl (zqb rfl) (za rfl)) rfl ?_);rintro _ _ _ ⟨rfl, rfl, rfl⟩;refine ⟨(fun _ hI => hI.drop 1), ?_⟩;refine WH.nil zk ?_;exact WP.join b7 hb7 (fun a w ha => y4 ha ⟨rfl, rfl, rfl, rfl, trivial⟩)
  refine WHo.so rfl (SO.alloc ZvF.h rfl) rfl ?_;rintro _ _ _ ⟨b7, hb7, rfl, rfl, rfl⟩;refine ⟨(fun _ hI => hI.drop 1), ?_⟩;refine WH.one (i := 2) zk (WHo.so rfl (SO.callP CaF.h rfl (fun w hI => zn1 sure _)) rfl (zs ⟨(fun _ hI => hI.drop 1), ?_⟩));refine WH.one (i := 3) zk (WHo.so rfl (SO.callP CaF.h rfl (fun w hI => zmO sure h m D hR _ hI.imm hok)) rfl (zs ⟨(fun _ hI => hI.drop 1), ?_⟩));refine WH.one (i := 5) zk (WHo.so rfl (SO.store 0 rfl SzF.h rfl rfl rfl rfl (zqb rfl) (za rfl)) rfl ?_);rintro _ _ _ ⟨rfl, rfl, rfl⟩;refine ⟨(fun _ hI => hI.drop 1), ?_⟩;refine WH.nil zk ?_;exact WP.join b7 hb7 (fun a w ha => y4 ha ⟨rfl, rfl, rfl, rfl, trivial⟩)
theorem zsg : z8 Tryz.prog 12 [k3 h m, .bool sure] w (.tuple #[it (znv pc h sure).1, it (znv pc h sure).2]) := by
  cases hv : qn h with
  | false => exact zvZ pc hpc sure h m D hR w hH hv
  | true => exact zw0 pc hpc sure h m D hR w hH hv
end
section
variable (pc : Nat → Int) (hpc : zmW pc) (many : Int) (sure : Bool) (h : Hors) (m : Sl) (D : Imm) (hR : Ky D h m) (w : World) (hH : Holds D w)
include pc hpc many sure h m D hR w hH
theorem zvL (hv : qn h = false) : z8 Tryz.prog 13 [k3 h m, it many, .bool sure] w (.tuple #[it (zmQ pc h many sure).1, it (zmQ pc h many sure).2]) := by
  unfold z8;have hO : zmQ pc h many sure = (0, 1) := by unfold zmQ; rw [if_pos hv]
  refine enD Tryz.func13 rfl Tryz.ntmps13 (Inv.start hH) (g [[1],[1,0,1,2]] ?_);refine WL.so (SO.box rfl rfl) rfl (zw fun b3 hb3 => ?_);refine WL.so (SO.box rfl rfl) rfl (zw fun b4 hb4 => ?_);refine g [[1]] ?_;refine WL.so (SO.alloc ZvF.h rfl) rfl (zw fun b7 hb7 => ?_);refine g [[3],[1,7,6,4,3,2]] ?_;refine WL.deferA rfl (g [[3]] ?_);refine WC.freezeN 1 b4 (.cells (List.toArray [it many]) 3 (0, 0)) rfl rfl hb4 (fun D4 hX4 h4 => ?_);refine g [[3,7,6,4,3,2]] ?_;refine WL.nf rfl (fun w hI => zp2 h m _ (hR.ext hX4) w hI.imm 65 [pt b4] CaF.h hv) (g [[1]] ?_);refine WP.panicDA (k := 0) [_, _] [_, _] rfl CaF.h rfl (fun w hI => zmt b7 1 0 _ w (hI.own _ _ (List.mem_of_getElem? (i := 0) rfl))) rfl zV (fun w hI => ⟨congrArg Ending.returned (by rw [hO]; rfl), hI.keep⟩)
theorem zvM (hv : qn h = true) (hw : inB many 0 7 = false) : z8 Tryz.prog 13 [k3 h m, it many, .bool sure] w (.tuple #[it (zmQ pc h many sure).1, it (zmQ pc h many sure).2]) := by
  unfold z8;have hO : zmQ pc h many sure = (0, 2) := by unfold zmQ; rw [if_neg (by rw [hv]; simp), if_pos hw]
  refine enD Tryz.func13 rfl Tryz.ntmps13 (Inv.start hH) (g [[1],[1,0,1,2]] ?_);refine WL.so (SO.box rfl rfl) rfl (zw fun b3 hb3 => ?_);refine WL.so (SO.box rfl rfl) rfl (zw fun b4 hb4 => ?_);refine g [[1]] ?_;refine WL.so (SO.alloc ZvF.h rfl) rfl (zw fun b7 hb7 => ?_);refine g [[3],[1,7,6,4,3,2]] ?_;refine WL.deferA rfl (g [[3]] ?_);refine WC.freezeN 1 b4 (.cells (List.toArray [it many]) 3 (0, 0)) rfl rfl hb4 (fun D4 hX4 h4 => ?_);refine g [[3,7,6,4,3,2]] ?_;refine WL.nf rfl (fun w hI => zs7 h m _ (hR.ext hX4) w hI.imm 65 [pt b4] CaF.h (fun w1 hH1 => by have := zps h m many b4 D4 h4 w1 hH1; rwa [hw] at this) hv) (g [[1]] ?_);refine WP.panicDA (k := 0) [_, _] [_, _] rfl CaF.h rfl (fun w hI => zmt b7 2 0 _ w (hI.own _ _ (List.mem_of_getElem? (i := 0) rfl))) rfl zV (fun w hI => ⟨congrArg Ending.returned (by rw [hO]; rfl), hI.keep⟩)
theorem zvN (hv : qn h = true) (hw : inB many 0 7 = true) : z8 Tryz.prog 13 [k3 h m, it many, .bool sure] w (.tuple #[it (zmQ pc h many sure).1, it (zmQ pc h many sure).2]) := by
  unfold z8;have hok := qs.1 hv;have hn7 := hok.n;have hO : zmQ pc h many sure = ((leaN pc h many sure : Int), 0) := by unfold zmQ; rw [if_neg (by rw [hv]; simp), if_neg (by rw [hw]; simp)]
  refine enD Tryz.func13 rfl Tryz.ntmps13 (Inv.start hH) (g [[1],[1,0,1,2]] ?_);refine WL.so (SO.box rfl rfl) rfl (zw fun b3 hb3 => ?_);refine WL.so (SO.box rfl rfl) rfl (zw fun b4 hb4 => ?_);refine g [[1]] ?_;refine WL.so (SO.alloc ZvF.h rfl) rfl (zw fun b7 hb7 => ?_);refine g [[3],[1,7,6,4,3,2]] ?_;refine WL.deferA rfl (g [[3]] ?_);refine WC.freezeN 1 b4 (.cells (List.toArray [it many]) 3 (0, 0)) rfl rfl hb4 (fun D4 hX4 h4 => ?_);refine g [[3,7,6,4,3,2]] ?_;refine WL.cl rfl (fun w hI => zo8 h m _ (hR.ext hX4) w hI.imm 65 [pt b4] CaF.h (fun w1 hH1 => by have := zps h m many b4 D4 h4 w1 hH1; rwa [hw] at this) hv) ?_;refine WL.so (SO.alloc ZvF.h rfl) rfl (zw fun b8 hb8 => ?_);refine g [[3]] ?_;refine WC.seqJ (α := Nat) (fun b9 => [(3, pt b3), (4, pt b4), (7, pt b7), (8, pt b8), (9, pt b9)]) (fun b9 => [(b9, .cells (List.toArray (chC (chaN h sure))) 99 (0, 0)), (b8, .cells (List.toArray [it h.pace, slV m]) 93 (0, 0)), (b7, .cells (List.toArray [it 0]) 28 (0, 0)), (b3, .cells (List.toArray [it h.pace, slV m]) 24 (0, 0))]) (fun _ => D4) (fun b9 => w.heap.size ≤ b9) ?_ ?_
  · rintro b9 hb9;refine g [[1]] ?_;refine WC.freezeN 0 b9 (.cells (List.toArray (chC (chaN h sure))) 99 (0, 0)) rfl rfl hb9 (fun D9 hX9 h9 => ?_);refine WC.freezeN 0 b8 (.cells (List.toArray [it h.pace, slV m]) 93 (0, 0)) rfl rfl hb8 (fun D8 hX8 h8 => ?_);have hR8 := ((hR.ext hX4).ext hX9).ext hX8;refine g [[2,4,7,8,9]] ?_;refine WL.so (SO.makes (Enters.func Tryz.call61 rfl) (fun w1 hI => zss true h m D8 hR8 w1 hI.imm)) rfl ?_;rintro _ D1 _ ⟨hX1, ⟨bb, bu, rfl, hbb, hbu⟩, rfl⟩;refine g [[2]] ?_;refine WL.cl rfl (fun w hI => zql (setL pc h.moves.length true) (fun s => decide (horI pc (chaN h sure) (butN (2 ^ h.moves.length - 1) s) ≤ many)) 128 [pt bb, pt bu] 67 [pt b9, pt b8, pt b4] D1 _ (fun w2 hH2 => zpF pc hpc true h hn7 m bb bu D1 (hR8.ext hX1) hbb hbu w2) CaF.h CaF.h (fun s hs D2 w2 hX hH2 => zDm pc hpc (chaN h sure) (znV h hn7 sure) many s (zp4 hn7 hs) b9 b8 b4 h m D2 ((hR8.ext hX1).ext hX) w2 hH2 hn7 (hX.old _ _ (hX1.old _ _ h8)) (hX.old _ _ (hX1.old _ _ (hX8.old _ _ h9))) (hX.old _ _ (hX1.old _ _ (hX8.old _ _ (hX9.old _ _ h4))))) hI.imm) (g [[8],[2,10,7]] ?_);refine WL.yd (Yd.convG (.inr rfl) UnF.h UnF.h rfl (zqm hn7)) rfl (g [[5]] ?_);refine WP.endDA [_, _] [_, _] rfl rfl CaF.h (fun w hI => zmx b7 w) rfl zV (fun w hI => ⟨congrArg Ending.returned (by rw [hO]; rfl), hI.keep⟩)
  skip;refine g [[0,8,7,6,4,3,2]] ?_;refine WC.drawH [_, _, _] zk zHl (g [[1000],[1001]] ?_);refine WH.two (i := 2) (j := 4) zk ?_ ?_
  · refine WHo.so rfl (SO.callP CaF.h rfl (fun w hI => zn1 sure _)) rfl (zs ⟨(fun _ hI => hI.drop 0), ?_⟩);refine WH.two (i := 3) (j := 4) zk ?_ ?_
    · refine WHo.so rfl (SO.callP CaF.h rfl (fun w hI => zmO sure h m D4 (hR.ext hX4) _ hI.imm hok)) rfl (zs ⟨(fun _ hI => hI.drop 0), ?_⟩);refine WH.one (i := 4) zk (WHo.so rfl (SO.alloc ZvF.h rfl) rfl ?_);rintro _ _ _ ⟨b9, hb9, rfl, rfl, rfl⟩;refine ⟨(fun _ hI => hI.drop 1), ?_⟩;refine WH.one (i := 5) zk (WHo.so rfl (SO.store 0 rfl SzF.h rfl rfl rfl rfl (zqb rfl) (za rfl)) rfl ?_);rintro _ _ _ ⟨rfl, rfl, rfl⟩;refine ⟨(fun _ hI => hI.drop 1), ?_⟩;refine WH.nil zk ?_;exact WP.join b9 hb9 (fun a w ha => y4 ha ⟨rfl, rfl, rfl, rfl, rfl, trivial⟩)
    refine WHo.so rfl (SO.alloc ZvF.h rfl) rfl ?_;rintro _ _ _ ⟨b9, hb9, rfl, rfl, rfl⟩;refine ⟨(fun _ hI => hI.drop 1), ?_⟩;refine WH.one (i := 3) zk (WHo.so rfl (SO.callP CaF.h rfl (fun w hI => zmO sure h m D4 (hR.ext hX4) _ hI.imm hok)) rfl (zs ⟨(fun _ hI => hI.drop 1), ?_⟩));refine WH.one (i := 5) zk (WHo.so rfl (SO.store 0 rfl SzF.h rfl rfl rfl rfl (zqb rfl) (za rfl)) rfl ?_);rintro _ _ _ ⟨rfl, rfl, rfl⟩;refine ⟨(fun _ hI => hI.drop 1), ?_⟩;refine WH.nil zk ?_;exact WP.join b9 hb9 (fun a w ha => y4 ha ⟨rfl, rfl, rfl, rfl, rfl, trivial⟩)
  refine WHo.so rfl (SO.alloc ZvF.h rfl) rfl ?_;rintro _ _ _ ⟨b9, hb9, rfl, rfl, rfl⟩;refine ⟨(fun _ hI => hI.drop 1), ?_⟩;refine WH.one (i := 2) zk (WHo.so rfl (SO.callP CaF.h rfl (fun w hI => zn1 sure _)) rfl (zs ⟨(fun _ hI => hI.drop 1), ?_⟩));refine WH.one (i := 3) zk (WHo.so rfl (SO.callP CaF.h rfl (fun w hI => zmO sure h m D4 (hR.ext hX4) _ hI.imm hok)) rfl (zs ⟨(fun _ hI => hI.drop 1), ?_⟩));refine WH.one (i := 5) zk (WHo.so rfl (SO.store 0 rfl SzF.h rfl rfl rfl rfl (zqb rfl) (za rfl)) rfl ?_);rintro _ _ _ ⟨rfl, rfl, rfl⟩;refine ⟨(fun _ hI => hI.drop 1), ?_⟩;refine WH.nil zk ?_;exact WP.join b9 hb9 (fun a w ha => y4 ha ⟨rfl, rfl, rfl, rfl, rfl, trivial⟩)
theorem zrO : z8 Tryz.prog 13 [k3 h m, it many, .bool sure] w (.tuple #[it (zmQ pc h many sure).1, it (zmQ pc h many sure).2]) := by
  cases hv : qn h with
  | false => exact zvL pc hpc many sure h m D hR w hH hv
  | true =>
    cases hw : inB many 0 7 with
    | false => exact zvM pc hpc many sure h m D hR w hH hv hw
    | true => exact zvN pc hpc many sure h m D hR w hH hv hw
end
theorem zyo (i : Int) : wrI i ≤ 9223372036854775807 := by
  have h : wrI i = if i % 2 ^ 64 ≥ 2 ^ 63 then i % 2 ^ 64 - 2 ^ 64 else i % 2 ^ 64 := by
    show IntKind.i64.wrap i = _;simp [IntKind.wrap, IntKind.bits, IntKind.signed]
  rw [h]; split <;> omega
set_option maxRecDepth 100000 in
set_option maxHeartbeats 4000000 in
theorem ztb (pc : Nat → Int) (hpc : zmW pc) (sure : Bool) (h : Hors) (m : Sl) (D : Imm) (hR : Ky D h m) (w : World) (hH : Holds D w) (hv : qn h = false) : y6 Tryz.prog 7 [k3 h m, .bool sure] w D (fun v D' => ∃ a n c, v = .tuple #[it (KT pc h sure).1, .slice a n c, it (KT pc h sure).2.2] ∧ SlL D' 1 ((KT pc h sure).2.1.map itC) a n ∧ n ≤ 7) := by
  unfold y6;have hO : KT pc h sure = (0, [], 1) := by unfold KT; rw [if_neg (by rw [hv]; simp)]
  refine enD Tryz.func7 rfl Tryz.ntmps7 (Inv.start hH) (g [[1],[1,0,1]] ?_);refine WL.so (SO.box rfl rfl) rfl (zw fun b2 hb2 => ?_);refine g [[2]] ?_;refine WL.so (SO.alloc ZvF.h rfl) rfl (zw fun b6 hb6 => ?_);refine g [[3],[1,6,5,4,2,1]] ?_;refine WL.deferA rfl (g [[3],[2,6,5,4,2,1]] ?_);refine WL.nf rfl (fun w hI => zp2 h m _ hR w hI.imm 45 [] CaF.h hv) (g [[1]] ?_);refine WP.panicDA (k := 0) [_, _, _] [_, _, _] rfl CaF.h rfl (fun w hI => zmt b6 1 0 _ w (hI.own _ _ (List.mem_of_getElem? (i := 0) rfl))) rfl zV (fun w hI => ⟨_, D, rfl, hI.keep, hI.imm, DExt.refl _ _, none, 0, 0, by rw [hO]; rfl, by rw [hO]; exact SlL.nil _ _, Nat.zero_le _⟩)
set_option maxRecDepth 100000 in
set_option maxHeartbeats 4000000 in
section
variable (pc : Nat → Int) (hpc : zmW pc) (sure : Bool) (h : Hors) (m : Sl) (D : Imm) (hR : Ky D h m) (w : World) (hH : Holds D w)
include pc hpc sure h m D hR w hH
theorem ztc (hv : qn h = true) : y6 Tryz.prog 7 [k3 h m, .bool sure] w D (fun v D' => ∃ a n c, v = .tuple #[it (KT pc h sure).1, .slice a n c, it (KT pc h sure).2.2] ∧ SlL D' 1 ((KT pc h sure).2.1.map itC) a n ∧ n ≤ 7) := by
  unfold y6;have hok := qs.1 hv;have hn7 := hok.n;have hO : KT pc h sure = (fewI pc h sure, fewL pc h sure, 0) := by unfold KT; rw [if_pos hv]
  have hnb : fewI pc h sure ≤ 9223372036854775807 := zyo _;have hmn : m.n = h.moves.length := hR.r.len';refine enD Tryz.func7 rfl Tryz.ntmps7 (Inv.start hH) (g [[1],[1,0,1]] ?_);refine WL.so (SO.box rfl rfl) rfl (zw fun b2 hb2 => ?_);refine g [[2]] ?_;refine WL.so (SO.alloc ZvF.h rfl) rfl (zw fun b6 hb6 => ?_);refine g [[3],[1,6,5,4,2,1]] ?_;refine WL.deferA rfl (g [[3],[2,6,5,4,2,1]] ?_);refine WL.cl rfl (fun w hI => zo8 h m _ hR w hI.imm 45 [] CaF.h (fun w1 _ => zr0 h m w1) hv) ?_;refine WL.so (SO.alloc ZvF.h rfl) rfl (zw fun b7 hb7 => ?_);refine g [[3]] ?_;refine WC.seqJ (α := Nat) (fun b8 => [(2, pt b2), (6, pt b6), (7, pt b7), (8, pt b8)]) (fun b8 => [(b8, .cells (List.toArray (chC (chaN h sure))) 99 (0, 0)), (b7, .cells (List.toArray [it h.pace, slV m]) 93 (0, 0)), (b6, .cells (List.toArray [it 0]) 28 (0, 0)), (b2, .cells (List.toArray [it h.pace, slV m]) 24 (0, 0))]) (fun _ => D) (fun b8 => w.heap.size ≤ b8) ?_ ?_
  · rintro b8 hb8;refine WC.seqJ (α := Nat) (fun b9 => [(2, pt b2), (6, pt b6), (7, pt b7), (8, pt b8), (9, pt b9)]) (fun b9 => [(b9, .cells (List.toArray [it (fewI pc h sure)]) 3 (0, 0)), (b8, .cells (List.toArray (chC (chaN h sure))) 99 (0, 0)), (b7, .cells (List.toArray [it h.pace, slV m]) 93 (0, 0)), (b6, .cells (List.toArray [it 0]) 28 (0, 0)), (b2, .cells (List.toArray [it h.pace, slV m]) 24 (0, 0))]) (fun _ => D) (fun b9 => w.heap.size ≤ b9) ?_ ?_
    · rintro b9 hb9;refine g [[1],[1,6,7,8,9]] ?_;refine WL.yd (Yd.buildA (zs := [.int .i64 0, .int .i64 0, .int .i64 0, .int .i64 0, .int .i64 0, .int .i64 0, .int .i64 0]) ⟨_, ZvF.h, rfl⟩ UnF.h SzF.h rfl (cs := [_, _, _, _, _, _, _]) rfl) rfl ?_;refine WL.so (SO.alloc ZvF.h rfl) rfl (zw fun b10 hb10 => ?_);refine g [[4],[1,10,6,7,8,9]] ?_;refine WL.so (SO.alloc ZvF.h rfl) rfl (zw fun b11 hb11 => ?_);refine g [[3],[6,11,10,6,7,8,9]] ?_;refine WC.freezeN 0 b11 (.cells (List.toArray [.func (.func 50) #[] #[pt b7, pt b9, pt b10, pt b8, pt b11]]) 107 (0, 0)) rfl rfl hb11 (fun D11 hX11 h11 => ?_);refine WC.freezeN 3 b7 (.cells (List.toArray [it h.pace, slV m]) 93 (0, 0)) rfl rfl hb7 (fun D7 hX7 h7 => ?_);refine WC.freezeN 2 b8 (.cells (List.toArray (chC (chaN h sure))) 99 (0, 0)) rfl rfl hb8 (fun D8 hX8 h8 => ?_);refine WC.freezeN 1 b9 (.cells (List.toArray [it (fewI pc h sure)]) 3 (0, 0)) rfl rfl hb9 (fun D9 hX9 h9 => ?_);have h11x := hX9.old _ _ (hX8.old _ _ (hX7.old _ _ h11));have h7x := hX9.old _ _ (hX8.old _ _ h7);refine g [[2,11,10,6,7,9]] ?_;refine WL.so (SO.altersN (own := [(b6, .cells (List.toArray [it 0]) 28 (0, 0)), (b2, .cells (List.toArray [it h.pace, slV m]) 24 (0, 0))]) (hpc := [(b10, liO (List.replicate 7 (0 : Int)))]) (zcM (List.perm_append_comm (l₁ := [_]) (l₂ := [_, _]))).1 (zcM (List.perm_append_comm (l₁ := [_]) (l₂ := [_, _]))).2 (fun _ h => h) (fun _ h => h) (Enters.val CaF.h rfl rfl) (fun w1 hI => zuA h m hmn hn7 (chaN h sure) (fewI pc h sure) hnb b7 b9 b10 b8 b11 h.moves.length 0 (List.replicate 7 (0 : Int)) D9 w1 (by omega) rfl ⟨hX9.old _ _ (hX8.old _ _ h7), h9, hX9.old _ _ h8, hX9.old _ _ (hX8.old _ _ (hX7.old _ _ h11))⟩ hI)) rfl ?_;rintro _ _ _ ⟨hp3, _, ⟨rfl, rfl, hr7, rfl⟩, rfl⟩;obtain ⟨R, hRR⟩ : ∃ R, (zr5 (chaN h sure) (fewI pc h sure).toNat h.moves.length 0 (List.replicate 7 (0 : Int))).2 = R := ⟨_, rfl⟩;rw [hRR] at hr7 ⊢;have hLL : fewL pc h sure = R.take h.moves.length := by unfold fewL; rw [hRR]
      refine g [[3],[5,10,6,7,9]] ?_;refine WL.know 30 (nt h.moves.length) rfl (congrArg (fun n : Nat => nt n) hmn) ?_;refine WL.so (SO.makeSlice Tryz.underlying31 Tryz.sizeOf3 Tryz.typeInfo3 Tryz.zeroValue3 rfl rfl rfl (by omega) (by show (8 : Int) * _ ≤ _; omega)) rfl ?_;rintro _ _ _ ⟨b31, hb31, rfl, rfl, rfl⟩;refine g [[4],[2,12,10,6,9]] ?_;refine WL.yd (Yd.sliceArrAll Tryz.underlying106 Tryz.sizeOf3 rfl) rfl ?_;refine WL.so (SO.copyMin (size := 1) (ys := (R.take h.moves.length).map it) rfl Tryz.underlying31 Tryz.sizeOf3 rfl rfl (by omega) (k := 0) rfl (by rw [List.length_map, List.length_take, hr7]; omega) (RdN.own (k := 3) (n := h.moves.length) (cs := R.map it) rfl (by simp [slc, List.map_take])) (by intro v hv2; obtain ⟨z, _, rfl⟩ := List.mem_map.1 hv2; rfl) (by rw [yz, List.length_map, List.length_take, hr7]; omega)) rfl ?_;rintro _ _ _ ⟨rfl, rfl⟩
      have hsp : splice (xI [it 0] (h.moves.length * 1)) 0 ((R.take h.moves.length).map it) = (fewL pc h sure).flatMap itC ++ [] := by
        rw [List.append_nil, zrJ, hLL]; unfold splice;rw [List.take_zero, List.nil_append, List.drop_of_length_le (by rw [yz, List.length_map, List.length_take, hr7]; omega), List.append_nil]
      refine g [[3]] ?_;rw [hsp];refine WC.freezeN 0 b31 (.cells (((fewL pc h sure).flatMap itC ++ []).toArray) 3 (0, 0)) rfl rfl hb31 (fun DZ hXZ h31 => ?_);have hXX := (((hX11.trans hX7 (Nat.le_refl _)).trans hX8 (Nat.le_refl _)).trans hX9 (Nat.le_refl _)).trans hXZ (Nat.le_refl _);have hSS : SlL DZ 1 ((fewL pc h sure).map itC) (some ⟨b31, 0, none⟩) (fewL pc h sure).length := SlL.ofBlock (rest := []) zoV h31;rw [show (fewL pc h sure).length = h.moves.length by rw [hLL, List.length_take, hr7]; omega] at hSS;have h9 := hXZ.old _ _ h9;refine g [[9,12,6,9]] ?_;refine WP.endDA [_, _, _] [_, _, _] rfl rfl CaF.h (fun w hI => zmx b6 w) rfl zV (fun w1 hI => ⟨_, _, rfl, hI.keep, hI.imm, hXX, _, _, _, by rw [hO]; rfl, by rw [hO]; exact hSS, hn7⟩)
    skip;refine g [[0,2,6,7,8]] ?_;refine WC.drawH [_, _, _, _] zk zHl (g [[1000],[1001]] ?_);refine WH.two (i := 2) (j := 4) zk ?_ ?_
    · refine WHo.so rfl (SO.callP CaF.h rfl (fun w hI => zo4 h hn7 m D hR _ hI.imm)) rfl (zs ⟨(fun _ hI => hI.drop 0), ?_⟩);refine WH.two (i := 3) (j := 4) zk ?_ ?_
      · refine WHo.so rfl (SO.callP CaF.h rfl (fun w hI => zo5 pc hpc (chaN h sure) (znV h hn7 sure) _ D _ hI.imm)) rfl (zs ⟨(fun _ hI => hI.drop 0), ?_⟩);refine WH.one (i := 4) zk (WHo.so rfl (SO.alloc ZvF.h rfl) rfl ?_);rintro _ _ _ ⟨b9, hb9, rfl, rfl, rfl⟩;refine ⟨(fun _ hI => hI.drop 1), ?_⟩;refine WH.one (i := 5) zk (WHo.so rfl (SO.store 0 rfl SzF.h rfl rfl rfl rfl (zqb rfl) (za rfl)) rfl ?_);rintro _ _ _ ⟨rfl, rfl, rfl⟩;refine ⟨(fun _ hI => hI.drop 1), ?_⟩;refine WH.nil zk ?_;exact WP.join b9 hb9 (fun a w ha => y4 ha ⟨rfl, rfl, rfl, rfl, rfl, trivial⟩)
      refine WHo.so rfl (SO.alloc ZvF.h rfl) rfl ?_;rintro _ _ _ ⟨b9, hb9, rfl, rfl, rfl⟩;refine ⟨(fun _ hI => hI.drop 1), ?_⟩;refine WH.one (i := 3) zk (WHo.so rfl (SO.callP CaF.h rfl (fun w hI => zo5 pc hpc (chaN h sure) (znV h hn7 sure) _ D _ hI.imm)) rfl (zs ⟨(fun _ hI => hI.drop 1), ?_⟩));refine WH.one (i := 5) zk (WHo.so rfl (SO.store 0 rfl SzF.h rfl rfl rfl rfl (zqb rfl) (za rfl)) rfl ?_);rintro _ _ _ ⟨rfl, rfl, rfl⟩;refine ⟨(fun _ hI => hI.drop 1), ?_⟩;refine WH.nil zk ?_;exact WP.join b9 hb9 (fun a w ha => y4 ha ⟨rfl, rfl, rfl, rfl, rfl, trivial⟩)
    refine WHo.so rfl (SO.alloc ZvF.h rfl) rfl ?_;rintro _ _ _ ⟨b9, hb9, rfl, rfl, rfl⟩;refine ⟨(fun _ hI => hI.drop 1), ?_⟩;refine WH.one (i := 2) zk (WHo.so rfl (SO.callP CaF.h rfl (fun w hI => zo4 h hn7 m D hR _ hI.imm)) rfl (zs ⟨(fun _ hI => hI.drop 1), ?_⟩));refine WH.one (i := 3) zk (WHo.so rfl (SO.callP CaF.h rfl (fun w hI => zo5 pc hpc (chaN h sure) (znV h hn7 sure) _ D _ hI.imm)) rfl (zs ⟨(fun _ hI => hI.drop 1), ?_⟩));refine WH.one (i := 5) zk (WHo.so rfl (SO.store 0 rfl SzF.h rfl rfl rfl rfl (zqb rfl) (za rfl)) rfl ?_);rintro _ _ _ ⟨rfl, rfl, rfl⟩;refine ⟨(fun _ hI => hI.drop 1), ?_⟩;refine WH.nil zk ?_;exact WP.join b9 hb9 (fun a w ha => y4 ha ⟨rfl, rfl, rfl, rfl, rfl, trivial⟩)
  skip;refine g [[0,7,6,5,4,2,1]] ?_;refine WC.drawH [_, _, _] zk zHl (g [[1000],[1001]] ?_);refine WH.two (i := 2) (j := 4) zk ?_ ?_
  · refine WHo.so rfl (SO.callP CaF.h rfl (fun w hI => zn1 sure _)) rfl (zs ⟨(fun _ hI => hI.drop 0), ?_⟩);refine WH.two (i := 3) (j := 4) zk ?_ ?_
    · refine WHo.so rfl (SO.callP CaF.h rfl (fun w hI => zmO sure h m D hR _ hI.imm hok)) rfl (zs ⟨(fun _ hI => hI.drop 0), ?_⟩);refine WH.one (i := 4) zk (WHo.so rfl (SO.alloc ZvF.h rfl) rfl ?_);rintro _ _ _ ⟨b8, hb8, rfl, rfl, rfl⟩;refine ⟨(fun _ hI => hI.drop 1), ?_⟩;refine WH.one (i := 5) zk (WHo.so rfl (SO.store 0 rfl SzF.h rfl rfl rfl rfl (zqb rfl) (za rfl)) rfl ?_);rintro _ _ _ ⟨rfl, rfl, rfl⟩;refine ⟨(fun _ hI => hI.drop 1), ?_⟩;refine WH.nil zk ?_;exact WP.join b8 hb8 (fun a w ha => y4 ha ⟨rfl, rfl, rfl, rfl, trivial⟩)
    refine WHo.so rfl (SO.alloc ZvF.h rfl) rfl ?_;rintro _ _ _ ⟨b8, hb8, rfl, rfl, rfl⟩;refine ⟨(fun _ hI => hI.drop 1), ?_⟩;refine WH.one (i := 3) zk (WHo.so rfl (SO.callP CaF.h rfl (fun w hI => zmO sure h m D hR _ hI.imm hok)) rfl (zs ⟨(fun _ hI => hI.drop 1), ?_⟩));refine WH.one (i := 5) zk (WHo.so rfl (SO.store 0 rfl SzF.h rfl rfl rfl rfl (zqb rfl) (za rfl)) rfl ?_);rintro _ _ _ ⟨rfl, rfl, rfl⟩;refine ⟨(fun _ hI => hI.drop 1), ?_⟩;refine WH.nil zk ?_;exact WP.join b8 hb8 (fun a w ha => y4 ha ⟨rfl, rfl, rfl, rfl, trivial⟩)
  refine WHo.so rfl (SO.alloc ZvF.h rfl) rfl ?_;rintro _ _ _ ⟨b8, hb8, rfl, rfl, rfl⟩;refine ⟨(fun _ hI => hI.drop 1), ?_⟩;refine WH.one (i := 2) zk (WHo.so rfl (SO.callP CaF.h rfl (fun w hI => zn1 sure _)) rfl (zs ⟨(fun _ hI => hI.drop 1), ?_⟩));refine WH.one (i := 3) zk (WHo.so rfl (SO.callP CaF.h rfl (fun w hI => zmO sure h m D hR _ hI.imm hok)) rfl (zs ⟨(fun _ hI => hI.drop 1), ?_⟩));refine WH.one (i := 5) zk (WHo.so rfl (SO.store 0 rfl SzF.h rfl rfl rfl rfl (zqb rfl) (za rfl)) rfl ?_);rintro _ _ _ ⟨rfl, rfl, rfl⟩;refine ⟨(fun _ hI => hI.drop 1), ?_⟩;refine WH.nil zk ?_;exact WP.join b8 hb8 (fun a w ha => y4 ha ⟨rfl, rfl, rfl, rfl, trivial⟩)
theorem zoP : y6 Tryz.prog 7 [k3 h m, .bool sure] w D (fun v D' => ∃ a n c, v = .tuple #[it (KT pc h sure).1, .slice a n c, it (KT pc h sure).2.2] ∧ SlL D' 1 ((KT pc h sure).2.1.map itC) a n ∧ n ≤ 7) := by
  cases hv : qn h with
  | false => exact ztb pc hpc sure h m D hR w hH hv
  | true => exact ztc pc hpc sure h m D hR w hH hv
end
def seaC (s : Surf) (m : znC) (mb : Nat) : List Value := [it s.rows, it s.step, slV m.w, slV m.v, slV m.h, .map (some mb)]
def seaO (s : Surf) (m : znC) (mb : Nat) : Obj := .cells (List.toArray (seaC s m mb)) 263 (0, 0)
abbrev hutV (h : Hut) : Value := .agg #[it h.floor, it h.brake, it h.row]
def nowC (n : Now) : List Value := [it n.hut.floor, it n.hut.brake, it n.hut.row, it n.water, it n.wave, ut n.place]
abbrev nowV (n : Now) : Value := .agg #[it n.hut.floor, it n.hut.brake, it n.hut.row, it n.water, it n.wave, ut n.place]
def zmn (i : Int) : Prop := 0 ≤ i ∧ i ≤ 100
structure znO (n : Now) : Prop where
  f : zmn n.hut.floor
  b : zmn n.hut.brake
  r : zmn n.hut.row
  w : zmn n.water
  v : zmn n.wave
  p : n.place < 256
theorem zxV (n : Nat) : decide (((n % 2 : Nat) : Int) = 1) = decide (n % 2 = 1) := by
  rw [Bool.eq_iff_iff]; simp only [decide_eq_true_eq]; omega
theorem zxl {x : Nat} (h : x < 256) : Lib.ctz 64 x ≤ 64 := by
  have : ∀ x, x < 256 → Lib.ctz 64 x ≤ 64 := by decide +kernel
  exact this x h
def tabV : List Value := Lib.deBruijn64tab.map fun (n : Nat) => Value.int .u8 (n : Int)
def LibT (D : Imm) : Prop := ∃ t fz, D 1 = some (.cells (List.toArray tabV) t fz)
theorem LibT.ext {w : World} {D D' : Imm} (hD : DExt w D D') (h : LibT D) : LibT D' := let ⟨t, fz, e⟩ := h; ⟨t, fz, hD.old _ _ e⟩
section
variable (x : Nat) (hx : x < 2 ^ 61)
include x hx
theorem zuN (D : Imm) (hL : LibT D) (w : World) (hH : Holds D w) : z8 Tryz.prog 213 [ut x] w (nt (Lib.ctz 64 x)) := by
  obtain ⟨t, fz, e⟩ := hL;refine (Any7.bits_TrailingZeros64 zaz x (Nat.lt_trans hx (by decide)) w (fun _ j hj => ?_)).mono fun e' w' ⟨h1, h2⟩ => ⟨h1, h2 ▸ Keep.refl _ _⟩;have := hH _ _ e
  show w.cell? ⟨1, j, none⟩ = _;simp [World.cell?, this, tabV, hj]
theorem zaA (w : World) : z8 Tryz.prog 214 [ut x] w (nt (Lib.bitLen x)) := by
  refine (Any.bits_Len64 zax (x : Int) w (by omega) (by omega)).mono fun e' w' ⟨h1, h2⟩ => ⟨by simpa using h1, h2 ▸ Keep.refl _ _⟩
theorem tz_g (D : Imm) (hL : LibT D) (w : World) (hH : Holds D w) : z8 Tryz.prog 238 [ut x] w (nt (Lib.ctz 64 x)) := by
  unfold z8;refine en Tryz.func238 rfl Tryz.ntmps238 (Inv.start hH) (g [[1],[9,0],[2,2,0]] ?_);refine WL.cl rfl (fun w hI => zuN x hx D hL _ hI.imm) (g [[4]] ?_);refine WP.ret1 rfl rfl rfl (RV.tmp rfl) (fun w hI => ⟨rfl, hI.keep⟩)
end
theorem zxQ (p : Nat) (w : World) : z8 Tryz.prog 100 [ut p] w (.bool (decide (p % 2 = 1))) := by
  unfold z8;refine en Tryz.func100 rfl Tryz.ntmps100 zI (g [[1],[5,0],[2,2,0]] ?_);refine WL.yd (Yd.andU1 rfl rfl) rfl (g [[5]] ?_);refine WP.ret1 rfl rfl rfl (RV.tmp rfl) (fun w hI => ⟨zb (zxV p), hI.keep⟩)
theorem zDp (p : Nat) (w : World) : z8 Tryz.prog 299 [ut p] w (ut (p / 2)) := by
  unfold z8;refine en Tryz.func299 rfl Tryz.ntmps299 zI (g [[1],[5,0],[2,2,0]] ?_);refine WL.yd (Yd.shrG (.inl rfl) (j := 1) (by omega) rfl rfl) rfl (g [[4]] ?_);refine WP.ret1 rfl rfl rfl (RV.tmp rfl) (fun w hI => ⟨rfl, hI.keep⟩)
theorem zz4 (r : Nat) (hr : r ≤ 50) (w : World) : z8 Tryz.prog 172 [nt r] w (ut (2 * 2 ^ r)) := by
  unfold z8;have hsm : 2 * 2 ^ r < 2 ^ 63 := by have := Nat.pow_le_pow_right (n := 2) (by decide) hr; omega
  refine en Tryz.func172 rfl Tryz.ntmps172 zI (g [[1],[5,0],[2,2,0]] ?_);refine WL.yd (Yd.shlG (.inl rfl) (a := 2) hsm (by omega) rfl rfl) rfl (g [[4]] ?_);refine WP.ret1 rfl rfl rfl (RV.tmp rfl) (fun w hI => ⟨rfl, hI.keep⟩)
theorem zp9 (l : List Nat) (hl : ∀ x ∈ l, x < 2 ^ 63) (a : Option Addr) (n c : Nat) (D : Imm) (hS : SlL D 1 (l.map utC) a n) (hn : n ≤ 1000) (w : World) (hH : Holds D w) : z8 Tryz.prog 300 [.slice a n c] w (ut (uniN l)) := by
  unfold z8;obtain rfl := hS.len';refine en Tryz.func300 rfl Tryz.ntmps300 (Inv.start hH) (g [[1],[6,0],[7,2,0]] ?_);refine WC.loopF (fun k : Nat => [(2, ut (uniN (l.take k))), (5, .slice a l.length c), (6, nt l.length), (7, nt k)]) (fun k => k ≤ l.length) (fun k => l.length - k) 0 (Nat.zero_le _) (by exact ⟨rfl, rfl, rfl, rfl, trivial⟩) ?_;intro k hk;refine g [[1],[5,2,5,6,7]] ?_;refine WC.cond rfl (fun c8 => ?_) (fun c8 => ?_)
  · try simp only [zq] at c8
    have hkl : k < l.length := by omega
    refine g [[5],[1,2,5,6,7]] ?_;refine WL.yd (Yd.ix rfl rfl (hS.addr k (by omega))) rfl (WL.yd (Yd.l1 rfl ((hS.at k (by omega)).rd 0 rfl)) rfl (g [[3],[3,4,2,5,6,7]] ?_));refine WL.yd (Yd.orG (.inl rfl) (zqO hl k) (hl _ (yE hkl)) rfl rfl) rfl (g [[4],[4,2,5,6,7]] ?_);exact WP.againF (k + 1) hkl (by omega) ⟨by rw [zp8 hkl]; rfl, rfl, rfl, rfl, trivial⟩ (fun _ h => h) (fun h => h)
  try simp only [zq] at c8
  obtain rfl : k = l.length := by omega
  refine g [[6],[6,2]] ?_;refine WP.ret1 rfl rfl rfl (RV.tmp rfl) (fun w hI => ⟨by rw [List.take_length], hI.keep⟩)
theorem zs1 (x : Sp) (hi : Int) (hh : hi ≤ 100) (w : World) : z8 Tryz.prog 161 [.agg #[it x.lo, it x.hi], it hi] w (.bool (ZP x hi)) := by
  unfold z8;refine en Tryz.func161 rfl Tryz.ntmps161 zI (g [[1],[1,0,1]] ?_);refine WL.so (SO.box rfl rfl) rfl (zw fun b2 hb2 => ?_);refine g [[4],[5,4,2,1]] ?_;refine WL.part 8 rfl (fun g8 => ?_) (fun g8 => ?_)
  · try simp only [zq] at g8
    refine g [[7]] ?_;refine WL.part 15 rfl (fun g15 => ?_) (fun g15 => ?_)
    · try simp only [zq] at g15
      refine g [[6]] ?_;refine WL.part 21 rfl (fun g21 => ?_) (fun g21 => ?_)
      · try simp only [zq] at g21
        refine g [[4]] ?_;refine WL.ydg rfl (Yd.sub rfl rfl (wr64 ⟨by first | omega | (simp_all; omega), by first | omega | (simp_all; omega)⟩)) rfl (g [[6]] ?_);refine WP.ret1 rfl rfl rfl (RV.tmp rfl) (fun w hI => ⟨zb (by rw [Bool.eq_iff_iff]; simp_all [ZP, spB]; try omega), hI.keep⟩)
      try simp only [zq] at g21
      refine g [[11]] ?_;refine WP.ret1 rfl rfl rfl (RV.tmp rfl) (fun w hI => ⟨zb (by rw [Bool.eq_iff_iff]; simp_all [ZP, spB]; try omega), hI.keep⟩)
    try simp only [zq] at g15
    refine g [[17]] ?_;refine WP.ret1 rfl rfl rfl (RV.tmp rfl) (fun w hI => ⟨zb (by rw [Bool.eq_iff_iff]; simp_all [ZP, spB]; try omega), hI.keep⟩)
  try simp only [zq] at g8
  refine g [[24]] ?_;refine WP.ret1 rfl rfl rfl (RV.tmp rfl) (fun w hI => ⟨zb (by rw [Bool.eq_iff_iff]; simp_all [ZP, spB]; try omega), hI.keep⟩)
theorem zta (water row : Int) (hw : -1000 ≤ water ∧ water ≤ 1000) (hr : -1000 ≤ row ∧ row ≤ 1000) (qb mb : Nat) (s : Surf) (m : znC) (D : Imm) (hR : znP D s m) (w : World) (hH : Holds D w) (hs : 0 ≤ s.step ∧ s.step ≤ 4) (hq : D qb = some (seaO s m mb)) : z8 Tryz.prog 237 [pt qb, it water, it row] w (it (depI s water row)) := by
  unfold z8
  have hmul : -4000 ≤ s.step * row ∧ s.step * row ≤ 4000 := by
    have h5 : s.step = 0 ∨ s.step = 1 ∨ s.step = 2 ∨ s.step = 3 ∨ s.step = 4 := by omega
    rcases h5 with h | h | h | h | h <;> rw [h] <;> omega
  refine en Tryz.func237 rfl Tryz.ntmps237 (Inv.start hH) (g [[1],[5,0,1,2],[10,6,0,1,2]] ?_);refine WL.yd (Yd.max2 rfl rfl) rfl (g [[4]] ?_);refine WP.ret1 rfl rfl rfl (RV.tmp rfl) (fun w hI => ⟨rfl, hI.keep⟩)
theorem zyN : zj Tryz.prog 263 [.int .i64 0, .int .i64 0, .slice none 0 0, .slice none 0 0, .slice none 0 0, .map none] [(0, 5), (5, 1)] := ⟨⟨_, Tryz.zeroValue263, rfl⟩, _, Tryz.underlying263, fun w => by simp [Tryz.sizeOf49, Tryz.sizeOf261]⟩
abbrev zwU := SaF.mk zyN
attribute [instance] zwU
theorem zsC {s : Surf} (hok : zmq s) {k : Nat} (hk : k < s.water.length) : ZP (gt s.water k) 30 = true ∧ ZP (gt s.waves k) 10 = true := by
  have h1 := hok.water _ (yE hk);have h2 := hok.waves _ (yE (l := s.waves) (k := k) (by rw [hok.same]; exact hk));simp only [ZP, Bool.and_eq_true, decide_eq_true_eq];exact ⟨h1, h2⟩
theorem zr3 (s : Surf) (m : znC) (D : Imm) (hR : znP D s m) (w : World) (hH : Holds D w) (hok : zmq s) : News Tryz.prog 86 [zu5 s m, .bool true] w D (fun v D' h' => ∃ q mb, v = pt q ∧ D' q = some (seaO s m mb) ∧ h' = [(mb, .map #[] 0)]) := by
  unfold News;obtain ⟨⟨wa, wn, wc⟩, ⟨va, vn, vc⟩, ⟨ha, hn, hc⟩⟩ := m;obtain rfl : wn = s.water.length := hR.w.len';obtain rfl : vn = s.waves.length := hR.v.len';obtain rfl : hn = s.huts.length := hR.h.len';have hRw : SlL D 2 (s.water.map spC) wa s.water.length := hR.w;have hRv : SlL D 2 (s.waves.map spC) va s.waves.length := hR.v;have hRh : SlL D 3 (s.huts.map hutC) ha s.huts.length := hR.h;have nw : s.water.length ≤ 9223372036854775807 := hR.nw;have nv : s.waves.length ≤ 9223372036854775807 := hR.nv;have nh : s.huts.length ≤ 9223372036854775807 := hR.nh;dsimp only [zu5, slV];have nws : s.waves.length = s.water.length := hok.same;have nw8 := hok.nwater;have nh5 := hok.nhuts;have nrw := hok.rows;refine en Tryz.func86 rfl Tryz.ntmps86 (Inv.start hH) (g [[1],[1,0,1]] ?_);refine WL.so (SO.box rfl rfl) rfl (zw fun b2 hb2 => ?_);refine g [[4],[3,4,2,1]] ?_;refine WL.cl rfl (fun w hI => zn2 _ _ _ _) (g [[1]] ?_);refine WL.part 13 rfl (fun g13 => ?_) (fun g13 => ?_)
  · refine g [[2]] ?_;refine WL.sog rfl (SO.callP CaF.h rfl (fun w hI => zn2 _ _ _ _)) rfl (zs (g [[2]] ?_));refine WL.part 18 rfl (fun g18 => ?_) (fun g18 => ?_)
    · refine g [[6]] ?_;refine WL.part 24 rfl (fun g24 => ?_) (fun g24 => ?_)
      · try simp only [zq] at g24
        refine g [[9]] ?_;refine WL.part 33 rfl (fun g33 => ?_) (fun g33 => ?_)
        · try simp only [zq] at g33
          refine g [[5]] ?_;refine WL.part 38 rfl (fun g38 => ?_) (fun g38 => ?_)
          · try simp only [zq] at g38
            refine WL.cl rfl (fun w hI => zo7 _ _) (g [[3],[6,4,2,1],[8,5,4,2,1]] ?_);refine WC.loopF (fun k : Nat => [(1, .bool true), (2, pt b2), (5, .func (.func 161) #[] #[]), (41, .slice wa s.water.length wc), (42, nt s.water.length), (43, nt k)]) (fun k => k ≤ s.water.length) (fun k => s.water.length - k) 0 (Nat.zero_le _) (by exact ⟨rfl, rfl, rfl, rfl, rfl, rfl, trivial⟩) ?_;intro k hk;refine g [[1],[5,1,2,5,41,42,43]] ?_;refine WC.cond rfl (fun c44 => ?_) (fun c44 => ?_)
            · try simp only [zq] at c44
              have hkl : k < s.water.length := by omega
              have hnr := zsC hok hkl;refine g [[5],[2,1,2,5,41,42,43]] ?_;refine WL.yd (Yd.ix rfl rfl (hRw.addr k (by omega))) rfl (WL.yd (Yd.lV [_, _] rfl ((hRw.at k (by omega)).rdn 0 2 rfl)) rfl ?_);refine WL.so (SO.alloc ZvF.h rfl) rfl (zw fun b7 hb7 => ?_);refine g [[4],[3,6,7,1,2,5,41,42,43]] ?_;refine WL.so (SO.call (Enters.val CaF.h rfl rfl) (fun w hI => zs1 (gt s.water k) 30 (by omega) _)) rfl (zs (g [[1]] ?_));refine WL.part 51 rfl (fun g51 => ?_) (fun g51 => ?_)
              · refine g [[4]] ?_;refine WL.ydg rfl (Yd.ix rfl rfl (hRv.addr k (by omega))) rfl (WL.ydg rfl (Yd.lV [_, _] rfl ((hRv.at k (by omega)).rdn 0 2 rfl)) rfl ?_);refine WL.sog rfl (SO.call (Enters.val CaF.h rfl rfl) (fun w hI => zs1 (gt s.waves k) 10 (by omega) _)) rfl (zs (g [[1]] ?_));refine WL.part 59 rfl (fun g59 => ?_) (fun g59 => ?_)
                · refine WL.cl rfl (fun w hI => zo7 _ _) (g [[3],[4,1,2,5,41,42,43]] ?_);exact WP.againF (k + 1) hkl (by omega) ⟨rfl, rfl, rfl, rfl, rfl, rfl, trivial⟩ (fun _ h => List.mem_cons_of_mem _ h) (fun h => (List.nodup_cons.1 h).2)
                refine WL.nf rfl (fun w hI => zmG _ _) (g [[5]] ?_)
                exfalso; have h1 := hok.rows; have h2 := hok.step; have h3 := hok.nwater; have h4 := hok.same; have h5 := hok.nhuts; simp_all [inB]; done
              refine g [[8]] ?_;refine WL.nf rfl (fun w hI => zmG _ _) (g [[5]] ?_)
              exfalso; have h1 := hok.rows; have h2 := hok.step; have h3 := hok.nwater; have h4 := hok.same; have h5 := hok.nhuts; simp_all [inB]; done
            try simp only [zq] at c44
            obtain rfl : k = s.water.length := by omega
            refine g [[7],[8,1,2]] ?_;refine WC.loopF (fun k : Nat => [(1, .bool true), (2, pt b2), (63, .slice ha s.huts.length hc), (64, nt s.huts.length), (65, nt k)]) (fun k => k ≤ s.huts.length) (fun k => s.huts.length - k) 0 (Nat.zero_le _) (by exact ⟨rfl, rfl, rfl, rfl, rfl, trivial⟩) ?_;intro k hk;refine g [[1],[5,1,2,63,64,65]] ?_;refine WC.cond rfl (fun c66 => ?_) (fun c66 => ?_)
            · try simp only [zq] at c66
              have hkl : k < s.huts.length := by omega
              have hht := hok.huts _ (yE hkl);refine g [[5],[1,1,2,63,64,65]] ?_;refine WL.yd (Yd.ix rfl rfl (hRh.addr k (by omega))) rfl (WL.yd (Yd.lV [_, _, _] rfl ((hRh.at k (by omega)).rdn 0 3 rfl)) rfl ?_);refine WL.so (SO.alloc ZvF.h rfl) rfl (zw fun b9 hb9 => ?_);refine g [[3],[3,9,1,2,63,64,65]] ?_;refine WL.cl rfl (fun w hI => zn2 _ _ _ _) (g [[1]] ?_);refine WL.part 72 rfl (fun g72 => ?_) (fun g72 => ?_)
              · refine g [[2]] ?_;refine WL.sog rfl (SO.callP CaF.h rfl (fun w hI => zn2 _ _ _ _)) rfl (zs (g [[2]] ?_));refine WL.part 77 rfl (fun g77 => ?_) (fun g77 => ?_)
                · refine g [[5]] ?_;refine WL.sog rfl (SO.callP CaF.h rfl (fun w hI => zn2 _ _ _ _)) rfl (zs (g [[1]] ?_));refine WL.part 84 rfl (fun g84 => ?_) (fun g84 => ?_)
                  · refine WL.cl rfl (fun w hI => zo7 _ _) (g [[3],[4,1,2,63,64,65]] ?_);exact WP.againF (k + 1) hkl (by omega) ⟨rfl, rfl, rfl, rfl, rfl, trivial⟩ (fun _ h => List.mem_cons_of_mem _ h) (fun h => (List.nodup_cons.1 h).2)
                  refine WL.nf rfl (fun w hI => zmG _ _) (g [[5]] ?_)
                  exfalso; have h1 := hok.rows; have h2 := hok.step; have h3 := hok.nwater; have h4 := hok.same; have h5 := hok.nhuts; simp_all [inB]; done
                refine g [[7]] ?_;refine WL.nf rfl (fun w hI => zmG _ _) (g [[5]] ?_)
                exfalso; have h1 := hok.rows; have h2 := hok.step; have h3 := hok.nwater; have h4 := hok.same; have h5 := hok.nhuts; simp_all [inB]; done
              refine g [[12]] ?_;refine WL.nf rfl (fun w hI => zmG _ _) (g [[5]] ?_)
              exfalso; have h1 := hok.rows; have h2 := hok.step; have h3 := hok.nwater; have h4 := hok.same; have h5 := hok.nhuts; simp_all [inB]; done
            try simp only [zq] at c66
            obtain rfl : k = s.huts.length := by omega
            refine g [[6],[2,1,2]] ?_;refine WL.cl rfl (fun w hI => zo7 _ _) (g [[3],[2,2]] ?_);refine WL.so SO.makeMap rfl ?_;rintro _ _ _ ⟨b90, hb90, rfl, rfl, rfl⟩;refine g [[1]] ?_;refine WL.so (SO.box rfl rfl) rfl (zw fun b92 hb92 => ?_);refine WL.freezeN 0 b92 (seaO s ⟨⟨wa, s.water.length, wc⟩, ⟨va, s.waves.length, vc⟩, ⟨ha, s.huts.length, hc⟩⟩ b90) rfl rfl hb92 (fun D92 hX92 h92 => ?_);refine g [[4]] ?_;refine WP.ret1 rfl rfl rfl (RV.tmp rfl) (fun w1 hI => ⟨_, _, _, rfl, hX92, hI.sub (fun e he => by simp only [List.mem_singleton] at he; subst he; simp) (by simp [keys]), b92, b90, rfl, h92, rfl⟩)
          try simp only [zq] at g38
          refine WL.nf rfl (fun w hI => zmG _ _) (g [[1]] ?_)
          exfalso; have h1 := hok.rows; have h2 := hok.step; have h3 := hok.nwater; have h4 := hok.same; have h5 := hok.nhuts; simp_all [inB]; omega
        try simp only [zq] at g33
        refine g [[5]] ?_;refine WL.nf rfl (fun w hI => zmG _ _) (g [[1]] ?_)
        exfalso; have h1 := hok.rows; have h2 := hok.step; have h3 := hok.nwater; have h4 := hok.same; have h5 := hok.nhuts; simp_all [inB]; done
      try simp only [zq] at g24
      refine g [[14]] ?_;refine WL.nf rfl (fun w hI => zmG _ _) (g [[1]] ?_)
      exfalso; have h1 := hok.rows; have h2 := hok.step; have h3 := hok.nwater; have h4 := hok.same; have h5 := hok.nhuts; simp_all [inB]; omega
    refine g [[20]] ?_;refine WL.nf rfl (fun w hI => zmG _ _) (g [[1]] ?_)
    exfalso; have h1 := hok.rows; have h2 := hok.step; have h3 := hok.nwater; have h4 := hok.same; have h5 := hok.nhuts; simp_all [inB]; done
  refine g [[25]] ?_;refine WL.nf rfl (fun w hI => zmG _ _) (g [[1]] ?_)
  exfalso; have h1 := hok.rows; have h2 := hok.step; have h3 := hok.nwater; have h4 := hok.same; have h5 := hok.nhuts; simp_all [inB]; done
theorem wf_s {n : Int} (h : zmn n) : (Lit.int .i64 n).wf = true := by
  simp only [Lit.wf, Bool.and_eq_true, decide_eq_true_eq];exact ⟨Int.le_trans (by decide) h.1, Int.le_trans h.2 (by decide)⟩
theorem wf_p {n : Nat} (h : n < 256) : (Lit.int .u64 (n : Int)).wf = true := by
  simp only [Lit.wf, Bool.and_eq_true, decide_eq_true_eq];exact ⟨Int.le_trans (by decide) (Int.natCast_nonneg n), Int.le_trans (show (n : Int) ≤ 256 by omega) (by decide)⟩
theorem zoz (d : Nat) (n : Int) (h : zmn n) : Tryz.prog.keyLits (d + 1) 3 [it n] = some [.int .i64 n] := by
  have hw := wf_s h;simp only [Program.keyLits, Tryz.underlying3];simp [hw]
theorem zxP (d : Nat) (n : Nat) (h : n < 256) : Tryz.prog.keyLits (d + 1) 184 [ut n] = some [.int .u64 (n : Int)] := by
  have hw := wf_p h;simp only [Program.keyLits, Tryz.underlying184];simp [hw]
theorem ztB (d : Nat) (a b c : Int) (ha : zmn a) (hb : zmn b) (hc : zmn c) : Tryz.prog.keyLits (d + 2) 139 [it a, it b, it c] = some [.int .i64 a, .int .i64 b, .int .i64 c] := by
  have h3 : Tryz.prog.cellsOf 139 = 3 := by kernel_rfl
  have h1 : Tryz.prog.cellsOf 3 = 1 := by kernel_rfl
  unfold Program.keyLits;simp only [Tryz.underlying139, h3];simp [h1, zoz, ha, hb, hc]
theorem zrQ (d : Nat) (a b : Int) (ha : zmn a) (hb : zmn b) : Tryz.prog.keyLits (d + 2) 349 [it a, it b] = some [.int .i64 a, .int .i64 b] := by
  have h2 : Tryz.prog.cellsOf 349 = 2 := by kernel_rfl
  have h1 : Tryz.prog.cellsOf 3 = 1 := by kernel_rfl
  unfold Program.keyLits;simp only [Tryz.underlying349, h2];simp [h1, zoz, ha, hb]
theorem zxH : Tryz.prog.keyType 351 = true := by kernel_rfl
theorem zo6 : laidOutB Tryz.prog = true := by kernel_rfl
theorem nowK : Go.Maps.Keyed Tryz.prog 351 := Go.Maps.Keyed.of_law (deep_law_gate zo6 (Nat.le_of_ble_eq_true zk) (Nat.le_of_ble_eq_true zk) zxH zk)
theorem U3 {n : Now} (h : znO n) : ∃ l, keyOf Tryz.prog 351 (nowV n) = some l := by
  have h6 : Tryz.prog.cellsOf 351 = 6 := by kernel_rfl
  have h3 : Tryz.prog.cellsOf 139 = 3 := by kernel_rfl
  have h2 : Tryz.prog.cellsOf 349 = 2 := by kernel_rfl
  have h1 : Tryz.prog.cellsOf 184 = 1 := by kernel_rfl
  have hs : Tryz.prog.types.size + 1 = 451 + 3 := by kernel_rfl
  unfold keyOf;rw [Tryz.underlying351];have hf : (nowV n).formed Tryz.prog 351 = true := by simp [nowV, Value.formed, Tryz.underlying351, h6]
  simp only [zxH, hf, Bool.and_self, if_true, hs]
  have hl : Tryz.prog.keyLits (451 + 3) 351 (nowC n) = some [.int .i64 n.hut.floor, .int .i64 n.hut.brake, .int .i64 n.hut.row, .int .i64 n.water, .int .i64 n.wave, .int .u64 (n.place : Int)] := by
    unfold Program.keyLits nowC;simp only [Tryz.underlying351, h6];simp [h3, h2, h1, ztB 451 _ _ _ h.f h.b h.r, zrQ 451 _ _ h.w h.v, zxP _ _ h.p]
  show ∃ l, (Tryz.prog.keyLits (451 + 3) 351 (nowC n)).map _ = some l;rw [hl];exact ⟨_, rfl⟩
theorem zqz : ∀ x y : Now, nowV x = nowV y → x = y := by
  rintro ⟨⟨a, b, c⟩, d, e, f⟩ ⟨⟨a', b', c'⟩, d', e', f'⟩ h;simp at h;obtain ⟨h1, h2, h3, h4, h5, h6⟩ := h;have : f = f' := by omega
  subst h1; subst h2; subst h3; subst h4; subst h5; subst this; rfl
def zqe (s : Surf) (F : Now → Option Bool) : Prop := ∀ n v, F n = some v → v = floB s n
def MapS (s : Surf) (mb : Nat) (hp : Hp) : Prop := ∃ es clock F, hp = [(mb, .map es clock)] ∧ MapG Tryz.prog 351 nowV Value.bool es F ∧ zqe s F
theorem ztF (s : Surf) (mb : Nat) : MapS s mb [(mb, .map #[] 0)] := ⟨_, _, _, rfl, MapG.empty, fun n v e => nomatch e⟩
theorem zqe.put {s : Surf} {F : Now → Option Bool} (h : zqe s F) (n : Now) : zqe s (putG F n (floB s n)) := fun n' v e => by
  unfold putG at e;split at e
  · rename_i e2; subst e2; cases e; rfl
  exact h n' v e
theorem zru {s : Surf} {n : Now} (h : n.place % 2 = 1) : floB s n = false := by unfold floB; rw [if_pos h]
theorem zrv {s : Surf} {n : Now} (h : ¬ n.place % 2 = 1) : floB s n = (decide (0 < depI s n.water ((Lib.ctz 64 n.place : Int) - 1)) && decide (n.hut.floor < depI s n.water ((Lib.ctz 64 n.place : Int) - 1) + n.wave)) := by unfold floB; rw [if_neg h]
theorem zv4 {s : Surf} (hs : 0 ≤ s.step ∧ s.step ≤ 4) {w r : Int} (hw : 0 ≤ w ∧ w ≤ 100) (hr : -1 ≤ r ∧ r ≤ 100) : 0 ≤ depI s w r ∧ depI s w r ≤ 1000 := by
  have h5 : s.step = 0 ∨ s.step = 1 ∨ s.step = 2 ∨ s.step = 3 ∨ s.step = 4 := by omega
  unfold depI;rcases h5 with h | h | h | h | h <;> rw [h] <;> omega
theorem ztj (s : Surf) (m : znC) (qb mb : Nat) (D : Imm) (hR : znP D s m) (hok : zmq s) (hq : D qb = some (seaO s m mb)) (hT : LibT D) (n : Now) (hn : znO n) (w : World) (hM0 : Hp) (hMM : MapS s mb hM0) (hI0 : Inv D hM0 [mb] w w) : zp Tryz.prog 209 [pt qb, nowV n] w D [mb] (fun v D' hp' => D = D' ∧ v = .bool (floB s n) ∧ MapS s mb hp') := by
  unfold zp;obtain ⟨es, clock, F, rfl, hM, hF⟩ := hMM;obtain ⟨lk, hkey⟩ := U3 hn;have hst := hok.step;have hc64 := zxl hn.p;have hp256 := hn.p;obtain ⟨hf0, hf1⟩ := hn.f;obtain ⟨hw0, hw1⟩ := hn.w;obtain ⟨hv0, hv1⟩ := hn.v;have hdn := zv4 hok.step (w := n.water) (r := (Lib.ctz 64 n.place : Int) - 1) ⟨hw0, hw1⟩ (by omega);refine en Tryz.func209 rfl Tryz.ntmps209 hI0 (g [[1],[1,0,1]] ?_);refine WL.so (SO.box rfl rfl) rfl (zw fun b3 hb3 => ?_);refine g [[4],[0,4,3,0],[3010],[5]] ?_;refine WQ.q rfl (Yd.qt (Yd.lookGOk (kv := nowV) (vv := Value.bool) (y := n) zqz nowK UnF.h ZvF.h rfl hkey rfl (j := 1) rfl hM)) rfl (g [[10],[5,6,5,4,3,0]] ?_);refine WC.cond rfl (fun c18 => ?_) (fun c18 => ?_)
  · try simp only [zq] at c18
    refine WC.seqJ (α := Unit) (fun _ => [(0, pt qb), (3, pt b3), (5, .bool (floB s n))]) (fun _ => [(b3, .cells (List.toArray (nowC n)) 351 (0, 0)), (mb, .map es clock)]) (fun _ => D) (fun _ => True) ?_ ?_
    · rintro _ -;refine g [[0,0,3,5]] ?_;refine WC.drawO [_] (pz [1,3,5,7,9,11,12]) zk zk zX (fun _ hI => Inv.left (l1 := [_]) (l2 := [_]) hI) (g [[6]] ?_);refine WA.so rfl (SO.putG (kv := nowV) (vv := Value.bool) (y := n) (u := floB s n) zqz nowK UnF.h rfl hkey rfl rfl (j := 1) rfl hM) rfl ?_;rintro _ _ _ ⟨rfl, es1, clock1, rfl, hM1⟩;refine ⟨fun _ hI => Inv.left (l1 := [_]) hI, ?_⟩;refine g [[3],[6,5]] ?_;refine WP.ret1 rfl rfl rfl (RV.tmp rfl) (fun w1 hI => ⟨_, D, [(mb, .map es1 clock1)], rfl, DExt.refl _ _, hI.drop 1, rfl, rfl, es1, clock1, _, rfl, hM1, hF.put n⟩)
    skip;refine g [[1],[3,5,4,3,0]] ?_;refine WL.cl rfl (fun w hI => zxQ _ _) (g [[3]] ?_);refine WC.cond rfl (fun c22 => ?_) (fun c22 => ?_)
    · try simp only [zq] at c22
      refine g [[1],[0,5,4,3,0],[3008],[6]] ?_;refine WQ.q rfl (Qt.callP CaF.h rfl (fun w hI => tz_g n.place (by omega) D hT _ hI.imm)) rfl (g [[2]] ?_);refine WL.cl rfl (fun w hI => zta n.water ((Lib.ctz 64 n.place : Int) - 1) (by omega) (by omega) qb mb s m D hR _ hI.imm hok.step hq) (g [[3],[4,7,5,4,3,0]] ?_);refine WL.part 34 rfl (fun g34 => ?_) (fun g34 => ?_)
      · try simp only [zq] at g34
        refine g [[12]] ?_;exact WP.join () trivial (fun a w ha => y4 ha ⟨rfl, rfl, (by rw [zrv (by simpa using c22), decide_eq_true g34, Bool.true_and]; rfl), trivial⟩)
      try simp only [zq] at g34
      refine g [[12]] ?_;exact WP.join () trivial (fun a w ha => y4 ha ⟨rfl, rfl, (by rw [zrv (by simpa using c22), decide_eq_false (by omega), Bool.false_and]; rfl), trivial⟩)
    try simp only [zq] at c22
    refine g [[1]] ?_;exact WP.join () trivial (fun a w ha => y4 ha ⟨rfl, rfl, (by rw [zru (by simpa using c22), show F n = none by simpa using c18]; rfl), trivial⟩)
  try simp only [zq] at c18
  refine g [[3],[6,5,4]] ?_
  refine WP.ret1 rfl rfl rfl (RV.tmp rfl) (fun w1 hI => ⟨_, D, [(mb, .map es clock)], rfl, DExt.refl _ _, hI.drop 1, rfl, (by cases hFk : F n with
    | none => rw [hFk] at c18; cases c18
    | some v => rw [hF n v hFk]; rfl), es, clock, F, rfl, hM, hF⟩)
theorem zyW : zj Tryz.prog 349 [.int .i64 0, .int .i64 0] [(0, 1), (1, 1)] := ⟨⟨_, Tryz.zeroValue349, rfl⟩, _, Tryz.underlying349, fun w => by simp [Tryz.sizeOf3]⟩
abbrev zx3 := SaF.mk zyW
attribute [instance] zx3
abbrev houV (o : Int × Int) : Value := .agg #[it o.1, it o.2]
theorem zoa {a b : Int} {i : Nat} (h : i < (b - a + 1).toNat) : (rng a b).drop i = (a + (i : Int)) :: (rng a b).drop (i + 1) := by
  rw [List.drop_eq_getElem_cons (by rw [wH]; exact h)];congr 1;simp [rng]
theorem zp3 {a b : Int} {i : Nat} (h : (b - a + 1).toNat ≤ i) : (rng a b).drop i = [] := List.drop_of_length_le (by rw [wH]; exact h)
def hrR (s : Surf) (h : Nat) (i j : Nat) : List (Int × Int) := ((rng (gt s.waves h).lo (gt s.waves h).hi).drop j).map fun b => ((gt s.water h).lo + (i : Int), b)
def hrS (s : Surf) (h : Nat) (i : Nat) : List (Int × Int) := ((rng (gt s.water h).lo (gt s.water h).hi).drop i).flatMap fun a => (rng (gt s.waves h).lo (gt s.waves h).hi).map fun b => (a, b)
theorem ztu {s : Surf} {h i : Nat} (hi : i < ((gt s.water h).hi - (gt s.water h).lo + 1).toNat) : hrS s h i = hrR s h i 0 ++ hrS s h (i + 1) := by
  unfold hrS hrR;rw [zoa hi, List.flatMap_cons, List.drop_zero]
theorem ztt {s : Surf} {h i j : Nat} (hj : j < ((gt s.waves h).hi - (gt s.waves h).lo + 1).toNat) : hrR s h i j = ((gt s.water h).lo + (i : Int), (gt s.waves h).lo + (j : Int)) :: hrR s h i (j + 1) := by
  unfold hrR;rw [zoa hj]; rfl
theorem zvy {s : Surf} {h i j : Nat} (hj : ((gt s.waves h).hi - (gt s.waves h).lo + 1).toNat ≤ j) : hrR s h i j = [] := by unfold hrR; rw [zp3 hj]; rfl
theorem zvz {s : Surf} {h i : Nat} (hi : ((gt s.water h).hi - (gt s.water h).lo + 1).toNat ≤ i) : hrS s h i = [] := by unfold hrS; rw [zp3 hi]; rfl
theorem zvx (q n : Nat) (D : Imm) (w : World) (hH : Holds D w) : y6 Tryz.prog 208 [pt q, nt n] w D (fun v D' => ∃ b c, v = .func (.func 236) #[] #[pt b, pt c] ∧ D' b = some (.cells (List.toArray [pt q]) 168 (0, 0)) ∧ D' c = some (.cells (List.toArray [nt n]) 3 (0, 0))) := by
  unfold y6;refine en Tryz.func208 rfl Tryz.ntmps208 (Inv.start hH) (g [[1],[1,0,1]] ?_);refine WL.so (SO.box rfl rfl) rfl (zw fun b2 hb2 => ?_);refine WL.so (SO.box rfl rfl) rfl (zw fun b3 hb3 => ?_);refine g [[4]] ?_;refine WC.freezeN 1 b2 (.cells (List.toArray [pt q]) 168 (0, 0)) rfl rfl hb2 (fun D1 hX1 h2 => ?_);refine WC.freezeN 0 b3 (.cells (List.toArray [nt n]) 3 (0, 0)) rfl rfl hb3 (fun D2 hX2 h3 => ?_);refine g [[6,4,3,2]] ?_;refine WP.ret1 rfl rfl rfl (RV.tmp rfl) (fun w1 hI => ⟨_, D2, rfl, hI.keep, hI.imm, hX1.trans hX2 (Nat.le_refl _), b2, b3, rfl, hX2.old _ _ h2, h3⟩)
theorem zqZ (s : Surf) (m : znC) (h : Nat) (hh : h < s.water.length) (qb mb bs bh : Nat) (D : Imm) (hR : znP D s m) (hok : zmq s) (hq : D qb = some (seaO s m mb)) (hbs : D bs = some (.cells (List.toArray [pt qb]) 168 (0, 0))) (hbh : D bh = some (.cells (List.toArray [nt h]) 3 (0, 0))) (w : World) : V9 Tryz.prog 236 [pt bs, pt bh] (houL s h).length (fun k => houV (gt (houL s h) k)) D w := by
  obtain ⟨⟨wa, wn, wc⟩, ⟨va, vn, vc⟩, ⟨ha, hn, hc⟩⟩ := m;obtain rfl : wn = s.water.length := hR.w.len';obtain rfl : vn = s.waves.length := hR.v.len';obtain rfl : hn = s.huts.length := hR.h.len';have hRw : SlL D 2 (s.water.map spC) wa s.water.length := hR.w;have hRv : SlL D 2 (s.waves.map spC) va s.waves.length := hR.v;have hRh : SlL D 3 (s.huts.map hutC) ha s.huts.length := hR.h;have nw : s.water.length ≤ 9223372036854775807 := hR.nw;have nv : s.waves.length ≤ 9223372036854775807 := hR.nv;have nh : s.huts.length ≤ 9223372036854775807 := hR.nh;have nws : s.waves.length = s.water.length := hok.same;have hws := (hok.water _ (yE hh));have hvs := (hok.waves _ (yE (l := s.waves) (k := h) (by omega)));rw [zmU] at hws hvs;intro ly St Sp hSm hround h0 hS0 hI0;unfold zp;refine en Tryz.func236 rfl Tryz.ntmps236 hI0 (WC.scope (g [[1]] ?_));refine WC.label (g [[2],[0,0,1,2],[3006],[7]] ?_);refine WL.yd (Yd.indexS UnF.h SzF.h rfl rfl (by (try dsimp only); omega) (by (try dsimp only); omega) (hRw.addr h (by omega))) rfl (g [[1]] ?_);refine WL.yd (Yd.l1 rfl ((hRw.at h (by omega)).rd 0 rfl)) rfl (g [[4]] ?_);refine WC.loop (fun y : Nat × Imm × Hp × List (Int × Int) => [(0, .func (.yield ly) #[] #[]), (1, pt bs), (2, pt bh), (4, it ((gt s.water h).lo + ((y.1 : Nat) : Int)))]) (fun y => y.2.2.1) (fun y => y.2.1) (fun y => y.1 ≤ ((gt s.water h).hi - (gt s.water h).lo + 1).toNat ∧ DExt w D y.2.1 ∧ St y.2.2.2.length y.2.1 y.2.2.1 ∧ y.2.2.2 ++ hrS s h y.1 = (houL s h)) (fun y => ((gt s.water h).hi - (gt s.water h).lo + 1).toNat - y.1) (0, D, h0, []) ⟨Nat.zero_le _, DExt.refl _ _, hS0, rfl⟩ (fun a w ha => y4 ha ⟨rfl, rfl, rfl, by show some (it _) = some (it _); congr 2; push_cast; omega, trivial⟩) ?_;rintro ⟨i, D1, h1, done⟩ ⟨hi, hX1, hS1, hL⟩;dsimp only at hi hX1 hS1 hL;have hq1 := hX1.old _ _ hq;have hbs1 := hX1.old _ _ hbs;have hbh1 := hX1.old _ _ hbh;have hRw1 := hRw.ext hX1;have hRv1 := hRv.ext hX1;refine g [[2],[0,0,1,2,4],[3010],[7]] ?_;refine WQ.q rfl (Yd.qt (Yd.indexS UnF.h SzF.h rfl rfl (by (try dsimp only); omega) (by (try dsimp only); omega) (hRw.addr h (by omega)))) rfl (g [[1]] ?_);refine WQ.q rfl (Yd.qt (Yd.l1 rfl ((hRw1.at h (by omega)).rd 1 rfl))) rfl (g [[4]] ?_);refine WC.cond rfl (fun c25 => ?_) (fun c25 => ?_)
  · try simp only [zq] at c25
    have hil : i < ((gt s.water h).hi - (gt s.water h).lo + 1).toNat := by omega
    refine g [[5],[0,0,1,2,4],[3006],[7]] ?_;refine WL.yd (Yd.indexS UnF.h SzF.h rfl rfl (by (try dsimp only); omega) (by (try dsimp only); omega) (hRv.addr h (by omega))) rfl (g [[1]] ?_);refine WL.yd (Yd.l1 rfl ((hRv1.at h (by omega)).rd 0 rfl)) rfl (g [[4]] ?_);rw [ztu hil] at hL;refine WC.loop (fun y : Nat × Imm × Hp × List (Int × Int) => [(0, .func (.yield ly) #[] #[]), (1, pt bs), (2, pt bh), (4, it ((gt s.water h).lo + ((i : Nat) : Int))), (5, it ((gt s.waves h).lo + ((y.1 : Nat) : Int)))]) (fun y => y.2.2.1) (fun y => y.2.1) (fun y => y.1 ≤ ((gt s.waves h).hi - (gt s.waves h).lo + 1).toNat ∧ DExt w D y.2.1 ∧ St y.2.2.2.length y.2.1 y.2.2.1 ∧ y.2.2.2 ++ (hrR s h i y.1 ++ hrS s h (i + 1)) = (houL s h)) (fun y => ((gt s.waves h).hi - (gt s.waves h).lo + 1).toNat - y.1) (0, D1, h1, done) ⟨Nat.zero_le _, hX1, hS1, hL⟩ (fun a w ha => y4 ha ⟨rfl, rfl, rfl, rfl, by show some (it _) = some (it _); congr 2; push_cast; omega, trivial⟩) ?_;clear hL hS1 hX1 hq1 hbs1 hbh1 hRw1 hRv1;rintro ⟨j, D1, h1, done⟩ ⟨hj, hX1, hS1, hL⟩;dsimp only at hj hX1 hS1 hL;have hq1 := hX1.old _ _ hq;have hbs1 := hX1.old _ _ hbs;have hbh1 := hX1.old _ _ hbh;have hRw1 := hRw.ext hX1;have hRv1 := hRv.ext hX1;refine g [[2],[0,0,1,2,4,5],[3010],[7]] ?_;refine WQ.q rfl (Yd.qt (Yd.indexS UnF.h SzF.h rfl rfl (by (try dsimp only); omega) (by (try dsimp only); omega) (hRv.addr h (by omega)))) rfl (g [[1]] ?_);refine WQ.q rfl (Yd.qt (Yd.l1 rfl ((hRv1.at h (by omega)).rd 1 rfl))) rfl (g [[4]] ?_);refine WC.cond rfl (fun c47 => ?_) (fun c47 => ?_)
    · try simp only [zq] at c47
      have hjl : j < ((gt s.waves h).hi - (gt s.waves h).lo + 1).toNat := by omega
      refine g [[5],[0,0,1,2,4,5]] ?_;refine WC.ofF (g [[1]] ?_);rw [ztt hjl] at hL;obtain ⟨hq1, hq2, hq3, hq4⟩ := znR (show done ++ ((gt s.water h).lo + (i : Int), (gt s.waves h).lo + (j : Int)) :: (hrR s h i (j + 1) ++ hrS s h (i + 1)) = (houL s h) from hL);refine g [[4]] ?_;refine WLF.yieldN (l := ly) (vals := [houV ((gt s.water h).lo + (i : Int), (gt s.waves h).lo + (j : Int))]) [] h1 (fun _ h => h) (fun h => h) rfl rfl rfl (fun w' hsz hI => by rw [← hq2]; exact hround done.length D1 h1 w' hq1 hsz hX1 hS1 hI) ?_;rintro b36 D5 hp5 hK5 hX5;refine g [[3]] ?_;refine WC.cond rfl (fun c55 => ?_) (fun c55 => ?_)
      · try simp only [zq] at c55
        refine g [[9]] ?_;refine WP.scNormal ?_
        refine WP.ret0 rfl rfl rfl  (fun w1 hI => by
          obtain ⟨htt, _⟩ | ⟨_, hK5⟩ := hK5
          · simp_all
          exact ⟨_, D5, hp5, rfl, hX1.trans hX5 (Nat.le_refl _), hI, .inr hK5⟩)
      try simp only [zq] at c55
      refine g [[3],[2,0,1,2,4,5]] ?_;refine WL.yd (Yd.add rfl rfl (wr64 ⟨by (try dsimp only); omega, by (try dsimp only); omega⟩)) rfl (g [[2]] ?_);obtain ⟨_, hK5⟩ | ⟨hff, _⟩ := hK5
      · exact WP.again (j + 1, D5, hp5, done ++ [((gt s.water h).lo + (i : Int), (gt s.waves h).lo + (j : Int))]) ⟨by show j + 1 ≤ ((gt s.waves h).hi - (gt s.waves h).lo + 1).toNat; omega, hX1.trans hX5 (Nat.le_refl _), by rw [hq4]; exact hK5, hq3⟩ (by show ((gt s.waves h).hi - (gt s.waves h).lo + 1).toNat - (j + 1) < ((gt s.waves h).hi - (gt s.waves h).lo + 1).toNat - j; omega) (fun a w ha => y4 ha ⟨rfl, rfl, rfl, rfl, by show some (it _) = some (it _); congr 2; push_cast; omega, trivial⟩)
      simp_all
    try simp only [zq] at c47
    have hjl : ((gt s.waves h).hi - (gt s.waves h).lo + 1).toNat ≤ j := by omega
    refine g [[6],[2,0,1,2,4]] ?_;refine WL.yd (Yd.add rfl rfl (wr64 ⟨by (try dsimp only); omega, by (try dsimp only); omega⟩)) rfl (g [[2]] ?_);exact WP.again (i + 1, D1, h1, done) ⟨by show i + 1 ≤ ((gt s.water h).hi - (gt s.water h).lo + 1).toNat; omega, hX1, hS1, by rw [← hL, zvy hjl]; rfl⟩ (by show ((gt s.water h).hi - (gt s.water h).lo + 1).toNat - (i + 1) < ((gt s.water h).hi - (gt s.water h).lo + 1).toNat - i; omega) (fun a w ha => y4 ha ⟨rfl, rfl, rfl, by show some (it _) = some (it _); congr 2; push_cast; omega, trivial⟩)
  try simp only [zq] at c25
  have hil : ((gt s.water h).hi - (gt s.water h).lo + 1).toNat ≤ i := by omega
  refine g [[4]] ?_;refine WP.scNormal ?_;refine WP.ret0 rfl rfl rfl  (fun w1 hI => ⟨_, D1, h1, rfl, hX1, hI, .inl (by rw [zvz hil, List.append_nil] at hL; rw [← hL]; exact hS1)⟩)
theorem zoR (s : Surf) (l : List Now) (n : Now) : goN s (l ++ [n]) = goN s l ||| (if floB s n = true ∧ n.hut.brake < n.wave then n.place / 2 else n.place) := by
  unfold goN; rw [List.foldl_append]; rfl
theorem zrB (s : Surf) : ∀ (l : List Now), (∀ y ∈ l, znO y) → goN s l < 2 ^ 8 := by
  have key : ∀ (l : List Now) (a : Nat), a < 2 ^ 8 → (∀ y ∈ l, znO y) → l.foldl (fun t n => t ||| (if floB s n = true ∧ n.hut.brake < n.wave then n.place / 2 else n.place)) a < 2 ^ 8 := by
    intro l
    induction l with
    | nil => exact fun a h _ => h
    | cons n l ih => exact fun a h hl => ih _ (Nat.or_lt_two_pow h (by have := (hl n (by simp)).p; split <;> omega)) fun y hy => hl y (by simp [hy])
  exact fun l hl => key l 0 (by decide) hl
def blC (b : Bool × Bool) : List Value := [.bool b.1, .bool b.2]
theorem znS : ∀ s, (blC s).length = 2 := fun _ => rfl
def tlO (T : List (Bool × Bool)) : Obj := .cells (List.toArray (T.flatMap blC ++ [])) 183 (0, 0)
theorem zsI (s : Surf) (l : List Now) (n : Now) : talB s (l ++ [n]) = ((talB s l).1 || floB s n, (talB s l).2 || !floB s n) := by
  unfold talB; rw [List.foldl_append]; rfl
section
variable {T : List (Bool × Bool)} {h : Nat} (hh : h < T.length)
include T h hh
theorem zrh (j : Nat) {v : Value} (hv : (blC (gt T h))[j]? = some v) (hj : j < 2) : (T.flatMap blC ++ [])[0 + h * 2 + j]? = some v := by
  rw [List.append_nil, Nat.zero_add]
  induction T generalizing h with
  | nil => exact absurd hh (Nat.not_lt_zero _)
  | cons a T ih =>
    rw [List.flatMap_cons];cases h with
    | zero => rw [List.getElem?_append_left (by rw [znS]; omega)]; simpa using hv
    | succ h =>
      rw [List.getElem?_append_right (by rw [znS]; omega), znS, show (h + 1) * 2 + j - 2 = h * 2 + j by omega];exact ih (h := h) (by simpa using hh) hv
theorem zue (y : Bool × Bool) (j : Nat) (v : Value) (hj : j + 1 ≤ 2) (hy : blC y = splice (blC (gt T h)) j [v]) : splice (T.flatMap blC ++ []) (0 + h * 2 + j) [v] = (T.set h y).flatMap blC ++ [] := YZ znS y j [v] hj [] T h hh hy
theorem zyk (x y : Bool) : splice (splice (T.flatMap blC ++ []) (0 + h * 2 + 0) [.bool x]) (0 + h * 2 + 1) [.bool y] = (T.set h (x, y)).flatMap blC ++ [] := by
  rw [zue hh (x, (gt T h).2) 0 (.bool x) (by omega) rfl, zue (T := T.set h (x, (gt T h).2)) (by rw [List.length_set]; exact hh) (x, y) 1 (.bool y) (by omega) (by rw [show gt (T.set h (x, (gt T h).2)) h = (x, (gt T h).2) by simp [gt, List.getD, hh]]; rfl), List.set_set]
theorem znk (x y : Bool) : tlO (T.set h (x, y)) = .cells (List.toArray (splice (splice (T.flatMap blC ++ []) (0 + h * 2 + 0) [.bool x]) (0 + h * 2 + 1) [.bool y])) 183 (0, 0) := by rw [zyk hh]; rfl
end
theorem zy9 (s : Surf) (l : List Now) (hl : ∀ y ∈ l, znO y) (n : Now) (hn : znO n) (ab : Nat) (D : Imm) (w : World) (hI0 : Inv D [(ab, .cells (List.toArray [ut (goN s l)]) 290 (0, 0))] [ab] w w) : zp Tryz.prog 298 [pt ab, nowV n, .bool (floB s n)] w D [ab] (fun v D' hp' => D = D' ∧ v = .tuple #[] ∧ hp' = [(ab, .cells (List.toArray [ut (goN s (l ++ [n]))]) 290 (0, 0))]) := by
  unfold zp;refine en Tryz.func298 rfl Tryz.ntmps298 hI0 (g [[1],[1,0,1,2]] ?_);refine WL.so (SO.box rfl rfl) rfl (zw fun b4 hb4 => ?_);refine g [[3],[8,4,0,2],[3,6,4,0,2]] ?_;refine WL.part 10 rfl (fun g10 => ?_) (fun g10 => ?_)
  · refine g [[10]] ?_;refine WC.cond rfl (fun c18 => ?_) (fun c18 => ?_)
    · try simp only [zq] at c18
      refine g [[2,6,0]] ?_;refine WL.cl rfl (fun w hI => zDp _ _) (g [[3],[7,6,0]] ?_);refine WL.so (SO.buildSlice1 UnF.h SzF.h ZvF.h rfl rfl rfl (vs := [_, _]) rfl rfl rfl) rfl ?_;rintro _ _ _ ⟨b27, hb27, rfl, rfl, rfl⟩;refine WL.freezeN 0 b27 (.cells (List.toArray ([goN s l, n.place / 2].flatMap utC ++ [])) 184 (0, 0)) rfl rfl hb27 (fun D27 hX27 h27 => ?_);refine WL.cl rfl (fun w hI => zp9 [goN s l, n.place / 2] (by intro x hx; simp only [List.mem_cons, List.not_mem_nil, or_false] at hx; rcases hx with rfl | rfl; exact lt63 (n := 8) (zrB s l hl) (by omega); exact lt63 (n := 8) (by have := hn.p; omega) (by omega)) (some ⟨b27, 0, none⟩) 2 2 D27 (SlL.ofBlock (f := utC) (l := [goN s l, n.place / 2]) (rest := []) znB h27) (by omega) w hI.imm) (g [[4]] ?_);refine WP.ret0 rfl rfl rfl  (fun w1 hI => ⟨_, D, _, rfl, DExt.refl _ _, (hI.drop 1).shrink hX27.old, rfl, rfl, by rw [show goN s (l ++ [n]) = goN s l ||| (n.place / 2) from by rw [zoR, if_pos ⟨by simp_all, by assumption⟩], ← uni2]; rfl⟩)
    try simp only [zq] at c18
    refine g [[2],[7,6,0]] ?_;refine WL.so (SO.buildSlice1 UnF.h SzF.h ZvF.h rfl rfl rfl (vs := [_, _]) rfl rfl rfl) rfl ?_;rintro _ _ _ ⟨b27, hb27, rfl, rfl, rfl⟩;refine WL.freezeN 0 b27 (.cells (List.toArray ([goN s l, n.place].flatMap utC ++ [])) 184 (0, 0)) rfl rfl hb27 (fun D27 hX27 h27 => ?_);refine WL.cl rfl (fun w hI => zp9 [goN s l, n.place] (by intro x hx; simp only [List.mem_cons, List.not_mem_nil, or_false] at hx; rcases hx with rfl | rfl; exact lt63 (n := 8) (zrB s l hl) (by omega); exact lt63 (n := 8) (by have := hn.p; omega) (by omega)) (some ⟨b27, 0, none⟩) 2 2 D27 (SlL.ofBlock (f := utC) (l := [goN s l, n.place]) (rest := []) znB h27) (by omega) w hI.imm) (g [[4]] ?_);refine WP.ret0 rfl rfl rfl  (fun w1 hI => ⟨_, D, _, rfl, DExt.refl _ _, (hI.drop 1).shrink hX27.old, rfl, rfl, by rw [show goN s (l ++ [n]) = goN s l ||| (n.place) from by rw [zoR, if_neg (fun h => by omega)], ← uni2]; rfl⟩)
  refine g [[13],[7,6,0]] ?_;refine WL.so (SO.buildSlice1 UnF.h SzF.h ZvF.h rfl rfl rfl (vs := [_, _]) rfl rfl rfl) rfl ?_;rintro _ _ _ ⟨b27, hb27, rfl, rfl, rfl⟩;refine WL.freezeN 0 b27 (.cells (List.toArray ([goN s l, n.place].flatMap utC ++ [])) 184 (0, 0)) rfl rfl hb27 (fun D27 hX27 h27 => ?_);refine WL.cl rfl (fun w hI => zp9 [goN s l, n.place] (by intro x hx; simp only [List.mem_cons, List.not_mem_nil, or_false] at hx; rcases hx with rfl | rfl; exact lt63 (n := 8) (zrB s l hl) (by omega); exact lt63 (n := 8) (by have := hn.p; omega) (by omega)) (some ⟨b27, 0, none⟩) 2 2 D27 (SlL.ofBlock (f := utC) (l := [goN s l, n.place]) (rest := []) znB h27) (by omega) w hI.imm) (g [[4]] ?_);refine WP.ret0 rfl rfl rfl  (fun w1 hI => ⟨_, D, _, rfl, DExt.refl _ _, (hI.drop 1).shrink hX27.old, rfl, rfl, by rw [show goN s (l ++ [n]) = goN s l ||| (n.place) from by rw [zoR, if_neg (fun h => by simp_all)], ← uni2]; rfl⟩)
theorem zyb (T : List (Bool × Bool)) (h : Nat) (hh : h < T.length) (f : Bool) (n : Now) (hn : znO n) (ab : Nat) (D : Imm) (w : World) (hI0 : Inv D [(ab, tlO T)] [ab] w w) : zp Tryz.prog 297 [.pointer (some ⟨ab, 0 + h * 2, none⟩), nowV n, .bool f] w D [ab] (fun v D' hp' => D = D' ∧ v = .tuple #[] ∧ hp' = [(ab, tlO (T.set h ((gt T h).1 || f, (gt T h).2 || !f)))]) := by
  unfold zp;have hle : ∀ j, j < 2 → 0 + h * 2 + j + 1 ≤ (T.flatMap blC ++ []).length := fun j hj => by rw [List.append_nil, zr znS]; omega
  refine en Tryz.func297 rfl Tryz.ntmps297 hI0 (g [[1],[1,0,1,2]] ?_);refine WL.so (SO.box rfl rfl) rfl (zw fun b4 hb4 => ?_);refine g [[2],[0,0,2]] ?_;refine WC.drawH _ zk (fun _ hI => hI.drop 99) (WH.yd (i := 0) zk (fun _ o v c a w _ h => zm.body c o.dst v a w h) rfl (Yd.move rfl) rfl ?_);refine WH.yd (i := 1) zk (fun _ o v c a w _ h => zm.body c o.dst v a w h) rfl (Yd.move rfl) rfl (WH.yd (i := 2) zk (fun _ o v c a w _ h => zm.body c o.dst v a w h) rfl (Yd.move rfl) rfl ?_);refine WH.yd (i := 3) zk (fun _ o v c a w _ h => zm.body c o.dst v a w h) rfl (Yd.nilCheck rfl) rfl (WH.yd (i := 4) zk (fun _ o v c a w _ h => zm.body c o.dst v a w h) rfl (Yd.fA rfl rfl rfl) rfl ?_);refine WH.yd (i := 9) zk (fun _ o v c a w _ h => zm.body c o.dst v a w h) rfl (Yd.move rfl) rfl (WH.yd (i := 10) zk (fun _ o v c a w _ h => zm.body c o.dst v a w h) rfl (Yd.nilCheck rfl) rfl ?_);refine WH.yd (i := 11) zk (fun _ o v c a w _ h => zm.body c o.dst v a w h) rfl (Yd.fA rfl rfl rfl) rfl ?_;refine WH.two (i := 5) (j := 12) zk ?_ ?_
  · refine WHo.yd rfl (Yd.l1 rfl (Rd.own (k := 1) rfl (zrh hh 0 rfl (by omega)))) rfl (WH.yd (i := 6) zk (fun _ o v c a w _ h => zm.body c o.dst v a w h) rfl (Yd.move rfl) rfl ?_);refine WH.part 12 rfl (fun g12 => ?_) (fun g12 => ?_)
    · refine WH.skipg (i := 7) zk (fun _ o v c a w _ h => zm.body c o.dst v a w h) rfl rfl rfl (WH.yd (i := 8) zk (fun _ o v c a w _ h => zm.body c o.dst v a w h) rfl (Yd.pickT rfl rfl) rfl ?_);refine WH.one (i := 12) zk (WHo.yd rfl (Yd.l1 rfl (Rd.own (k := 1) rfl (zrh hh 1 rfl (by omega)))) rfl ?_);refine WH.yd (i := 13) zk (fun _ o v c a w _ h => zm.body c o.dst v a w h) rfl (Yd.move rfl) rfl ?_;refine WH.part 19 rfl (fun g19 => ?_) (fun g19 => ?_)
      · refine WH.skipg (i := 14) zk (fun _ o v c a w _ h => zm.body c o.dst v a w h) rfl rfl rfl (WH.skipg (i := 15) zk (fun _ o v c a w _ h => zm.body c o.dst v a w h) rfl rfl rfl ?_);refine WH.yd (i := 16) zk (fun _ o v c a w _ h => zm.body c o.dst v a w h) rfl (Yd.pickT rfl rfl) rfl (WH.yd (i := 17) zk (fun _ o v c a w _ h => zm.body c o.dst v a w h) rfl (Yd.nilCheck rfl) rfl ?_);refine WH.yd (i := 18) zk (fun _ o v c a w _ h => zm.body c o.dst v a w h) rfl (Yd.fA rfl rfl rfl) rfl ?_;refine WH.one (i := 19) zk (WHo.so rfl (SO.store 1 rfl SzF.h rfl rfl rfl rfl (hle 0 (by omega)) (za rfl)) rfl ?_);rintro _ _ _ ⟨rfl, rfl, rfl⟩;refine ⟨(fun _ hI => hI.drop 99), ?_⟩;refine WH.yd (i := 20) zk (fun _ o v c a w _ h => zm.body c o.dst v a w h) rfl (Yd.nilCheck rfl) rfl (WH.yd (i := 21) zk (fun _ o v c a w _ h => zm.body c o.dst v a w h) rfl (Yd.fA rfl rfl rfl) rfl ?_);refine WH.one (i := 22) zk (WHo.so rfl (SO.store 1 rfl SzF.h rfl rfl rfl rfl (by rw [kW (hle 0 (by omega))]; exact hle 1 (by omega)) (za rfl)) rfl ?_);rintro _ _ _ ⟨rfl, rfl, rfl⟩;refine ⟨(fun _ hI => hI.drop 99), ?_⟩;refine WH.nil zk ?_;refine WP.ret0 rfl rfl rfl  (fun w1 hI => ⟨_, D, _, rfl, DExt.refl _ _, hI.drop 1, rfl, rfl, by rw [show ((gt T h).1 || f, (gt T h).2 || !f) = (true, true) by simp_all, znk hh true true]; rfl⟩)
      refine WH.ydg (i := 14) zk (fun _ o v c a w _ h => zm.body c o.dst v a w h) rfl rfl (Yd.move rfl) rfl (WH.ydg (i := 15) zk (fun _ o v c a w _ h => zm.body c o.dst v a w h) rfl rfl (Yd.not rfl) rfl ?_);refine WH.yd (i := 16) zk (fun _ o v c a w _ h => zm.body c o.dst v a w h) rfl (Yd.pickF rfl rfl) rfl (WH.yd (i := 17) zk (fun _ o v c a w _ h => zm.body c o.dst v a w h) rfl (Yd.nilCheck rfl) rfl ?_);refine WH.yd (i := 18) zk (fun _ o v c a w _ h => zm.body c o.dst v a w h) rfl (Yd.fA rfl rfl rfl) rfl ?_;refine WH.one (i := 19) zk (WHo.so rfl (SO.store 1 rfl SzF.h rfl rfl rfl rfl (hle 0 (by omega)) (za rfl)) rfl ?_);rintro _ _ _ ⟨rfl, rfl, rfl⟩;refine ⟨(fun _ hI => hI.drop 99), ?_⟩;refine WH.yd (i := 20) zk (fun _ o v c a w _ h => zm.body c o.dst v a w h) rfl (Yd.nilCheck rfl) rfl (WH.yd (i := 21) zk (fun _ o v c a w _ h => zm.body c o.dst v a w h) rfl (Yd.fA rfl rfl rfl) rfl ?_);refine WH.one (i := 22) zk (WHo.so rfl (SO.store 1 rfl SzF.h rfl rfl rfl rfl (by rw [kW (hle 0 (by omega))]; exact hle 1 (by omega)) (za rfl)) rfl ?_);rintro _ _ _ ⟨rfl, rfl, rfl⟩;refine ⟨(fun _ hI => hI.drop 99), ?_⟩;refine WH.nil zk ?_;refine WP.ret0 rfl rfl rfl  (fun w1 hI => ⟨_, D, _, rfl, DExt.refl _ _, hI.drop 1, rfl, rfl, by rw [show ((gt T h).1 || f, (gt T h).2 || !f) = (true, (!f)) by simp_all, znk hh true (!f)]; rfl⟩)
    refine WH.ydg (i := 7) zk (fun _ o v c a w _ h => zm.body c o.dst v a w h) rfl rfl (Yd.move rfl) rfl (WH.yd (i := 8) zk (fun _ o v c a w _ h => zm.body c o.dst v a w h) rfl (Yd.pickF rfl rfl) rfl ?_);refine WH.one (i := 12) zk (WHo.yd rfl (Yd.l1 rfl (Rd.own (k := 1) rfl (zrh hh 1 rfl (by omega)))) rfl ?_);refine WH.yd (i := 13) zk (fun _ o v c a w _ h => zm.body c o.dst v a w h) rfl (Yd.move rfl) rfl ?_;refine WH.part 19 rfl (fun g19 => ?_) (fun g19 => ?_)
    · refine WH.skipg (i := 14) zk (fun _ o v c a w _ h => zm.body c o.dst v a w h) rfl rfl rfl (WH.skipg (i := 15) zk (fun _ o v c a w _ h => zm.body c o.dst v a w h) rfl rfl rfl ?_);refine WH.yd (i := 16) zk (fun _ o v c a w _ h => zm.body c o.dst v a w h) rfl (Yd.pickT rfl rfl) rfl (WH.yd (i := 17) zk (fun _ o v c a w _ h => zm.body c o.dst v a w h) rfl (Yd.nilCheck rfl) rfl ?_);refine WH.yd (i := 18) zk (fun _ o v c a w _ h => zm.body c o.dst v a w h) rfl (Yd.fA rfl rfl rfl) rfl ?_;refine WH.one (i := 19) zk (WHo.so rfl (SO.store 1 rfl SzF.h rfl rfl rfl rfl (hle 0 (by omega)) (za rfl)) rfl ?_);rintro _ _ _ ⟨rfl, rfl, rfl⟩;refine ⟨(fun _ hI => hI.drop 99), ?_⟩;refine WH.yd (i := 20) zk (fun _ o v c a w _ h => zm.body c o.dst v a w h) rfl (Yd.nilCheck rfl) rfl (WH.yd (i := 21) zk (fun _ o v c a w _ h => zm.body c o.dst v a w h) rfl (Yd.fA rfl rfl rfl) rfl ?_);refine WH.one (i := 22) zk (WHo.so rfl (SO.store 1 rfl SzF.h rfl rfl rfl rfl (by rw [kW (hle 0 (by omega))]; exact hle 1 (by omega)) (za rfl)) rfl ?_);rintro _ _ _ ⟨rfl, rfl, rfl⟩;refine ⟨(fun _ hI => hI.drop 99), ?_⟩;refine WH.nil zk ?_;refine WP.ret0 rfl rfl rfl  (fun w1 hI => ⟨_, D, _, rfl, DExt.refl _ _, hI.drop 1, rfl, rfl, by rw [show ((gt T h).1 || f, (gt T h).2 || !f) = (f, true) by simp_all, znk hh f true]; rfl⟩)
    refine WH.ydg (i := 14) zk (fun _ o v c a w _ h => zm.body c o.dst v a w h) rfl rfl (Yd.move rfl) rfl (WH.ydg (i := 15) zk (fun _ o v c a w _ h => zm.body c o.dst v a w h) rfl rfl (Yd.not rfl) rfl ?_);refine WH.yd (i := 16) zk (fun _ o v c a w _ h => zm.body c o.dst v a w h) rfl (Yd.pickF rfl rfl) rfl (WH.yd (i := 17) zk (fun _ o v c a w _ h => zm.body c o.dst v a w h) rfl (Yd.nilCheck rfl) rfl ?_);refine WH.yd (i := 18) zk (fun _ o v c a w _ h => zm.body c o.dst v a w h) rfl (Yd.fA rfl rfl rfl) rfl ?_;refine WH.one (i := 19) zk (WHo.so rfl (SO.store 1 rfl SzF.h rfl rfl rfl rfl (hle 0 (by omega)) (za rfl)) rfl ?_);rintro _ _ _ ⟨rfl, rfl, rfl⟩;refine ⟨(fun _ hI => hI.drop 99), ?_⟩;refine WH.yd (i := 20) zk (fun _ o v c a w _ h => zm.body c o.dst v a w h) rfl (Yd.nilCheck rfl) rfl (WH.yd (i := 21) zk (fun _ o v c a w _ h => zm.body c o.dst v a w h) rfl (Yd.fA rfl rfl rfl) rfl ?_);refine WH.one (i := 22) zk (WHo.so rfl (SO.store 1 rfl SzF.h rfl rfl rfl rfl (by rw [kW (hle 0 (by omega))]; exact hle 1 (by omega)) (za rfl)) rfl ?_);rintro _ _ _ ⟨rfl, rfl, rfl⟩;refine ⟨(fun _ hI => hI.drop 99), ?_⟩;refine WH.nil zk ?_;refine WP.ret0 rfl rfl rfl  (fun w1 hI => ⟨_, D, _, rfl, DExt.refl _ _, hI.drop 1, rfl, rfl, by rw [show ((gt T h).1 || f, (gt T h).2 || !f) = (f, (!f)) by simp_all, znk hh f (!f)]; rfl⟩)
  refine WHo.yd rfl (Yd.l1 rfl (Rd.own (k := 1) rfl (zrh hh 1 rfl (by omega)))) rfl ?_;refine WH.one (i := 5) zk (WHo.yd rfl (Yd.l1 rfl (Rd.own (k := 1) rfl (zrh hh 0 rfl (by omega)))) rfl ?_);refine WH.yd (i := 6) zk (fun _ o v c a w _ h => zm.body c o.dst v a w h) rfl (Yd.move rfl) rfl ?_;refine WH.part 12 rfl (fun g12 => ?_) (fun g12 => ?_)
  · refine WH.skipg (i := 7) zk (fun _ o v c a w _ h => zm.body c o.dst v a w h) rfl rfl rfl (WH.yd (i := 8) zk (fun _ o v c a w _ h => zm.body c o.dst v a w h) rfl (Yd.pickT rfl rfl) rfl ?_);refine WH.yd (i := 13) zk (fun _ o v c a w _ h => zm.body c o.dst v a w h) rfl (Yd.move rfl) rfl ?_;refine WH.part 19 rfl (fun g19 => ?_) (fun g19 => ?_)
    · refine WH.skipg (i := 14) zk (fun _ o v c a w _ h => zm.body c o.dst v a w h) rfl rfl rfl (WH.skipg (i := 15) zk (fun _ o v c a w _ h => zm.body c o.dst v a w h) rfl rfl rfl ?_);refine WH.yd (i := 16) zk (fun _ o v c a w _ h => zm.body c o.dst v a w h) rfl (Yd.pickT rfl rfl) rfl (WH.yd (i := 17) zk (fun _ o v c a w _ h => zm.body c o.dst v a w h) rfl (Yd.nilCheck rfl) rfl ?_);refine WH.yd (i := 18) zk (fun _ o v c a w _ h => zm.body c o.dst v a w h) rfl (Yd.fA rfl rfl rfl) rfl ?_;refine WH.one (i := 19) zk (WHo.so rfl (SO.store 1 rfl SzF.h rfl rfl rfl rfl (hle 0 (by omega)) (za rfl)) rfl ?_);rintro _ _ _ ⟨rfl, rfl, rfl⟩;refine ⟨(fun _ hI => hI.drop 99), ?_⟩;refine WH.yd (i := 20) zk (fun _ o v c a w _ h => zm.body c o.dst v a w h) rfl (Yd.nilCheck rfl) rfl (WH.yd (i := 21) zk (fun _ o v c a w _ h => zm.body c o.dst v a w h) rfl (Yd.fA rfl rfl rfl) rfl ?_);refine WH.one (i := 22) zk (WHo.so rfl (SO.store 1 rfl SzF.h rfl rfl rfl rfl (by rw [kW (hle 0 (by omega))]; exact hle 1 (by omega)) (za rfl)) rfl ?_);rintro _ _ _ ⟨rfl, rfl, rfl⟩;refine ⟨(fun _ hI => hI.drop 99), ?_⟩;refine WH.nil zk ?_;refine WP.ret0 rfl rfl rfl  (fun w1 hI => ⟨_, D, _, rfl, DExt.refl _ _, hI.drop 1, rfl, rfl, by rw [show ((gt T h).1 || f, (gt T h).2 || !f) = (true, true) by simp_all, znk hh true true]; rfl⟩)
    refine WH.ydg (i := 14) zk (fun _ o v c a w _ h => zm.body c o.dst v a w h) rfl rfl (Yd.move rfl) rfl (WH.ydg (i := 15) zk (fun _ o v c a w _ h => zm.body c o.dst v a w h) rfl rfl (Yd.not rfl) rfl ?_);refine WH.yd (i := 16) zk (fun _ o v c a w _ h => zm.body c o.dst v a w h) rfl (Yd.pickF rfl rfl) rfl (WH.yd (i := 17) zk (fun _ o v c a w _ h => zm.body c o.dst v a w h) rfl (Yd.nilCheck rfl) rfl ?_);refine WH.yd (i := 18) zk (fun _ o v c a w _ h => zm.body c o.dst v a w h) rfl (Yd.fA rfl rfl rfl) rfl ?_;refine WH.one (i := 19) zk (WHo.so rfl (SO.store 1 rfl SzF.h rfl rfl rfl rfl (hle 0 (by omega)) (za rfl)) rfl ?_);rintro _ _ _ ⟨rfl, rfl, rfl⟩;refine ⟨(fun _ hI => hI.drop 99), ?_⟩;refine WH.yd (i := 20) zk (fun _ o v c a w _ h => zm.body c o.dst v a w h) rfl (Yd.nilCheck rfl) rfl (WH.yd (i := 21) zk (fun _ o v c a w _ h => zm.body c o.dst v a w h) rfl (Yd.fA rfl rfl rfl) rfl ?_);refine WH.one (i := 22) zk (WHo.so rfl (SO.store 1 rfl SzF.h rfl rfl rfl rfl (by rw [kW (hle 0 (by omega))]; exact hle 1 (by omega)) (za rfl)) rfl ?_);rintro _ _ _ ⟨rfl, rfl, rfl⟩;refine ⟨(fun _ hI => hI.drop 99), ?_⟩;refine WH.nil zk ?_;refine WP.ret0 rfl rfl rfl  (fun w1 hI => ⟨_, D, _, rfl, DExt.refl _ _, hI.drop 1, rfl, rfl, by rw [show ((gt T h).1 || f, (gt T h).2 || !f) = (true, (!f)) by simp_all, znk hh true (!f)]; rfl⟩)
  refine WH.ydg (i := 7) zk (fun _ o v c a w _ h => zm.body c o.dst v a w h) rfl rfl (Yd.move rfl) rfl (WH.yd (i := 8) zk (fun _ o v c a w _ h => zm.body c o.dst v a w h) rfl (Yd.pickF rfl rfl) rfl ?_);refine WH.yd (i := 13) zk (fun _ o v c a w _ h => zm.body c o.dst v a w h) rfl (Yd.move rfl) rfl ?_;refine WH.part 19 rfl (fun g19 => ?_) (fun g19 => ?_)
  · refine WH.skipg (i := 14) zk (fun _ o v c a w _ h => zm.body c o.dst v a w h) rfl rfl rfl (WH.skipg (i := 15) zk (fun _ o v c a w _ h => zm.body c o.dst v a w h) rfl rfl rfl ?_);refine WH.yd (i := 16) zk (fun _ o v c a w _ h => zm.body c o.dst v a w h) rfl (Yd.pickT rfl rfl) rfl (WH.yd (i := 17) zk (fun _ o v c a w _ h => zm.body c o.dst v a w h) rfl (Yd.nilCheck rfl) rfl ?_);refine WH.yd (i := 18) zk (fun _ o v c a w _ h => zm.body c o.dst v a w h) rfl (Yd.fA rfl rfl rfl) rfl ?_;refine WH.one (i := 19) zk (WHo.so rfl (SO.store 1 rfl SzF.h rfl rfl rfl rfl (hle 0 (by omega)) (za rfl)) rfl ?_);rintro _ _ _ ⟨rfl, rfl, rfl⟩;refine ⟨(fun _ hI => hI.drop 99), ?_⟩;refine WH.yd (i := 20) zk (fun _ o v c a w _ h => zm.body c o.dst v a w h) rfl (Yd.nilCheck rfl) rfl (WH.yd (i := 21) zk (fun _ o v c a w _ h => zm.body c o.dst v a w h) rfl (Yd.fA rfl rfl rfl) rfl ?_);refine WH.one (i := 22) zk (WHo.so rfl (SO.store 1 rfl SzF.h rfl rfl rfl rfl (by rw [kW (hle 0 (by omega))]; exact hle 1 (by omega)) (za rfl)) rfl ?_);rintro _ _ _ ⟨rfl, rfl, rfl⟩;refine ⟨(fun _ hI => hI.drop 99), ?_⟩;refine WH.nil zk ?_;refine WP.ret0 rfl rfl rfl  (fun w1 hI => ⟨_, D, _, rfl, DExt.refl _ _, hI.drop 1, rfl, rfl, by rw [show ((gt T h).1 || f, (gt T h).2 || !f) = (f, true) by simp_all, znk hh f true]; rfl⟩)
  refine WH.ydg (i := 14) zk (fun _ o v c a w _ h => zm.body c o.dst v a w h) rfl rfl (Yd.move rfl) rfl (WH.ydg (i := 15) zk (fun _ o v c a w _ h => zm.body c o.dst v a w h) rfl rfl (Yd.not rfl) rfl ?_);refine WH.yd (i := 16) zk (fun _ o v c a w _ h => zm.body c o.dst v a w h) rfl (Yd.pickF rfl rfl) rfl (WH.yd (i := 17) zk (fun _ o v c a w _ h => zm.body c o.dst v a w h) rfl (Yd.nilCheck rfl) rfl ?_);refine WH.yd (i := 18) zk (fun _ o v c a w _ h => zm.body c o.dst v a w h) rfl (Yd.fA rfl rfl rfl) rfl ?_;refine WH.one (i := 19) zk (WHo.so rfl (SO.store 1 rfl SzF.h rfl rfl rfl rfl (hle 0 (by omega)) (za rfl)) rfl ?_);rintro _ _ _ ⟨rfl, rfl, rfl⟩;refine ⟨(fun _ hI => hI.drop 99), ?_⟩;refine WH.yd (i := 20) zk (fun _ o v c a w _ h => zm.body c o.dst v a w h) rfl (Yd.nilCheck rfl) rfl (WH.yd (i := 21) zk (fun _ o v c a w _ h => zm.body c o.dst v a w h) rfl (Yd.fA rfl rfl rfl) rfl ?_);refine WH.one (i := 22) zk (WHo.so rfl (SO.store 1 rfl SzF.h rfl rfl rfl rfl (by rw [kW (hle 0 (by omega))]; exact hle 1 (by omega)) (za rfl)) rfl ?_);rintro _ _ _ ⟨rfl, rfl, rfl⟩;refine ⟨(fun _ hI => hI.drop 99), ?_⟩;refine WH.nil zk ?_;refine WP.ret0 rfl rfl rfl  (fun w1 hI => ⟨_, D, _, rfl, DExt.refl _ _, hI.drop 1, rfl, rfl, by rw [show ((gt T h).1 || f, (gt T h).2 || !f) = (f, (!f)) by simp_all, znk hh f (!f)]; rfl⟩)
theorem zyX : zj Tryz.prog 351 [.int .i64 0, .int .i64 0, .int .i64 0, .int .i64 0, .int .i64 0, .int .u64 0] [(0, 3), (3, 2), (5, 1)] := ⟨⟨_, Tryz.zeroValue351, rfl⟩, _, Tryz.underlying351, fun w => by simp [Tryz.sizeOf139, Tryz.sizeOf184, Tryz.sizeOf349]⟩
abbrev zx4 := SaF.mk zyX
attribute [instance] zx4
structure zpO (x : Hut) : Prop where
  f : zmn x.floor
  b : zmn x.brake
  r : 0 ≤ x.row ∧ x.row ≤ 5
theorem zxF {s : Surf} (hok : zmq s) {k : Nat} (hk : k < s.huts.length) : zpO (gt s.huts k) := by
  have h := hok.huts _ (yE hk);have hr := hok.rows;exact ⟨⟨h.1.1, by omega⟩, ⟨h.2.1.1, by omega⟩, by omega⟩
theorem zxC {s : Surf} (hok : zmq s) {h : Nat} (hh : h < s.water.length) {o : Int × Int} (ho : o ∈ houL s h) : zmn o.1 ∧ zmn o.2 := by
  have hw := hok.water _ (yE hh);have hv := hok.waves _ (yE (l := s.waves) (k := h) (by rw [hok.same]; exact hh));rw [zmU] at hw hv;obtain ⟨a, ha, h2⟩ := List.mem_flatMap.1 ho;obtain ⟨b, hb, rfl⟩ := List.mem_map.1 h2;obtain ⟨i, hi, rfl⟩ := List.mem_map.1 ha;obtain ⟨j, hj, rfl⟩ := List.mem_map.1 hb;have hi2 := List.mem_range.1 hi;have hj2 := List.mem_range.1 hj;unfold zmn;dsimp only;omega
def nowP (s : Surf) (x : Hut) (h p : Nat) : List Now := (houL s h).map fun o => ⟨x, o.1, o.2, p⟩
theorem zs2 (s : Surf) (x : Hut) (h p : Nat) (l : List Nat) : nowL s x h (p :: l) = nowP s x h p ++ nowL s x h l := by
  unfold nowL nowP; rw [List.flatMap_cons]
theorem zq0 {s : Surf} (hok : zmq s) {x : Hut} (hx : zpO x) {h : Nat} (hh : h < s.water.length) {p : Nat} (hp : p < 256) : ∀ y ∈ nowP s x h p, znO y := fun y hy => by
  obtain ⟨o, ho, rfl⟩ := List.mem_map.1 hy;have := zxC hok hh ho;exact ⟨hx.f, hx.b, ⟨hx.r.1, by have := hx.r.2; show x.row ≤ 100; omega⟩, this.1, this.2, hp⟩
theorem zxX {f n j : Nat} (h : ¬ 2 ^ j ≤ f) : plcL f n j = [] := by cases n with
  | zero => rfl
  | succ n => rw [plcL, if_neg h]
theorem ztO {f n j : Nat} (h : 2 ^ j ≤ f) (h0 : 2 ^ j &&& f = 0) : plcL f (n + 1) j = plcL f n (j + 1) := by rw [plcL, if_pos h, if_pos h0]
theorem ztP {f n j : Nat} (h : 2 ^ j ≤ f) (h0 : ¬ 2 ^ j &&& f = 0) : plcL f (n + 1) j = 2 ^ j :: plcL f n (j + 1) := by rw [plcL, if_pos h, if_neg h0]
theorem zs3 {s : Surf} {x : Hut} {h p k : Nat} (hk : k < (houL s h).length) : ((houL s h).take (k + 1)).map (fun o => (⟨x, o.1, o.2, p⟩ : Now)) = ((houL s h).take k).map (fun o => (⟨x, o.1, o.2, p⟩ : Now)) ++ [⟨x, (gt (houL s h) k).1, (gt (houL s h) k).2, p⟩] := by
  rw [zP hk, List.map_append]; rfl
def SeeC (s : Surf) (ab : Nat) (f : FuncId) (r : Value) (ob : List Now → Obj) : Prop :=
  ∀ (l : List Now) (n : Now) (D : Imm) (w : World), (∀ y ∈ l, znO y) → znO n → Inv D [(ab, ob l)] [ab] w w → zp Tryz.prog f [r, nowV n, .bool (floB s n)] w D [ab] (fun v D' hp' => D = D' ∧ v = .tuple #[] ∧ hp' = [(ab, ob (l ++ [n]))])
theorem zuw (s : Surf) (m : znC) (qb mb : Nat) (D : Imm) (hR : znP D s m) (hok : zmq s) (hq : D qb = some (seaO s m mb)) (hT : LibT D) (x : Hut) (hx : zpO x) (fr h : Nat) (hfr : fr < 128) (hh : h < s.water.length) (ab : Nat) (at_ : TypeId) (av : Value) (ob : List Now → Obj) (fs : FuncId) (r : Value) (hcall : ∀ args w, (callFunc fs args).run Tryz.prog w = .ok (.enter fs args) w) (hmeth : ∀ w, (method (Tryz.prog.types.size + Made.depth) at_ av "dipworks/surf.see").run Tryz.prog w = .ok (fs, r) w) (hnil : ∀ w, (nilAhead (Tryz.prog.types.size + Made.depth) at_ av "dipworks/surf.see").run Tryz.prog w = .ok (some false) w) (hsee : SeeC s ab fs r ob) (w : World) (hM0 : Hp) (hMM : MapS s mb hM0) (hI0 : Inv D ((ab, ob []) :: hM0) [ab, mb] w w) : zp Tryz.prog 171 [pt qb, hutV x, ut fr, nt h, .iface at_ av] w D [ab, mb] (fun v D' hp' => D = D' ∧ v = .tuple #[] ∧ ∃ hM, MapS s mb hM ∧ hp' = (ab, ob (looL s x fr h)) :: hM) := by
  unfold zp;refine enM Tryz.func171 rfl Tryz.ntmps171 hI0 (g [[1],[1,0,1,2,3,4]] ?_);refine WL.so (SO.box rfl rfl) rfl (zw fun b5 hb5 => ?_);refine WL.so (SO.box rfl rfl) rfl (zw fun b6 hb6 => ?_);refine WL.so (SO.box rfl rfl) rfl (zw fun b9 hb9 => ?_);refine g [[3],[1,9,6,5,2,3]] ?_;refine WL.so (SO.alloc ZvF.h rfl) rfl (zw fun b10 hb10 => ?_);refine WL.so (SO.store 0 rfl SzF.h rfl rfl rfl rfl (zqb rfl) (za rfl)) rfl ?_;rintro _ _ _ ⟨rfl, rfl, e2_⟩;obtain rfl := e2_.symm;refine g [[3]] ?_;refine WC.loopX (fun y : Nat × Nat × Hp × List Now × List Nat => ⟨40, y.2.2.2.2.map y1, [ab, mb], w⟩) (fun y => [(2, ut fr), (3, nt h), (5, pt b5), (6, pt b6), (9, pt b9), (10, pt y.2.1)]) (fun y => ([(y.2.1, .cells (List.toArray [ut (2 ^ y.1)]) 184 (0, 0)), (b9, .cells (List.toArray [.iface at_ av]) 344 (0, 0)), (b6, .cells (List.toArray [it x.floor, it x.brake, it x.row]) 139 (0, 0)), (b5, .cells (List.toArray [pt qb]) 168 (0, 0)), (ab, ob y.2.2.2.1)] ++ (y.2.2.2.2.map dblk ++ y.2.2.1))) (fun _ => D) (fun y => y.1 ≤ 8 ∧ y.2.2.2.1 ++ nowL s x h (plcL fr (8 - y.1) y.1) = looL s x fr h ∧ MapS s mb y.2.2.1 ∧ ∀ z ∈ y.2.2.2.1, znO z) (fun y => 8 - y.1) (0, b10, hM0, [], []) ⟨Nat.zero_le _, rfl, hMM, fun _ h => nomatch h⟩ (fun a w ha => y4 ha ⟨rfl, rfl, rfl, rfl, rfl, rfl, trivial⟩) ?_;clear hMM;rintro ⟨j, b10, hM, done, ms⟩ ⟨hj, hL, hMM, hdo⟩;dsimp only at hj hL hMM hdo;obtain ⟨es, cl, F, rfl, hMG, hKF⟩ := hMM;refine g [[2],[6,2,3,5,6,9,10]] ?_;refine WC.cond rfl (fun c15 => ?_) (fun c15 => ?_)
  · try simp only [zq] at c15
    have h15 : 2 ^ j ≤ fr := by omega
    have hj7 : j < 7 := (Nat.pow_lt_pow_iff_right (show 1 < 2 by decide)).1 (Nat.lt_of_le_of_lt h15 (show fr < 2 ^ 7 from hfr));have h256 : 2 ^ j < 256 := Nat.pow_lt_pow_right (n := 8) (by decide) (by omega);refine g [[6],[3,2,3,5,6,9,10]] ?_;refine WL.yd (Yd.andG (.inl rfl) (zna (by omega)) (lt63 (n := 7) hfr (by omega)) rfl rfl) rfl (g [[3]] ?_);refine WC.cond rfl (fun c21 => ?_) (fun c21 => ?_)
    · try simp only [zq] at c21
      refine g [[6],[4,2,3,5,6,9,10],[1,39,2,3,5,6,9,10]] ?_;refine WL.so (SO.alloc ZvF.h rfl) rfl (zw fun b10 hb10 => ?_);refine WL.so (SO.store 0 rfl SzF.h rfl rfl rfl rfl (zqb rfl) (za rfl)) rfl ?_;rintro _ _ _ ⟨rfl, rfl, e2_⟩;obtain rfl := e2_.symm;refine g [[2],[2,10,2,3,5,6,9]] ?_;refine WL.yd (Yd.shlG (.inl rfl) (a := 2 ^ j) (j := 1) (by rw [← Nat.pow_succ]; exact zna (by omega)) (by omega) rfl rfl) rfl ?_;refine WL.so (SO.store 0 rfl SzF.h rfl rfl rfl rfl (zqb rfl) (za rfl)) rfl ?_;rintro _ _ _ ⟨rfl, rfl, e2_⟩;obtain rfl := e2_.symm;refine g [[1]] ?_;have e2 : 2 ^ (j + 1) = 2 ^ j * 2 ^ 1 := Nat.pow_succ ..;refine WP.againX (j + 1, b10, [(mb, .map es cl)], done, ms) ⟨by show j + 1 ≤ 8; omega, by rw [← hL, show 8 - j = (8 - (j + 1)) + 1 by omega, ztO h15 (by omega)], ⟨es, cl, F, rfl, hMG, hKF⟩, hdo⟩ (by show 8 - (j + 1) < 8 - j; omega) (fun a w ha => ?_);dsimp only;rw [e2];exact yi ha ⟨rfl, rfl, rfl, rfl, rfl, rfl, trivial⟩ zU1 zU2
    try simp only [zq] at c21
    refine g [[3],[3,2,3,5,6,9,10]] ?_;refine WL.so (SO.makes (Enters.func Tryz.call208 rfl) (fun w1 hI => zvx qb h D w1 hI.imm)) rfl ?_;rintro _ D1 _ ⟨hX1, ⟨bs, bh, rfl, hbs, hbh⟩, rfl⟩;refine g [[3],[0,2,3,5,6,9,10,24]] ?_;refine WC.rangeIterN (N := (houL s h).length) (arg := fun k => houV (gt (houL s h) k)) (fun w2 _ hD1 => zqZ s m h hh qb mb bs bh D1 (hR.ext hX1) hok (hX1.old _ _ hq) hbs hbh w2) rfl Tryz.call236 rfl (fun k _ h' => ∃ hM, h' = [(b10, .cells (List.toArray [ut (2 ^ j)]) 184 (0, 0)), (b9, .cells (List.toArray [.iface at_ av]) 344 (0, 0)), (b6, .cells (List.toArray [it x.floor, it x.brake, it x.row]) 139 (0, 0)), (b5, .cells (List.toArray [pt qb]) 168 (0, 0)), (ab, ob (done ++ ((((houL s h)).take k).map (fun o => (⟨x, o.1, o.2, 2 ^ j⟩ : Now)))))] ++ (ms.map dblk ++ hM) ∧ MapS s mb hM) (fun _ _ _ => False) (fun _ _ _ _ _ h => h) ⟨_, by rw [List.take_zero, List.map_nil, List.append_nil], es, cl, F, rfl, hMG, hKF⟩ ?_ ?_ ?_
    · rintro rec1 l1 Dn0 k D5 _ w1 hrec hk ⟨hM5, rfl, hMM5⟩ hX5 hsz;unfold yP;clear hMG hKF;obtain ⟨es, cl, F, rfl, hMG, hKF⟩ := hMM5;have hX15 := hX1.trans hX5 (Nat.le_refl _);have hnk : znO (⟨x, (gt (houL s h) k).1, (gt (houL s h) k).2, 2 ^ j⟩ : Now) := zq0 hok hx hh h256 _ (List.mem_map.2 ⟨_, yE hk, rfl⟩)
      have hdk : ∀ y ∈ done ++ ((((houL s h)).take k).map (fun o => (⟨x, o.1, o.2, 2 ^ j⟩ : Now))), znO y := fun y hy => by
        rcases List.mem_append.1 hy with hy | hy
        · exact hdo y hy
        obtain ⟨o, ho, rfl⟩ := List.mem_map.1 hy;exact zq0 hok hx hh h256 _ (List.mem_map.2 ⟨o, List.mem_of_mem_take ho, rfl⟩)
      refine g [[1,25,5,6,9,10]] ?_;refine WLF.so (zn rfl) (SO.alloc ZvF.h rfl) rfl (zw fun b11 hb11 => ?_);refine WLF.so (zn rfl) (SO.store 0 rfl SzF.h rfl rfl rfl rfl (zqb rfl) (za rfl)) rfl ?_;rintro _ _ _ ⟨rfl, rfl, e2_⟩;obtain rfl := e2_.symm;refine g [[1]] ?_;refine WP.iterBegin 1 rfl hrec (g [[2],[5,11,5,6,9,10]] ?_);refine WLF.so (zn rfl) (SO.alloc ZvF.h rfl) rfl (zw fun b12 hb12 => ?_);refine WLF.so (zn rfl) (SO.store 0 rfl SzF.h rfl rfl rfl rfl (zqb rfl) (za rfl)) rfl ?_;rintro _ _ _ ⟨rfl, rfl, e2_⟩;obtain rfl := e2_.symm;refine g [[2],[0,12,5,9]] ?_;refine WCF.drawH [_, _, _, _, _, _, _, _] zk zk (noLets.blk noLets.round) (fun _ hI => Inv.left (l1 := [_, _, _, _, _, _, _, _]) (l2 := _ :: (ms.map dblk ++ [_])) hI) (g [[1000],[1001],[1002],[1003],[1005]] ?_);refine WH.yd (i := 6) zk zX rfl (Yd.nilCheckM rfl hnil) rfl (g [[1007]] ?_);skip;refine WH.one (i := 4) zk (WHo.so rfl (SO.altersN (own := [_, _, _, _, _, _, _, _, _] ++ ms.map dblk) (hpc := [(mb, .map es cl)]) (fun _ h => h) (fun h => h) (fun _ h => h) (fun _ h => h) (Enters.func CaF.h rfl) (fun w2 hI => ztj s m qb mb D5 (hR.ext hX15) hok (hX15.old _ _ hq) (hT.ext hX15) (⟨x, (gt (houL s h) k).1, (gt (houL s h) k).2, 2 ^ j⟩ : Now) hnk w2 _ ⟨es, cl, F, rfl, hMG, hKF⟩ hI)) rfl ?_);rintro _ _ _ ⟨hp3, _, ⟨rfl, rfl, hMM2⟩, rfl⟩;refine ⟨(fun _ hI => Inv.left (l1 := [_, _, _, _, _, _, _, _]) (l2 := _ :: (ms.map dblk ++ hp3)) hI), ?_⟩;refine WH.one (i := 8) zk (WHo.so rfl (SO.altersNP (own := _ :: _ :: _ :: _ :: _ :: _ :: _ :: _ :: (ms.map dblk ++ hp3)) (hpc := [(ab, ob (done ++ ((((houL s h)).take k).map (fun o => (⟨x, o.1, o.2, 2 ^ j⟩ : Now)))))]) (rot8 _ _ _ _ _ _ _ _ _ (ms.map dblk ++ hp3)) (fun _ h => h) (fun _ h => h) (Enters.meth hcall hmeth rfl rfl) (fun w2 hI => hsee (done ++ ((((houL s h)).take k).map (fun o => (⟨x, o.1, o.2, 2 ^ j⟩ : Now)))) (⟨x, (gt (houL s h) k).1, (gt (houL s h) k).2, 2 ^ j⟩ : Now) D5 w2 hdk hnk hI)) rfl ?_);rintro _ _ _ ⟨hp4, _, ⟨rfl, rfl, rfl⟩, rfl⟩;refine ⟨(fun _ hI => Inv.left (l1 := [_, _, _, _, _, _, _, _]) (l2 := (ms.map dblk ++ hp3) ++ [_]) hI), ?_⟩;refine WH.nil zk (g [[1]] ?_);exact WP.iterOnN hrec (h1 := [(b10, .cells (List.toArray [ut (2 ^ j)]) 184 (0, 0)), (b9, .cells (List.toArray [.iface at_ av]) 344 (0, 0)), (b6, .cells (List.toArray [it x.floor, it x.brake, it x.row]) 139 (0, 0)), (b5, .cells (List.toArray [pt qb]) 168 (0, 0)), (ab, ob (done ++ ((((houL s h)).take k).map (fun o => (⟨x, o.1, o.2, 2 ^ j⟩ : Now))) ++ [(⟨x, (gt (houL s h) k).1, (gt (houL s h) k).2, 2 ^ j⟩ : Now)]))] ++ (ms.map dblk ++ hp3)) (zsn _ _ _ [_, _, _, _, _, _] (ms.map dblk ++ hp3)).1 (zsn _ _ _ [_, _, _, _, _, _] (ms.map dblk ++ hp3)).2 (DExt.refl _ _) ⟨hp3, by rw [zs3 hk, List.append_assoc], hMM2⟩
    · rintro Dn1 D6 _ hDn1 hX6 ⟨hM, rfl, hMM6⟩;rw [List.take_length];refine g [[5],[4,2,3,5,6,9,10],[1,39,2,3,5,6,9,10]] ?_;refine WL.so (SO.alloc ZvF.h rfl) rfl (zw fun b10 hb10 => ?_);refine WL.so (SO.store 0 rfl SzF.h rfl rfl rfl rfl (zqb rfl) (za rfl)) rfl ?_;rintro _ _ _ ⟨rfl, rfl, e2_⟩;obtain rfl := e2_.symm;refine g [[2],[2,10,2,3,5,6,9]] ?_;refine WL.yd (Yd.shlG (.inl rfl) (a := 2 ^ j) (j := 1) (by rw [← Nat.pow_succ]; exact zna (by omega)) (by omega) rfl rfl) rfl ?_;refine WL.so (SO.store 0 rfl SzF.h rfl rfl rfl rfl (zqb rfl) (za rfl)) rfl ?_;rintro _ _ _ ⟨rfl, rfl, e2_⟩;obtain rfl := e2_.symm;refine g [[1]] ?_;have e2 : 2 ^ (j + 1) = 2 ^ j * 2 ^ 1 := Nat.pow_succ ..;refine WP.againX (j + 1, b10, hM, done ++ nowP s x h (2 ^ j), Dn1 :: ms) ⟨by show j + 1 ≤ 8; omega, by rw [← hL, show 8 - j = (8 - (j + 1)) + 1 by omega, ztP h15 (by omega), zs2, List.append_assoc], hMM6, fun y hy => by rcases List.mem_append.1 hy with hy | hy; exact hdo y hy; exact zq0 hok hx hh h256 y hy⟩ (by show 8 - (j + 1) < 8 - j; omega) (fun a w ha => ?_);dsimp only;rw [e2];exact zxf [_, _, _, _] (List.map dblk ms ++ hM) ha ⟨rfl, rfl, rfl, rfl, rfl, rfl, trivial⟩ (fun b o hb => hX6.old _ _ (hX1.old _ _ hb))
    exact fun _ _ _ _ _ _ h => h.elim
  try simp only [zq] at c15
  have h15 : ¬ 2 ^ j ≤ fr := by omega
  rw [zxX h15] at hL;have hL2 : done = looL s x fr h := by rw [← hL]; exact (List.append_nil _).symm
  refine g [[4]] ?_;refine WP.retMs ms ((ab, ob done) :: [(mb, .map es cl)]) [] [] rfl rfl (zsm _ _ _ _ _ (ms.map dblk) _).1 (zsm _ _ _ _ _ (ms.map dblk) _).2 rfl trivial (fun w1 hI => ⟨_, D, _, rfl, DExt.refl _ _, hI, rfl, rfl, _, ⟨es, cl, F, rfl, hMG, hKF⟩, by rw [hL2]⟩)
def lgC (F : Nat → Nat) : List Value := [ut (F 0), ut (F 1), ut (F 2), ut (F 3), ut (F 4), ut (F 5), ut (F 6), ut (F 7), ut (F 8)]
abbrev lgV (F : Nat → Nat) : Value := .agg (lgC F).toArray
section
variable (F : Nat → Nat) {i : Nat} (hi : i < 9)
include F i hi
theorem zDn : (lgC F)[i]? = some (ut (F i)) := by
  rcases (show i = 0 ∨ i = 1 ∨ i = 2 ∨ i = 3 ∨ i = 4 ∨ i = 5 ∨ i = 6 ∨ i = 7 ∨ i = 8 by omega) with rfl | rfl | rfl | rfl | rfl | rfl | rfl | rfl | rfl <;> rfl
theorem zxM : (lgC F)[0 + i * 1]? = some (ut (F i)) := by rw [Nat.zero_add, Nat.mul_one]; exact zDn F hi
theorem zxN (v : Nat) : splice (lgC F) (0 + i * 1) [ut v] = lgC (fun j => if j = i then v else F j) := by
  rcases (show i = 0 ∨ i = 1 ∨ i = 2 ∨ i = 3 ∨ i = 4 ∨ i = 5 ∨ i = 6 ∨ i = 7 ∨ i = 8 by omega) with rfl | rfl | rfl | rfl | rfl | rfl | rfl | rfl | rfl <;> simp [lgC, splice]
end
def lgF (s : Surf) (x : Hut) (h : Nat) : Nat → Nat := fun j => if j ≤ h then folN s x j else 0
theorem ztz (s : Surf) (x : Hut) (h : Nat) : (fun j => if j = h + 1 then goN s (looL s x (lgF s x h h) h) else lgF s x h j) = lgF s x (h + 1) := by
  funext j; unfold lgF;by_cases e : j = h + 1
  · subst e; simp [folN]
  by_cases e2 : j ≤ h
  · simp [e, e2, show j ≤ h + 1 by omega]
  simp [e, e2, show ¬ j ≤ h + 1 by omega]
theorem zvq (s : Surf) : ∀ (l : List Now), (∀ y ∈ l, y.place < 2 ^ 7) → goN s l < 2 ^ 7 := by
  have key : ∀ (l : List Now) (a : Nat), a < 2 ^ 7 → (∀ y ∈ l, y.place < 2 ^ 7) → l.foldl (fun t n => t ||| (if floB s n = true ∧ n.hut.brake < n.wave then n.place / 2 else n.place)) a < 2 ^ 7 := by
    intro l
    induction l with
    | nil => exact fun a h _ => h
    | cons n l ih => exact fun a h hl => ih _ (Nat.or_lt_two_pow h (by have := hl n (by simp); split <;> omega)) fun y hy => hl y (by simp [hy])
  exact fun l hl => key l 0 (by decide) hl
theorem zsf {f : Nat} (hf : f < 128) : ∀ n j, ∀ p ∈ plcL f n j, p < 128
  | 0, _, p, hp => by simp [plcL] at hp
  | n + 1, j, p, hp => by
    rw [plcL] at hp;split at hp
    · split at hp
      · exact zsf hf n _ p hp
      rcases List.mem_cons.1 hp with rfl | hp
      · omega
      exact zsf hf n _ p hp
    simp at hp
theorem zrS {s : Surf} {x : Hut} {f h : Nat} (hf : f < 128) : ∀ y ∈ looL s x f h, y.place < 2 ^ 7 := fun y hy => by
  obtain ⟨p, hp, h2⟩ := List.mem_flatMap.1 hy;obtain ⟨o, _, rfl⟩ := List.mem_map.1 h2;exact zsf hf 8 0 p hp
theorem zrx {s : Surf} {x : Hut} (hx : zpO x) : ∀ h, folN s x h < 128
  | 0 => by
    have := hx.r;have h2 : 2 ^ x.row.toNat ≤ 2 ^ 5 := Nat.pow_le_pow_right (by decide) (by omega);unfold folN; omega
  | h + 1 => by unfold folN; exact zvq s _ (zrS (zrx hx h))
theorem zxL (s : Surf) (x : Hut) (h : Nat) : lgF s x h h = folN s x h := if_pos (Nat.le_refl _)
def tlL (s : Surf) (x : Hut) (n h : Nat) : List (Bool × Bool) := (List.range n).map fun i => if i < h then tlyB s x i else (false, false)
theorem zsK (s : Surf) (x : Hut) (n h : Nat) : (tlL s x n h).length = n := by simp [tlL]
theorem zwp {s : Surf} {x : Hut} {n h : Nat} (hh : h < n) : (tlL s x n h).set h (tlyB s x h) = tlL s x n (h + 1) := by
  apply List.ext_getElem?;intro i;rw [List.getElem?_set];by_cases e : h = i
  · subst e; simp [tlL, hh]
  simp only [if_neg e, tlL, List.getElem?_map];by_cases hi : i < n
  · simp only [List.getElem?_range hi, Option.map_some];by_cases e2 : i < h
    · simp [e2, show i < h + 1 by omega]
    simp [e2, show ¬ i < h + 1 by omega]
  simp [hi]
theorem zu9 {s : Surf} {x : Hut} {n h : Nat} (hh : h < n) : (tlL s x n h).set h (false, false) = tlL s x n h := by
  have : (tlL s x n h)[h]? = some (false, false) := by simp [tlL, hh]
  obtain ⟨hl, he⟩ := List.getElem?_eq_some_iff.1 this;rw [← he, List.set_getElem_self]
section
variable (s : Surf)
include s
theorem zwA (x : Hut) (n : Nat) : xI [.bool false, .bool false] (n * 2) = (tlL s x n 0).flatMap blC ++ [] := by
  have h1 : tlL s x n 0 = List.replicate n (false, false) := by
    unfold tlL;rw [List.eq_replicate_iff];exact ⟨by simp, fun y hy => by obtain ⟨i, _, rfl⟩ := List.mem_map.1 hy; rfl⟩
  rw [h1, List.append_nil]
  induction n with
  | zero => rfl
  | succ n ih =>
    have ih' := ih (by unfold tlL; rw [List.eq_replicate_iff]; exact ⟨by simp, fun y hy => by obtain ⟨i, _, rfl⟩ := List.mem_map.1 hy; rfl⟩);rw [List.replicate_succ', List.flatMap_append, ← ih', show (n + 1) * 2 = (n * 2 + 1) + 1 by omega];rw [xI, xI, List.append_assoc];have e1 : (n * 2 + 1) % 2 = 1 := by omega
    have e2 : n * 2 % 2 = 0 := by omega
    simp [blC, e1, e2]
theorem zwo (x : Hut) (n : Nat) : tlL s x n n = (List.range n).map (tlyB s x) := by
  unfold tlL;exact List.map_congr_left fun i hi => if_pos (List.mem_range.1 hi)
theorem ztl (m : znC) (qb mb : Nat) (D : Imm) (hR : znP D s m) (hok : zmq s) (hq : D qb = some (seaO s m mb)) (hT : LibT D) (x : Hut) (hx : zpO x) (w : World) (hM0 : Hp) (hMM : MapS s mb hM0) (hI0 : Inv D hM0 [mb] w w) : zp Tryz.prog 99 [pt qb, hutV x] w D [mb] (fun v D' hp' => D = D' ∧ v = lgV (lgF s x s.water.length) ∧ MapS s mb hp') := by
  unfold zp;have nws : s.water.length ≤ 8 := hok.nwater;have hF0 : lgF s x 0 = fun j => if j = 0 then 2 * 2 ^ x.row.toNat else 0 := by funext j; unfold lgF; by_cases e : j = 0 <;> simp [e, folN]
  have hmw : m.w.n = s.water.length := hR.w.len';refine en Tryz.func99 rfl Tryz.ntmps99 hI0 (g [[1],[1,0,1]] ?_);refine WL.so (SO.box rfl rfl) rfl (zw fun b3 hb3 => ?_);refine WL.so (SO.alloc ZvF.h rfl) rfl (zw fun b4 hb4 => ?_);refine g [[3],[3,4,3,0]] ?_;refine WL.know 8 (nt x.row.toNat) rfl (congrArg it (by have := hx.r; omega)) ?_;refine WL.cl rfl (fun w hI => zz4 x.row.toNat (by have := hx.r; omega) _) ?_;refine WL.yd (Yd.indexA UnF.h SzF.h rfl rfl (by (try dsimp only); omega) (by (try dsimp only); omega)) rfl (g [[5],[11,4,3,0]] ?_);refine WC.know 16 (nt s.water.length) rfl (congrArg (fun n : Nat => nt n) hmw) ?_;refine WC.loop (fun y : Nat × Hp => [(0, pt qb), (3, pt b3), (4, pt b4), (16, nt s.water.length), (17, nt y.1)]) (fun y => [(b4, .cells (List.toArray (lgC (lgF s x y.1))) 186 (0, 0)), (b3, .cells (List.toArray [it x.floor, it x.brake, it x.row]) 139 (0, 0))] ++ y.2) (fun _ => D) (fun y => y.1 ≤ s.water.length ∧ MapS s mb y.2) (fun y => s.water.length - y.1) (0, hM0) ⟨Nat.zero_le _, hMM⟩ (fun a w ha => by rw [show [(b4, .cells (List.toArray (lgC (lgF s x 0))) 186 (0, 0)), (b3, .cells (List.toArray [it x.floor, it x.brake, it x.row]) 139 (0, 0))] ++ hM0 = _ from congrArg (fun F => [((b4, .cells (List.toArray (lgC F)) 186 (0, 0)) : Nat × Obj), (b3, .cells (List.toArray [it x.floor, it x.brake, it x.row]) 139 (0, 0))] ++ hM0) hF0]; exact y4 ha ⟨rfl, rfl, rfl, rfl, rfl, trivial⟩) ?_;clear hMM;rintro ⟨h, hM⟩ ⟨hhn, hMM⟩;dsimp only at hhn hMM;obtain ⟨es, cl, F, rfl, hMG, hKF⟩ := hMM;refine g [[1],[5,0,3,4,16,17]] ?_;refine WC.cond rfl (fun c18 => ?_) (fun c18 => ?_)
  · try simp only [zq] at c18
    have hh : h < s.water.length := by omega
    refine g [[5],[6,0,3,4,16,17],[1,5,0,3,4,16,17]] ?_;refine WL.so (SO.alloc ZvF.h rfl) rfl (zw fun b6 hb6 => ?_);refine g [[3],[0,6,5,0,3,4,16,17]] ?_;refine WC.drawO [(b4, .cells (List.toArray (lgC (lgF s x h))) 186 (0, 0)), (b3, .cells (List.toArray [it x.floor, it x.brake, it x.row]) 139 (0, 0))] (pz [1,3,5,7,9,11,13,14]) zk zk zX (fun _ hI => hI.sub zU1 (zU3 hI.nodup)) (g [[3]] ?_);refine WA.yd rfl (Yd.indexA UnF.h SzF.h rfl rfl (by (try dsimp only); omega) (by (try dsimp only); omega)) rfl ?_;refine WA.yd rfl (Yd.l1 rfl (Rd.own (k := 0) rfl (zxM _ (by omega)))) rfl (g [[2]] ?_);refine WA.so rfl (SO.altersNP (own := [_, _]) (hpc := (b6, (fun l => .cells (List.toArray [ut (goN s l)]) 290 (0, 0)) []) :: [(mb, .map es cl)]) (S1 := [b6, mb]) ((List.perm_middle (l₁ := [_, _])).symm) (fun _ h => h) (fun _ h => h) (Enters.func CaF.h rfl) (fun w1 hI => zuw s m qb mb D hR hok hq hT x hx (lgF s x h h) h (by rw [zxL]; exact zrx hx h) hh b6 291 (pt b6) (fun l => .cells (List.toArray [ut (goN s l)]) 290 (0, 0)) 298 (pt b6) CaF.h (fun w => by kernel_rfl) (fun w => by kernel_rfl) (fun l n D' w' hl hn hI' => zy9 s l hl n hn b6 D' w' hI') w1 [(mb, .map es cl)] ⟨es, cl, F, rfl, hMG, hKF⟩ hI)) rfl ?_;rintro _ _ _ ⟨hp3, _, ⟨rfl, rfl, hM2, hMM2, rfl⟩, rfl⟩;refine ⟨fun _ hI => Inv.left (l1 := [_, _]) hI, ?_⟩;refine g [[2],[2,6,5,0,3,4,16,17]] ?_;refine WL.yd (Yd.addN (i := h) (j := 1) rfl rfl (by omega)) rfl (g [[2]] ?_);refine WL.yd (Yd.indexA UnF.h SzF.h rfl rfl (by (try dsimp only); omega) (by (try dsimp only); omega)) rfl ?_;skip;refine WL.so (SO.store 0 rfl SzF.h rfl rfl rfl rfl (by show 0 + (h + 1) * 1 + 1 ≤ 9; omega) (za rfl)) rfl (zt (g [[3],[1,0,3,4,16,17]] ?_));refine WL.yd (Yd.add rfl rfl (wr64 ⟨by (try dsimp only); omega, by (try dsimp only); omega⟩)) rfl (g [[2]] ?_);refine WP.again (h + 1, hM2) ⟨hh, hMM2⟩ (by show s.water.length - (h + 1) < s.water.length - h; omega) (fun a w ha => ?_);dsimp only;rw [← ztz, ← zxN _ (by omega)];exact yi ha ⟨rfl, rfl, rfl, rfl, rfl, trivial⟩ zU1 zU2
  try simp only [zq] at c18
  obtain rfl : h = s.water.length := by omega
  refine g [[6],[6,4]] ?_;refine WP.ret1 rfl rfl rfl (RV.cellN AgF.h SzF.h rfl (vs := [_, _, _, _, _, _, _, _, _]) rfl (RdN.own (k := 0) (n := 9) rfl rfl)) (fun w1 hI => ⟨_, D, _, rfl, DExt.refl _ _, hI.drop 2, rfl, rfl, es, cl, F, rfl, hMG, hKF⟩)
theorem zya (T : List (Bool × Bool)) (h : Nat) (hh : h < T.length) (ab : Nat) : SeeC s ab 297 (.pointer (some ⟨ab, 0 + h * 2, none⟩)) (fun l => tlO (T.set h (talB s l))) := fun l n D w hl hn hI => by
  have h1 := zyb (T.set h (talB s l)) h (by rw [List.length_set]; exact hh) (floB s n) n hn ab D w hI;rw [show gt (T.set h (talB s l)) h = talB s l by simp [gt, List.getD, hh], List.set_set, ← zsI] at h1;exact h1
theorem zsJ (m : znC) (qb mb : Nat) (D : Imm) (hR : znP D s m) (hok : zmq s) (hq : D qb = some (seaO s m mb)) (hT : LibT D) (x : Hut) (hx : zpO x) (w : World) (hM0 : Hp) (hMM : MapS s mb hM0) (hI0 : Inv D hM0 [mb] w w) : zp Tryz.prog 97 [pt qb, hutV x] w D [mb] (fun v D' hp' => ∃ b, v = .slice (some ⟨b, 0, none⟩) s.water.length s.water.length ∧ SlL D' 2 (((List.range s.water.length).map (tlyB s x)).map blC) (some ⟨b, 0, none⟩) s.water.length ∧ MapS s mb hp') := by
  unfold zp;obtain ⟨es, cl, F, rfl, hMG, hKF⟩ := hMM;have nws : s.water.length ≤ 8 := hok.nwater;have hmw : m.w.n = s.water.length := hR.w.len';refine en Tryz.func97 rfl Tryz.ntmps97 hI0 (g [[1],[1,0,1]] ?_);refine WL.so (SO.box rfl rfl) rfl (zw fun b3 hb3 => ?_);refine g [[4],[3,4,3,0]] ?_;refine WL.so (SO.altersN (own := [_]) (hpc := [(mb, .map es cl)]) (S1 := [mb]) (fun _ h => h) (fun h => h) (fun _ h => h) (fun _ h => h) (Enters.func CaF.h rfl) (fun w1 hI => ztl s m qb mb D hR hok hq hT x hx w1 _ ⟨es, cl, F, rfl, hMG, hKF⟩ hI)) rfl ?_;rintro _ _ _ ⟨hM2, _, ⟨rfl, rfl, hMM2⟩, rfl⟩;clear hMG hKF;obtain ⟨es, cl, F, rfl, hMG, hKF⟩ := hMM2;refine WL.so (SO.alloc ZvF.h rfl) rfl (zw fun b5 hb5 => ?_);refine g [[4],[7,5,4,3,0]] ?_;refine WL.know 16 (nt s.water.length) rfl (congrArg (fun n : Nat => nt n) hmw) ?_;refine WL.so (SO.makeSlice Tryz.underlying179 Tryz.sizeOf183 Tryz.typeInfo183 Tryz.zeroValue183 rfl rfl rfl (by omega) (by show (2 : Int) * _ ≤ _; omega)) rfl ?_;rintro _ _ _ ⟨b17, hb17, rfl, rfl, rfl⟩;refine g [[5],[7,6,5,4,3,0]] ?_;refine WC.loop (fun y : Nat × Hp => [(0, pt qb), (3, pt b3), (5, pt b5), (6, .slice (some ⟨b17, 0, none⟩) s.water.length s.water.length), (19, nt s.water.length), (20, nt y.1)]) (fun y => [(b17, tlO (tlL s x s.water.length y.1)), (b5, .cells (List.toArray (lgC (lgF s x s.water.length))) 186 (0, 0)), (b3, .cells (List.toArray [it x.floor, it x.brake, it x.row]) 139 (0, 0))] ++ y.2) (fun _ => D) (fun y => y.1 ≤ s.water.length ∧ MapS s mb y.2) (fun y => s.water.length - y.1) (0, [(mb, .map es cl)]) ⟨Nat.zero_le _, es, cl, F, rfl, hMG, hKF⟩ (fun a w ha => by show At _ _ _ ((b17, .cells (List.toArray ((tlL s x s.water.length 0).flatMap blC ++ [])) 183 (0, 0)) :: _) a w; rw [← zwA]; exact y4 ha ⟨rfl, rfl, rfl, rfl, rfl, rfl, trivial⟩) ?_;clear hMG hKF;rintro ⟨h, hM⟩ ⟨hhn, hMM⟩;dsimp only at hhn hMM;obtain ⟨es, cl, F, rfl, hMG, hKF⟩ := hMM;refine g [[1],[5,0,3,5,6,19,20]] ?_;refine WC.cond rfl (fun c21 => ?_) (fun c21 => ?_)
  · try simp only [zq] at c21
    have hh : h < s.water.length := by omega
    have hlt : (lgF s x s.water.length) h < 128 := by unfold lgF; rw [if_pos (by omega)]; exact zrx hx h
    have hsu : talB s (looL s x ((lgF s x s.water.length) h) h) = tlyB s x h := by unfold tlyB lgF; rw [if_pos (by omega)]
    refine g [[5],[5,0,3,5,6,19,20],[0,7,0,3,5,6,19,20]] ?_;refine WC.drawO [(b5, .cells (List.toArray (lgC (lgF s x s.water.length))) 186 (0, 0)), (b3, .cells (List.toArray [it x.floor, it x.brake, it x.row]) 139 (0, 0))] (pz [1,3,5,7,9,11,13,15,17,19,20]) zk zk zX (fun _ hI => hI.sub zU1 (zU3 hI.nodup)) (g [[3]] ?_);refine WA.yd rfl (Yd.indexA UnF.h SzF.h rfl rfl (by (try dsimp only); omega) (by (try dsimp only); omega)) rfl ?_;refine WA.yd rfl (Yd.l1 rfl (Rd.own (k := 0) rfl (zxM _ (by omega)))) rfl (g [[3]] ?_);refine WA.yd rfl (Yd.indexS UnF.h SzF.h rfl rfl (by (try dsimp only); omega) (by (try dsimp only); omega) (rfl)) rfl (g [[1]] ?_);skip;refine WA.so rfl (SO.altersNP (own := [_, _]) (hpc := (b17, (fun l => tlO ((tlL s x s.water.length h).set h (talB s l))) []) :: [(mb, .map es cl)]) (S1 := [b17, mb]) (by show List.Perm _ ([_, _] ++ ((b17, tlO ((tlL s x s.water.length h).set h (false, false))) :: _)); rw [zu9 hh]; exact (List.perm_middle (l₁ := [_, _])).symm) (fun _ h => h) (fun _ h => h) (Enters.func CaF.h rfl) (fun w1 hI => zuw s m qb mb D hR hok hq hT x hx ((lgF s x s.water.length) h) h hlt hh b17 287 (.pointer (some ⟨b17, 0 + h * 2, none⟩)) (fun l => tlO ((tlL s x s.water.length h).set h (talB s l))) 297 (.pointer (some ⟨b17, 0 + h * 2, none⟩)) CaF.h (fun w => by kernel_rfl) (fun w => by kernel_rfl) (zya s _ h (by rw [zsK]; exact hh) b17) w1 [(mb, .map es cl)] ⟨es, cl, F, rfl, hMG, hKF⟩ hI)) rfl ?_;rintro _ _ _ ⟨hp3, _, ⟨rfl, rfl, hM2, hMM2, rfl⟩, rfl⟩;refine ⟨fun _ hI => Inv.left (l1 := [_, _]) hI, ?_⟩;refine g [[3],[1,0,3,5,6,19,20]] ?_;refine WL.yd (Yd.add rfl rfl (wr64 ⟨by (try dsimp only); omega, by (try dsimp only); omega⟩)) rfl (g [[2]] ?_);refine WP.again (h + 1, hM2) ⟨hh, hMM2⟩ (by show s.water.length - (h + 1) < s.water.length - h; omega) (fun a w ha => ?_);dsimp only;rw [← zwp hh, ← hsu];exact v6 ha ⟨rfl, rfl, rfl, rfl, rfl, rfl, trivial⟩ (List.perm_middle (l₁ := [_, _]))
  try simp only [zq] at c21
  obtain rfl : h = s.water.length := by omega
  refine g [[6]] ?_;refine WC.freezeN 0 b17 (tlO (tlL s x s.water.length s.water.length)) rfl rfl hb17 (fun DZ hXZ h17 => ?_);refine g [[6,6]] ?_;refine WP.ret1 rfl rfl rfl (RV.tmp rfl) (fun w1 hI => ⟨_, DZ, _, rfl, hXZ, hI.drop 2, b17, rfl, (by have h9 := SlL.ofBlock (rest := []) znS (show DZ b17 = some (.cells (List.toArray ((tlL s x s.water.length s.water.length).flatMap blC ++ [])) 183 (0, 0)) from h17); rw [zsK, zwo] at h9; exact h9), es, cl, F, rfl, hMG, hKF⟩)
end
theorem zvD (b : Bool × Bool) (w : World) : z8 Tryz.prog 163 [.agg #[.bool b.1, .bool b.2]] w (.bool b.1) := by
  unfold z8;refine en Tryz.func163 rfl Tryz.ntmps163 zI (g [[1],[1,0]] ?_);refine WL.so (SO.box rfl rfl) rfl (zw fun b1 hb1 => ?_);refine g [[4],[7,2,1]] ?_;refine WP.ret1 rfl rfl rfl (RV.tmp rfl) (fun w hI => ⟨rfl, hI.keep⟩)
theorem zvb {s : Surf} {x : Hut} {k : Nat} (hk : k < s.water.length) (hp : (tlyB s x k).1 = true) (hno : ∀ j, j < k → (tlyB s x j).1 = false) : firI s x = (k : Int) := by
  have h := zrr (L := List.range s.water.length) (P := fun h => (tlyB s x h).1) (k := k) (by simpa using hk) (by simpa [gt, List.getD, hk] using hp) (fun j hj => by simpa [gt, List.getD, Nat.lt_trans hj hk] using hno j hj);unfold firI;rw [h];simp [gt, List.getD, hk]
theorem zvd {s : Surf} {x : Hut} (hno : ∀ j, j < s.water.length → (tlyB s x j).1 = false) : firI s x = -1 := by
  have h := zrs (L := List.range s.water.length) (P := fun h => (tlyB s x h).1) (fun j hj => by
      have hj2 : j < s.water.length := by simpa using hj
      simpa [gt, List.getD, hj2] using hno j hj2)
  unfold firI;rw [h]
theorem zuo {s : Surf} {x : Hut} {k : Nat} (hk : k < s.water.length) : gt ((List.range s.water.length).map (tlyB s x)) k = tlyB s x k := by simp [gt, List.getD, hk]
theorem ztw (s : Surf) (x : Hut) (hn : s.water.length ≤ 8) (a : Option Addr) (c : Nat) (D : Imm) (hS : SlL D 2 (((List.range s.water.length).map (tlyB s x)).map blC) a s.water.length) (w : World) (hH : Holds D w) : z8 Tryz.prog 162 [.slice a s.water.length c, .func (.func 163) #[] #[]] w (it (firI s x)) := by
  unfold z8;refine en Tryz.func162 rfl Tryz.ntmps162 (Inv.start hH) (g [[1],[6,0,1],[7,4,0,1]] ?_);refine WC.loopF (fun k : Nat => [(0, .slice a s.water.length c), (1, .func (.func 163) #[] #[]), (7, nt s.water.length), (8, nt k)]) (fun k => k ≤ s.water.length ∧ ∀ j, j < k → (tlyB s x j).1 = false) (fun k => s.water.length - k) 0 ⟨Nat.zero_le _, fun j hj => absurd hj (Nat.not_lt_zero j)⟩ (by exact ⟨rfl, rfl, rfl, rfl, trivial⟩) ?_;intro k ⟨hkn, hno⟩;refine g [[1],[5,0,1,7,8]] ?_;refine WC.cond rfl (fun c9 => ?_) (fun c9 => ?_)
  · try simp only [zq] at c9
    have hk : k < s.water.length := by omega
    refine g [[5],[6,0,1,7,8],[4,5,0,1,7,8]] ?_;refine WL.yd (Yd.ix rfl rfl (hS.addr k hk)) rfl ?_;refine WL.yd (Yd.lV [_, _] rfl ((hS.at k (by simpa using hk)).rdn 0 2 rfl)) rfl ?_;refine WL.so (SO.call (Enters.val CaF.h rfl rfl) (fun w hI => zvD (gt ((List.range s.water.length).map (tlyB s x)) k) _)) rfl (zs (g [[2]] ?_));refine WC.cond rfl (fun c16 => ?_) (fun c16 => ?_)
    · have hy : (tlyB s x k).1 = true := by rw [← zuo hk]; assumption
      refine g [[1],[11,5,0,1,7,8]] ?_;refine WP.ret1 rfl rfl rfl (RV.tmp rfl) (fun w hI => ⟨by rw [zvb hk hy hno], hI.keep⟩)
    have hy : (tlyB s x k).1 = false := by rw [← zuo hk]; assumption
    refine g [[3],[4,0,1,7,8]] ?_;exact WP.againF (k + 1) ⟨hk, zod hno hy⟩ (by omega) ⟨rfl, rfl, rfl, rfl, trivial⟩ (fun _ h => h) (fun h => h)
  try simp only [zq] at c9
  obtain rfl : k = s.water.length := by omega
  refine g [[6]] ?_;refine WC.ofFr [] trivial (g [[5]] ?_);refine WP.ret1 rfl rfl rfl (RV.tmp rfl) (fun w hI => ⟨by rw [zvd hno], hI.keep⟩)
theorem ztd (s : Surf) (m : znC) (qb mb : Nat) (D : Imm) (hR : znP D s m) (hok : zmq s) (hq : D qb = some (seaO s m mb)) (hT : LibT D) (x : Hut) (hx : zpO x) (w : World) (hM0 : Hp) (hMM : MapS s mb hM0) (hI0 : Inv D hM0 [mb] w w) : zp Tryz.prog 88 [pt qb, hutV x] w D [mb] (fun v D' hp' => v = it (firI s x) ∧ MapS s mb hp') := by
  unfold zp;obtain ⟨es, cl, F, rfl, hMG, hKF⟩ := hMM;refine en Tryz.func88 rfl Tryz.ntmps88 hI0 (g [[1],[1,0,1]] ?_);refine WL.so (SO.box rfl rfl) rfl (zw fun b3 hb3 => ?_);refine g [[4],[3,4,3,0]] ?_;refine WL.so (SO.altersN (own := [_]) (hpc := [(mb, .map es cl)]) (S1 := [mb]) (fun _ h => h) (fun h => h) (fun _ h => h) (fun _ h => h) (Enters.func CaF.h rfl) (fun w1 hI => zsJ s m qb mb D hR hok hq hT x hx w1 _ ⟨es, cl, F, rfl, hMG, hKF⟩ hI)) rfl ?_;rintro _ D2 _ ⟨hM2, hX2, ⟨b, rfl, hS, hMM2⟩, rfl⟩;refine WL.so (SO.callP CaF.h rfl (fun w hI => ztw s x hok.nwater (some ⟨b, 0, none⟩) _ D2 hS _ hI.imm)) rfl ?_;rintro _ _ _ ⟨rfl, rfl, e2_⟩;obtain rfl := e2_.symm;refine g [[4]] ?_;refine WP.ret1 rfl rfl rfl (RV.tmp rfl) (fun w1 hI => ⟨_, D2, _, rfl, hX2, hI.drop 1, rfl, hMM2⟩)
theorem zn6 {f : Nat → Bool} {k : Nat} (h : f k = true) : orF f (k + 1) = orF f k ||| 2 ^ k := by rw [orF, if_pos h]
theorem zpA {f : Nat → Bool} {k : Nat} (h : f k = false) : orF f (k + 1) = orF f k := by rw [orF, if_neg (by simp [h]), Nat.or_zero]
section
variable {rec : SSt → Bool × SSt} {many : Int} {hut h : Nat} {hs : List Nat} {t : SSt}
include rec many hut h hs t
theorem zvA (e : gt t.2 h = many) : hrsT rec many hut (h :: hs) t = hrsT rec many hut hs t := by
  rw [hrsT, if_pos e]
theorem zxE (e : ¬ gt t.2 h = many) (hr : (rec (t.1.set hut (h : Int), t.2.set h (wrI (gt t.2 h + 1)))).1 = true) : hrsT rec many hut (h :: hs) t = (true, (rec (t.1.set hut (h : Int), t.2.set h (wrI (gt t.2 h + 1)))).2) := by
  rw [hrsT, if_neg e];generalize rec (t.1.set hut (h : Int), t.2.set h (wrI (gt t.2 h + 1))) = q at hr ⊢;obtain ⟨b, s'⟩ := q;dsimp only at hr; subst hr; rfl
theorem zze (e : ¬ gt t.2 h = many) (hr : (rec (t.1.set hut (h : Int), t.2.set h (wrI (gt t.2 h + 1)))).1 = false) : hrsT rec many hut (h :: hs) t = hrsT rec many hut hs ((rec (t.1.set hut (h : Int), t.2.set h (wrI (gt t.2 h + 1)))).2.1, (rec (t.1.set hut (h : Int), t.2.set h (wrI (gt t.2 h + 1)))).2.2.set h (wrI (gt (rec (t.1.set hut (h : Int), t.2.set h (wrI (gt t.2 h + 1)))).2.2 h - 1))) := by
  conv => lhs; rw [hrsT, if_neg e]
  generalize rec (t.1.set hut (h : Int), t.2.set h (wrI (gt t.2 h + 1))) = q at hr ⊢;obtain ⟨b, s'⟩ := q;dsimp only at hr; subst hr; rfl
end
def lsO (l : List Int) : Obj := .cells (List.toArray (l.map it)) 3 (0, 0)
def fuO (l : List Int) : Obj := .cells (List.toArray (l.map it)) 172 (0, 0)
def fiC (f : Nat → Int) : List Value := [it (f 0), it (f 1), it (f 2), it (f 3), it (f 4)]
theorem zxs (f : Nat → Int) {i : Nat} (hi : i < 5) : (fiC f)[0 + i * 1]? = some (it (f i)) := by
  rcases (show i = 0 ∨ i = 1 ∨ i = 2 ∨ i = 3 ∨ i = 4 by omega) with rfl | rfl | rfl | rfl | rfl <;> rfl
theorem zxt (f : Nat → Int) {i : Nat} (hi : i < 5) (v : Int) : splice (fiC f) (0 + i * 1) [it v] = fiC (fun j => if j = i then v else f j) := by
  rcases (show i = 0 ∨ i = 1 ∨ i = 2 ∨ i = 3 ∨ i = 4 by omega) with rfl | rfl | rfl | rfl | rfl <;> simp [fiC, splice]
structure SEnv (D : Imm) (n : Nat) (first : Nat → Int) (can : Nat) (many : Int) (bl pl pc_ po pf bf pm : Nat) : Prop where
  l : D pl = some (.cells (List.toArray [.slice (some ⟨bl, 0, none⟩) n n]) 31 (0, 0))
  c : D pc_ = some (.cells (List.toArray [nt can]) 3 (0, 0))
  o : D po = some (.cells (List.toArray [.func (.func 89) #[] #[pt pl, pt pc_, pt po, pt pf, pt bf, pt pm]]) 108 (0, 0))
  f : D pf = some (.cells (List.toArray (fiC first)) 170 (0, 0))
  m : D pm = some (.cells (List.toArray [it many]) 3 (0, 0))
def SavH (bl bf : Nat) (t : SSt) : Hp := [(bl, lsO t.1), (bf, fuO t.2)]
def SavK (n : Nat) (r : Bool × SSt) (bl bf : Nat) (D : Imm) (v : Value) (D' : Imm) (hp' : Hp) : Prop := D = D' ∧ v = .bool r.1 ∧ r.2.1.length = n ∧ r.2.2.length = 8 ∧ hp' = SavH bl bf r.2
def SavS (n : Nat) (first : Nat → Int) (can : Nat) (many : Int) (left : Nat) (bl pl pc_ po pf bf pm : Nat) (f : Nat → SSt → Bool × SSt) (N : Nat) : Prop :=
  ∀ (hut : Nat) (t : SSt) (D : Imm) (w : World), hut + N = n → t.1.length = n → t.2.length = 8 → SEnv D n first can many bl pl pc_ po pf bf pm → Inv D (SavH bl bf t) [bl, bf] w w →
    zp Tryz.prog 89 [nt hut, nt left, pt pl, pt pc_, pt po, pt pf, pt bf, pt pm] w D [bl, bf] (SavK n (f hut t) bl bf D)
section
variable (n : Nat) (hn5 : n ≤ 5) (first : Nat → Int) (hf8 : ∀ i, first i ≤ 8) (can : Nat) (hcan : can < 2 ^ 60) (many : Int) (left : Nat) (hleft : left < 2 ^ 60) (bl pl pc_ po pf bf pm : Nat)
include n hn5 first hf8 can hcan many left hleft bl pl pc_ po pf bf pm
theorem zy6 : SavS n first can many left bl pl pc_ po pf bf pm (savF first can many left 0) 0 := by
  intro hut s D w hin hl1 hl2 he hI0;unfold zp;refine en Tryz.func89 rfl Tryz.ntmps89 hI0 (g [[1],[6,0,1,2,3,4,5,6,7],[2,10,0,1,2,3,4,5,6,7]] ?_);refine WL.yd (Yd.l1 rfl (Rd.imm he.l rfl)) rfl (g [[4]] ?_);refine WC.cond rfl (fun c15 => ?_) (fun c15 => ?_)
  · try simp only [zq] at c15
    refine g [[1],[6,10,0,1,2,3,4,5,6,7]] ?_;refine WP.ret1 rfl rfl rfl (RV.tmp rfl) (fun w1 hI => ⟨_, D, _, rfl, DExt.refl _ _, hI, rfl, rfl, hl1, hl2, rfl⟩)
  try simp only [zq] at c15
  exfalso; omega
theorem zsp (rec : Nat → SSt → Bool × SSt) (N : Nat) (ih : SavS n first can many left bl pl pc_ po pf bf pm rec N) : SavS n first can many left bl pl pc_ po pf bf pm (fun hut s => (if hasN (butN can left) hut = false then rec (hut + 1) (s.1.set hut (-1), s.2) else hrsT (rec (hut + 1)) many hut (List.range (first hut).toNat) (s.1.set hut (-1), s.2))) (N + 1) := by
  intro hut s D w hin hl1 hl2 he hI0
  show zp _ _ _ _ _ _ (SavK n (if hasN (butN can left) hut = false then rec (hut + 1) (s.1.set hut (-1), s.2) else hrsT (rec (hut + 1)) many hut (List.range (first hut).toNat) (s.1.set hut (-1), s.2)) bl bf D);have hfh0 := hf8 hut;unfold zp;refine en Tryz.func89 rfl Tryz.ntmps89 hI0 (g [[1],[6,0,1,2,3,4,5,6,7],[2,10,0,1,2,3,4,5,6,7]] ?_);refine WL.yd (Yd.l1 rfl (Rd.imm he.l rfl)) rfl (g [[4]] ?_);refine WC.cond rfl (fun c15 => ?_) (fun c15 => ?_)
  · try simp only [zq] at c15
    exfalso; omega
  try simp only [zq] at c15
  refine g [[4],[1,10,0,1,2,3,4,5,6,7]] ?_;refine WL.yd (Yd.l1 rfl (Rd.imm he.l rfl)) rfl (g [[1]] ?_);refine WL.yd (Yd.ix rfl rfl (rfl)) rfl ?_;refine WL.so (SO.store 0 rfl SzF.h rfl rfl rfl rfl (by show 0 + hut * 1 + 1 ≤ (List.map it s.1).length; simp; omega) (za rfl)) rfl (zt (g [[3],[1,10,0,1,2,3,4,5,6,7]] ?_));refine WL.yd (Yd.l1 rfl (Rd.imm he.c rfl)) rfl (g [[1]] ?_);refine WL.yd (Yd.butG (.inr rfl) (lt63 hcan (by omega)) (lt63 hleft (by omega)) rfl rfl) rfl (g [[1]] ?_);refine WL.yd (Yd.shrG (.inr rfl) (by omega) rfl rfl) rfl (WL.yd (Yd.and1N rfl rfl) rfl (g [[3]] ?_));refine WC.cond rfl (fun c25 => ?_) (fun c25 => ?_)
  · try simp only [zq] at c25
    have hh0 : hasN (butN can left) hut = false := by unfold hasN; rw [decide_eq_false_iff_not]; omega
    refine g [[1],[1,10,0,1,2,4,5,6,7]] ?_;refine WL.yd (Yd.l1 rfl (Rd.imm he.o rfl)) rfl (g [[1]] ?_);refine WL.yd (Yd.addN (i := hut) (j := 1) rfl rfl (by omega)) rfl (g [[1]] ?_);refine WL.so (SO.altersN (own := []) (hpc := SavH bl bf (s.1.set hut (-1), s.2)) (by dsimp only [SavH, lsO]; rw [← zoy (show hut < s.1.length by omega)]; exact fun _ h => h) (fun h => h) (fun _ h => h) (fun _ h => h) (Enters.val CaF.h rfl rfl) (fun w1 hI => ih (hut + 1) (s.1.set hut (-1), s.2) D w1 (by omega) (by rw [List.length_set]; exact hl1) hl2 he hI)) rfl ?_;rintro _ _ _ ⟨hp3, _, ⟨rfl, rfl, hr1, hr2, rfl⟩, rfl⟩;refine g [[5]] ?_;refine WP.ret1 rfl rfl rfl (RV.tmp rfl) (fun w1 hI => ⟨_, D, _, rfl, DExt.refl _ _, hI, rfl, by rw [if_pos hh0], by rw [if_pos hh0]; exact hr1, by rw [if_pos hh0]; exact hr2, by rw [if_pos hh0]; rfl⟩)
  try simp only [zq] at c25
  have hh0 : ¬ hasN (butN can left) hut = false := by unfold hasN; rw [decide_eq_false_iff_not]; omega
  refine g [[4],[2,10,0,1,2,4,5,6,7]] ?_;refine WL.yd (Yd.indexA UnF.h SzF.h rfl rfl (by omega) (by omega)) rfl (WL.yd (Yd.l1 rfl (Rd.imm he.f (zxs first (i := hut) (by omega)))) rfl (g [[4]] ?_));refine WC.loop (fun y : Nat × SSt => [(0, nt hut), (1, nt left), (2, pt pl), (4, pt po), (6, pt bf), (7, pt pm), (33, it (first hut)), (34, nt y.1)]) (fun y => SavH bl bf y.2) (fun _ => D) (fun y => y.1 ≤ (first hut).toNat ∧ hrsT (rec (hut + 1)) many hut (List.range (first hut).toNat) (s.1.set hut (-1), s.2) = hrsT (rec (hut + 1)) many hut ((List.range (first hut).toNat).drop y.1) y.2 ∧ y.2.1.length = n ∧ y.2.2.length = 8) (fun y => (first hut).toNat - y.1) (0, (s.1.set hut (-1), s.2)) ⟨Nat.zero_le _, rfl, by rw [List.length_set]; exact hl1, hl2⟩ (fun a w ha => by dsimp only [SavH, lsO]; rw [← zoy (show hut < s.1.length by omega)]; exact y4 ha ⟨rfl, rfl, rfl, rfl, rfl, rfl, rfl, rfl, trivial⟩) ?_;rintro ⟨h, t⟩ ⟨hhl, hres, ht1, ht2⟩;dsimp only at hhl hres ht1 ht2;refine g [[1],[5,0,1,2,4,6,7,33,34]] ?_;refine WC.cond rfl (fun c35 => ?_) (fun c35 => ?_)
  · try simp only [zq] at c35
    have hhn : h < (first hut).toNat := by omega
    have hfh := hf8 hut;refine g [[5],[7,0,1,2,4,6,7,33,34],[0,11,0,1,2,4,6,7,33,34],[3004],[1]] ?_;refine WQ.q rfl (Yd.qt (Yd.indexA UnF.h SzF.h rfl rfl (by omega) (by omega))) rfl (WQ.q rfl (Yd.qt (Yd.l1 rfl (Rd.own (k := 1) rfl (ztA (l := t.2) (k := h) (by omega))))) rfl ?_);refine WQ.q rfl (Yd.qt (Yd.l1 rfl (Rd.imm he.m rfl))) rfl (g [[4]] ?_);refine WC.cond rfl (fun c41 => ?_) (fun c41 => ?_)
    · try simp only [zq] at c41
      refine g [[4],[4,0,1,2,4,6,7,33,34]] ?_;exact WP.again (h + 1, t) ⟨hhn, by rw [hres, w3 hhn, zvA (by assumption)], ht1, ht2⟩ (by show (first hut).toNat - (h + 1) < (first hut).toNat - h; omega) (fun a w ha => y4 ha ⟨rfl, rfl, rfl, rfl, rfl, rfl, rfl, rfl, trivial⟩)
    try simp only [zq] at c41
    have hne : ¬ gt t.2 h = many := by assumption
    refine g [[3],[2,11,0,1,2,4,6,7,33,34]] ?_;refine WL.yd (Yd.indexA UnF.h SzF.h rfl rfl (by omega) (by omega)) rfl (WL.yd (Yd.l1 rfl (Rd.own (k := 1) rfl (ztA (l := t.2) (k := h) (by omega)))) rfl ?_);refine WL.yd (Yd.addW rfl rfl) rfl (WL.yd (Yd.indexA UnF.h SzF.h rfl rfl (by omega) (by omega)) rfl ?_);refine WL.so (SO.store 1 rfl SzF.h rfl rfl rfl rfl (by show 0 + h * 1 + 1 ≤ (List.map it t.2).length; simp; omega) (za rfl)) rfl (zt (g [[3],[1,11,0,1,2,4,6,7,33,34]] ?_));refine WL.yd (Yd.l1 rfl (Rd.imm he.l rfl)) rfl (g [[2]] ?_);refine WL.yd (Yd.ix rfl rfl (rfl)) rfl ?_;refine WL.so (SO.store 0 rfl SzF.h rfl rfl rfl rfl (by show 0 + hut * 1 + 1 ≤ (List.map it t.1).length; simp; omega) (za rfl)) rfl (zt (g [[4],[1,11,0,1,2,4,6,7,33,34]] ?_));refine WL.yd (Yd.l1 rfl (Rd.imm he.o rfl)) rfl (g [[1]] ?_);refine WL.yd (Yd.addN (i := hut) (j := 1) rfl rfl (by omega)) rfl (g [[1]] ?_);refine WL.so (SO.altersN (own := []) (hpc := SavH bl bf (t.1.set hut (h : Int), t.2.set h (wrI (gt t.2 h + 1)))) (by dsimp only [SavH, lsO, fuO]; rw [← zoy (show hut < t.1.length by omega), ← zoy (show h < t.2.length by omega)]; exact fun _ h => h) (fun h => h) (fun _ h => h) (fun _ h => h) (Enters.val CaF.h rfl rfl) (fun w1 hI => ih (hut + 1) (t.1.set hut (h : Int), t.2.set h (wrI (gt t.2 h + 1))) D w1 (by omega) (by rw [List.length_set]; exact ht1) (by rw [List.length_set]; exact ht2) he hI)) rfl ?_;rintro _ _ _ ⟨hp3, _, ⟨rfl, rfl, hr1, hr2, rfl⟩, rfl⟩;refine g [[2]] ?_;refine WC.cond rfl (fun c55 => ?_) (fun c55 => ?_)
    · have hE : hrsT (rec (hut + 1)) many hut (List.range (first hut).toNat) (s.1.set hut (-1), s.2) = (true, (rec (hut + 1) (t.1.set hut (h : Int), t.2.set h (wrI (gt t.2 h + 1)))).2) := by rw [hres, w3 hhn, zxE hne (by assumption)]
      refine g [[1],[11,11,0,1,2,4,6,7,33,34]] ?_;refine WP.ret1 rfl rfl rfl (RV.tmp rfl) (fun w1 hI => ⟨_, D, _, rfl, DExt.refl _ _, hI, rfl, by rw [if_neg hh0, hE], by rw [if_neg hh0, hE]; exact hr1, by rw [if_neg hh0, hE]; exact hr2, by rw [if_neg hh0, hE]; rfl⟩)
    refine g [[2],[2,11,0,1,2,4,6,7,33,34]] ?_;refine WL.yd (Yd.indexA UnF.h SzF.h rfl rfl (by omega) (by omega)) rfl (WL.yd (Yd.l1 rfl (Rd.own (k := 1) rfl (ztA (l := (rec (hut + 1) (t.1.set hut (h : Int), t.2.set h (wrI (gt t.2 h + 1)))).2.2) (k := h) (by omega)))) rfl ?_);refine WL.yd (Yd.subW rfl rfl) rfl (WL.yd (Yd.indexA UnF.h SzF.h rfl rfl (by omega) (by omega)) rfl ?_);refine WL.so (SO.store 1 rfl SzF.h rfl rfl rfl rfl (by show 0 + h * 1 + 1 ≤ (List.map it (rec (hut + 1) (t.1.set hut (h : Int), t.2.set h (wrI (gt t.2 h + 1)))).2.2).length; rw [List.length_map, hr2]; omega) (za rfl)) rfl (zt (g [[3],[4,0,1,2,4,6,7,33,34]] ?_));refine WP.again (h + 1, ((rec (hut + 1) (t.1.set hut (h : Int), t.2.set h (wrI (gt t.2 h + 1)))).2.1, (rec (hut + 1) (t.1.set hut (h : Int), t.2.set h (wrI (gt t.2 h + 1)))).2.2.set h (wrI (gt (rec (hut + 1) (t.1.set hut (h : Int), t.2.set h (wrI (gt t.2 h + 1)))).2.2 h - 1)))) ⟨hhn, by rw [hres, w3 hhn, zze hne (by assumption)], hr1, by rw [List.length_set]; exact hr2⟩ (by show (first hut).toNat - (h + 1) < (first hut).toNat - h; omega) (fun a w ha => ?_);dsimp only [SavH, fuO];rw [← zoy (show h < (rec (hut + 1) (t.1.set hut (h : Int), t.2.set h (wrI (gt t.2 h + 1)))).2.2.length by omega)];exact y4 ha ⟨rfl, rfl, rfl, rfl, rfl, rfl, rfl, rfl, trivial⟩
  try simp only [zq] at c35
  obtain rfl : h = (first hut).toNat := by omega
  have hend : hrsT (rec (hut + 1)) many hut (List.range (first hut).toNat) (s.1.set hut (-1), s.2) = (false, t) := by rw [hres, zmJ]; rfl
  refine g [[6]] ?_;refine WC.ofFr [] trivial (g [[5]] ?_);refine WP.ret1 rfl rfl rfl (RV.tmp rfl) (fun w1 hI => ⟨_, D, _, rfl, DExt.refl _ _, hI, rfl, by rw [if_neg hh0, hend], by rw [if_neg hh0, hend]; exact ht1, by rw [if_neg hh0, hend]; exact ht2, by rw [if_neg hh0, hend]⟩)
end
theorem zuF (n : Nat) (hn5 : n ≤ 5) (first : Nat → Int) (hf8 : ∀ i, first i ≤ 8) (can : Nat) (hcan : can < 2 ^ 60) (many : Int) (left : Nat) (hleft : left < 2 ^ 60) (bl pl pc_ po pf bf pm : Nat) : ∀ N, SavS n first can many left bl pl pc_ po pf bf pm (savF first can many left N) N
  | 0 => zy6 n hn5 first hf8 can hcan many left hleft bl pl pc_ po pf bf pm
  | N + 1 => zsp n hn5 first hf8 can hcan many left hleft bl pl pc_ po pf bf pm (savF first can many left N) N (zuF n hn5 first hf8 can hcan many left hleft bl pl pc_ po pf bf pm N)
end Go.Proofs.YtaiegbjgfdhgaaaGreatDoor
