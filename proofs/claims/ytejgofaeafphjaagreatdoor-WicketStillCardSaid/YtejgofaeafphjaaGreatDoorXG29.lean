import Derived.Test.YtejgofaeafphjaaGreatDoorXG16
import Derived.Test.YtejgofaeafphjaaGreatDoorXG28
import Derived.Test.YtejgofaeafphjaaGreatDoorXG7
set_option linter.all false
set_option maxRecDepth 100000
set_option maxHeartbeats 4000000
attribute [local irreducible] Go.W.WL Go.W.WLF Go.W.WC Go.W.WCF Go.W.WP Go.W.WA Go.W.WQ Go.W.WH Go.W.WHo Go.W.WCn Go.W.Yd Go.W.Qt Go.W.SO Go.Code.wp Go.Code.wpIn
namespace Go.Ti
open Go.W
end Go.Ti
namespace Go.Ti
open Go.W
def YT : Wick := ⟨2, 12, 5, 2, [⟨0, ⟨10, 12⟩⟩, ⟨60, ⟨40, 41⟩⟩, ⟨120, ⟨12, 12⟩⟩], [⟨5, 6⟩, ⟨20, 20⟩]⟩
def Zf : List Bs := [[116, 105, 99, 107, 101, 116, 32, 48, 32, 48, 32, 48, 32, 49, 48, 32, 49, 49], [116, 105, 99, 107, 101, 116, 32, 50, 32, 51, 32, 49, 32, 56, 32, 56], [116, 105, 99, 107, 101, 116, 32, 51, 32, 52, 32, 48, 32, 52, 48, 32, 52, 49], [116, 105, 99, 107, 101, 116, 32, 48, 32, 48, 32, 50, 32, 57, 32, 57], [116, 117, 114, 110, 32, 49], [119, 104, 111, 115, 101, 32, 49, 49], [102, 114, 101, 101, 32, 48, 32, 52, 48], [108, 111, 111, 107, 32, 49, 32, 51, 48, 32, 54, 32, 54], [100, 101, 112, 116, 104, 32, 48, 32, 49, 48], [102, 105, 114, 115, 116, 32, 49, 32, 53, 32, 48], [112, 97, 121, 32, 48], [112, 97, 121, 32, 49], [102, 105, 110, 101, 32, 49], [98, 97, 99, 107, 32, 50, 32, 54], [112, 97, 121, 32, 49], [98, 111, 111, 107], [115, 117, 109], [102, 105, 110, 101, 32, 48], [98, 111, 111, 107], [115, 117, 109]]
def Zg : List Bs := [[116, 105, 99, 107, 101, 116, 32, 48], [116, 105, 99, 107, 101, 116, 32, 49], [116, 105, 99, 107, 101, 116, 32, 50], [], [116, 117, 114, 110, 32, 48], [119, 104, 111, 115, 101, 32, 53, 32, 48], [102, 114, 101, 101, 32, 49], [108, 111, 111, 107, 32, 48], [100, 101, 112, 116, 104, 32, 55, 32, 57], [102, 105, 114, 115, 116, 32, 50, 57], [112, 97, 105, 100, 32, 48], [112, 97, 105, 100, 32, 49], [112, 97, 105, 100, 32, 50], [112, 97, 105, 100, 32, 51], [], [98, 111, 111, 107], [115, 117, 109, 32, 50, 51], [112, 97, 105, 100, 32, 52], [98, 111, 111, 107, 32, 52, 32, 50], []]
set_option maxRecDepth 1000000 in
theorem Wr : wg YT Zf = (Zg, 3, 0) := by decide +kernel
end Go.Ti
namespace Go.Proofs.YtejgofaeafphjaaGreatDoor
open Go.W Go.Ti
theorem SA49 : zj Tryz.prog 49 [.int .i64 0, .int .i64 0, .int .i64 0, .int .i64 0, .slice none 0 0, .slice none 0 0] [(0, 1), (1, 1), (2, 1), (3, 1), (4, 1), (5, 1)] := ⟨⟨_, Tryz.zeroValue49, rfl⟩, _, Tryz.underlying49, fun w => by simp [Tryz.sizeOf3, Tryz.sizeOf27, Tryz.sizeOf28]⟩
abbrev zdA := SaF.mk SA49
attribute [instance] zdA
theorem SA62 : zj Tryz.prog 62 [.int .i64 0, .int .i64 0, .int .i64 0] [(0, 1), (1, 2)] := ⟨⟨_, Tryz.zeroValue62, rfl⟩, _, Tryz.underlying62, fun w => by simp [Tryz.sizeOf3, Tryz.sizeOf39]⟩
abbrev zdC := SaF.mk SA62
attribute [instance] zdC
theorem Qy {v : Value} {D : Imm} (h : Wn YT Zf v D) : ∃ a n c, v = .tuple #[.slice a n c, it 3, it 0] ∧ SlL D 1 (Zg.map strC) a n := by
  unfold Wn at h; rw [Wr] at h; exact h
theorem Vp : ∀ q ∈ Zf, q.length ≤ 2 ^ 20 := by decide
theorem xH (a b : Int) (w : World) : z8 Tryz.prog 44 [it a, it b] w (.agg #[it a, it b]) := by
  unfold z8;refine en Tryz.func44 rfl Tryz.ntmps44 zI (g [[1],[1,0,1]] ?_);refine WL.so (SO.alloc ZvF.h rfl) rfl (zw fun b4 hb4 => ?_);refine g [[3],[8,4,0,1]] ?_;refine WP.ret1 rfl rfl rfl (RV.cellN AgF.h SzF.h rfl (vs := [_, _]) rfl (RdN.own (k := 0) (n := 2) rfl rfl)) (fun w hI => ⟨rfl, hI.keep⟩)
theorem JK (D : Imm) (w : World) (hH : Holds D w) : y6 Tryz.prog 33 [] w D (fun v D' => ∃ m s, v = yL YT m s ∧ yG D' YT m s) := by
  unfold y6;refine en Tryz.func33 rfl Tryz.ntmps33 (Inv.start hH) (g [[1]] ?_);refine WC.ofFr [] trivial (g [[1]] ?_);refine WL.so (SO.alloc ZvF.h rfl) rfl (zw fun b0 hb0 => ?_);refine g [[3],[1,0]] ?_;refine WL.cl rfl (fun w hI => xH _ _ _) (g [[1]] ?_);refine WL.cl rfl (fun w hI => xH _ _ _) (g [[1]] ?_);refine WL.cl rfl (fun w hI => xH _ _ _) (g [[1]] ?_);refine WL.so (SO.buildSlice UnF.h SzF.h ZvF.h rfl rfl rfl rfl (cs := [_, _, _, _, _, _, _, _, _]) rfl) rfl ?_;rintro _ _ _ ⟨b7, hb7, rfl, rfl, rfl⟩;refine WL.cl rfl (fun w hI => xH _ _ _) (WL.cl rfl (fun w hI => xH _ _ _) ?_);refine WL.so (SO.buildSlice UnF.h SzF.h ZvF.h rfl rfl rfl rfl (cs := [_, _, _, _]) rfl) rfl ?_;rintro _ _ _ ⟨b10, hb10, rfl, rfl, rfl⟩;refine WL.freezeN 1 b7 (.cells (List.toArray (YT.marks.flatMap ub ++ [])) 62 (0, 0)) rfl rfl hb7 (fun D1 hX1 h7 => ?_);refine WL.freezeN 0 b10 (.cells (List.toArray (YT.sand.flatMap ul ++ [])) 39 (0, 0)) rfl rfl hb10 (fun D2 hX2 h10 => ?_);refine g [[5]] ?_;refine WP.ret1 rfl rfl rfl (RV.cellN AgF.h SzF.h rfl (vs := [_, _, _, _, _, _]) rfl (RdN.own (k := 0) (n := 6) rfl rfl)) (fun w1 hI => ⟨_, D2, rfl, hI.keep, hI.imm, hX1.trans hX2 (Nat.le_refl _), ⟨some ⟨b7, 0, none⟩, 3, 3⟩, ⟨some ⟨b10, 0, none⟩, 2, 2⟩, rfl, ⟨(SlL.ofBlock vc h7).ext hX2, SlL.ofBlock vh h10, Nat.le_of_ble_eq_true rfl, Nat.le_of_ble_eq_true rfl⟩⟩)
theorem yU (D : Imm) (hL : LibW D) (w : World) (hH : Holds D w) : z8 Tryz.prog 29 [] w (.bool true) := by
  unfold z8;refine en Tryz.func29 rfl Tryz.ntmps29 (Inv.start hH) (g [[1]] ?_);refine WC.ofFr [] trivial (g [[5],[1,0]] ?_);refine WL.so (SO.buildSlice1 UnF.h SzF.h ZvF.h rfl rfl rfl (vs := [_, _, _, _, _, _, _, _, _, _, _, _, _, _, _, _, _, _, _, _]) rfl rfl rfl) rfl ?_;rintro _ _ _ ⟨b6, hb6, rfl, rfl, rfl⟩;refine g [[4],[1,1,0]] ?_;refine WL.so (SO.buildSlice1 UnF.h SzF.h ZvF.h rfl rfl rfl (vs := [_, _, _, _, _, _, _, _, _, _, _, _, _, _, _, _, _, _, _, _]) rfl rfl rfl) rfl ?_;rintro _ _ _ ⟨b7, hb7, rfl, rfl, rfl⟩;refine g [[4]] ?_;refine WC.freezeN 0 b7 (.cells (List.toArray (Zg.flatMap strC ++ [])) 9 (0, 0)) rfl rfl hb7 (fun D1 hX1 h7 => ?_);refine WC.freezeN 0 b6 (.cells (List.toArray (Zf.flatMap strC ++ [])) 9 (0, 0)) rfl rfl hb6 (fun D2 hX2 h6 => ?_);have hL2 := (hL.ext hX1).ext hX2;refine g [[1,2,1,0]] ?_;refine WL.so (SO.makes (Enters.func Tryz.call33 rfl) (fun w1 hI => JK D2 _ hI.imm)) rfl ?_;rintro _ D3 _ ⟨hX3, ⟨m, s, rfl, hWs⟩, rfl⟩;refine g [[1]] ?_;refine WL.so (SO.makes (Enters.func Tryz.call30 rfl) (fun w1 hI => zcN YT m s Zf (some ⟨b6, 0, none⟩) 20 20 D3 _ hWs ((SlL.ofBlock x7 h6).ext hX3) Vp (hL2.ext hX3) hI.imm)) rfl ?_;rintro _ D4 _ ⟨hX4, hPK, rfl⟩;obtain ⟨a, n, c, rfl, hS4⟩ := Qy hPK;obtain rfl := hS4.len';refine g [[10],[3,5,4,3,2,0]] ?_;refine WL.cl rfl (fun w hI => Vl Zg Zg a (some ⟨b7, 0, none⟩) _ 20 c 20 D4 hS4 ((((SlL.ofBlock x7 h7).ext hX2).ext hX3).ext hX4) (by decide) _ hI.imm) (WL.know 17 (.bool true) rfl (congrArg Value.bool (decide_eq_true rfl)) (g [[3]] ?_));refine WL.know 20 (.bool true) rfl rfl (g [[4]] ?_);refine WL.know 24 (.bool true) rfl rfl (g [[5]] ?_);refine WP.ret1 rfl rfl rfl (RV.tmp rfl) (fun w1 hI => ⟨rfl, hI.keep⟩)
theorem SA77 : zj Tryz.prog 77 [.string .empty, .string .empty, .int .i64 0] [(0, 1), (1, 1), (2, 1)] := ⟨⟨_, Tryz.zeroValue77, rfl⟩, _, Tryz.underlying77, fun w => by simp [Tryz.sizeOf9, Tryz.sizeOf51]⟩
abbrev zdD := SaF.mk SA77
attribute [instance] zdD
structure w9 (D : Imm) (x : Wick) (m s : Sl) : Prop where
  mark : SlL D 3 (x.marks.map ub) m.a m.n
  sand : SlL D 2 (x.sand.map ul) s.a s.n
  len : m.n ≤ maxLen ∧ s.n ≤ maxLen
theorem w9.ext {w : World} {D D' : Imm} (hD : DExt w D D') {x : Wick} {m s : Sl} (h : w9 D x m s) : w9 D' x m s := ⟨h.mark.ext hD, h.sand.ext hD, h.len⟩
def xP (x : Wick) (ls : List Bs) : Bool := ls.any (fun s => decide (300 < s.length)) || decide (70 < max (max (ls.length : Int) x.marks.length) x.sand.length)
theorem zaG {x : Wick} {ls : List Bs} (h : ls.any (fun s => decide (300 < s.length)) = false) : xP x ls = decide (70 < max (max (ls.length : Int) x.marks.length) x.sand.length) := by unfold xP; rw [h]; rfl
theorem Jm {x : Wick} {ls : List Bs} (h : ls.any (fun s => decide (300 < s.length)) = true) : xP x ls = true := by unfold xP; rw [h]; rfl
theorem Kj {α : Type} [Inhabited α] {l : List α} {f : α → Bool} {k : Nat} (hk : k < l.length) (h : (l.take k).any f = false) (hf : f (gt l k) = false) : (l.take (k + 1)).any f = false := by
  rw [zP hk, List.any_append, h]; show (false || (f (gt l k) || false)) = false; rw [hf]; rfl
theorem Ki {α : Type} [Inhabited α] {l : List α} {f : α → Bool} {k : Nat} (hk : k < l.length) (hf : f (gt l k) = true) : l.any f = true := List.any_eq_true.2 ⟨_, yE hk, hf⟩
def begB (s word : Bs) : Bool := decide (word.length ≤ s.length ∧ s.take word.length = word)
def jU : List Bs := [yF, y3, yN, zz, y9, yp, sumS]
theorem wL (x : Wick) (m s : Sl) (ls : List Bs) (al : Option Addr) (nl cl : Nat) (D : Imm) (w : World) (hW : w9 D x m s) (hS : SlL D 1 (ls.map strC) al nl) (hn : nl ≤ maxLen) (hH : Holds D w) : z8 Tryz.prog 36 [yL x m s, .slice al nl cl] w (.bool (xP x ls)) := by
  unfold z8;obtain rfl := hS.len';unfold maxLen at hn;refine en Tryz.func36 rfl Tryz.ntmps36 (Inv.start hH) (g [[1],[1,0,1]] ?_);refine WL.so (SO.box rfl rfl) rfl (zw fun b2 hb2 => ?_);refine g [[5],[7,4,2,1]] ?_;refine WC.loopT [] (fun k : Nat => [(1, .slice al ls.length cl), (2, pt b2), (7, .slice al ls.length cl), (8, nt ls.length), (9, nt k)]) (fun _ => [(b2, .cells (List.toArray [it x.huts, it x.price, it x.fine, it x.wait, m.v, s.v]) 49 (0, 0))]) (fun k => k ≤ ls.length ∧ (ls.take k).any (fun s => decide (300 < s.length)) = false) (fun k => ls.length - k) 0 ⟨Nat.zero_le _, rfl⟩ rfl ⟨rfl, rfl, rfl, rfl, rfl, trivial⟩ ?_;rintro k ⟨hk, hF⟩;refine g [[1],[5,1,2,7,8,9]] ?_;refine WC.cond rfl (fun c10 => ?_) (fun c10 => ?_)
  · try simp only [zq] at c10
    have hkl : k < ls.length := by omega
    refine g [[5],[1,1,2,7,8,9]] ?_;refine WL.yd (Yd.ix rfl rfl (hS.addr k (by omega))) rfl (WL.yd (Yd.l1 rfl ((hS.at k (by omega)).rd 0 rfl)) rfl (g [[4],[2,6,1,2,7,8,9]] ?_));refine WL.yd (Yd.lenStr rfl Tryz.underlying9 rfl) rfl (g [[3]] ?_);refine WC.cond rfl (fun c15 => ?_) (fun c15 => ?_)
    · try simp only [zq] at c15
      refine g [[1],[10,1,2,7,8,9]] ?_;refine WP.ret1 rfl rfl rfl (RV.tmp rfl) (fun w hI => ⟨zb (Jm (Ki hkl (decide_eq_true (by omega)))).symm, hI.keep⟩)
    try simp only [zq] at c15
    refine g [[3],[4,1,2,7,8,9]] ?_;exact WP.againT (k + 1) ⟨hkl, Kj hkl hF (decide_eq_false (by omega))⟩ (by omega) [] _ rfl rfl ⟨rfl, rfl, rfl, rfl, rfl, trivial⟩
  try simp only [zq] at c10
  obtain rfl : k = ls.length := by omega
  refine g [[6],[9,1,2]] ?_;refine WL.yd (Yd.max3 rfl rfl rfl) rfl (g [[5]] ?_);refine WP.ret1 rfl rfl rfl (RV.tmp rfl) (fun w hI => ⟨zb (by rw [List.take_length] at hF; rw [zaG hF]; have e1 := hW.mark.len'; have e2 := hW.sand.len'; rw [e1, e2]), hI.keep⟩)
theorem QB (s word : Bs) (w : World) : z8 Tryz.prog 126 [st s, st word] w (.bool (begB s word)) := by
  unfold z8;refine en Tryz.func126 rfl Tryz.ntmps126 zI (g [[1],[5,0,1],[2,4,0,1]] ?_);refine WL.yd (Yd.lenStr rfl Tryz.underlying9 rfl) rfl (g [[1]] ?_);refine WL.yd (Yd.lenStr rfl Tryz.underlying9 rfl) rfl (g [[2]] ?_);refine WL.part 10 rfl (fun g10 => ?_) (fun g10 => ?_)
  · try simp only [zq] at g10
    refine g [[2]] ?_;refine WL.ydg rfl (Yd.lenStr rfl Tryz.underlying9 rfl) rfl (WL.ydg rfl (Yd.sliceToS Tryz.underlying9 rfl rfl (by omega)) rfl (g [[1]] ?_));refine WL.ydg rfl (Yd.eqS' rfl rfl) rfl (g [[5]] ?_);refine WP.ret1 rfl rfl rfl (RV.tmp rfl) (fun w hI => ⟨zb (by unfold begB; first | exact (decide_eq_false (fun e => by omega)).symm | (congr 1; rw [eq_iff_iff]; exact ⟨fun e => ⟨by omega, e⟩, fun e => e.2⟩)), hI.keep⟩)
  try simp only [zq] at g10
  refine g [[11]] ?_;refine WP.ret1 rfl rfl rfl (RV.tmp rfl) (fun w hI => ⟨zb (by unfold begB; first | exact (decide_eq_false (fun e => by omega)).symm | (congr 1; rw [eq_iff_iff]; exact ⟨fun e => ⟨by omega, e⟩, fun e => e.2⟩)), hI.keep⟩)
def quietB (s : Bs) : Bool := jU.any (begB s)
theorem zb4 (s : Bs) (w : World) : z8 Tryz.prog 48 [st s] w (.bool (quietB s)) := by
  unfold z8;refine en Tryz.func48 rfl Tryz.ntmps48 zI (g [[1],[6,0],[1,2,0]] ?_);refine WL.so (SO.buildSlice1 UnF.h SzF.h ZvF.h rfl rfl rfl (vs := [_, _, _, _, _, _, _]) rfl rfl rfl) rfl ?_;rintro _ _ _ ⟨b5, hb5, rfl, rfl, rfl⟩;refine WL.freezeN 0 b5 (.cells (List.toArray (jU.flatMap strC ++ [])) 9 (0, 0)) rfl rfl hb5 (fun D5 hX5 h5 => ?_);have hN : SlL D5 1 (jU.map strC) (some ⟨b5, 0, none⟩) 7 := SlL.ofBlock x7 h5;refine g [[5]] ?_;refine WC.loopF (fun k : Nat => [(0, st s), (5, .slice (some ⟨b5, 0, none⟩) 7 7), (6, nt 7), (7, nt k)]) (fun k => k ≤ 7 ∧ (jU.take k).any (begB s) = false) (fun k => 7 - k) 0 ⟨Nat.zero_le _, rfl⟩ ⟨rfl, rfl, rfl, rfl, trivial⟩ ?_;rintro k ⟨hk, hF⟩;refine g [[1],[5,0,5,6,7]] ?_;refine WC.cond rfl (fun c8 => ?_) (fun c8 => ?_)
  · try simp only [zq] at c8
    have hkl : k < 7 := by omega
    refine g [[5],[1,0,5,6,7]] ?_;refine WL.yd (Yd.ix rfl rfl (hN.addr k (by omega))) rfl (WL.yd (Yd.l1 rfl ((hN.at k (by omega)).rd 0 rfl)) rfl (g [[4],[3,4,0,5,6,7]] ?_));refine WL.cl rfl (fun w hI => QB _ _ _) (g [[2]] ?_);refine WC.cond rfl (fun c13 => ?_) (fun c13 => ?_)
    · refine g [[1],[10,0,5,6,7]] ?_;refine WP.ret1 rfl rfl rfl (RV.tmp rfl) (fun w hI => ⟨zb (Ki (l := jU) hkl c13).symm, hI.keep⟩)
    refine g [[3],[4,0,5,6,7]] ?_;exact WP.againF (k + 1) ⟨hkl, Kj hkl hF c13⟩ (by omega) ⟨rfl, rfl, rfl, rfl, trivial⟩ (fun _ h => h) (fun h => h)
  try simp only [zq] at c8
  obtain rfl : k = 7 := by omega
  refine g [[6]] ?_;refine WC.ofFr [] trivial (g [[5]] ?_);refine WP.ret1 rfl rfl rfl (RV.tmp rfl) (fun w hI => ⟨zb (show _ = jU.any (begB s) from hF.symm), hI.keep⟩)
theorem Qw (x : Wick) (m s : Sl) (ls : List Bs) (al : Option Addr) (nl cl : Nat) (D : Imm) (w : World) (hW : yG D x m s) (hS : SlL D 1 (ls.map strC) al nl) (hnl : nl ≤ 1000) (hlen : ∀ q ∈ ls, q.length ≤ 2 ^ 20) (hL : LibW D) (hH : Holds D w) (hv : zS x = false) : News Tryz.prog 37 [yL x m s, .slice al nl cl] w D (fun v D' h' => (zS x = true ∧ ∃ xb m' s' t l b, v = pt xb ∧ h' = [(xb, womO x m' s' t l b)] ∧ yG D' x m' s' ∧ DayR D' (y0 x day0 ls) t l b ∧ frD D m'.a ∧ frD D s'.a) ∨ (zS x = false ∧ v = .pointer none ∧ h' = [])) := by
  unfold News;obtain rfl := hS.len';refine en Tryz.func37 rfl Tryz.ntmps37 (Inv.start hH) (g [[1],[1,0,1]] ?_);refine WL.so (SO.box rfl rfl) rfl (zw fun b2 hb2 => ?_);refine g [[4],[2,4,2,1]] ?_;refine WL.so (SO.news (Enters.func CaF.h rfl) (fun w1 hI => zlI x m s D _ hW hI.imm hL)) rfl ?_;rintro _ D3 _ ⟨hp3, hX3, (⟨hv1, xb, m', s', rfl, rfl, hWr, hfm, hfs⟩ | ⟨hv1, rfl, rfl⟩), rfl⟩
  · rw [hv] at hv1; cases hv1
  refine g [[9],[2,5,4,1]] ?_;refine WL.yd (Yd.eqP UnF.h rfl) rfl (WL.know 15 (.bool true) rfl rfl (g [[4],[6,5,4,1]] ?_));refine WP.ret1 rfl rfl rfl (RV.tmp rfl) (fun w1 hI => ⟨_, D3, [], rfl, hX3, hI.nil, .inr ⟨hv, rfl, rfl⟩⟩)
theorem Qx (x : Wick) (m s : Sl) (ls : List Bs) (al : Option Addr) (nl cl : Nat) (D : Imm) (w : World) (hW : yG D x m s) (hS : SlL D 1 (ls.map strC) al nl) (hnl : nl ≤ 1000) (hlen : ∀ q ∈ ls, q.length ≤ 2 ^ 20) (hL : LibW D) (hH : Holds D w) (hv : zS x = true) : News Tryz.prog 37 [yL x m s, .slice al nl cl] w D (fun v D' h' => (zS x = true ∧ ∃ xb m' s' t l b, v = pt xb ∧ h' = [(xb, womO x m' s' t l b)] ∧ yG D' x m' s' ∧ DayR D' (y0 x day0 ls) t l b ∧ frD D m'.a ∧ frD D s'.a) ∨ (zS x = false ∧ v = .pointer none ∧ h' = [])) := by
  unfold News;obtain rfl := hS.len';refine en Tryz.func37 rfl Tryz.ntmps37 (Inv.start hH) (g [[1],[1,0,1]] ?_);refine WL.so (SO.box rfl rfl) rfl (zw fun b2 hb2 => ?_);refine g [[4],[2,4,2,1]] ?_;refine WL.so (SO.news (Enters.func CaF.h rfl) (fun w1 hI => zlI x m s D _ hW hI.imm hL)) rfl ?_;rintro _ D3 _ ⟨hp3, hX3, (⟨hv1, xb, m', s', rfl, rfl, hWr, hfm, hfs⟩ | ⟨hv1, rfl, rfl⟩), rfl⟩;rotate_left
  · rw [hv] at hv1; cases hv1
  refine g [[9],[2,5,4,1]] ?_;refine WL.yd (Yd.eqP UnF.h rfl) rfl (WL.know 15 (.bool false) rfl rfl (g [[7]] ?_));refine WC.erase 0 (g [[7,5,4,1]] ?_);refine WC.loop (fun y : Nat × Imm × Sl × Sl × Sl => [(5, pt xb), (16, .slice al ls.length cl), (17, nt ls.length), (18, nt y.1)]) (fun y => [(xb, womO x m' s' y.2.2.1 y.2.2.2.1 y.2.2.2.2)]) (fun y => y.2.1) (fun y => y.1 ≤ ls.length ∧ DExt w D3 y.2.1 ∧ DayR y.2.1 (y0 x day0 (ls.take y.1)) y.2.2.1 y.2.2.2.1 y.2.2.2.2) (fun y => ls.length - y.1) ⟨0, D3, nilS, nilS, nilS⟩ ⟨Nat.zero_le _, DExt.refl _ _, DayR.nil _⟩ (fun a w h => y4 h ⟨rfl, rfl, rfl, rfl, trivial⟩) ?_;rintro ⟨k, D1, t, l, b⟩ ⟨hk7, hX1, hd1⟩;dsimp only at hk7 hX1 hd1;refine g [[1],[5,5,16,17,18]] ?_;refine WC.cond rfl (fun c19 => ?_) (fun c19 => ?_)
  · try simp only [zq] at c19
    have hkl : k < ls.length := by omega
    refine g [[5],[1,5,16,17,18]] ?_;refine WL.yd (Yd.ix rfl rfl (hS.addr k (by omega))) rfl (WL.yd (Yd.l1 rfl ((((hS.ext hX3).ext hX1).at k (by omega)).rd 0 rfl)) rfl (g [[3],[3,8,5,16,17,18]] ?_));refine WL.so (SO.altersN (own := []) (hpc := [(xb, womO x m' s' t l b)]) (S1 := [xb]) (fun _ h => h) (fun h => h) (fun _ h => h) (fun _ h => h) (Enters.func CaF.h rfl) (fun w1 hI => wo x (y0 x day0 (ls.take k)) m' s' t l b xb (gt ls k) D1 w1 hv (wc _ (vO hv)) (hWr.ext hX1) hd1 ((hL.ext hX3).ext hX1) (hlen _ (gt_mem' hkl)) hI)) rfl ?_;rintro _ D4 _ ⟨hp4, hX4, ⟨rfl, t1, l1, b1, rfl, hd4⟩, rfl⟩;refine g [[3],[4,5,16,17,18]] ?_;exact WP.again (⟨k + 1, D4, t1, l1, b1⟩ : Nat × Imm × Sl × Sl × Sl) ⟨by simp only; omega, hX1.trans hX4 (Nat.le_refl _), by dsimp only; rw [vC x day0 hkl]; exact hd4⟩ (by simp only; omega) (fun aa ww h => zL 0 h ⟨rfl, rfl, rfl, rfl, trivial⟩ (List.Perm.refl _))
  try simp only [zq] at c19
  obtain rfl : k = ls.length := by omega
  refine g [[6],[6,5]] ?_;refine WP.ret1 rfl rfl rfl (RV.tmp rfl) (fun w1 hI => ⟨_, D1, [_], rfl, hX3.trans hX1 (Nat.le_refl _), hI, .inl ⟨hv, xb, _, _, _, _, _, rfl, rfl, hWr.ext hX1, by rw [List.take_length] at hd1; exact hd1, hfm, hfs⟩⟩)
theorem q7 (x : Wick) (m s : Sl) (ls : List Bs) (al : Option Addr) (nl cl : Nat) (D : Imm) (w : World) (hW : yG D x m s) (hS : SlL D 1 (ls.map strC) al nl) (hnl : nl ≤ 1000) (hlen : ∀ q ∈ ls, q.length ≤ 2 ^ 20) (hL : LibW D) (hH : Holds D w) : News Tryz.prog 37 [yL x m s, .slice al nl cl] w D (fun v D' h' => (zS x = true ∧ ∃ xb m' s' t l b, v = pt xb ∧ h' = [(xb, womO x m' s' t l b)] ∧ yG D' x m' s' ∧ DayR D' (y0 x day0 ls) t l b ∧ frD D m'.a ∧ frD D s'.a) ∨ (zS x = false ∧ v = .pointer none ∧ h' = [])) := by
  rcases Bool.eq_false_or_eq_true (zS x) with hv | hv
  · exact Qx x m s ls al nl cl D w hW hS hnl hlen hL hH hv
  exact Qw x m s ls al nl cl D w hW hS hnl hlen hL hH hv
theorem wQ (x : Wick) (m s : Sl) (ls : List Bs) (al : Option Addr) (nl cl : Nat) (D : Imm) (w : World) (hW : yG D x m s) (hS : SlL D 1 (ls.map strC) al nl) (hnl : nl ≤ 1000) (hlen : ∀ q ∈ ls, q.length ≤ 2 ^ 20) (hL : LibW D) (hH : Holds D w) : News Tryz.prog 37 [yL x m s, .slice al nl cl] w D (fun v D' h' => (zS x = true ∧ ∃ xb m' s' t l b, v = pt xb ∧ h' = [(xb, womO x m' s' t l b)] ∧ yG D' x m' s' ∧ DayR D' (y0 x day0 ls) t l b) ∨ (zS x = false ∧ v = .pointer none ∧ h' = [])) :=
  (q7 x m s ls al nl cl D w hW hS hnl hlen hL hH).mono fun e w' ⟨v, D', h', he, hX, hI, hK⟩ => ⟨v, D', h', he, hX, hI, hK.imp (fun ⟨h1, xb, m', s', t, l, b, h2, h3, h4, h5, _⟩ => ⟨h1, xb, m', s', t, l, b, h2, h3, h4, h5⟩) id⟩
theorem UD (x : Wick) (m s t l b : Sl) (w : World) : z8 Tryz.prog 40 [yL x m s, .agg #[t.v, l.v, b.v]] w (.agg #[it x.huts, t.v]) := by
  unfold z8;refine en Tryz.func40 rfl Tryz.ntmps40 zI (g [[1],[1,0,1]] ?_);refine WL.so (SO.box rfl rfl) rfl (zw fun b2 hb2 => ?_);refine WL.so (SO.box rfl rfl) rfl (zw fun b3 hb3 => ?_);refine WL.so (SO.alloc ZvF.h rfl) rfl (zw fun b4 hb4 => ?_);refine g [[3],[10,4,3,2]] ?_;refine WP.ret1 rfl rfl rfl (RV.cellN AgF.h SzF.h rfl (vs := [_, _]) rfl (RdN.own (k := 0) (n := 2) rfl rfl)) (fun w hI => ⟨rfl, hI.keep⟩)
theorem YQ (x : Wick) (m s t l b : Sl) (w : World) : z8 Tryz.prog 41 [yL x m s, .agg #[t.v, l.v, b.v]] w (.agg #[m.v, s.v, l.v]) := by
  unfold z8;refine en Tryz.func41 rfl Tryz.ntmps41 zI (g [[1],[1,0,1]] ?_);refine WL.so (SO.box rfl rfl) rfl (zw fun b2 hb2 => ?_);refine WL.so (SO.box rfl rfl) rfl (zw fun b3 hb3 => ?_);refine WL.so (SO.alloc ZvF.h rfl) rfl (zw fun b4 hb4 => ?_);refine g [[3],[12,4,3,2]] ?_;refine WP.ret1 rfl rfl rfl (RV.cellN AgF.h SzF.h rfl (vs := [_, _, _]) rfl (RdN.own (k := 0) (n := 3) rfl rfl)) (fun w hI => ⟨rfl, hI.keep⟩)
theorem YR (x : Wick) (m s t l b : Sl) (w : World) : z8 Tryz.prog 42 [yL x m s, .agg #[t.v, l.v, b.v]] w (.agg #[it x.huts, t.v, it x.price, it x.fine, it x.wait]) := by
  unfold z8;refine en Tryz.func42 rfl Tryz.ntmps42 zI (g [[1],[1,0,1]] ?_);refine WL.so (SO.box rfl rfl) rfl (zw fun b2 hb2 => ?_);refine WL.so (SO.box rfl rfl) rfl (zw fun b3 hb3 => ?_);refine WL.so (SO.alloc ZvF.h rfl) rfl (zw fun b4 hb4 => ?_);refine g [[3],[0,4,3,2],[3009],[2]] ?_;refine WQ.q rfl (Qt.callP CaF.h rfl (fun w hI => UD x m s t l b _)) rfl (g [[12]] ?_);refine WP.ret1 rfl rfl rfl (RV.cellN AgF.h SzF.h rfl (vs := [_, _, _, _, _]) rfl (RdN.own (k := 0) (n := 5) rfl rfl)) (fun w hI => ⟨rfl, hI.keep⟩)
theorem Xq (n lo hi : Int) (w : World) : z8 Tryz.prog 54 [it n, it lo, it hi] w (.bool (inB n lo hi)) := by
  unfold z8;refine en Tryz.func54 rfl Tryz.ntmps54 zI (g [[1],[5,0,1,2],[5,6,0,1,2]] ?_);refine WL.part 10 rfl (fun g10 => ?_) (fun g10 => ?_)
  · try simp only [zq] at g10
    refine g [[8]] ?_;refine WP.ret1 rfl rfl rfl (RV.tmp rfl) (fun w hI => ⟨zb (by rw [Bool.eq_iff_iff]; simp_all [inB]; try omega), hI.keep⟩)
  try simp only [zq] at g10
  refine g [[8]] ?_;refine WP.ret1 rfl rfl rfl (RV.tmp rfl) (fun w hI => ⟨zb (by rw [Bool.eq_iff_iff]; simp_all [inB]; try omega), hI.keep⟩)
theorem VY (n lo hi : Int) (w : World) : z8 Tryz.prog 113 [it n, it lo, it hi] w (.bool (inB n lo hi)) := by
  unfold z8;refine en Tryz.func113 rfl Tryz.ntmps113 zI (g [[1],[5,0,1,2],[5,6,0,1,2]] ?_);refine WL.part 10 rfl (fun g10 => ?_) (fun g10 => ?_)
  · try simp only [zq] at g10
    refine g [[8]] ?_;refine WP.ret1 rfl rfl rfl (RV.tmp rfl) (fun w hI => ⟨zb (by rw [Bool.eq_iff_iff]; simp_all [inB]; try omega), hI.keep⟩)
  try simp only [zq] at g10
  refine g [[8]] ?_;refine WP.ret1 rfl rfl rfl (RV.tmp rfl) (fun w hI => ⟨zb (by rw [Bool.eq_iff_iff]; simp_all [inB]; try omega), hI.keep⟩)
theorem XT (s : Sp) (w : World) : z8 Tryz.prog 115 [.agg #[it s.lo, it s.hi]] w (.bool (vX s)) := by
  unfold z8;refine en Tryz.func115 rfl Tryz.ntmps115 zI (g [[1],[1,0]] ?_);refine WL.so (SO.box rfl rfl) rfl (zw fun b1 hb1 => ?_);refine g [[4],[5,2,1]] ?_;refine WL.part 6 rfl (fun g6 => ?_) (fun g6 => ?_)
  · try simp only [zq] at g6
    refine g [[7]] ?_;refine WL.part 13 rfl (fun g13 => ?_) (fun g13 => ?_)
    · try simp only [zq] at g13
      refine g [[5]] ?_;refine WL.part 18 rfl (fun g18 => ?_) (fun g18 => ?_)
      · try simp only [zq] at g18
        refine g [[4]] ?_;refine WL.ydg rfl (Yd.sub rfl rfl (wr64 ⟨by first | omega | (simp_all; omega), by first | omega | (simp_all; omega)⟩)) rfl (g [[6]] ?_);refine WP.ret1 rfl rfl rfl (RV.tmp rfl) (fun w hI => ⟨zb (by rw [Bool.eq_iff_iff]; simp_all [vX]; try omega), hI.keep⟩)
      try simp only [zq] at g18
      refine g [[11]] ?_;refine WP.ret1 rfl rfl rfl (RV.tmp rfl) (fun w hI => ⟨zb (by rw [Bool.eq_iff_iff]; simp_all [vX]; try omega), hI.keep⟩)
    try simp only [zq] at g13
    refine g [[16]] ?_;refine WP.ret1 rfl rfl rfl (RV.tmp rfl) (fun w hI => ⟨zb (by rw [Bool.eq_iff_iff]; simp_all [vX]; try omega), hI.keep⟩)
  try simp only [zq] at g6
  refine g [[23]] ?_;refine WP.ret1 rfl rfl rfl (RV.tmp rfl) (fun w hI => ⟨zb (by rw [Bool.eq_iff_iff]; simp_all [vX]; try omega), hI.keep⟩)
theorem zan (T : Tks) (s1 : Value) (n : Int) (w : World) (hh : 1 ≤ T.huts ∧ T.huts ≤ 4) : z8 Tryz.prog 114 [.agg #[it T.huts, s1], it n] w (.bool (hutT T n)) := by
  unfold z8;refine en Tryz.func114 rfl Tryz.ntmps114 zI (g [[1],[1,0,1]] ?_);refine WL.so (SO.box rfl rfl) rfl (zw fun b2 hb2 => ?_);refine g [[4],[5,4,2,1]] ?_;refine WL.cl rfl (fun w hI => VY _ _ _ _) (g [[4]] ?_);refine WP.ret1 rfl rfl rfl (RV.tmp rfl) (fun w hI => ⟨zb rfl, hI.keep⟩)
theorem ji (T : Tks) (a1 : Option Addr) (n1 c1 : Nat) (D : Imm) (w : World) (hR : TksR D T a1 n1) (hH : Holds D w) : z8 Tryz.prog 39 [.agg #[it T.huts, .slice a1 n1 c1]] w (.bool (tksB T)) := by
  unfold z8;obtain rfl := hR.tick.len';have hl1 := hR.len;refine en Tryz.func39 rfl Tryz.ntmps39 (Inv.start hH) (g [[1],[1,0]] ?_);refine WL.so (SO.box rfl rfl) rfl (zw fun b1 hb1 => ?_);refine g [[5],[3,2,1]] ?_;refine WL.cl rfl (fun w hI => VY _ _ _ _) (g [[2]] ?_);refine WL.part 9 rfl (fun g9 => ?_) (fun g9 => ?_)
  · try simp only [zq] at g9
    refine g [[9],[6,2,1]] ?_;refine WP.ret1 rfl rfl rfl (RV.tmp rfl) (fun w hI => ⟨zb ?_, hI.keep⟩)
    first
      | exact Eq.symm ((yv T).2 ⟨hhu, h5u, hd⟩)
      | (symm
         cases hdb : tksB T with
         | false => rfl
         | true =>
           exfalso
           obtain ⟨q1, q2, q3⟩ := (yv T).1 hdb
           first
             | omega
             | (simp_all [inB]; done)
             | (simp_all [inB]; omega)
             | (have q4 := yC (q3 k (by omega)); simp_all))
  try simp only [zq] at g9
  refine g [[7]] ?_;refine WC.cond rfl (fun c14 => ?_) (fun c14 => ?_)
  · try simp only [zq] at c14
    refine g [[1],[6,2,1]] ?_;refine WP.ret1 rfl rfl rfl (RV.tmp rfl) (fun w hI => ⟨zb ?_, hI.keep⟩)
    first
      | exact Eq.symm ((yv T).2 ⟨hhu, h5u, hd⟩)
      | (symm
         cases hdb : tksB T with
         | false => rfl
         | true =>
           exfalso
           obtain ⟨q1, q2, q3⟩ := (yv T).1 hdb
           first
             | omega
             | (simp_all [inB]; done)
             | (simp_all [inB]; omega)
             | (have q4 := yC (q3 k (by omega)); simp_all))
  try simp only [zq] at c14
  have hhu : 1 ≤ T.huts ∧ T.huts ≤ 4 := by first | exact of_decide_eq_true g9 | (simp_all [inB]; done) | (simp_all [inB]; omega)
  have h5u : T.l.length ≤ 5 := by omega
  refine g [[4],[5,2,1]] ?_;refine WC.loopF (fun k : Nat => [(1, pt b1), (3, nt k)]) (fun k => k ≤ T.l.length ∧ ∀ i, i < k → vn T (gt T.l i) = true) (fun k => T.l.length - k) 0 ⟨by omega, by intro i hi; omega⟩ ⟨rfl, rfl, trivial⟩ ?_;intro k ⟨hk, hd⟩;refine g [[2],[8,1,3]] ?_;refine WC.cond rfl (fun c19 => ?_) (fun c19 => ?_)
  · try simp only [zq] at c19
    have hkl : k < T.l.length := by omega
    refine g [[5],[4,1,3]] ?_;refine WL.yd (Yd.indexS UnF.h SzF.h rfl rfl (by (try dsimp only); omega) (by (try dsimp only); omega) (hR.tick.addr k (by omega))) rfl ?_;refine WL.yd (Yd.lV [_, _, _, _, _] rfl ((hR.tick.at k (by omega)).rdn 0 5 rfl)) rfl ?_;refine WL.so (SO.alloc ZvF.h rfl) rfl (zw fun b4 hb4 => ?_);refine g [[4],[4,4,1,3]] ?_;refine WL.cl rfl (fun w hI => zan T _ _ _ hhu) (g [[2]] ?_);refine WL.part 32 rfl (fun g32 => ?_) (fun g32 => ?_)
    · try simp only [zq] at g32
      refine g [[15],[10,1,3]] ?_;refine WP.ret1 rfl rfl rfl (RV.tmp rfl) (fun w hI => ⟨zb ?_, hI.keep⟩);symm;cases hdb : tksB T with
      | false => rfl
      | true =>
        exfalso
        obtain ⟨q1, q2, q3⟩ := (yv T).1 hdb
        (have q4 := yC (q3 k (by omega)); simp_all)
    try simp only [zq] at g32
    refine g [[2]] ?_;refine WL.sog rfl (SO.callP CaF.h rfl (fun w hI => XT ⟨_, _⟩ _)) rfl (zs (g [[3]] ?_));refine WL.part 38 rfl (fun g38 => ?_) (fun g38 => ?_)
    · try simp only [zq] at g38
      refine g [[9],[10,1,3]] ?_;refine WP.ret1 rfl rfl rfl (RV.tmp rfl) (fun w hI => ⟨zb ?_, hI.keep⟩);symm;cases hdb : tksB T with
      | false => rfl
      | true =>
        exfalso
        obtain ⟨q1, q2, q3⟩ := (yv T).1 hdb
        (have q4 := yC (q3 k (by omega)); simp_all)
    try simp only [zq] at g38
    refine g [[2]] ?_;refine WL.sog rfl (SO.callP CaF.h rfl (fun w hI => XT ⟨_, _⟩ _)) rfl (zs (g [[4]] ?_));refine WC.cond rfl (fun c43 => ?_) (fun c43 => ?_)
    · try simp only [zq] at c43
      refine g [[1],[10,1,3]] ?_;refine WP.ret1 rfl rfl rfl (RV.tmp rfl) (fun w hI => ⟨zb ?_, hI.keep⟩);symm;cases hdb : tksB T with
      | false => rfl
      | true =>
        exfalso
        obtain ⟨q1, q2, q3⟩ := (yv T).1 hdb
        (have q4 := yC (q3 k (by omega)); simp_all)
    try simp only [zq] at c43
    refine g [[3],[2,1,3]] ?_;refine WL.yd (Yd.addN rfl rfl (by (try dsimp only); omega)) rfl (g [[2]] ?_);exact WP.againF (k + 1) ⟨by omega, zZ hd (by simp_all [vn])⟩ (by omega) ⟨rfl, rfl, trivial⟩ (fun _ h => by simp at h; simp [h]) (fun h => by simp at h ⊢)
  try simp only [zq] at c19
  obtain rfl : k = T.l.length := by omega
  refine g [[6]] ?_;refine WC.ofFr [] trivial (g [[5]] ?_);refine WP.ret1 rfl rfl rfl (RV.tmp rfl) (fun w hI => ⟨zb ?_, hI.keep⟩);exact Eq.symm ((yv T).2 ⟨hhu, h5u, hd⟩)
theorem JZ (X : Till) (a1 : Option Addr) (n1 c1 : Nat) (D : Imm) (w : World) (hR : TksR D X.tk a1 n1) (hH : Holds D w) : z8 Tryz.prog 13 [.agg #[it X.tk.huts, .slice a1 n1 c1, it X.price, it X.fine, it X.wait]] w (.bool (yx X)) := by
  unfold z8;obtain rfl := hR.tick.len';have hl1 := hR.len;refine en Tryz.func13 rfl Tryz.ntmps13 (Inv.start hH) (g [[1],[1,0]] ?_);refine WL.so (SO.box rfl rfl) rfl (zw fun b1 hb1 => ?_);refine g [[4],[3,2,1]] ?_;refine WL.cl rfl (fun w hI => ji X.tk a1 _ c1 D _ hR hI.imm) (g [[1]] ?_);refine WL.part 6 rfl (fun g6 => ?_) (fun g6 => ?_)
  · refine g [[2]] ?_;refine WL.sog rfl (SO.callP CaF.h rfl (fun w hI => Xq _ _ _ _)) rfl (zs (g [[2]] ?_));refine WL.part 11 rfl (fun g11 => ?_) (fun g11 => ?_)
    · refine g [[2]] ?_;refine WL.sog rfl (SO.callP CaF.h rfl (fun w hI => Xq _ _ _ _)) rfl (zs (g [[2]] ?_));refine WL.part 16 rfl (fun g16 => ?_) (fun g16 => ?_)
      · refine g [[2]] ?_;refine WL.sog rfl (SO.callP CaF.h rfl (fun w hI => Xq _ _ _ _)) rfl (zs (g [[5]] ?_));refine WP.ret1 rfl rfl rfl (RV.tmp rfl) (fun w hI => ⟨zb (by simp_all [yx]), hI.keep⟩)
      refine g [[8]] ?_;refine WP.ret1 rfl rfl rfl (RV.tmp rfl) (fun w hI => ⟨zb (by simp_all [yx]), hI.keep⟩)
    refine g [[13]] ?_;refine WP.ret1 rfl rfl rfl (RV.tmp rfl) (fun w hI => ⟨zb (by simp_all [yx]), hI.keep⟩)
  refine g [[18]] ?_;refine WP.ret1 rfl rfl rfl (RV.tmp rfl) (fun w hI => ⟨zb (by simp_all [yx]), hI.keep⟩)
theorem ZC (n lo hi : Int) (w : World) : z8 Tryz.prog 55 [it n, it lo, it hi] w (.bool (inB n lo hi)) := by
  unfold z8;refine en Tryz.func55 rfl Tryz.ntmps55 zI (g [[1],[5,0,1,2],[5,6,0,1,2]] ?_);refine WL.part 10 rfl (fun g10 => ?_) (fun g10 => ?_)
  · try simp only [zq] at g10
    refine g [[8]] ?_;refine WP.ret1 rfl rfl rfl (RV.tmp rfl) (fun w hI => ⟨zb (by rw [Bool.eq_iff_iff]; simp [inB]; omega), hI.keep⟩)
  try simp only [zq] at g10
  refine g [[8]] ?_;refine WP.ret1 rfl rfl rfl (RV.tmp rfl) (fun w hI => ⟨zb (by rw [Bool.eq_iff_iff]; simp [inB]; omega), hI.keep⟩)
theorem kV (s : Sp) (w : World) : z8 Tryz.prog 56 [.agg #[it s.lo, it s.hi]] w (.bool (zA s)) := by
  unfold z8;refine en Tryz.func56 rfl Tryz.ntmps56 zI (g [[1],[1,0]] ?_);refine WL.so (SO.box rfl rfl) rfl (zw fun b1 hb1 => ?_);refine g [[4],[5,2,1]] ?_;refine WL.part 6 rfl (fun g6 => ?_) (fun g6 => ?_)
  · try simp only [zq] at g6
    refine g [[7]] ?_;refine WL.part 13 rfl (fun g13 => ?_) (fun g13 => ?_)
    · try simp only [zq] at g13
      refine g [[8]] ?_;refine WP.ret1 rfl rfl rfl (RV.tmp rfl) (fun w hI => ⟨zb (by rw [Bool.eq_iff_iff]; simp_all [zA]; try omega), hI.keep⟩)
    try simp only [zq] at g13
    refine g [[8]] ?_;refine WP.ret1 rfl rfl rfl (RV.tmp rfl) (fun w hI => ⟨zb (by rw [Bool.eq_iff_iff]; simp_all [zA]; try omega), hI.keep⟩)
  try simp only [zq] at g6
  refine g [[15]] ?_;refine WP.ret1 rfl rfl rfl (RV.tmp rfl) (fun w hI => ⟨zb (by rw [Bool.eq_iff_iff]; simp_all [zA]; try omega), hI.keep⟩)
theorem UB (T : Tide) (a1 a2 a3 : Option Addr) (n1 n2 n3 c1 c2 c3 : Nat) (D : Imm) (w : World) (hR : yo D T a1 n1 a2 n2 a3 n3) (hH : Holds D w) (n : Int) : z8 Tryz.prog 57 [.agg #[.slice a1 n1 c1, .slice a2 n2 c2, .slice a3 n3 c3], it n] w (.bool (yO T n)) := by
  unfold z8;obtain rfl := hR.mark.len';obtain rfl := hR.sand.len';obtain rfl := hR.look.len';obtain ⟨hl1, hl2, hl3⟩ := hR.len;refine en Tryz.func57 rfl Tryz.ntmps57 (Inv.start hH) (g [[1],[1,0,1]] ?_);refine WL.so (SO.box rfl rfl) rfl (zw fun b2 hb2 => ?_);refine g [[4],[6,4,2,1]] ?_;refine WL.cl rfl (fun w hI => ZC _ _ _ _) (g [[4]] ?_);refine WP.ret1 rfl rfl rfl (RV.tmp rfl) (fun w hI => ⟨rfl, hI.keep⟩)
theorem WG (T : Tide) (a1 a2 a3 : Option Addr) (n1 n2 n3 c1 c2 c3 : Nat) (D : Imm) (w : World) (hR : yo D T a1 n1 a2 n2 a3 n3) (hH : Holds D w) (hnm : 2 ≤ T.marks.length) (n : Int) : z8 Tryz.prog 58 [.agg #[.slice a1 n1 c1, .slice a2 n2 c2, .slice a3 n3 c3], it n] w (.bool (zx T n)) := by
  unfold z8;obtain rfl := hR.mark.len';obtain rfl := hR.sand.len';obtain rfl := hR.look.len';obtain ⟨hl1, hl2, hl3⟩ := hR.len
  have hrl : ∀ hp, Rd D hp ⟨sb a1, so a1 + ((T.marks.length : Int) - 1).toNat * 3 + 0, none⟩ (it (wB T)) := fun hp => by
    rw [show ((T.marks.length : Int) - 1).toNat = T.marks.length - 1 by omega]; exact (hR.mark.at (T.marks.length - 1) (by omega)).rd 0 rfl
  refine en Tryz.func58 rfl Tryz.ntmps58 (Inv.start hH) (g [[1],[1,0,1]] ?_);refine WL.so (SO.box rfl rfl) rfl (zw fun b2 hb2 => ?_);refine g [[4],[0,4,2,1],[3020],[5]] ?_;refine WQ.know 9 (.bool true) rfl (congrArg Value.bool (decide_eq_true (by omega))) (g [[3]] ?_);refine WQ.qg rfl rfl (Yd.qt (Yd.ix rfl rfl (hR.mark.addr 0 (by omega)))) rfl (g [[1]] ?_);refine WQ.qg rfl rfl (Yd.qt (Yd.l1 rfl ((hR.mark.at 0 (by omega)).rd 0 rfl))) rfl (g [[6]] ?_);refine WQ.qg rfl rfl (Yd.qt (Yd.ix rfl rfl (hR.mark.addr 0 (by omega)))) rfl (g [[1]] ?_);refine WQ.qg rfl rfl (Yd.qt (Yd.l1 rfl (hrl _))) rfl (g [[1]] ?_);refine WL.sog rfl (SO.callP CaF.h rfl (fun w hI => ZC _ _ _ _)) rfl (zs (g [[5]] ?_));refine WP.ret1 rfl rfl rfl (RV.tmp rfl) (fun w hI => ⟨rfl, hI.keep⟩)
end Go.Proofs.YtejgofaeafphjaaGreatDoor
