import Derived.Test.YtejgofaeafphjaaGreatDoorXG6
import Derived.Test.YtejgofaeafphjaaGreatDoorXG5
import Derived.Test.YtejgofaeafphjaaGreatDoorXG1
import Derived.Test.YtejgofaeafphjaaGreatDoorXG4
import Derived.Test.YtejgofaeafphjaaGreatDoorXG2
set_option linter.all false
set_option maxRecDepth 100000
set_option maxHeartbeats 4000000
attribute [local irreducible] Go.W.WL Go.W.WLF Go.W.WC Go.W.WCF Go.W.WP Go.W.WA Go.W.WQ Go.W.WH Go.W.WHo Go.W.WCn Go.W.Yd Go.W.Qt Go.W.SO Go.Code.wp Go.Code.wpIn
namespace Go.Proofs.YtejgofaeafphjaaGreatDoor
open Go.W Go.Ti
theorem znR : zj Tryz.prog 290 [.nilFunc] [(0, 1)] := ⟨⟨_, Tryz.zeroValue290, rfl⟩, _, Tryz.underlying290, fun w => by simp [Tryz.sizeOf288]⟩
abbrev znH := SaF.mk znR
attribute [instance] znH
theorem zo4 : ∀ n, xI [.int .i64 0] (n * 1) = (List.replicate n 0).map nt ++ [] := by
  intro n;rw [Nat.mul_one, List.append_nil]
  induction n with
  | zero => rfl
  | succ n ih => rw [List.replicate_succ', List.map_append, ← ih]; simp [xI, Nat.mod_one]
def remI (M A : Nat) (qs : List Nat) (i : Nat) : Int := ((M : Int) * ((gt qs i : Nat) : Int)) % (A : Int)
theorem zmD (M A : Nat) (qs : List Nat) (i : Nat) : remI M A qs i = (remN M A qs i : Int) := by
  unfold remI remN;rw [← Int.natCast_mul, ← Int.natCast_emod]
theorem zng (n : Nat) : ((List.range n).map fun i : Nat => (i : Int)).flatMap intC = (List.range n).map nt := Jb _ n
theorem znO (l : List Nat) : ∀ v ∈ l.map nt, v.oneCell' = true := fun v hv => by obtain ⟨x, _, rfl⟩ := List.mem_map.1 hv; rfl
theorem znC (i : Nat) (w : World) : z8 Tryz.prog 215 [nt i] w (it (i : Int)) := by
  unfold z8;refine en Tryz.func215 rfl Tryz.ntmps215 zI (g [[1],[5,0],[6,2,0]] ?_);refine WP.ret1 rfl rfl rfl (RV.tmp rfl) (fun w hI => ⟨rfl, hI.keep⟩)
theorem znj (M : Nat) (hM : M ≤ 5000) (qs : List Nat) (h6 : qs.length ≤ 6) (hq : ∀ i, i < qs.length → gt qs i ≤ 20) (ap : Option Addr) (cp : Nat) (D : Imm) (hS : SlL D 1 (qs.map natC) ap qs.length) (hA : 0 < qs.sum) (b2 b3 b6 : Nat) (h2 : D b2 = some (.cells (List.toArray [nt M]) 3 (0, 0))) (h3 : D b3 = some (.cells (List.toArray [.slice ap qs.length cp]) 94 (0, 0))) (h6' : D b6 = some (.cells (List.toArray [nt qs.sum]) 3 (0, 0))) (i j : Nat) (hi : i < qs.length) (hj : j < qs.length) (w : World) (hH : Holds D w) : z8 Tryz.prog 216 [nt i, nt j, pt b2, pt b3, pt b6] w (it (remI M qs.sum qs j - remI M qs.sum qs i)) := by
  unfold z8;have hqi := hq i hi;have hqj := hq j hj;have hpi : 0 ≤ (M : Int) * ((gt qs i : Nat) : Int) ∧ (M : Int) * ((gt qs i : Nat) : Int) ≤ 100000 := by have h1 := (zmt (A := qs.sum) hM hq hi).1; rw [← Int.natCast_mul]; omega
  have hpj : 0 ≤ (M : Int) * ((gt qs j : Nat) : Int) ∧ (M : Int) * ((gt qs j : Nat) : Int) ≤ 100000 := by have h1 := (zmt (A := qs.sum) hM hq hj).1; rw [← Int.natCast_mul]; omega
  have hAA : (0 : Int) < (qs.sum : Int) := by omega
  have hAB : qs.sum ≤ 20 * 6 := by have h1 := zmz hq qs.length (Nat.le_refl _); rw [List.take_length] at h1; omega
  have hri := zmD M qs.sum qs i;have hrj := zmD M qs.sum qs j;have hmi : remN M qs.sum qs i < qs.sum := Nat.mod_lt _ hA;have hmj : remN M qs.sum qs j < qs.sum := Nat.mod_lt _ hA;unfold remI at hri hrj;refine en Tryz.func216 rfl Tryz.ntmps216 (Inv.start hH) (g [[1],[5,0,1,2,3,4],[0,7,0,1,2,3,4],[3016],[3]] ?_);refine WQ.q rfl (Yd.qt (Yd.ix rfl rfl (hS.addr i hi))) rfl (WQ.q rfl (Yd.qt (Yd.l1 rfl ((hS.at j hj).rd 0 rfl))) rfl (g [[1]] ?_));refine WQ.q rfl (Yd.qt (Yd.l1 rfl (Rd.imm h6' rfl))) rfl (WQ.q rfl (Yd.qt (Yd.rem rfl rfl (by omega) (by omega))) rfl (g [[3]] ?_));refine WQ.q rfl (Yd.qt (Yd.ix rfl rfl (hS.addr i hi))) rfl (WQ.q rfl (Yd.qt (Yd.l1 rfl ((hS.at i hi).rd 0 rfl))) rfl (g [[1]] ?_));refine WQ.q rfl (Yd.qt (Yd.l1 rfl (Rd.imm h6' rfl))) rfl (WQ.q rfl (Yd.qt (Yd.rem rfl rfl (by omega) (by omega))) rfl (g [[6]] ?_));refine WP.ret1 rfl rfl rfl (RV.tmp rfl) (fun w hI => ⟨rfl, hI.keep⟩)
theorem left_step (M A : Nat) (qs : List Nat) (k : Nat) : kz M A qs (k + 1) = kz M A qs k - uY M A qs k := by
  show M - (sumF (uY M A qs) k + _) = M - sumF (uY M A qs) k - _;omega
theorem znN {D : Imm} {b : Nat} {l : List Nat} (h : D b = some (datN l [])) : SlL D 1 (l.map natC) (some ⟨b, 0, none⟩) l.length := by
  unfold datN at h;rw [← zak] at h;exact SlL.ofBlock Jq h
theorem zmG (n : Nat) : splice (xI [.int .i64 0] (n * 1)) 0 ((List.range n).map nt) = (List.range n).map nt ++ [] := by
  unfold splice;rw [List.take_zero, List.drop_eq_nil_of_le (by rw [yz]; simp)];simp
theorem zn9 (M : Nat) (hM : M ≤ 5000) (qs : List Nat) (h6 : qs.length ≤ 6) (hq : ∀ i, i < qs.length → gt qs i ≤ 20) (ap : Option Addr) (cp : Nat) (D : Imm) (hS : SlL D 1 (qs.map natC) ap qs.length) (w : World) (hH : Holds D w) : y6 Tryz.prog 143 [nt M, .slice ap qs.length cp] w D (fun v D' => ∃ a c, v = .tuple #[.slice a qs.length c, it 0] ∧ SlL D' 1 ((ZZ M qs).map natC) a qs.length) := by
  unfold y6;refine enD Tryz.func143 rfl Tryz.ntmps143 (Inv.start hH) (g [[1],[1,0,1]] ?_);refine WL.so (SO.box rfl rfl) rfl (zw fun b2 hb2 => ?_);refine WL.so (SO.box rfl rfl) rfl (zw fun b3 hb3 => ?_);refine g [[1]] ?_;refine WL.so (SO.alloc ZvF.h rfl) rfl (zw fun b5 hb5 => ?_);refine g [[3],[2,5,4,3,2]] ?_;refine WL.defer rfl (g [[3]] ?_);refine WC.freezeN 1 b3 (.cells (List.toArray [.slice ap qs.length cp]) 94 (0, 0)) rfl rfl hb3 (fun D3 hX3 h3 => ?_);refine WC.freezeN 1 b2 (.cells (List.toArray [nt M]) 3 (0, 0)) rfl rfl hb2 (fun D2 hX2 h2 => ?_);replace h3 := hX2.old _ _ h3;have hX0 := hX3.trans hX2 (Nat.le_refl _);replace hS := hS.ext hX0;refine g [[2,5,4,3,2]] ?_;refine WL.cl rfl (fun w hI => vu _ _ _ _) (WL.know 19 (.bool true) rfl (congrArg Value.bool (decide_eq_true (show (0 : Int) ≤ (M : Int) ∧ (M : Int) ≤ 5000 by omega))) (g [[4]] ?_));refine WL.know 23 (.bool true) rfl (congrArg Value.bool (decide_eq_true (show ((qs.length : Nat) : Int) ≤ 6 by omega))) (g [[1]] ?_);refine WL.cl rfl (fun w hI => uc _ _) (g [[3],[1,5,4,3,2]] ?_);refine WL.so (SO.alloc ZvF.h rfl) rfl (zw fun b6 hb6 => ?_);refine g [[5],[7,6,5,4,3,2]] ?_;refine WC.loop (fun k : Nat => [(2, pt b2), (3, pt b3), (4, .slice none 0 0), (5, pt b5), (6, pt b6), (26, .slice ap qs.length cp), (27, nt qs.length), (28, nt k)]) (fun k => [(b6, .cells (List.toArray [nt (qs.take k).sum]) 3 (0, 0)), (b5, .cells (List.toArray [it 0]) 51 (0, 0))]) (fun _ => D2) (fun k => k ≤ qs.length) (fun k => qs.length - k) 0 (by omega) (fun a w h => y4 h ⟨rfl, rfl, rfl, rfl, rfl, rfl, rfl, rfl, trivial⟩) ?_;intro k hk;refine g [[1],[5,2,3,4,5,6,26,27,28]] ?_;refine WC.cond rfl (fun c29 => ?_) (fun c29 => ?_)
  · try simp only [zq] at c29
    have hkn : k < qs.length := by omega
    have hqk := hq k hkn;have hsk := zmz hq k (by omega);refine g [[5],[1,2,3,4,5,6,26,27,28]] ?_;refine WL.yd (Yd.indexS UnF.h SzF.h rfl rfl (by (try dsimp only); omega) (by (try dsimp only); omega) (hS.addr k (by omega))) rfl ?_;refine WL.yd (Yd.l1 rfl ((hS.at k (by omega)).rd 0 rfl)) rfl (g [[4],[2,8,2,3,4,5,6,26,27,28]] ?_);refine WL.cl rfl (fun w hI => vu _ _ _ _) (WL.know 33 (.bool true) rfl (congrArg Value.bool (decide_eq_true (show (0 : Int) ≤ ((gt qs k : Nat) : Int) ∧ ((gt qs k : Nat) : Int) ≤ 20 by omega))) ?_);refine WL.cl rfl (fun w hI => uc _ _) (g [[2],[3,8,2,3,4,5,6,26,27,28]] ?_);refine WL.know 35 (nt (qs.take k).sum) rfl rfl (WL.know 36 (nt (gt qs k)) rfl rfl ?_);refine WL.yd (Yd.addN rfl rfl (by (try dsimp only); omega)) rfl (g [[4]] ?_);rw [← UX hkn];refine g [[1,2,3,4,5,6,26,27,28]] ?_;refine WL.yd (Yd.addN rfl rfl (by (try dsimp only); omega)) rfl (g [[2]] ?_);exact WP.again (k + 1) (by omega) (by omega) (fun a w h => y4 h ⟨rfl, rfl, rfl, rfl, rfl, rfl, rfl, rfl, trivial⟩)
  try simp only [zq] at c29
  refine g [[6]] ?_;obtain rfl : k = qs.length := by omega
  rw [List.take_length];refine WC.freezeN 0 b6 (.cells (List.toArray [nt qs.sum]) 3 (0, 0)) rfl rfl hb6 (fun D6 hX6 h6v0 => ?_);have h6v := h6v0;replace h2 := hX6.old _ _ h2;replace h3 := hX6.old _ _ h3;replace hS := hS.ext hX6;replace hX0 := hX0.trans hX6 (Nat.le_refl _);refine g [[3,2,3,4,5,6]] ?_;refine WL.so (SO.makeSlice Tryz.underlying94 Tryz.sizeOf3 Tryz.typeInfo3 Tryz.zeroValue3 rfl rfl rfl (by omega) (by show 8 * ((qs.length : Nat) : Int) ≤ 2 ^ 48; omega)) rfl ?_;rintro _ _ _ ⟨b41, hb41, rfl, rfl, rfl⟩;refine g [[5]] ?_;refine WC.hpEq (hp' := [(b41, .cells (List.toArray ((List.replicate qs.length 0).map nt ++ [])) 3 (0, 0)), (b5, .cells (List.toArray [it 0]) 51 (0, 0))]) (by rw [← zo4]; rfl) (g [[5,9,2,3,4,5,6]] ?_);refine WC.cond rfl (fun c43 => ?_) (fun c43 => ?_)
  · try simp only [zq] at c43
    refine g [[1]] ?_;refine WC.freezeN 0 b41 (datN (List.replicate qs.length 0) []) rfl rfl hb41 (fun D41 hX41 h41 => ?_)
      
    refine g [[8,9,2,3,4,5,6]] ?_
    refine WP.endD [_, _] [_, _] rfl rfl CaF.h (fun w hI => zn1 _ _) rfl zV (fun w1 hI => ⟨_, D41, rfl, hI.keep, hI.imm, hX0.trans hX41 (Nat.le_refl _), _, _, rfl, by
      have h9 := znN h41;rw [List.length_replicate] at h9;rw [show ZZ M qs = List.replicate qs.length 0 by unfold ZZ; rw [if_pos (by omega)]];exact h9⟩)
  try simp only [zq] at c43
  refine g [[3]] ?_;have hA : 0 < qs.sum := by omega
  refine g [[6,9,2,3,4,5,6],[4,10,9,2,3,4,5,6]] ?_;refine WL.so (SO.makes (Enters.func Tryz.call214 rfl) (fun w hI => znc qs.length (by omega) 215 [] (fun i => (i : Int)) D6 _ hI.imm Tryz.call215 (fun i _ w' _ => znC i w'))) rfl ?_;rintro _ D7 _ ⟨hX7, ⟨a11, c11, rfl, hS11⟩, rfl⟩;replace h2 := hX7.old _ _ h2;replace h3 := hX7.old _ _ h3;replace h6v := hX7.old _ _ h6v;replace hS := hS.ext hX7;replace hX0 := hX0.trans hX7 (Nat.le_refl _);refine g [[5],[7,11,10,9,2,3,4,5,6]] ?_;refine WC.loop (fun k : Nat => [(2, pt b2), (3, pt b3), (4, .slice none 0 0), (5, pt b5), (6, pt b6), (9, .slice (some ⟨b41, 0, none⟩) qs.length qs.length), (10, nt (kz M qs.sum qs k)), (11, .slice a11 qs.length c11), (50, .slice ap qs.length cp), (51, nt qs.length), (52, nt k)]) (fun k => [(b41, .cells (List.toArray ((VD M qs.sum qs k qs.length).map nt ++ [])) 3 (0, 0)), (b5, .cells (List.toArray [it 0]) 51 (0, 0))]) (fun _ => D7) (fun k => k ≤ qs.length) (fun k => qs.length - k) 0 (by omega) (fun a w h => by rw [zmP]; exact y4 h ⟨rfl, rfl, rfl, rfl, rfl, rfl, rfl, rfl, rfl, rfl, rfl, trivial⟩) ?_;intro k hk;refine g [[1],[5,2,3,4,5,6,9,10,11,50,51,52]] ?_;refine WC.cond rfl (fun c53 => ?_) (fun c53 => ?_)
  · try simp only [zq] at c53
    have hkn : k < qs.length := by omega
    have hpk : 0 ≤ (M : Int) * ((gt qs k : Nat) : Int) ∧ (M : Int) * ((gt qs k : Nat) : Int) ≤ 100000 := by have h1 := (zmt (A := qs.sum) hM hq hkn).1; rw [← Int.natCast_mul]; omega
    have hd1 : sumF (uY M qs.sum qs) (k + 1) ≤ M := znr rfl hA (by omega);have hd2 : uY M qs.sum qs k ≤ kz M qs.sum qs k := by unfold kz; unfold sumF at hd1; omega
    have hd3 : kz M qs.sum qs k ≤ 5000 := by unfold kz; omega
    refine g [[5],[2,2,3,4,5,6,9,10,11,50,51,52]] ?_;refine WL.yd (Yd.indexS UnF.h SzF.h rfl rfl (by (try dsimp only); omega) (by (try dsimp only); omega) (hS.addr k (by omega))) rfl ?_;refine WL.yd (Yd.l1 rfl ((hS.at k (by omega)).rd 0 rfl)) rfl (g [[5],[5,13,12,2,3,4,5,6,9,10,11,50,51,52]] ?_);refine WL.yd (Yd.mul rfl rfl (wr64 ⟨by (try dsimp only); omega, by (try dsimp only); omega⟩)) rfl (g [[1]] ?_);refine WL.yd (Yd.quoN (i := M * gt qs k) (j := qs.sum) rfl rfl hA (by have := (zmt (A := qs.sum) hM hq hkn).1; omega)) rfl ?_;refine WL.yd (Yd.indexS UnF.h SzF.h rfl rfl (by (try dsimp only); omega) (by (try dsimp only); omega) (rfl)) rfl ?_;refine WL.so (SO.store 0 rfl SzF.h rfl rfl rfl rfl (qQ _ _ (by rw [Zs]; exact hkn)) (za rfl)) rfl (zt (g [[2]] ?_));refine WC.hpEq (hp' := [(b41, .cells (List.toArray ((VD M qs.sum qs (k + 1) qs.length).map nt ++ [])) 3 (0, 0)), (b5, .cells (List.toArray [it 0]) 51 (0, 0))]) (by show ([(b41, .cells (List.toArray (splice ((VD M qs.sum qs k qs.length).map nt ++ []) (0 + k * 1) [nt (uY M qs.sum qs k)])) 3 (0, 0)), (b5, .cells (List.toArray [it 0]) 51 (0, 0))] : Hp) = _; rw [vi _ _ _ _ (by rw [Zs]; exact hkn), zmO]) (g [[4,12,2,3,4,5,6,9,10,11,50,51,52]] ?_);refine WL.yd (Yd.indexS UnF.h SzF.h rfl rfl (by (try dsimp only); omega) (by (try dsimp only); omega) (rfl)) rfl ?_;refine WL.yd (Yd.l1 rfl (vD (k := 0) rfl (by rw [Zs]; exact hkn))) rfl ?_;refine WL.know 69 (nt (uY M qs.sum qs k)) rfl (by show nt (gt (VD M qs.sum qs (k + 1) qs.length) k) = _; rw [QX _ _ _ hkn, if_pos (by omega)]) ?_;refine WL.yd (Yd.subN rfl rfl (by (try dsimp only); omega) (by (try dsimp only); omega)) rfl (g [[4],[1,10,2,3,4,5,6,9,11,50,51,52]] ?_);refine WL.yd (Yd.addN rfl rfl (by (try dsimp only); omega)) rfl (g [[2]] ?_);exact WP.again (k + 1) (by omega) (by omega) (fun a w h => y4 h ⟨rfl, rfl, rfl, rfl, rfl, rfl, by rw [left_step]; rfl, rfl, rfl, rfl, rfl, trivial⟩)
  try simp only [zq] at c53
  refine g [[6]] ?_;obtain rfl : k = qs.length := by omega
  have hlt := U6 (M := M) (A := qs.sum) rfl hA;refine g [[3,2,3,4,5,6,9,10,11]] ?_;refine WL.so (SO.makeSlice Tryz.underlying94 Tryz.sizeOf3 Tryz.typeInfo3 Tryz.zeroValue3 rfl rfl rfl (by omega) (by show 8 * ((qs.length : Nat) : Int) ≤ 2 ^ 48; omega)) rfl ?_;rintro _ _ _ ⟨b74, hb74, rfl, rfl, rfl⟩;refine g [[4],[3,14,2,3,4,5,6,9,10,11]] ?_;refine WL.so (SO.copy (k := 0) (cs := xI [.int .i64 0] (qs.length * 1)) rfl Tryz.underlying94 Tryz.sizeOf3 rfl rfl rfl (ys := (List.range qs.length).map nt) (by rw [← zng]; exact hS11.rdS zJ (fun e => by have h0 := congrArg List.length e; simp only [List.length_map, List.length_range, List.length_nil] at h0; omega)) (znO _) (by rw [yz]; simp)) rfl ?_;rintro _ _ _ ⟨rfl, rfl⟩;refine g [[3]] ?_;refine WC.hpEq (hp' := [(b74, datN (List.range qs.length) []), (b41, .cells (List.toArray (((VD M qs.sum qs qs.length qs.length)).map nt ++ [])) 3 (0, 0)), (b5, .cells (List.toArray [it 0]) 51 (0, 0))]) (by show ([(b74, .cells (List.toArray (splice (xI [.int .i64 0] (qs.length * 1)) 0 ((List.range qs.length).map nt))) 3 (0, 0)), (b41, .cells (List.toArray (((VD M qs.sum qs qs.length qs.length)).map nt ++ [])) 3 (0, 0)), (b5, .cells (List.toArray [it 0]) 51 (0, 0))] : Hp) = _; rw [zmG]; rfl) ?_;refine WC.hpPerm [(b41, .cells (List.toArray (((VD M qs.sum qs qs.length qs.length)).map nt ++ [])) 3 (0, 0)), (b5, .cells (List.toArray [it 0]) 51 (0, 0)), (b74, datN (List.range qs.length) [])] (List.perm_append_comm (l₁ := [_]) (l₂ := [_, _])) (g [[3,14,2,3,4,5,6,9,10]] ?_);refine WL.so (SO.alters (own := [_, _]) (hpc := [_]) (S1 := [b74]) (fun _ h => h) (fun h => h) (fun _ h => h) (fun _ h => h) (Enters.func CaF.h rfl) (fun w1 hI => zd1 (yR (keyS M qs.sum qs)) (List.range qs.length) [] b74 qs.length qs.length D7 w1 ⟨by simp, fun i hi => by rw [qk hi]; exact hi⟩ (by omega) 216 [pt b2, pt b3, pt b6] CaF.h (fun i j => remI M qs.sum qs j - remI M qs.sum qs i) (fun w' hH' i j hi hj => znj M hM qs h6 hq ap cp D7 hS hA b2 b3 b6 h2 h3 h6v i j hi hj w' hH') (fun i j _ _ => by unfold yR keyS; rw [zmD, zmD]; congr 1; apply propext; omega) hI)) rfl ?_;rintro _ _ _ ⟨_, _, ⟨rfl, rfl, rfl⟩, rfl⟩;refine g [[4],[3,14,4,5,9,10]] ?_;refine WL.yd (Yd.sliceTo (h := (kz M qs.sum qs qs.length)) Tryz.underlying94 Tryz.sizeOf3 rfl rfl (by omega)) rfl (g [[5]] ?_);refine WC.loop (fun k : Nat => [(4, .slice none 0 0), (5, pt b5), (9, .slice (some ⟨b41, 0, none⟩) qs.length qs.length), (83, .slice (some ⟨b74, 0, none⟩) (kz M qs.sum qs qs.length) qs.length), (84, nt (kz M qs.sum qs qs.length)), (85, nt k)]) (fun k => [(b41, .cells (List.toArray (((incL (VD M qs.sum qs qs.length qs.length) ((wO (keyS M qs.sum qs) qs.length).take k))).map nt ++ [])) 3 (0, 0)), (b5, .cells (List.toArray [it 0]) 51 (0, 0)), (b74, .cells (List.toArray (((wO (keyS M qs.sum qs) qs.length)).map nt ++ [])) 3 (0, 0))]) (fun _ => D7) (fun k => k ≤ (kz M qs.sum qs qs.length)) (fun k => (kz M qs.sum qs qs.length) - k) 0 (by omega) (fun a w h => y4 h ⟨rfl, rfl, rfl, rfl, rfl, rfl, trivial⟩) ?_;intro k hk;refine g [[1],[5,4,5,9,83,84,85]] ?_;refine WC.cond rfl (fun c86 => ?_) (fun c86 => ?_)
  · try simp only [zq] at c86
    have hoi : gt (wO (keyS M qs.sum qs) qs.length) k < qs.length := qw _ _ (by omega);have hib := zn2 (l := (VD M qs.sum qs qs.length qs.length)) (c := 100000) (fun i hi => by rw [Zs] at hi; rw [QX _ _ _ hi]; split; exact (zmt hM hq hi).2; omega) (wO (keyS M qs.sum qs) qs.length) (fun i hi => by rw [xy] at hi; rw [Zs]; exact qw _ _ hi) k (by rw [xy]; omega) (gt (wO (keyS M qs.sum qs) qs.length) k) (by rw [Zs]; exact hoi);refine g [[5],[1,4,5,9,83,84,85]] ?_;refine WL.yd (Yd.indexS UnF.h SzF.h rfl rfl (by (try dsimp only); omega) (by (try dsimp only); omega) (rfl)) rfl ?_;refine WL.yd (Yd.l1 rfl (vD (k := 2) rfl (by rw [xy]; omega))) rfl (g [[3],[3,16,4,5,9,83,84,85]] ?_);refine WL.know 90 (nt (gt (wO (keyS M qs.sum qs) qs.length) k)) rfl rfl ?_;refine WL.yd (Yd.indexS UnF.h SzF.h rfl rfl (by (try dsimp only); omega) (by (try dsimp only); omega) (rfl)) rfl ?_;refine WL.yd (Yd.l1 rfl (vD (k := 0) rfl (by rw [zas, Zs]; exact hoi))) rfl ?_;refine WL.know 92 (nt (gt (incL (VD M qs.sum qs qs.length qs.length) ((wO (keyS M qs.sum qs) qs.length).take k)) (gt (wO (keyS M qs.sum qs) qs.length) k))) rfl rfl ?_;refine WL.yd (Yd.addN rfl rfl (by (try dsimp only); omega)) rfl ?_;refine WL.yd (Yd.indexS UnF.h SzF.h rfl rfl (by (try dsimp only); omega) (by (try dsimp only); omega) (rfl)) rfl ?_;refine WL.so (SO.store 0 rfl SzF.h rfl rfl rfl rfl (qQ _ _ (by rw [zas, Zs]; exact hoi)) (za rfl)) rfl (zt (g [[3]] ?_));refine WC.hpEq (hp' := [(b41, .cells (List.toArray (((incL (VD M qs.sum qs qs.length qs.length) ((wO (keyS M qs.sum qs) qs.length).take (k + 1)))).map nt ++ [])) 3 (0, 0)), (b5, .cells (List.toArray [it 0]) 51 (0, 0)), (b74, .cells (List.toArray (((wO (keyS M qs.sum qs) qs.length)).map nt ++ [])) 3 (0, 0))]) (by show ([(b41, .cells (List.toArray (splice ((incL (VD M qs.sum qs qs.length qs.length) ((wO (keyS M qs.sum qs) qs.length).take k)).map nt ++ []) (0 + gt (wO (keyS M qs.sum qs) qs.length) k * 1) [nt (gt (incL (VD M qs.sum qs qs.length qs.length) ((wO (keyS M qs.sum qs) qs.length).take k)) (gt (wO (keyS M qs.sum qs) qs.length) k) + 1)])) 3 (0, 0)), (b5, .cells (List.toArray [it 0]) 51 (0, 0)), (b74, .cells (List.toArray (((wO (keyS M qs.sum qs) qs.length)).map nt ++ [])) 3 (0, 0))] : Hp) = _; rw [vi _ _ _ _ (by rw [zas, Zs]; exact hoi), ← J7 (by rw [xy]; omega)]) (g [[1,4,5,9,83,84,85]] ?_);refine WL.yd (Yd.addN rfl rfl (by (try dsimp only); omega)) rfl (g [[2]] ?_);exact WP.again (k + 1) (by omega) (by omega) (fun a w h => y4 h ⟨rfl, rfl, rfl, rfl, rfl, rfl, trivial⟩)
  try simp only [zq] at c86
  refine g [[6]] ?_;obtain rfl : k = (kz M qs.sum qs qs.length) := by omega
  refine WC.freezeN 0 b41 (datN (incL (VD M qs.sum qs qs.length qs.length) ((wO (keyS M qs.sum qs) qs.length).take (kz M qs.sum qs qs.length))) []) rfl rfl hb41 (fun D41 hX41 h41 => ?_)
          
  refine g [[7,4,5,9]] ?_
  refine WP.endD [_, _] [_, _] rfl rfl CaF.h (fun w hI => zn1 _ _) rfl zV (fun w1 hI => ⟨_, D41, rfl, hI.keep, hI.imm, hX0.trans hX41 (Nat.le_refl _), _, _, rfl, by
    have h9 := znN h41;rw [zas, Zs] at h9;rw [show ZZ M qs = (incL (VD M qs.sum qs qs.length qs.length) ((wO (keyS M qs.sum qs) qs.length).take (kz M qs.sum qs qs.length))) by unfold ZZ; rw [if_neg (by omega)]];exact h9⟩)
structure w9 (D : Imm) (x : Wick) (m s : Sl) : Prop where
  mark : SlL D 3 (x.marks.map ub) m.a m.n
  sand : SlL D 2 (x.sand.map ul) s.a s.n
  len : m.n ≤ maxLen ∧ s.n ≤ maxLen
theorem w9.ext {w : World} {D D' : Imm} (hD : DExt w D D') {x : Wick} {m s : Sl} (h : w9 D x m s) : w9 D' x m s := ⟨h.mark.ext hD, h.sand.ext hD, h.len⟩
def begB (s word : Bs) : Bool := decide (word.length ≤ s.length ∧ s.take word.length = word)
def jU : List Bs := [yF, y3, yN, zz, y9, yp, sumS]
def ZV (s : Bs) : Bool := jU.any (begB s)
theorem Xq (n lo hi : Int) (w : World) : z8 Tryz.prog 54 [it n, it lo, it hi] w (.bool (inB n lo hi)) := by
  unfold z8;refine en Tryz.func54 rfl Tryz.ntmps54 zI (g [[1],[5,0,1,2],[5,6,0,1,2]] ?_);refine WL.part 10 rfl (fun g10 => ?_) (fun g10 => ?_)
  · try simp only [zq] at g10
    refine g [[8]] ?_;refine WP.ret1 rfl rfl rfl (RV.tmp rfl) (fun w hI => ⟨zb (by rw [Bool.eq_iff_iff]; simp_all [inB]; try omega), hI.keep⟩)
  try simp only [zq] at g10
  refine g [[8]] ?_;refine WP.ret1 rfl rfl rfl (RV.tmp rfl) (fun w hI => ⟨zb (by rw [Bool.eq_iff_iff]; simp_all [inB]; try omega), hI.keep⟩)
theorem VY (n lo hi : Int) (w : World) : z8 Tryz.prog 113 [it n, it lo, it hi] w (.bool (inB n lo hi)) := by
  unfold z8;refine en Tryz.func113 rfl Tryz.ntmps113 zI (g [[1],[5,0,1,2],[5,6,0,1,2]] ?_);refine WL.part 10 rfl (fun g10 => ?_) (fun g10 => ?_)
  · try simp only [zq] at g10
    refine g [[8]] ?_;refine WP.ret1 rfl rfl rfl (RV.tmp rfl) (fun w hI => ⟨zb (by rw [Bool.eq_iff_iff]; simp_all [inB]; try omega), hI.keep⟩)
  try simp only [zq] at g10
  refine g [[8]] ?_;refine WP.ret1 rfl rfl rfl (RV.tmp rfl) (fun w hI => ⟨zb (by rw [Bool.eq_iff_iff]; simp_all [inB]; try omega), hI.keep⟩)
theorem XT (s : Sp) (w : World) : z8 Tryz.prog 115 [.agg #[it s.lo, it s.hi]] w (.bool (vX s)) := by
  unfold z8;refine en Tryz.func115 rfl Tryz.ntmps115 zI (g [[1],[1,0]] ?_);refine WL.so (SO.box rfl rfl) rfl (zw fun b1 hb1 => ?_);refine g [[4],[5,2,1]] ?_;refine WL.part 6 rfl (fun g6 => ?_) (fun g6 => ?_)
  · try simp only [zq] at g6
    refine g [[7]] ?_;refine WL.part 13 rfl (fun g13 => ?_) (fun g13 => ?_)
    · try simp only [zq] at g13
      refine g [[5]] ?_;refine WL.part 18 rfl (fun g18 => ?_) (fun g18 => ?_)
      · try simp only [zq] at g18
        refine g [[4]] ?_;refine WL.ydg rfl (Yd.sub rfl rfl (wr64 ⟨by first | omega | (simp_all; omega), by first | omega | (simp_all; omega)⟩)) rfl (g [[6]] ?_);refine WP.ret1 rfl rfl rfl (RV.tmp rfl) (fun w hI => ⟨zb (by rw [Bool.eq_iff_iff]; simp_all [vX]; try omega), hI.keep⟩)
      try simp only [zq] at g18
      refine g [[11]] ?_;refine WP.ret1 rfl rfl rfl (RV.tmp rfl) (fun w hI => ⟨zb (by rw [Bool.eq_iff_iff]; simp_all [vX]; try omega), hI.keep⟩)
    try simp only [zq] at g13
    refine g [[16]] ?_;refine WP.ret1 rfl rfl rfl (RV.tmp rfl) (fun w hI => ⟨zb (by rw [Bool.eq_iff_iff]; simp_all [vX]; try omega), hI.keep⟩)
  try simp only [zq] at g6
  refine g [[23]] ?_;refine WP.ret1 rfl rfl rfl (RV.tmp rfl) (fun w hI => ⟨zb (by rw [Bool.eq_iff_iff]; simp_all [vX]; try omega), hI.keep⟩)
theorem zan (T : Tks) (s1 : Value) (n : Int) (w : World) (hh : 1 ≤ T.huts ∧ T.huts ≤ 4) : z8 Tryz.prog 114 [.agg #[it T.huts, s1], it n] w (.bool (hutT T n)) := by
  unfold z8;refine en Tryz.func114 rfl Tryz.ntmps114 zI (g [[1],[1,0,1]] ?_);refine WL.so (SO.box rfl rfl) rfl (zw fun b2 hb2 => ?_);refine g [[4],[5,4,2,1]] ?_;refine WL.cl rfl (fun w hI => VY _ _ _ _) (g [[4]] ?_);refine WP.ret1 rfl rfl rfl (RV.tmp rfl) (fun w hI => ⟨zb rfl, hI.keep⟩)
theorem ji (T : Tks) (a1 : Option Addr) (n1 c1 : Nat) (D : Imm) (w : World) (hR : TksR D T a1 n1) (hH : Holds D w) : z8 Tryz.prog 39 [.agg #[it T.huts, .slice a1 n1 c1]] w (.bool (tksB T)) := by
  unfold z8;obtain rfl := hR.tick.len';have hl1 := hR.len;refine en Tryz.func39 rfl Tryz.ntmps39 (Inv.start hH) (g [[1],[1,0]] ?_);refine WL.so (SO.box rfl rfl) rfl (zw fun b1 hb1 => ?_);refine g [[5],[3,2,1]] ?_;refine WL.cl rfl (fun w hI => VY _ _ _ _) (g [[2]] ?_);refine WL.part 9 rfl (fun g9 => ?_) (fun g9 => ?_)
  · try simp only [zq] at g9
    refine g [[9],[6,2,1]] ?_;refine WP.ret1 rfl rfl rfl (RV.tmp rfl) (fun w hI => ⟨zb ?_, hI.keep⟩)
    first
      | exact Eq.symm ((yv T).2 ⟨hhu, h5u, hd⟩)
      | (symm
         cases hdb : tksB T with
         | false => rfl
         | true =>
           exfalso
           obtain ⟨q1, q2, q3⟩ := (yv T).1 hdb
           first
             | omega
             | (simp_all [inB]; done)
             | (simp_all [inB]; omega)
             | (have q4 := yC (q3 k (by omega)); simp_all))
  try simp only [zq] at g9
  refine g [[7]] ?_;refine WC.cond rfl (fun c14 => ?_) (fun c14 => ?_)
  · try simp only [zq] at c14
    refine g [[1],[6,2,1]] ?_;refine WP.ret1 rfl rfl rfl (RV.tmp rfl) (fun w hI => ⟨zb ?_, hI.keep⟩)
    first
      | exact Eq.symm ((yv T).2 ⟨hhu, h5u, hd⟩)
      | (symm
         cases hdb : tksB T with
         | false => rfl
         | true =>
           exfalso
           obtain ⟨q1, q2, q3⟩ := (yv T).1 hdb
           first
             | omega
             | (simp_all [inB]; done)
             | (simp_all [inB]; omega)
             | (have q4 := yC (q3 k (by omega)); simp_all))
  try simp only [zq] at c14
  have hhu : 1 ≤ T.huts ∧ T.huts ≤ 4 := by first | exact of_decide_eq_true g9 | (simp_all [inB]; done) | (simp_all [inB]; omega)
  have h5u : T.l.length ≤ 5 := by omega
  refine g [[4],[5,2,1]] ?_;refine WC.loopF (fun k : Nat => [(1, pt b1), (3, nt k)]) (fun k => k ≤ T.l.length ∧ ∀ i, i < k → vn T (gt T.l i) = true) (fun k => T.l.length - k) 0 ⟨by omega, by intro i hi; omega⟩ ⟨rfl, rfl, trivial⟩ ?_;intro k ⟨hk, hd⟩;refine g [[2],[8,1,3]] ?_;refine WC.cond rfl (fun c19 => ?_) (fun c19 => ?_)
  · try simp only [zq] at c19
    have hkl : k < T.l.length := by omega
    refine g [[5],[4,1,3]] ?_;refine WL.yd (Yd.indexS UnF.h SzF.h rfl rfl (by (try dsimp only); omega) (by (try dsimp only); omega) (hR.tick.addr k (by omega))) rfl ?_;refine WL.yd (Yd.lV [_, _, _, _, _] rfl ((hR.tick.at k (by omega)).rdn 0 5 rfl)) rfl ?_;refine WL.so (SO.alloc ZvF.h rfl) rfl (zw fun b4 hb4 => ?_);refine g [[4],[4,4,1,3]] ?_;refine WL.cl rfl (fun w hI => zan T _ _ _ hhu) (g [[2]] ?_);refine WL.part 32 rfl (fun g32 => ?_) (fun g32 => ?_)
    · try simp only [zq] at g32
      refine g [[15],[10,1,3]] ?_;refine WP.ret1 rfl rfl rfl (RV.tmp rfl) (fun w hI => ⟨zb ?_, hI.keep⟩);symm;cases hdb : tksB T with
      | false => rfl
      | true =>
        exfalso
        obtain ⟨q1, q2, q3⟩ := (yv T).1 hdb
        (have q4 := yC (q3 k (by omega)); simp_all)
    try simp only [zq] at g32
    refine g [[2]] ?_;refine WL.sog rfl (SO.callP CaF.h rfl (fun w hI => XT ⟨_, _⟩ _)) rfl (zs (g [[3]] ?_));refine WL.part 38 rfl (fun g38 => ?_) (fun g38 => ?_)
    · try simp only [zq] at g38
      refine g [[9],[10,1,3]] ?_;refine WP.ret1 rfl rfl rfl (RV.tmp rfl) (fun w hI => ⟨zb ?_, hI.keep⟩);symm;cases hdb : tksB T with
      | false => rfl
      | true =>
        exfalso
        obtain ⟨q1, q2, q3⟩ := (yv T).1 hdb
        (have q4 := yC (q3 k (by omega)); simp_all)
    try simp only [zq] at g38
    refine g [[2]] ?_;refine WL.sog rfl (SO.callP CaF.h rfl (fun w hI => XT ⟨_, _⟩ _)) rfl (zs (g [[4]] ?_));refine WC.cond rfl (fun c43 => ?_) (fun c43 => ?_)
    · try simp only [zq] at c43
      refine g [[1],[10,1,3]] ?_;refine WP.ret1 rfl rfl rfl (RV.tmp rfl) (fun w hI => ⟨zb ?_, hI.keep⟩);symm;cases hdb : tksB T with
      | false => rfl
      | true =>
        exfalso
        obtain ⟨q1, q2, q3⟩ := (yv T).1 hdb
        (have q4 := yC (q3 k (by omega)); simp_all)
    try simp only [zq] at c43
    refine g [[3],[2,1,3]] ?_;refine WL.yd (Yd.addN rfl rfl (by (try dsimp only); omega)) rfl (g [[2]] ?_);exact WP.againF (k + 1) ⟨by omega, zZ hd (by simp_all [vn])⟩ (by omega) ⟨rfl, rfl, trivial⟩ (fun _ h => by simp at h; simp [h]) (fun h => by simp at h ⊢)
  try simp only [zq] at c19
  obtain rfl : k = T.l.length := by omega
  refine g [[6]] ?_;refine WC.ofFr [] trivial (g [[5]] ?_);refine WP.ret1 rfl rfl rfl (RV.tmp rfl) (fun w hI => ⟨zb ?_, hI.keep⟩);exact Eq.symm ((yv T).2 ⟨hhu, h5u, hd⟩)
theorem JZ (X : Till) (a1 : Option Addr) (n1 c1 : Nat) (D : Imm) (w : World) (hR : TksR D X.tk a1 n1) (hH : Holds D w) : z8 Tryz.prog 13 [.agg #[it X.tk.huts, .slice a1 n1 c1, it X.price, it X.fine, it X.wait]] w (.bool (yx X)) := by
  unfold z8;obtain rfl := hR.tick.len';have hl1 := hR.len;refine en Tryz.func13 rfl Tryz.ntmps13 (Inv.start hH) (g [[1],[1,0]] ?_);refine WL.so (SO.box rfl rfl) rfl (zw fun b1 hb1 => ?_);refine g [[4],[3,2,1]] ?_;refine WL.cl rfl (fun w hI => ji X.tk a1 _ c1 D _ hR hI.imm) (g [[1]] ?_);refine WL.part 6 rfl (fun g6 => ?_) (fun g6 => ?_)
  · refine g [[2]] ?_;refine WL.sog rfl (SO.callP CaF.h rfl (fun w hI => Xq _ _ _ _)) rfl (zs (g [[2]] ?_));refine WL.part 11 rfl (fun g11 => ?_) (fun g11 => ?_)
    · refine g [[2]] ?_;refine WL.sog rfl (SO.callP CaF.h rfl (fun w hI => Xq _ _ _ _)) rfl (zs (g [[2]] ?_));refine WL.part 16 rfl (fun g16 => ?_) (fun g16 => ?_)
      · refine g [[2]] ?_;refine WL.sog rfl (SO.callP CaF.h rfl (fun w hI => Xq _ _ _ _)) rfl (zs (g [[5]] ?_));refine WP.ret1 rfl rfl rfl (RV.tmp rfl) (fun w hI => ⟨zb (by simp_all [yx]), hI.keep⟩)
      refine g [[8]] ?_;refine WP.ret1 rfl rfl rfl (RV.tmp rfl) (fun w hI => ⟨zb (by simp_all [yx]), hI.keep⟩)
    refine g [[13]] ?_;refine WP.ret1 rfl rfl rfl (RV.tmp rfl) (fun w hI => ⟨zb (by simp_all [yx]), hI.keep⟩)
  refine g [[18]] ?_;refine WP.ret1 rfl rfl rfl (RV.tmp rfl) (fun w hI => ⟨zb (by simp_all [yx]), hI.keep⟩)
theorem JU (T : Tks) (a1 : Option Addr) (n1 c1 : Nat) (n : Int) (w : World) (hn : n1 = T.l.length) (hl : n1 ≤ 1000) : z8 Tryz.prog 59 [.agg #[it T.huts, .slice a1 n1 c1], it n] w (.bool (isT T n)) := by
  unfold z8;refine en Tryz.func59 rfl Tryz.ntmps59 zI (g [[1],[1,0,1]] ?_);refine WL.so (SO.box rfl rfl) rfl (zw fun b2 hb2 => ?_);refine g [[4],[6,4,2,1]] ?_;refine WL.cl rfl (fun w hI => VY _ _ _ _) (g [[4]] ?_);refine WP.ret1 rfl rfl rfl (RV.tmp rfl) (fun w hI => ⟨zb (by subst hn; rfl), hI.keep⟩)
theorem QE (X : Till) (a1 : Option Addr) (n1 c1 : Nat) (D : Imm) (w : World) (hR : TksR D X.tk a1 n1) (hH : Holds D w) (l : List Ent) (ab : Option Addr) (nb cb : Nat) (hB : xL D l ab nb) : z8 Tryz.prog 15 [.agg #[it X.tk.huts, .slice a1 n1 c1, it X.price, it X.fine, it X.wait], .slice ab nb cb] w (.bool (l.all (entB X))) := by
  unfold z8;obtain rfl := hR.tick.len';have hl1 := hR.len;obtain rfl := hB.ent.len';have hlb := hB.len;refine en Tryz.func15 rfl Tryz.ntmps15 (Inv.start hH) (g [[1],[1,0,1]] ?_);refine WL.so (SO.box rfl rfl) rfl (zw fun b2 hb2 => ?_);refine g [[5],[5,4,2,1]] ?_;refine WC.loopF (fun k : Nat => [(1, .slice ab l.length cb), (2, pt b2), (5, nt k)]) (fun k => k ≤ l.length ∧ ∀ i, i < k → entB X (gt l i) = true) (fun k => l.length - k) 0 ⟨by omega, by intro i hi; omega⟩ ⟨rfl, rfl, rfl, trivial⟩ ?_;intro k ⟨hk, hd⟩;refine g [[2],[7,1,2,5]] ?_;refine WC.cond rfl (fun c9 => ?_) (fun c9 => ?_)
  · try simp only [zq] at c9
    have hkl : k < l.length := by omega
    refine g [[5],[0,1,2,5],[3012],[4]] ?_;refine WQ.q rfl (Yd.qt (Yd.indexS UnF.h SzF.h rfl rfl (by (try dsimp only); omega) (by (try dsimp only); omega) (hB.ent.addr k (by omega)))) rfl (g [[1]] ?_);refine WQ.q rfl (Yd.qt (Yd.l1 rfl ((hB.ent.at k (by omega)).rd 0 rfl))) rfl (WQ.q rfl (Qt.callP CaF.h rfl (fun w hI => JU X.tk a1 _ c1 _ _ rfl hl1)) rfl (g [[2]] ?_));refine WQ.part 21 rfl (fun g21 => ?_) (fun g21 => ?_)
    · try simp only [zq] at g21
      refine g [[13],[10,1,2,5]] ?_;refine WP.ret1 rfl rfl rfl (RV.tmp rfl) (fun w hI => ⟨zb ?_, hI.keep⟩);symm;rw [List.all_eq_false];exact ⟨gt l k, yE hkl, by unfold entB; simp_all⟩
    try simp only [zq] at g21
    refine g [[3]] ?_;refine WL.ydg rfl (Yd.indexS UnF.h SzF.h rfl rfl (by (try dsimp only); omega) (by (try dsimp only); omega) (hB.ent.addr k (by omega))) rfl (g [[1]] ?_);refine WL.ydg rfl (Yd.l1 rfl ((hB.ent.at k (by omega)).rd 1 rfl)) rfl ?_;refine WL.sog rfl (SO.callP CaF.h rfl (fun w hI => Xq _ _ _ _)) rfl (zs (g [[4]] ?_));refine WC.cond rfl (fun c29 => ?_) (fun c29 => ?_)
    · try simp only [zq] at c29
      have hek : entB X (gt l k) = false := by unfold entB; simp_all
      refine g [[1],[10,1,2,5]] ?_;refine WP.ret1 rfl rfl rfl (RV.tmp rfl) (fun w hI => ⟨zb ?_, hI.keep⟩);symm;rw [List.all_eq_false];exact ⟨gt l k, yE hkl, by unfold entB; simp_all⟩
    try simp only [zq] at c29
    have hek : entB X (gt l k) = true := by unfold entB; simp_all
    refine g [[3],[2,1,2,5]] ?_;refine WL.yd (Yd.addN rfl rfl (by (try dsimp only); omega)) rfl (g [[2]] ?_);exact WP.againF (k + 1) ⟨by omega, zZ hd (by unfold entB; simp_all)⟩ (by omega) ⟨rfl, rfl, rfl, trivial⟩ (fun _ h => h) (fun h => h)
  try simp only [zq] at c9
  obtain rfl : k = l.length := by omega
  refine g [[6]] ?_;refine WC.ofFr [] trivial (g [[5]] ?_);refine WP.ret1 rfl rfl rfl (RV.tmp rfl) (fun w hI => ⟨zb ?_, hI.keep⟩);symm;exact wv.2 hd
theorem X9 (D : Imm) (l : List Ent) (ab : Option Addr) (nb cb : Nat) (hB : xL D l ab nb) (t k : Int) (w : World) (hH : Holds D w) : z8 Tryz.prog 18 [.slice ab nb cb, it t, it k] w (.bool (zM l t k)) := by
  unfold z8;obtain rfl := hB.ent.len';have hlb := hB.len;refine en Tryz.func18 rfl Tryz.ntmps18 (Inv.start hH) (g [[1],[6,0,1,2],[5,6,0,1,2]] ?_);refine WC.loopF (fun j : Nat => [(0, .slice ab l.length cb), (1, it t), (2, it k), (7, nt j)]) (fun j => j ≤ l.length ∧ zM (l.take j) t k = false) (fun j => l.length - j) 0 ⟨by omega, rfl⟩ ⟨rfl, rfl, rfl, rfl, trivial⟩ ?_;intro j ⟨hj, hd⟩;refine g [[2],[7,0,1,2,7]] ?_;refine WC.cond rfl (fun c11 => ?_) (fun c11 => ?_)
  · try simp only [zq] at c11
    have hjl : j < l.length := by omega
    refine g [[5],[3,0,1,2,7]] ?_;refine WL.yd (Yd.indexS UnF.h SzF.h rfl rfl (by (try dsimp only); omega) (by (try dsimp only); omega) (hB.ent.addr j (by omega))) rfl (g [[1]] ?_);refine WL.yd (Yd.l1 rfl ((hB.ent.at j (by omega)).rd 0 rfl)) rfl (g [[3]] ?_);refine WL.part 21 rfl (fun g21 => ?_) (fun g21 => ?_)
    · try simp only [zq] at g21
      refine g [[2]] ?_;refine WL.ydg rfl (Yd.indexS UnF.h SzF.h rfl rfl (by (try dsimp only); omega) (by (try dsimp only); omega) (hB.ent.addr j (by omega))) rfl (g [[1]] ?_);refine WL.ydg rfl (Yd.l1 rfl ((hB.ent.at j (by omega)).rd 1 rfl)) rfl (g [[5]] ?_);refine WC.cond rfl (fun c29 => ?_) (fun c29 => ?_)
      · try simp only [zq] at c29
        refine g [[1],[10,0,1,2,7]] ?_;refine WP.ret1 rfl rfl rfl (RV.tmp rfl) (fun w hI => ⟨zb ?_, hI.keep⟩);symm;unfold zM;exact List.any_eq_true.2 ⟨gt l j, yE hjl, by simp_all⟩
      try simp only [zq] at c29
      refine g [[3],[2,0,1,2,7]] ?_;refine WL.yd (Yd.addN rfl rfl (by (try dsimp only); omega)) rfl (g [[2]] ?_);exact WP.againF (j + 1) ⟨by omega, by rw [vM hjl, hd]; simp_all⟩ (by omega) ⟨rfl, rfl, rfl, rfl, trivial⟩ (fun _ h => h) (fun h => h)
    try simp only [zq] at g21
    refine g [[14],[2,0,1,2,7]] ?_;refine WL.yd (Yd.addN rfl rfl (by (try dsimp only); omega)) rfl (g [[2]] ?_);exact WP.againF (j + 1) ⟨by omega, by rw [vM hjl, hd]; simp_all⟩ (by omega) ⟨rfl, rfl, rfl, rfl, trivial⟩ (fun _ h => h) (fun h => h)
  try simp only [zq] at c11
  obtain rfl : j = l.length := by omega
  refine g [[6]] ?_;refine WC.ofFr [] trivial (g [[5]] ?_);refine WP.ret1 rfl rfl rfl (RV.tmp rfl) (fun w hI => ⟨zb ?_, hI.keep⟩);symm;rw [List.take_length] at hd; exact hd
theorem ZC (n lo hi : Int) (w : World) : z8 Tryz.prog 55 [it n, it lo, it hi] w (.bool (inB n lo hi)) := by
  unfold z8;refine en Tryz.func55 rfl Tryz.ntmps55 zI (g [[1],[5,0,1,2],[5,6,0,1,2]] ?_);refine WL.part 10 rfl (fun g10 => ?_) (fun g10 => ?_)
  · try simp only [zq] at g10
    refine g [[8]] ?_;refine WP.ret1 rfl rfl rfl (RV.tmp rfl) (fun w hI => ⟨zb (by rw [Bool.eq_iff_iff]; simp [inB]; omega), hI.keep⟩)
  try simp only [zq] at g10
  refine g [[8]] ?_;refine WP.ret1 rfl rfl rfl (RV.tmp rfl) (fun w hI => ⟨zb (by rw [Bool.eq_iff_iff]; simp [inB]; omega), hI.keep⟩)
theorem kV (s : Sp) (w : World) : z8 Tryz.prog 56 [.agg #[it s.lo, it s.hi]] w (.bool (zA s)) := by
  unfold z8;refine en Tryz.func56 rfl Tryz.ntmps56 zI (g [[1],[1,0]] ?_);refine WL.so (SO.box rfl rfl) rfl (zw fun b1 hb1 => ?_);refine g [[4],[5,2,1]] ?_;refine WL.part 6 rfl (fun g6 => ?_) (fun g6 => ?_)
  · try simp only [zq] at g6
    refine g [[7]] ?_;refine WL.part 13 rfl (fun g13 => ?_) (fun g13 => ?_)
    · try simp only [zq] at g13
      refine g [[8]] ?_;refine WP.ret1 rfl rfl rfl (RV.tmp rfl) (fun w hI => ⟨zb (by rw [Bool.eq_iff_iff]; simp_all [zA]; try omega), hI.keep⟩)
    try simp only [zq] at g13
    refine g [[8]] ?_;refine WP.ret1 rfl rfl rfl (RV.tmp rfl) (fun w hI => ⟨zb (by rw [Bool.eq_iff_iff]; simp_all [zA]; try omega), hI.keep⟩)
  try simp only [zq] at g6
  refine g [[15]] ?_;refine WP.ret1 rfl rfl rfl (RV.tmp rfl) (fun w hI => ⟨zb (by rw [Bool.eq_iff_iff]; simp_all [zA]; try omega), hI.keep⟩)
section
variable (T : Tide) (a1 a2 a3 : Option Addr) (n1 n2 n3 c1 c2 c3 : Nat) (D : Imm) (w : World) (hR : yo D T a1 n1 a2 n2 a3 n3) (hH : Holds D w)
include T a1 a2 a3 n1 n2 n3 c1 c2 c3 D w hR hH
theorem UB (n : Int) : z8 Tryz.prog 57 [.agg #[.slice a1 n1 c1, .slice a2 n2 c2, .slice a3 n3 c3], it n] w (.bool (yO T n)) := by
  unfold z8;obtain rfl := hR.mark.len';obtain rfl := hR.sand.len';obtain rfl := hR.look.len';obtain ⟨hl1, hl2, hl3⟩ := hR.len;refine en Tryz.func57 rfl Tryz.ntmps57 (Inv.start hH) (g [[1],[1,0,1]] ?_);refine WL.so (SO.box rfl rfl) rfl (zw fun b2 hb2 => ?_);refine g [[4],[6,4,2,1]] ?_;refine WL.cl rfl (fun w hI => ZC _ _ _ _) (g [[4]] ?_);refine WP.ret1 rfl rfl rfl (RV.tmp rfl) (fun w hI => ⟨rfl, hI.keep⟩)
theorem WG (hnm : 2 ≤ T.marks.length) (n : Int) : z8 Tryz.prog 58 [.agg #[.slice a1 n1 c1, .slice a2 n2 c2, .slice a3 n3 c3], it n] w (.bool (zx T n)) := by
  unfold z8;obtain rfl := hR.mark.len';obtain rfl := hR.sand.len';obtain rfl := hR.look.len';obtain ⟨hl1, hl2, hl3⟩ := hR.len
  have hrl : ∀ hp, Rd D hp ⟨sb a1, so a1 + ((T.marks.length : Int) - 1).toNat * 3 + 0, none⟩ (it (wB T)) := fun hp => by
    rw [show ((T.marks.length : Int) - 1).toNat = T.marks.length - 1 by omega]; exact (hR.mark.at (T.marks.length - 1) (by omega)).rd 0 rfl
  refine en Tryz.func58 rfl Tryz.ntmps58 (Inv.start hH) (g [[1],[1,0,1]] ?_);refine WL.so (SO.box rfl rfl) rfl (zw fun b2 hb2 => ?_);refine g [[4],[0,4,2,1],[3020],[5]] ?_;refine WQ.know 9 (.bool true) rfl (congrArg Value.bool (decide_eq_true (by omega))) (g [[3]] ?_);refine WQ.qg rfl rfl (Yd.qt (Yd.ix rfl rfl (hR.mark.addr 0 (by omega)))) rfl (g [[1]] ?_);refine WQ.qg rfl rfl (Yd.qt (Yd.l1 rfl ((hR.mark.at 0 (by omega)).rd 0 rfl))) rfl (g [[6]] ?_);refine WQ.qg rfl rfl (Yd.qt (Yd.ix rfl rfl (hR.mark.addr 0 (by omega)))) rfl (g [[1]] ?_);refine WQ.qg rfl rfl (Yd.qt (Yd.l1 rfl (hrl _))) rfl (g [[1]] ?_);refine WL.sog rfl (SO.callP CaF.h rfl (fun w hI => ZC _ _ _ _)) rfl (zs (g [[5]] ?_));refine WP.ret1 rfl rfl rfl (RV.tmp rfl) (fun w hI => ⟨rfl, hI.keep⟩)
theorem W6 : z8 Tryz.prog 14 [.agg #[.slice a1 n1 c1, .slice a2 n2 c2, .slice a3 n3 c3]] w (.bool (zQ T)) := by
  unfold z8;obtain rfl := hR.mark.len';obtain rfl := hR.sand.len';obtain rfl := hR.look.len';obtain ⟨hl1, hl2, hl3⟩ := hR.len;refine en Tryz.func14 rfl Tryz.ntmps14 (Inv.start hH) (g [[1],[1,0]] ?_);refine WL.so (SO.box rfl rfl) rfl (zw fun b1 hb1 => ?_);refine g [[5],[4,2,1]] ?_;refine WL.cl rfl (fun w hI => ZC _ _ _ _) (g [[2]] ?_);refine WL.part 13 rfl (fun g13 => ?_) (fun g13 => ?_)
  · try simp only [zq] at g13
    refine g [[16],[6,2,1]] ?_;refine WP.ret1 rfl rfl rfl (RV.tmp rfl) (fun w hI => ⟨zb ?_, hI.keep⟩)
    first
      | exact (x9 (by assumption) (by assumption) (by assumption) hmk hsd (fun i hi => hd i (by omega))).symm
      | (symm
         refine yf fun hT => ?_
         first
           | (have h1 := hT.nm; have h2 := hT.ns; have h3 := hT.nl; simp_all [inB]; done)
           | (have h1 := hT.nm; have h2 := hT.ns; have h3 := hT.nl; simp_all [inB]; omega)
           | (have h1 := vS hT (k := k) (by omega); simp_all [y2]; done)
           | (have h1 := vS hT (k := k) (by omega); simp_all [y2]; omega)
           | (have h1 := hT.sand k (by omega); simp_all [y2]; done)
           | (have h1 := hT.sand k (by omega); simp_all [y2]; omega)
           | (have h1 := hT.look k (by omega); simp_all [lookB]; done))
  try simp only [zq] at g13
  refine g [[3]] ?_;refine WL.sog rfl (SO.callP CaF.h rfl (fun w hI => ZC _ _ _ _)) rfl (zs (g [[3]] ?_));refine WL.part 20 rfl (fun g20 => ?_) (fun g20 => ?_)
  · try simp only [zq] at g20
    refine g [[9],[6,2,1]] ?_;refine WP.ret1 rfl rfl rfl (RV.tmp rfl) (fun w hI => ⟨zb ?_, hI.keep⟩)
    first
      | exact (x9 (by assumption) (by assumption) (by assumption) hmk hsd (fun i hi => hd i (by omega))).symm
      | (symm
         refine yf fun hT => ?_
         first
           | (have h1 := hT.nm; have h2 := hT.ns; have h3 := hT.nl; simp_all [inB]; done)
           | (have h1 := hT.nm; have h2 := hT.ns; have h3 := hT.nl; simp_all [inB]; omega)
           | (have h1 := vS hT (k := k) (by omega); simp_all [y2]; done)
           | (have h1 := vS hT (k := k) (by omega); simp_all [y2]; omega)
           | (have h1 := hT.sand k (by omega); simp_all [y2]; done)
           | (have h1 := hT.sand k (by omega); simp_all [y2]; omega)
           | (have h1 := hT.look k (by omega); simp_all [lookB]; done))
  try simp only [zq] at g20
  refine g [[7]] ?_;refine WC.cond rfl (fun c25 => ?_) (fun c25 => ?_)
  · try simp only [zq] at c25
    refine g [[1],[6,2,1]] ?_;refine WP.ret1 rfl rfl rfl (RV.tmp rfl) (fun w hI => ⟨zb ?_, hI.keep⟩)
    first
      | exact (x9 (by assumption) (by assumption) (by assumption) hmk hsd (fun i hi => hd i (by omega))).symm
      | (symm
         refine yf fun hT => ?_
         first
           | (have h1 := hT.nm; have h2 := hT.ns; have h3 := hT.nl; simp_all [inB]; done)
           | (have h1 := hT.nm; have h2 := hT.ns; have h3 := hT.nl; simp_all [inB]; omega)
           | (have h1 := vS hT (k := k) (by omega); simp_all [y2]; done)
           | (have h1 := vS hT (k := k) (by omega); simp_all [y2]; omega)
           | (have h1 := hT.sand k (by omega); simp_all [y2]; done)
           | (have h1 := hT.sand k (by omega); simp_all [y2]; omega)
           | (have h1 := hT.look k (by omega); simp_all [lookB]; done))
  try simp only [zq] at c25
  refine g [[4],[5,2,1]] ?_;refine WC.loopF (fun k : Nat => [(1, pt b1), (3, nt k)]) (fun k => k ≤ T.marks.length ∧ ∀ i, i < k → qW T i = true) (fun k => T.marks.length - k) 0 ⟨by omega, by intro i hi; omega⟩ ⟨rfl, rfl, trivial⟩ ?_;intro k ⟨hk, hd⟩;refine g [[2],[8,1,3]] ?_;refine WC.cond rfl (fun c30 => ?_) (fun c30 => ?_)
  · try simp only [zq] at c30
    have hkl : k < T.marks.length := by omega
    have hrk : 0 < k → ∀ hp, Rd D hp ⟨sb a1, so a1 + ((k : Int) - 1).toNat * 3 + 0, none⟩ (it (gt T.marks (k - 1)).minute) := fun h0 hp => by
      rw [show ((k : Int) - 1).toNat = k - 1 by omega]; exact (hR.mark.at (k - 1) (by omega)).rd 0 rfl
    refine g [[5],[4,1,3]] ?_;refine WL.yd (Yd.indexS UnF.h SzF.h rfl rfl (by first | omega | (have hh := zc.1 (show zA (gt T.marks k).high = true by assumption); omega) | (have hh := zc.1 (show zA (gt T.sand k) = true by assumption); omega) | (have hh := (zl.1 (hd (k - 1) (by omega))).1.1; omega)) (by first | omega | (have hh := zc.1 (show zA (gt T.marks k).high = true by assumption); omega) | (have hh := zc.1 (show zA (gt T.sand k) = true by assumption); omega) | (have hh := (zl.1 (hd (k - 1) (by omega))).1.1; omega)) (hR.mark.addr k (by omega))) rfl ?_;refine WL.yd (Yd.lV [_, _, _] rfl ((hR.mark.at k (by omega)).rdn 0 3 rfl)) rfl ?_;refine WL.so (SO.alloc ZvF.h rfl) rfl (zw fun b4 hb4 => ?_);refine g [[5],[3,4,1,3]] ?_;refine WL.cl rfl (fun w hI => ZC _ _ _ _) (g [[2]] ?_);refine WL.part 42 rfl (fun g42 => ?_) (fun g42 => ?_)
    · try simp only [zq] at g42
      refine g [[19],[11,4,1,3]] ?_;refine WP.ret1 rfl rfl rfl (RV.tmp rfl) (fun w hI => ⟨zb ?_, hI.keep⟩)
      first
        | exact (x9 (by assumption) (by assumption) (by assumption) hmk hsd (fun i hi => hd i (by omega))).symm
        | (symm
           refine yf fun hT => ?_
           first
             | (have h1 := hT.nm; have h2 := hT.ns; have h3 := hT.nl; simp_all [inB]; done)
             | (have h1 := hT.nm; have h2 := hT.ns; have h3 := hT.nl; simp_all [inB]; omega)
             | (have h1 := vS hT (k := k) (by omega); simp_all [y2]; done)
             | (have h1 := vS hT (k := k) (by omega); simp_all [y2]; omega)
             | (have h1 := hT.sand k (by omega); simp_all [y2]; done)
             | (have h1 := hT.sand k (by omega); simp_all [y2]; omega)
             | (have h1 := hT.look k (by omega); simp_all [lookB]; done))
    try simp only [zq] at g42
    refine g [[2]] ?_;refine WL.sog rfl (SO.callP CaF.h rfl (fun w hI => kV ⟨_, _⟩ _)) rfl (zs (g [[3]] ?_));refine WL.part 48 rfl (fun g48 => ?_) (fun g48 => ?_)
    · try simp only [zq] at g48
      refine g [[13],[11,4,1,3]] ?_;refine WP.ret1 rfl rfl rfl (RV.tmp rfl) (fun w hI => ⟨zb ?_, hI.keep⟩)
      first
        | exact (x9 (by assumption) (by assumption) (by assumption) hmk hsd (fun i hi => hd i (by omega))).symm
        | (symm
           refine yf fun hT => ?_
           first
             | (have h1 := hT.nm; have h2 := hT.ns; have h3 := hT.nl; simp_all [inB]; done)
             | (have h1 := hT.nm; have h2 := hT.ns; have h3 := hT.nl; simp_all [inB]; omega)
             | (have h1 := vS hT (k := k) (by omega); simp_all [y2]; done)
             | (have h1 := vS hT (k := k) (by omega); simp_all [y2]; omega)
             | (have h1 := hT.sand k (by omega); simp_all [y2]; done)
             | (have h1 := hT.sand k (by omega); simp_all [y2]; omega)
             | (have h1 := hT.look k (by omega); simp_all [lookB]; done))
    try simp only [zq] at g48
    refine g [[6]] ?_;refine WL.ydg rfl (Yd.sub rfl rfl (wr64 ⟨by first | omega | (have hh := zc.1 (show zA (gt T.marks k).high = true by assumption); omega) | (have hh := zc.1 (show zA (gt T.sand k) = true by assumption); omega) | (have hh := (zl.1 (hd (k - 1) (by omega))).1.1; omega), by first | omega | (have hh := zc.1 (show zA (gt T.marks k).high = true by assumption); omega) | (have hh := zc.1 (show zA (gt T.sand k) = true by assumption); omega) | (have hh := (zl.1 (hd (k - 1) (by omega))).1.1; omega)⟩)) rfl (g [[4]] ?_);refine WC.cond rfl (fun c57 => ?_) (fun c57 => ?_)
    · try simp only [zq] at c57
      refine g [[1],[11,4,1,3]] ?_;refine WP.ret1 rfl rfl rfl (RV.tmp rfl) (fun w hI => ⟨zb ?_, hI.keep⟩)
      first
        | exact (x9 (by assumption) (by assumption) (by assumption) hmk hsd (fun i hi => hd i (by omega))).symm
        | (symm
           refine yf fun hT => ?_
           first
             | (have h1 := hT.nm; have h2 := hT.ns; have h3 := hT.nl; simp_all [inB]; done)
             | (have h1 := hT.nm; have h2 := hT.ns; have h3 := hT.nl; simp_all [inB]; omega)
             | (have h1 := vS hT (k := k) (by omega); simp_all [y2]; done)
             | (have h1 := vS hT (k := k) (by omega); simp_all [y2]; omega)
             | (have h1 := hT.sand k (by omega); simp_all [y2]; done)
             | (have h1 := hT.sand k (by omega); simp_all [y2]; omega)
             | (have h1 := hT.look k (by omega); simp_all [lookB]; done))
    try simp only [zq] at c57
    refine g [[3],[0,4,1,3],[3013],[3]] ?_;refine WQ.part 60 rfl (fun g60 => ?_) (fun g60 => ?_)
    · try simp only [zq] at g60
      refine g [[5]] ?_;refine WQ.qg rfl rfl (Yd.qt (Yd.sub rfl rfl (wr64 ⟨by first | omega | (have hh := zc.1 (show zA (gt T.marks k).high = true by assumption); omega) | (have hh := zc.1 (show zA (gt T.sand k) = true by assumption); omega) | (have hh := (zl.1 (hd (k - 1) (by omega))).1.1; omega), by first | omega | (have hh := zc.1 (show zA (gt T.marks k).high = true by assumption); omega) | (have hh := zc.1 (show zA (gt T.sand k) = true by assumption); omega) | (have hh := (zl.1 (hd (k - 1) (by omega))).1.1; omega)⟩))) rfl ?_;refine WQ.qg rfl rfl (Yd.qt (Yd.indexS UnF.h SzF.h rfl rfl (by first | omega | (have hh := zc.1 (show zA (gt T.marks k).high = true by assumption); omega) | (have hh := zc.1 (show zA (gt T.sand k) = true by assumption); omega) | (have hh := (zl.1 (hd (k - 1) (by omega))).1.1; omega)) (by first | omega | (have hh := zc.1 (show zA (gt T.marks k).high = true by assumption); omega) | (have hh := zc.1 (show zA (gt T.sand k) = true by assumption); omega) | (have hh := (zl.1 (hd (k - 1) (by omega))).1.1; omega)) (hR.mark.addr k (by omega)))) rfl (g [[1]] ?_);refine WQ.qg rfl rfl (Yd.qt (Yd.l1 rfl (hrk (by omega) _))) rfl ?_;refine WQ.qg rfl rfl (Yd.qt (Yd.add rfl rfl (wr64 ⟨by first | omega | (have hh := zc.1 (show zA (gt T.marks k).high = true by assumption); omega) | (have hh := zc.1 (show zA (gt T.sand k) = true by assumption); omega) | (have hh := (zl.1 (hd (k - 1) (by omega))).1.1; omega), by first | omega | (have hh := zc.1 (show zA (gt T.marks k).high = true by assumption); omega) | (have hh := zc.1 (show zA (gt T.sand k) = true by assumption); omega) | (have hh := (zl.1 (hd (k - 1) (by omega))).1.1; omega)⟩))) rfl (g [[5]] ?_);refine WC.cond rfl (fun c72 => ?_) (fun c72 => ?_)
      · try simp only [zq] at c72
        refine g [[1],[10,1,3]] ?_;refine WP.ret1 rfl rfl rfl (RV.tmp rfl) (fun w hI => ⟨zb ?_, hI.keep⟩)
        first
          | exact (x9 (by assumption) (by assumption) (by assumption) hmk hsd (fun i hi => hd i (by omega))).symm
          | (symm
             refine yf fun hT => ?_
             first
               | (have h1 := hT.nm; have h2 := hT.ns; have h3 := hT.nl; simp_all [inB]; done)
               | (have h1 := hT.nm; have h2 := hT.ns; have h3 := hT.nl; simp_all [inB]; omega)
               | (have h1 := vS hT (k := k) (by omega); simp_all [y2]; done)
               | (have h1 := vS hT (k := k) (by omega); simp_all [y2]; omega)
               | (have h1 := hT.sand k (by omega); simp_all [y2]; done)
               | (have h1 := hT.sand k (by omega); simp_all [y2]; omega)
               | (have h1 := hT.look k (by omega); simp_all [lookB]; done))
      try simp only [zq] at c72
      refine g [[3],[2,1,3]] ?_;refine WL.yd (Yd.add rfl rfl (wr64 ⟨by first | omega | (have hh := zc.1 (show zA (gt T.marks k).high = true by assumption); omega) | (have hh := zc.1 (show zA (gt T.sand k) = true by assumption); omega) | (have hh := (zl.1 (hd (k - 1) (by omega))).1.1; omega), by first | omega | (have hh := zc.1 (show zA (gt T.marks k).high = true by assumption); omega) | (have hh := zc.1 (show zA (gt T.sand k) = true by assumption); omega) | (have hh := (zl.1 (hd (k - 1) (by omega))).1.1; omega)⟩)) rfl (g [[2]] ?_);exact WP.againF (k + 1) ⟨by omega, zZ hd (kE (by simp_all) (by simp_all [y2]) (by first | (left; omega) | (right; omega)))⟩ (by omega) ⟨rfl, rfl, trivial⟩ zU1 zU2
    try simp only [zq] at g60
    refine g [[19],[2,1,3]] ?_;refine WL.yd (Yd.add rfl rfl (wr64 ⟨by first | omega | (have hh := zc.1 (show zA (gt T.marks k).high = true by assumption); omega) | (have hh := zc.1 (show zA (gt T.sand k) = true by assumption); omega) | (have hh := (zl.1 (hd (k - 1) (by omega))).1.1; omega), by first | omega | (have hh := zc.1 (show zA (gt T.marks k).high = true by assumption); omega) | (have hh := zc.1 (show zA (gt T.sand k) = true by assumption); omega) | (have hh := (zl.1 (hd (k - 1) (by omega))).1.1; omega)⟩)) rfl (g [[2]] ?_);exact WP.againF (k + 1) ⟨by omega, zZ hd (kE (by simp_all) (by simp_all [y2]) (by first | (left; omega) | (right; omega)))⟩ (by omega) ⟨rfl, rfl, trivial⟩ zU1 zU2
  try simp only [zq] at c30
  refine g [[7],[5,1]] ?_;have hmk : ∀ i, i < T.marks.length → qW T i = true := fun i hi => hd i (by omega);clear hd hk c30 k;refine WC.loopF (fun k : Nat => [(1, pt b1), (5, nt k)]) (fun k => k ≤ T.sand.length ∧ ∀ i, i < k → y2 (gt T.sand i) = true) (fun k => T.sand.length - k) 0 ⟨by omega, by intro i hi; omega⟩ ⟨rfl, rfl, trivial⟩ ?_;intro k ⟨hk, hd⟩;refine g [[2],[8,1,5]] ?_;refine WC.cond rfl (fun c77 => ?_) (fun c77 => ?_)
  · try simp only [zq] at c77
    have hkl : k < T.sand.length := by omega
    refine g [[5],[0,1,5],[3020],[3]] ?_;refine WQ.q rfl (Yd.qt (Yd.indexS UnF.h SzF.h rfl rfl (by first | omega | (have hh := zc.1 (show zA (gt T.marks k).high = true by assumption); omega) | (have hh := zc.1 (show zA (gt T.sand k) = true by assumption); omega) | (have hh := (zl.1 (hd (k - 1) (by omega))).1.1; omega)) (by first | omega | (have hh := zc.1 (show zA (gt T.marks k).high = true by assumption); omega) | (have hh := zc.1 (show zA (gt T.sand k) = true by assumption); omega) | (have hh := (zl.1 (hd (k - 1) (by omega))).1.1; omega)) (hR.sand.addr k (by omega)))) rfl ?_;refine WQ.q rfl (Yd.qt (Yd.lV [_, _] rfl ((hR.sand.at k (by omega)).rdn 0 2 rfl))) rfl (WQ.q rfl (Qt.callP CaF.h rfl (fun w hI => kV ⟨_, _⟩ _)) rfl (g [[2]] ?_));refine WQ.part 87 rfl (fun g87 => ?_) (fun g87 => ?_)
    · try simp only [zq] at g87
      refine g [[20],[10,1,5]] ?_;refine WP.ret1 rfl rfl rfl (RV.tmp rfl) (fun w hI => ⟨zb ?_, hI.keep⟩)
      first
        | exact (x9 (by assumption) (by assumption) (by assumption) hmk hsd (fun i hi => hd i (by omega))).symm
        | (symm
           refine yf fun hT => ?_
           first
             | (have h1 := hT.nm; have h2 := hT.ns; have h3 := hT.nl; simp_all [inB]; done)
             | (have h1 := hT.nm; have h2 := hT.ns; have h3 := hT.nl; simp_all [inB]; omega)
             | (have h1 := vS hT (k := k) (by omega); simp_all [y2]; done)
             | (have h1 := vS hT (k := k) (by omega); simp_all [y2]; omega)
             | (have h1 := hT.sand k (by omega); simp_all [y2]; done)
             | (have h1 := hT.sand k (by omega); simp_all [y2]; omega)
             | (have h1 := hT.look k (by omega); simp_all [lookB]; done))
    try simp only [zq] at g87
    refine g [[3]] ?_;refine WQ.qg rfl rfl (Yd.qt (Yd.indexS UnF.h SzF.h rfl rfl (by first | omega | (have hh := zc.1 (show zA (gt T.marks k).high = true by assumption); omega) | (have hh := zc.1 (show zA (gt T.sand k) = true by assumption); omega) | (have hh := (zl.1 (hd (k - 1) (by omega))).1.1; omega)) (by first | omega | (have hh := zc.1 (show zA (gt T.marks k).high = true by assumption); omega) | (have hh := zc.1 (show zA (gt T.sand k) = true by assumption); omega) | (have hh := (zl.1 (hd (k - 1) (by omega))).1.1; omega)) (hR.sand.addr k (by omega)))) rfl (g [[1]] ?_);refine WQ.qg rfl rfl (Yd.qt (Yd.l1 rfl ((hR.sand.at k (by omega)).rd 1 rfl))) rfl (g [[3]] ?_);refine WQ.qg rfl rfl (Yd.qt (Yd.indexS UnF.h SzF.h rfl rfl (by first | omega | (have hh := zc.1 (show zA (gt T.marks k).high = true by assumption); omega) | (have hh := zc.1 (show zA (gt T.sand k) = true by assumption); omega) | (have hh := (zl.1 (hd (k - 1) (by omega))).1.1; omega)) (by first | omega | (have hh := zc.1 (show zA (gt T.marks k).high = true by assumption); omega) | (have hh := zc.1 (show zA (gt T.sand k) = true by assumption); omega) | (have hh := (zl.1 (hd (k - 1) (by omega))).1.1; omega)) (hR.sand.addr k (by omega)))) rfl (g [[1]] ?_);refine WQ.qg rfl rfl (Yd.qt (Yd.l1 rfl ((hR.sand.at k (by omega)).rd 0 rfl))) rfl (g [[1]] ?_);refine WL.ydg rfl (Yd.sub rfl rfl (wr64 ⟨by first | omega | (have hh := zc.1 (show zA (gt T.marks k).high = true by assumption); omega) | (have hh := zc.1 (show zA (gt T.sand k) = true by assumption); omega) | (have hh := (zl.1 (hd (k - 1) (by omega))).1.1; omega), by first | omega | (have hh := zc.1 (show zA (gt T.marks k).high = true by assumption); omega) | (have hh := zc.1 (show zA (gt T.sand k) = true by assumption); omega) | (have hh := (zl.1 (hd (k - 1) (by omega))).1.1; omega)⟩)) rfl (g [[4]] ?_);refine WC.cond rfl (fun c102 => ?_) (fun c102 => ?_)
    · try simp only [zq] at c102
      refine g [[1],[10,1,5]] ?_;refine WP.ret1 rfl rfl rfl (RV.tmp rfl) (fun w hI => ⟨zb ?_, hI.keep⟩)
      first
        | exact (x9 (by assumption) (by assumption) (by assumption) hmk hsd (fun i hi => hd i (by omega))).symm
        | (symm
           refine yf fun hT => ?_
           first
             | (have h1 := hT.nm; have h2 := hT.ns; have h3 := hT.nl; simp_all [inB]; done)
             | (have h1 := hT.nm; have h2 := hT.ns; have h3 := hT.nl; simp_all [inB]; omega)
             | (have h1 := vS hT (k := k) (by omega); simp_all [y2]; done)
             | (have h1 := vS hT (k := k) (by omega); simp_all [y2]; omega)
             | (have h1 := hT.sand k (by omega); simp_all [y2]; done)
             | (have h1 := hT.sand k (by omega); simp_all [y2]; omega)
             | (have h1 := hT.look k (by omega); simp_all [lookB]; done))
    try simp only [zq] at c102
    refine g [[3],[2,1,5]] ?_;refine WL.yd (Yd.add rfl rfl (wr64 ⟨by first | omega | (have hh := zc.1 (show zA (gt T.marks k).high = true by assumption); omega) | (have hh := zc.1 (show zA (gt T.sand k) = true by assumption); omega) | (have hh := (zl.1 (hd (k - 1) (by omega))).1.1; omega), by first | omega | (have hh := zc.1 (show zA (gt T.marks k).high = true by assumption); omega) | (have hh := zc.1 (show zA (gt T.sand k) = true by assumption); omega) | (have hh := (zl.1 (hd (k - 1) (by omega))).1.1; omega)⟩)) rfl (g [[2]] ?_);exact WP.againF (k + 1) ⟨by omega, zZ hd (by simp_all [y2])⟩ (by omega) ⟨rfl, rfl, trivial⟩ zU1 zU2
  try simp only [zq] at c77
  refine g [[7],[5,1]] ?_;have hsd : ∀ i, i < T.sand.length → y2 (gt T.sand i) = true := fun i hi => hd i (by omega);clear hd hk c77 k;refine WC.loopF (fun k : Nat => [(1, pt b1), (6, nt k)]) (fun k => k ≤ T.looks.length ∧ ∀ i, i < k → lookB T (gt T.looks i) = true) (fun k => T.looks.length - k) 0 ⟨by omega, by intro i hi; omega⟩ ⟨rfl, rfl, trivial⟩ ?_;intro k ⟨hk, hd⟩;refine g [[2],[8,1,6]] ?_;refine WC.cond rfl (fun c107 => ?_) (fun c107 => ?_)
  · try simp only [zq] at c107
    have hkl : k < T.looks.length := by omega
    refine g [[5],[4,1,6]] ?_;refine WL.yd (Yd.indexS UnF.h SzF.h rfl rfl (by first | omega | (have hh := zc.1 (show zA (gt T.marks k).high = true by assumption); omega) | (have hh := zc.1 (show zA (gt T.sand k) = true by assumption); omega) | (have hh := (zl.1 (hd (k - 1) (by omega))).1.1; omega)) (by first | omega | (have hh := zc.1 (show zA (gt T.marks k).high = true by assumption); omega) | (have hh := zc.1 (show zA (gt T.sand k) = true by assumption); omega) | (have hh := (zl.1 (hd (k - 1) (by omega))).1.1; omega)) (hR.look.addr k (by omega))) rfl ?_;refine WL.yd (Yd.lV [_, _, _, _] rfl ((hR.look.at k (by omega)).rdn 0 4 rfl)) rfl ?_;refine WL.so (SO.alloc ZvF.h rfl) rfl (zw fun b7 hb7 => ?_);refine g [[4],[4,7,1,6]] ?_;refine WL.cl rfl (fun w hI => UB T a1 a2 a3 _ _ _ c1 c2 c3 D _ hR hI.imm _) (g [[2]] ?_);refine WL.part 120 rfl (fun g120 => ?_) (fun g120 => ?_)
    · try simp only [zq] at g120
      refine g [[16],[10,1,6]] ?_;refine WP.ret1 rfl rfl rfl (RV.tmp rfl) (fun w hI => ⟨zb ?_, hI.keep⟩);symm;refine yf fun hT => ?_
      (have h1 := hT.look k (by omega); simp_all [lookB]; done)
    try simp only [zq] at g120
    refine g [[3]] ?_;refine WL.sog rfl (SO.callP CaF.h rfl (fun w hI => WG T a1 a2 a3 _ _ _ c1 c2 c3 D _ hR hI.imm (by simp_all [inB]; omega) _)) rfl (zs (g [[3]] ?_));refine WL.part 127 rfl (fun g127 => ?_) (fun g127 => ?_)
    · try simp only [zq] at g127
      refine g [[9],[10,1,6]] ?_;refine WP.ret1 rfl rfl rfl (RV.tmp rfl) (fun w hI => ⟨zb ?_, hI.keep⟩);symm;refine yf fun hT => ?_
      (have h1 := hT.look k (by omega); simp_all [lookB]; done)
    try simp only [zq] at g127
    refine g [[2]] ?_;refine WL.sog rfl (SO.callP CaF.h rfl (fun w hI => kV ⟨_, _⟩ _)) rfl (zs (g [[4]] ?_));refine WC.cond rfl (fun c132 => ?_) (fun c132 => ?_)
    · try simp only [zq] at c132
      refine g [[1],[10,1,6]] ?_;refine WP.ret1 rfl rfl rfl (RV.tmp rfl) (fun w hI => ⟨zb ?_, hI.keep⟩);symm;refine yf fun hT => ?_
      (have h1 := hT.look k (by omega); simp_all [lookB]; done)
    try simp only [zq] at c132
    refine g [[3],[2,1,6]] ?_;refine WL.yd (Yd.add rfl rfl (wr64 ⟨by first | omega | (have hh := zc.1 (show zA (gt T.marks k).high = true by assumption); omega) | (have hh := zc.1 (show zA (gt T.sand k) = true by assumption); omega) | (have hh := (zl.1 (hd (k - 1) (by omega))).1.1; omega), by first | omega | (have hh := zc.1 (show zA (gt T.marks k).high = true by assumption); omega) | (have hh := zc.1 (show zA (gt T.sand k) = true by assumption); omega) | (have hh := (zl.1 (hd (k - 1) (by omega))).1.1; omega)⟩)) rfl (g [[2]] ?_);exact WP.againF (k + 1) ⟨by omega, zZ hd (by simp_all [lookB])⟩ (by omega) ⟨rfl, rfl, trivial⟩ zU1 zU2
  try simp only [zq] at c107
  refine g [[6]] ?_;refine WC.ofFr [] trivial (g [[5]] ?_);refine WP.ret1 rfl rfl rfl (RV.tmp rfl) (fun w hI => ⟨zb ?_, hI.keep⟩);exact (x9 (by assumption) (by assumption) (by assumption) hmk hsd (fun i hi => hd i (by omega))).symm
end
theorem Uz {w : World} {o : Option Ow} {n m : Nat} (h : owP w o n m) : n ≤ owCp o n := by
  cases o with
  | none => have h0 : n = 0 := h
            rw [h0]; exact Nat.zero_le _
  | some u => exact h.2.1
theorem wm (x : Wick) (d : Day) (m s t l b : Sl) (xb : Nat) (D : Imm) (w : World) (hd : DayR D d t l b) (hH : Holds D w) (hxn : D xb = none) (hx : w.heap[xb]? = some (womO x m s t l b)) : y6 Tryz.prog 22 [pt xb] w D (fun v D' => ∃ t2 l2 b2, v = .agg #[t2.v, l2.v, b2.v] ∧ DayR D' d t2 l2 b2 ∧ fitS t2 ∧ fitS l2 ∧ fitS b2) := by
  have htn : t.n = d.tks.length := hd.tks.len';have hln : l.n = d.looks.length := hd.looks.len';have hbn : b.n = d.book.length := hd.book.len';have hlen := hd.len;refine (zdr x d m s t l b xb D w w (Nat.le_refl _) hd hH hxn hx).mono fun e w' ⟨v, D', hpc', he, hX, hI, hD, o1, o2, o3, hv, h1, h2, h3, ⟨x1, x2, x3⟩, hh⟩ => ?_;subst hD; subst hh; subst hv;unfold dayH at hI;rw [← Uy, ← List.nil_append (owH o1 _ _ _)] at hI;obtain ⟨D2, hX2, hS2, hI2⟩ := Inv.freezeOw yn [] _ o1 _ d.tks h1 hI;rw [← Uy] at hI2;obtain ⟨D3, hX3, hS3, hI3⟩ := Inv.freezeOw yw [] _ o2 _ d.looks h2 hI2;rw [List.nil_append, ← List.nil_append (owH o3 _ _ _)] at hI3;obtain ⟨D4, hX4, hS4, hI4⟩ := Inv.freezeOw xm [] _ o3 _ d.book h3 hI3;refine ⟨_, D4, he, hI4.keep, hI4.imm, (hX2.trans hX3 (Nat.le_refl _)).trans hX4 (Nat.le_refl _), ⟨owAt o1, d.tks.length, owCp o1 d.tks.length⟩, ⟨owAt o2, d.looks.length, owCp o2 d.looks.length⟩, ⟨owAt o3, d.book.length, owCp o3 d.book.length⟩, ?_, ⟨(hS2.ext hX3).ext hX4, hS3.ext hX4, hS4, ⟨by dsimp only; omega, by dsimp only; omega, by dsimp only; omega⟩, Uz h1, Uz h2, Uz h3⟩, VL x1, VL x2, VL x3⟩;unfold dayO;rw [xg (wt h1), xg (wt h2), xg (wt h3)]; rfl
theorem UG (s : Bs) : repL s [] = s := by simp [repL]
theorem zcP (s : Bs) {ns : List Int} {k : Nat} (hk : k < ns.length) : repL s (ns.take (k + 1)) = repL s (ns.take k) ++ ([32] ++ Lib.itoa (gt ns k)) := by
  rw [zP hk, zb6]; rfl
theorem UE (s : Bs) : ∀ ns : List Int, (∀ n ∈ ns, i64B n) → (repL s ns).length ≤ s.length + 31 * ns.length
  | [], _ => by rw [UG]; exact Nat.le_refl _
  | n :: ns, h => by
    have h1 := UE s ns fun m hm => h m (List.mem_cons_of_mem _ hm);have h2 := uE (h n List.mem_cons_self);unfold repL at h1 ⊢;simp only [List.flatMap_cons, List.length_append, List.length_cons] at h1 ⊢;omega
theorem zb8 (s : Bs) {ns : List Int} (h : ∀ n ∈ ns, i64B n) (k : Nat) : (repL s (ns.take k)).length ≤ s.length + 31 * ns.length := by
  have h1 := UE s (ns.take k) fun m hm => h m (List.mem_of_mem_take hm);rw [List.length_take] at h1;omega
end Go.Proofs.YtejgofaeafphjaaGreatDoor
namespace Go.Ti
open Go.W
section
variable (d : Day) (s : Bs) (r : List Int)
include d s r
theorem qA (e : Int) : (askD d s r e).2.2 = e := by
  unfold askD errD; split
  · rfl
  · rename_i h; exact (Decidable.not_not.1 h).symm
theorem wR {e : Int} (h : e = 0) : askD d s r e = (d, repL s r, 0) := by
  unfold askD; rw [if_neg (fun k => k h)]
theorem vK {e : Int} (h : e ≠ 0) : askD d s r e = (d, [], e) := by
  unfold askD; rw [if_pos h]; rfl
end
end Go.Ti
namespace Go.Proofs.YtejgofaeafphjaaGreatDoor
open Go.W Go.Ti
theorem yZ {n : Int} (h : numK n) : i64B n := ⟨by have := h.1; omega, by have := h.2; omega⟩
theorem zmY {ns : List Int} (h : ∀ n ∈ ns, numK n) : ∀ n ∈ ns, i64B n := fun n hn => yZ (h n hn)
theorem jx {s : Bs} {ns : List Int} (h : ∀ n ∈ ns, i64B n) (hs : s.length ≤ 1000) (hn : ns.length ≤ 100) : (repL s ns).length ≤ 2 ^ 20 := by
  have := UE s ns h;omega
theorem zlB {α : Type} [DecidableEq α] (a : α) : decide (a ≠ a) = false := decide_eq_false fun h => h rfl
theorem wJ {a b : Day} (h : a = b) : (!UJ a b) = false := by rw [x6.2 h]; rfl
theorem vx {a n : Int} (hn : 0 < n) (hn2 : n ≤ 1000) : numK (a % n) := ⟨Int.emod_nonneg _ (by omega), by have := Int.emod_lt_of_pos a hn; omega⟩
end Go.Proofs.YtejgofaeafphjaaGreatDoor
namespace Go.Ti
open Go.W
structure zmw (w : Wick) (L W : List Bs) (d : Day) : Prop where
  len : W.length = L.length
  last : y0 w day0 L = d
  each : ∀ i, i < L.length → (zC w (y0 w day0 (L.take i)) (gt L i)).2 = (gt W i, 0)
theorem zny (w : Wick) : zmw w [] [] day0 := ⟨rfl, rfl, fun _ h => absurd h (Nat.not_lt_zero _)⟩
theorem zmE {w : Wick} {L W : List Bs} {d d' : Day} {s r : Bs} (h : zmw w L W d) (hl : zC w d s = (d', r, 0)) : zmw w (L ++ [s]) (W ++ [r]) d' := by
  refine ⟨by simp [h.len], by rw [ZM, h.last]; show (zC w d s).1 = d'; rw [hl], fun i hi => ?_⟩;rcases Nat.lt_or_ge i L.length with h1 | h1
  · rw [List.take_append_of_le_length (Nat.le_of_lt h1), YA h1, YA (by rw [h.len]; exact h1)];exact h.each i h1
  · have h2 : i = L.length := by simp at hi; omega
    subst h2;rw [List.take_append_of_le_length (Nat.le_refl _), List.take_length, h.last];have e1 : gt (L ++ [s]) L.length = s := by simp [gt, List.getD]
    have e2 : gt (W ++ [r]) L.length = r := by rw [← h.len]; simp [gt, List.getD]
    rw [e1, e2, hl]
def zmn (X : Till) (T : Tide) : Wick := ⟨X.tk.huts, X.price, X.fine, X.wait, T.marks, T.sand⟩
theorem znF {T : Tks} (h : tksB T = true) : tksB ⟨T.huts, []⟩ = true := by
  have := (yv T).1 h;exact (yv _).2 ⟨this.1, Nat.zero_le _, fun i hi => absurd hi (Nat.not_lt_zero _)⟩
theorem zmL {T : Tide} (h : zQ T = true) : zQ ⟨T.marks, T.sand, []⟩ = true := by
  have := yK.1 h;exact yK.2 ⟨this.nm, this.ns, Nat.zero_le _, this.mark, this.apart, this.sand, fun i hi => absurd hi (Nat.not_lt_zero _)⟩
theorem znn {X : Till} {T : Tide} (hX : yx X = true) (hT : zQ T = true) : zS (zmn X T) = true := by
  have h := hX;simp only [yx, Bool.and_eq_true] at h;simp only [zS, yx, Bool.and_eq_true];exact ⟨⟨⟨⟨znF h.1.1.1, h.1.1.2⟩, h.1.2⟩, h.2⟩, zmL hT⟩
theorem znl {T : Tks} (h : tksB T = true) (k : Nat) : tksB ⟨T.huts, T.l.take k⟩ = true := by
  have := (yv T).1 h;refine (yv _).2 ⟨this.1, ?_, fun i hi => ?_⟩
  · simp only [List.length_take]; have := this.2.1; omega
  · simp only [List.length_take] at hi
    show vn ⟨T.huts, T.l.take k⟩ (gt (T.l.take k) i) = true;rw [J3 (by omega)];exact this.2.2 i (by omega)
theorem zn8 {T : Tide} (h : zQ T = true) (k : Nat) : zQ ⟨T.marks, T.sand, T.looks.take k⟩ = true := by
  have := yK.1 h;refine yK.2 ⟨this.nm, this.ns, ?_, this.mark, this.apart, this.sand, fun i hi => ?_⟩
  · show (T.looks.take k).length ≤ 6;simp only [List.length_take]; have := this.nl; omega
  · have hi' : i < (T.looks.take k).length := hi;simp only [List.length_take] at hi'
    show lookB ⟨T.marks, T.sand, T.looks.take k⟩ (gt (T.looks.take k) i) = true;rw [J3 (by omega)];exact this.look i (by omega)
section
variable {X : Till} {T : Tide} (hX : yx X = true) (hT : zQ T = true) {L W : List Bs} {k : Nat}
include X T hX hT L W k
theorem zmU (hk : k < X.tk.l.length) (h : zmw (zmn X T) L W ⟨X.tk.l.take k, [], []⟩) :
    zmw (zmn X T) (L ++ [repL zo [(gt X.tk.l k).bought.lo, (gt X.tk.l k).bought.hi, (gt X.tk.l k).hut, (gt X.tk.l k).door.lo, (gt X.tk.l k).door.hi]]) (W ++ [repL zo [(k : Int)]]) ⟨X.tk.l.take (k + 1), [], []⟩ := by
  have hk0 : tksB X.tk = true := by
    simp only [yx, Bool.and_eq_true] at hX; exact hX.1.1.1
  have hn := y8 hk0;have hx := hn.2.2 k hk;have h1 := hn.1;refine zmE h ?_;rw [vR _ _ ⟨hx.2.1.1, by omega⟩ ⟨by omega, by omega⟩ ⟨hx.1.1, by omega⟩ ⟨hx.2.2.1, by omega⟩ ⟨by omega, by omega⟩];have hd : zT (zmn X T) ⟨X.tk.l.take k, [], []⟩ := ⟨znl hk0 k, zmL hT, fun i hi => absurd hi (Nat.not_lt_zero _), fun i hi => absurd hi (Nat.not_lt_zero _), fun i hi => absurd hi (Nat.not_lt_zero _)⟩;have hlen : (X.tk.l.take k).length = k := by simp only [List.length_take]; omega
  rw [YU hd, if_neg (by show ¬ (X.tk.l.take k).length = 5; have := hn.2.1; omega), if_neg (by
    show ¬ vn _ (gt X.tk.l k) = false;rw [show vn (tksW (zmn X T) ⟨X.tk.l.take k, [], []⟩) (gt X.tk.l k) = vn X.tk (gt X.tk.l k) from rfl, ((yv X.tk).1 hk0).2.2 k hk]; simp)]
  rw [zP hk];simp only [hlen]
theorem znh (hk : k < T.looks.length) (h : zmw (zmn X T) L W ⟨X.tk.l, T.looks.take k, []⟩) :
    zmw (zmn X T) (L ++ [repL yk [(gt T.looks k).place, (gt T.looks k).minute, (gt T.looks k).depth.lo, (gt T.looks k).depth.hi]]) (W ++ [repL yk [(k : Int)]]) ⟨X.tk.l, T.looks.take (k + 1), []⟩ := by
  have hk0 : tksB X.tk = true := by
    simp only [yx, Bool.and_eq_true] at hX; exact hX.1.1.1
  have hO := yK.1 hT;have hl := hO.look k hk;have hx := kC.1 hl;have hm := hx.2.1;have hm0 : 0 ≤ jI T ∧ wB T ≤ 240 := ⟨(hO.mark 0 (by have := hO.nm; omega)).1.1, (hO.mark (T.marks.length - 1) (by have := hO.nm; omega)).1.2⟩;have hs := hO.ns;have h3 := hx.2.2;simp only [zx, zA, decide_eq_true_eq] at hm h3;refine zmE h ?_;rw [qR _ _ ⟨hx.1.1, by omega⟩ ⟨by omega, by omega⟩ ⟨h3.1, by omega⟩ ⟨by omega, by omega⟩];have hd : zT (zmn X T) ⟨X.tk.l, T.looks.take k, []⟩ := ⟨hk0, zn8 hT k, fun i hi => absurd hi (Nat.not_lt_zero _), fun i hi => absurd hi (Nat.not_lt_zero _), fun i hi => absurd hi (Nat.not_lt_zero _)⟩;have hlen : (T.looks.take k).length = k := by simp only [List.length_take]; omega
  rw [YJ hd, if_neg (by show ¬ (T.looks.take k).length = 6; have := hO.nl; omega), if_neg (by
    show ¬ lookB _ (gt T.looks k) = false;rw [show lookB (zE (zmn X T) ⟨X.tk.l, T.looks.take k, []⟩) (gt T.looks k) = lookB T (gt T.looks k) from rfl, hl]; simp)]
  rw [zP hk];simp only [hlen]
end
def fixE (X : Till) (x : Ent) : Ent := ⟨x.ticket, x.kind, if x.kind = 1 then X.price else if x.kind = 2 then X.fine else x.pence⟩
def zmu (x : Ent) : Bs := if x.kind = 1 then repL payS [x.ticket] else if x.kind = 2 then repL xw [x.ticket] else repL xE [x.ticket, x.pence]
def zmH (own : List Ent) (x : Ent) : Bool := zM own x.ticket x.kind || (decide (x.kind = 3) && decide (x.pence < 0 ∨ 999999 < x.pence))
theorem znx {X : Till} {T : Tide} (hX : yx X = true) {L W : List Bs} {own : List Ent} {x : Ent} (hx : entB X x = true) (hs : zmH own x = false) (h : zmw (zmn X T) L W ⟨X.tk.l, T.looks, own⟩) :
    zmw (zmn X T) (L ++ [zmu x]) (W ++ [repL uJ [(own.length : Int)]]) ⟨X.tk.l, T.looks, own ++ [fixE X x]⟩ := by
  have hk0 : tksB X.tk = true := by
    simp only [yx, Bool.and_eq_true] at hX; exact hX.1.1.1
  have h5 := (y8 hk0).2.1;simp only [entB, isT, inB, Bool.and_eq_true, decide_eq_true_eq] at hx;simp only [zmH, Bool.or_eq_false_iff, Bool.and_eq_false_iff, decide_eq_false_iff_not] at hs
  have key : ∀ p, xX ⟨X.tk.l, T.looks, own⟩ ⟨x.ticket, x.kind, p⟩ = (⟨X.tk.l, T.looks, own ++ [⟨x.ticket, x.kind, p⟩]⟩, repL uJ [(own.length : Int)], 0) := fun p => by
    unfold xX;rw [if_neg (by show ¬ (X.tk.l.length : Int) ≤ x.ticket; omega), if_neg (by show ¬ zM own x.ticket x.kind = true; rw [hs.1]; simp)]
  refine zmE h ?_;have ht : numK x.ticket := ⟨hx.1.1, by omega⟩;unfold zmu fixE;by_cases h1 : x.kind = 1
  · rw [if_pos h1, if_pos h1, Jh _ _ ht]; rw [h1] at key ⊢; exact key _
  · rw [if_neg h1, if_neg h1];by_cases h2 : x.kind = 2
    · rw [if_pos h2, if_pos h2, U8 _ _ ht]; rw [h2] at key ⊢; exact key _
    · have h3 : x.kind = 3 := by omega
      rw [if_neg h2, if_neg h2, U7 _ _ ht ⟨by omega, by omega⟩]; rw [h3] at key ⊢; exact key _
end Go.Ti
namespace Go.Proofs.YtejgofaeafphjaaGreatDoor
open Go.W Go.Ti
def zmV : Till := ⟨⟨2, [⟨⟨0, 0⟩, 0, ⟨10, 11⟩⟩, ⟨⟨2, 3⟩, 1, ⟨8, 8⟩⟩, ⟨⟨3, 4⟩, 0, ⟨40, 41⟩⟩]⟩, 12, 5, 2⟩
def topL : List Bs := [[116, 105, 99, 107, 101, 116, 32, 48, 32, 48, 32, 48, 32, 49, 48, 32, 49, 49], [108, 111, 111, 107, 32, 49, 32, 51, 48, 32, 54, 32, 54], [100, 101, 112, 116, 104, 32, 48, 32, 49, 48], [112, 97, 121, 32, 48], [116, 117, 114, 110, 32, 48], [98, 111, 111, 107], [115, 117, 109], [120]]
def topR : List Bs := [[116, 105, 99, 107, 101, 116, 32, 48], [108, 111, 111, 107, 32, 48], [100, 101, 112, 116, 104, 32, 55, 32, 57], [112, 97, 105, 100, 32, 48], [116, 117, 114, 110, 32, 50], [98, 111, 111, 107], [115, 117, 109, 32, 49, 50], []]
set_option maxRecDepth 900000 in
theorem znm : wg YT topL = (topR, 1, 0) := by decide +kernel
set_option maxRecDepth 900000 in
theorem zmJ : ∀ q ∈ topL, q.length ≤ 2 ^ 20 ∧ gt (Lib.split q [32]) 0 ≠ yN ∧ gt (Lib.split q [32]) 0 ≠ y9 := by decide +kernel
set_option maxRecDepth 900000 in
theorem znE : zu zmV.tk 1 = (0, 0) := by decide +kernel
set_option maxRecDepth 900000 in
theorem znD : zmp zmV 2 = (⟨6, 6⟩, 0) := by decide +kernel
theorem znk : ZZ 10 [5, 3, 1] = [6, 3, 1] := by kernel_rfl
theorem znQ {v : Value} {D : Imm} (h : Wn YT topL v D) : ∃ a n c, v = .tuple #[.slice a n c, it 1, it 0] ∧ SlL D 1 (topR.map strC) a n := by
  unfold Wn at h; rw [znm] at h; exact h
theorem znf {D : Imm} {b : Nat} (l : List Nat) (h : D b = some (.cells (List.toArray (l.map nt)) 3 (0, 0))) : SlL D 1 (l.map natC) (some ⟨b, 0, none⟩) l.length :=
  SlL.ofBlock (f := natC) (l := l) (rest := []) Jq (by rw [List.append_nil, zak]; exact h)
theorem znU (a b c d : Int) : ∀ w, (Op.equalIn 10000 39 (.agg #[.int .i64 a, .int .i64 b]) (.agg #[.int .i64 c, .int .i64 d])).run Tryz.prog w = .ok (decide ((⟨a, b⟩ : Sp) = ⟨c, d⟩)) w := by
  intro w
  have h1 : (Op.equalIn 10000 39 (.agg #[.int .i64 a, .int .i64 b]) (.agg #[.int .i64 c, .int .i64 d])).run Tryz.prog w = .ok (a == c && b == d) w := by
    simp [go_sem, Op.eqFields];by_cases h : a = c <;> by_cases h' : b = d <;> simp [h, h']
  have h2 : (a == c && b == d) = decide ((⟨a, b⟩ : Sp) = ⟨c, d⟩) := by
    rw [Bool.eq_iff_iff]; simp only [Bool.and_eq_true, beq_iff_eq, decide_eq_true_eq, Sp.mk.injEq]
  rw [h1, h2]
theorem zmv (s : Bs) (ns : List Int) (al : Option Addr) (nl cl : Nat) (D : Imm) (hL : LibW D) (hS : SlL D 1 (ns.map intC) al nl) (hn : nl ≤ 100) (hi : ∀ n ∈ ns, i64B n) (hs : s.length ≤ 1000) (w : World) (hH : Holds D w) : z8 Tryz.prog 17 [st s, .slice al nl cl] w (st (repL s ns)) := by
  unfold z8;obtain rfl := hS.len';refine en Tryz.func17 rfl Tryz.ntmps17 (Inv.start hH) (g [[1],[6,0,1],[1,4,0,1]] ?_);refine WL.know 0 (st (repL s (ns.take 0))) rfl (by rw [List.take_zero, UG]) (g [[6]] ?_);refine WC.loopF (fun k : Nat => [(0, st (repL s (ns.take k))), (7, .slice al ns.length cl), (8, nt ns.length), (9, nt k)]) (fun k => k ≤ ns.length) (fun k => ns.length - k) 0 (Nat.zero_le _) ⟨rfl, rfl, rfl, rfl, trivial⟩ ?_;intro k hk;refine g [[1],[5,0,7,8,9]] ?_;refine WC.cond rfl (fun c10 => ?_) (fun c10 => ?_)
  · try simp only [zq] at c10
    have hkl : k < ns.length := by omega
    have hit := uE (hi _ (gt_mem' hkl));have hrl := zb8 s hi k;refine g [[5],[1,0,7,8,9]] ?_;refine WL.yd (Yd.ix rfl rfl (hS.addr k (by omega))) rfl (WL.yd (Yd.l1 rfl ((hS.at k (by omega)).rd 0 rfl)) rfl (g [[3],[3,6,0,7,8,9]] ?_));refine WL.cl rfl (fun w hI => Xw _ (hi _ (gt_mem' hkl)) D hL _ hI.imm) ?_;refine WL.yd (Yd.addS (a := [32]) (b := Lib.itoa (gt ns k)) rfl rfl (by show 1 + (Lib.itoa (gt ns k)).length ≤ 2 ^ 40; omega)) rfl ?_;refine WL.yd (Yd.addS (a := repL s (ns.take k)) (b := [32] ++ Lib.itoa (gt ns k)) rfl rfl (by rw [List.length_append]; show (repL s (ns.take k)).length + (1 + (Lib.itoa (gt ns k)).length) ≤ 2 ^ 40; omega)) rfl (g [[4],[1,0,7,8,9]] ?_);refine WL.know 0 (st (repL s (ns.take (k + 1)))) rfl (by rw [zcP s hkl]) (g [[3]] ?_);exact WP.againF (k + 1) hkl (by omega) ⟨rfl, rfl, rfl, rfl, trivial⟩ (fun _ h => h) (fun h => h)
  try simp only [zq] at c10
  obtain rfl : k = ns.length := by omega
  refine g [[6],[1,0]] ?_;refine WL.know 0 (st (repL s ns)) rfl (by rw [List.take_length]) (g [[5]] ?_);refine WP.ret1 rfl rfl rfl (RV.tmp rfl) (fun w hI => ⟨rfl, hI.keep⟩)
theorem zmq (a b : Int) (w : World) : z8 Tryz.prog 60 [it a, it b] w (.agg #[it a, it b]) := by
  unfold z8;refine en Tryz.func60 rfl Tryz.ntmps60 zI (g [[1],[1,0,1]] ?_);refine WL.so (SO.alloc ZvF.h rfl) rfl (zw fun b4 hb4 => ?_);refine g [[3],[8,4,0,1]] ?_;refine WP.ret1 rfl rfl rfl (RV.cellN AgF.h SzF.h rfl (vs := [_, _]) rfl (RdN.own (k := 0) (n := 2) rfl rfl)) (fun w hI => ⟨rfl, hI.keep⟩)
theorem zmM (D : Imm) (w : World) (hH : Holds D w) : y6 Tryz.prog 141 [] w D (fun v D' => ∃ a1 c1, v = .agg #[it 2, .slice a1 3 c1, it 12, it 5, it 2] ∧ TksR D' zmV.tk a1 3) := by
  unfold y6;refine en Tryz.func141 rfl Tryz.ntmps141 (Inv.start hH) (g [[1]] ?_);refine WC.ofFr [] trivial (g [[1]] ?_);refine WL.so (SO.alloc ZvF.h rfl) rfl (zw fun b0 hb0 => ?_);refine g [[3],[1,0]] ?_;refine WL.cl rfl (fun w hI => zmq _ _ _) (g [[1]] ?_);refine WL.cl rfl (fun w hI => zmq _ _ _) (WL.cl rfl (fun w hI => zmq _ _ _) (g [[1]] ?_));refine WL.cl rfl (fun w hI => zmq _ _ _) (WL.cl rfl (fun w hI => zmq _ _ _) (g [[1]] ?_));refine WL.so (SO.buildSlice UnF.h SzF.h ZvF.h rfl rfl rfl rfl (cs := [_, _, _, _, _, _, _, _, _, _, _, _, _, _, _]) rfl) rfl ?_;rintro _ _ _ ⟨b9, hb9, rfl, rfl, rfl⟩;refine g [[6]] ?_;refine WP.ret1 rfl rfl rfl (RV.cellN AgF.h SzF.h rfl (vs := [_, _, _, _, _]) rfl (RdN.own (k := 1) (n := 5) rfl rfl)) (fun w1 hI => ?_);have hf := hI.freeze;have hn := hI.apart _ _ (List.mem_of_getElem? (i := 0) rfl);refine ⟨_, _, rfl, hI.keep, hf.imm, (DExt.refl w D).add hn hb9, some ⟨b9, 0, none⟩, 3, rfl, ?_, by decide⟩;exact SlL.ofBlock (f := yc) (m := 5) (l := zmV.tk.l) (rest := []) yn (Imm.add_self _ _ _)
theorem zmX (D : Imm) (w : World) (hH : Holds D w) : z8 Tryz.prog 61 [] w (.bool true) := by
  unfold z8;refine en Tryz.func61 rfl Tryz.ntmps61 (Inv.start hH) (g [[1]] ?_);refine WC.ofFr [] trivial (g [[5],[1,0]] ?_);refine WL.so (SO.makes (Enters.func Tryz.call141 rfl) (fun w hI => zmM _ w hI.imm)) rfl ?_;rintro _ D1 _ ⟨hX1, ⟨a1, c1, rfl, hR1⟩, rfl⟩;refine WL.yd (Yd.fieldN (t' := 24) (cs := [it 2, .slice a1 3 c1, it 12, it 5, it 2]) UnF.h rfl AgF.h SzF.h rfl rfl) rfl ?_;refine WL.cl rfl (fun w hI => z8.cv (.tuple #[it 0, it 0]) (Ze zmV.tk a1 _ c1 _ _ hR1 hI.imm 1) (by rw [znE])) (g [[8],[1,2,1,0]] ?_);refine WL.so (SO.makes (Enters.func Tryz.call141 rfl) (fun w hI => zmM _ w hI.imm)) rfl ?_;rintro _ D2 _ ⟨hX2, ⟨a2, c2, rfl, hR2⟩, rfl⟩;refine WL.cl rfl (fun w hI => z8.cv (.tuple #[.agg #[it 6, it 6], it 0]) (znG zmV a2 _ c2 _ _ hR2 hI.imm 2) (by rw [znD]; rfl)) (g [[3]] ?_);refine WL.so (SO.alloc ZvF.h rfl) rfl (zw fun b3 hb3 => ?_);refine g [[5],[1,4,3,2,1,0]] ?_;refine WL.so (SO.buildSlice1 UnF.h SzF.h ZvF.h rfl rfl rfl (vs := [_, _, _]) rfl rfl rfl) rfl ?_;rintro _ _ _ ⟨b19, hb19, rfl, rfl, rfl⟩;refine WL.freezeN 0 b19 (.cells (List.toArray (([5, 3, 1] : List Nat).map nt)) 3 (0, 0)) rfl rfl hb19 (fun D3 hX3 h19 => ?_);refine WL.so (SO.makes (Enters.func Tryz.call143 rfl) (fun w hI => zn9 10 (by decide) [5, 3, 1] (by decide) (by decide) (some ⟨b19, 0, none⟩) 3 _ (znf [5, 3, 1] h19) w hI.imm)) rfl ?_;rintro _ D4 _ ⟨hX4, ⟨a4, c4, rfl, hS4⟩, rfl⟩;rw [znk] at hS4;refine g [[8]] ?_;refine WC.freezeN 0 b3 (.cells (List.toArray [it 6, it 6]) 39 (0, 0)) rfl rfl hb3 (fun D5 hX5 h3 => ?_);have hS5 := hS4.ext hX5;refine g [[0,6,5,4,3,2,1,0]] ?_;refine WC.drawO [] (pz [1,3,5,7,9,11,13,15,16,19,21,23,25,27,29,31,33,35,37,39,41,43,45,47,49,51,53,55,57,59,61,63,65,67,69,71,73,75,77,79,81,83,85]) zk zk zX zHl (g [[2]] ?_);refine WA.know 24 (.bool true) rfl (congrArg Value.bool (by decide)) (g [[3]] ?_);refine WA.know 27 (.bool true) rfl (congrArg Value.bool (by decide)) (g [[3]] ?_);refine WA.sog rfl rfl (SO.callP CaF.h rfl (fun w hI => zmq _ _ _)) rfl (zs ⟨zHl, ?_⟩);refine WA.ydg rfl rfl (Yd.eqS EgF.h (znU _ _ _ _) rfl rfl) rfl (WA.know 32 (.bool true) rfl (congrArg Value.bool (decide_eq_true rfl)) (g [[4]] ?_));refine WA.know 36 (.bool true) rfl (congrArg Value.bool (by decide)) (g [[5]] ?_);refine WA.know 41 (.bool true) rfl (congrArg Value.bool (by decide)) (g [[3]] ?_);refine WA.ydg rfl rfl (Yd.indexS UnF.h SzF.h rfl rfl (by first | omega | decide) (by first | omega | decide) (hS5.addr 0 (by decide))) rfl ?_;refine WA.ydg rfl rfl (Yd.l1 rfl ((hS5.at 0 (by decide)).rd 0 rfl)) rfl (g [[1]] ?_);refine WA.know 47 (.bool true) rfl (congrArg Value.bool (by decide)) (g [[3]] ?_);refine WA.ydg rfl rfl (Yd.indexS UnF.h SzF.h rfl rfl (by first | omega | decide) (by first | omega | decide) (hS5.addr 0 (by decide))) rfl ?_;refine WA.ydg rfl rfl (Yd.l1 rfl ((hS5.at 1 (by decide)).rd 0 rfl)) rfl (g [[1]] ?_);refine WA.know 53 (.bool true) rfl (congrArg Value.bool (by decide)) (g [[3]] ?_);refine WA.ydg rfl rfl (Yd.indexS UnF.h SzF.h rfl rfl (by first | omega | decide) (by first | omega | decide) (hS5.addr 0 (by decide))) rfl ?_;refine WA.ydg rfl rfl (Yd.l1 rfl ((hS5.at 2 (by decide)).rd 0 rfl)) rfl (g [[1]] ?_);refine WA.know 59 (.bool true) rfl (congrArg Value.bool (by decide)) (g [[4]] ?_);refine WA.know 63 (.bool true) rfl (congrArg Value.bool (by decide)) (g [[5]] ?_);refine WP.ret1 rfl rfl rfl (RV.tmp rfl) (fun w hI => ⟨rfl, hI.keep⟩)
theorem zmr (D : Imm) (hL : LibW D) (w : World) (hH : Holds D w) : z8 Tryz.prog 16 [] w (.bool true) := by
  unfold z8;refine en Tryz.func16 rfl Tryz.ntmps16 (Inv.start hH) (g [[1]] ?_);refine WC.ofFr [] trivial (g [[5],[1,0]] ?_);refine WL.cl rfl (fun w hI => zmq _ _ _) (g [[1]] ?_);refine WL.cl rfl (fun w hI => zmq _ _ _) (g [[1]] ?_);refine WL.cl rfl (fun w hI => zmq _ _ _) (g [[1]] ?_);refine WL.so (SO.buildSlice UnF.h SzF.h ZvF.h rfl rfl rfl rfl (cs := [_, _, _, _, _, _, _, _, _]) rfl) rfl ?_;rintro _ _ _ ⟨b11, hb11, rfl, rfl, rfl⟩;refine WL.cl rfl (fun w hI => zmq _ _ _) (WL.cl rfl (fun w hI => zmq _ _ _) ?_);refine WL.so (SO.buildSlice UnF.h SzF.h ZvF.h rfl rfl rfl rfl (cs := [_, _, _, _]) rfl) rfl ?_;rintro _ _ _ ⟨b14, hb14, rfl, rfl, rfl⟩;refine WL.freezeN 1 b11 (.cells (List.toArray (YT.marks.flatMap ub ++ [])) 62 (0, 0)) rfl rfl hb11 (fun D1 hX1 h11 => ?_);refine WL.freezeN 0 b14 (.cells (List.toArray (YT.sand.flatMap ul ++ [])) 39 (0, 0)) rfl rfl hb14 (fun D2 hX2 h14 => ?_);refine g [[1]] ?_;refine WL.so (SO.alloc ZvF.h rfl) rfl (zw fun b1 hb1 => ?_);refine g [[4]] ?_;refine WC.freezeN 0 b1 (.cells (List.toArray [it 2, it 12, it 5, it 2, .slice (some ⟨b11, 0, none⟩) 3 3, .slice (some ⟨b14, 0, none⟩) 2 2]) 49 (0, 0)) rfl rfl hb1 (fun D3 hX3 h1 => ?_);refine g [[2,1,0]] ?_;refine WL.so (SO.buildSlice1 UnF.h SzF.h ZvF.h rfl rfl rfl (vs := [_, _, _, _, _, _, _, _]) rfl rfl rfl) rfl ?_;rintro _ _ _ ⟨b18, hb18, rfl, rfl, rfl⟩;refine WL.freezeN 0 b18 (.cells (List.toArray (topL.flatMap strC ++ [])) 9 (0, 0)) rfl rfl hb18 (fun D4 hX4 h18 => ?_);have hWs : yG D4 YT ⟨some ⟨b11, 0, none⟩, 3, 3⟩ ⟨some ⟨b14, 0, none⟩, 2, 2⟩ := ⟨((((SlL.ofBlock vc h11).ext hX2).ext hX3).ext hX4), (((SlL.ofBlock vh h14).ext hX3).ext hX4), Nat.le_of_ble_eq_true rfl, Nat.le_of_ble_eq_true rfl⟩;have hL4 := (((hL.ext hX1).ext hX2).ext hX3).ext hX4;refine WL.so (SO.makes (Enters.func Tryz.call30 rfl) (fun w1 hI => znw YT ⟨some ⟨b11, 0, none⟩, 3, 3⟩ ⟨some ⟨b14, 0, none⟩, 2, 2⟩ topL (some ⟨b18, 0, none⟩) 8 8 D4 _ hWs (SlL.ofBlock x7 h18) (fun q hq => zmK _ q (zmJ q hq).1 (zmJ q hq).2.1 (zmJ q hq).2.2) hL4 hI.imm)) rfl ?_;rintro _ D5 _ ⟨hX5, hPK, rfl⟩;obtain ⟨a, n, c, rfl, hS5⟩ := znQ hPK;obtain rfl := hS5.len';refine g [[10],[2,4,3,2,0]] ?_;refine WL.so (SO.buildSlice1 UnF.h SzF.h ZvF.h rfl rfl rfl (vs := [_, _, _, _, _, _, _, _]) rfl rfl rfl) rfl ?_;rintro _ _ _ ⟨b24, hb24, rfl, rfl, rfl⟩;refine WL.freezeN 0 b24 (.cells (List.toArray (topR.flatMap strC ++ [])) 9 (0, 0)) rfl rfl hb24 (fun D6 hX6 h24 => ?_);refine WL.cl rfl (fun w hI => Vl topR topR a (some ⟨b24, 0, none⟩) _ 8 c 8 D6 (hS5.ext hX6) (SlL.ofBlock x7 h24) (by decide) _ hI.imm) (WL.know 25 (.bool true) rfl (congrArg Value.bool (decide_eq_true rfl)) (g [[3]] ?_));refine WL.know 28 (.bool true) rfl rfl (g [[4]] ?_);refine WL.know 32 (.bool true) rfl rfl (g [[2]] ?_);refine WL.sog rfl (SO.callP CaF.h rfl (fun w hI => zmX D6 _ hI.imm)) rfl (zs (g [[5]] ?_));refine WP.ret1 rfl rfl rfl (RV.tmp rfl) (fun w1 hI => ⟨rfl, hI.keep⟩)
theorem zmC (x : Wick) (d : Day) (m s t l b : Sl) (xb bx : Nat) (q want : Bs) (e : Int) (D : Imm) (w : World) (hw : zS x = true) (hdo : zT x d) (hW : yG D x m s) (hd : DayR D d t l b) (hL : LibW D) (hq : LnOk x q) (hb : D bx = some (.cells (List.toArray [pt xb]) 50 (0, 0))) (h1 : (zC x d q).1 = d) (h2 : (zC x d q).2.2 = e) (h3 : e = 0 → (zC x d q).2.1 = want) (h4 : e ≠ 0 → (zC x d q).2.1 = []) (hI0 : Inv D [(xb, womO x m s t l b)] [xb] w w) : zp Tryz.prog 23 [st q, st want, it e, pt bx] w D [xb] (fun v D' hp' => v = .bool true ∧ ∃ t' l' b', hp' = [(xb, womO x m s t' l' b')] ∧ DayR D' d t' l' b') := by
  unfold zp;refine en Tryz.func23 rfl Tryz.ntmps23 hI0 (g [[1],[5,0,1,2,3],[3,7,0,1,2,3]] ?_);refine WL.so (SO.altersN (own := []) (hpc := [(xb, womO x m s t l b)]) (S1 := [xb]) (fun _ h => h) (fun h => h) (fun _ h => h) (fun _ h => h) (Enters.func CaF.h rfl) (fun w1 hI => hq d m s t l b xb D w1 hw hdo hW hd hL hI)) rfl ?_;rintro _ D1 _ ⟨hp_, hX1, ⟨rfl, t1, l1, b1, rfl, hd1⟩, rfl⟩;rw [h1] at hd1;refine g [[8],[1,9,8,7,1,2]] ?_;refine WL.know 9 (it e) rfl (show it (zC x d q).2.2 = it e by rw [h2]) (g [[3]] ?_);refine WL.know 18 (.bool true) rfl (congrArg Value.bool (decide_eq_true rfl)) (g [[4]] ?_);refine WL.part 22 rfl (fun g22 => ?_) (fun g22 => ?_)
  · try simp only [zq] at g22
    refine g [[8]] ?_;refine WL.know 30 (.bool false) rfl (congrArg Value.bool (decide_eq_false g22)) (g [[2]] ?_);refine WL.ydg rfl (Yd.eqS' rfl rfl) rfl (WL.know 33 (.bool true) rfl (congrArg Value.bool (decide_eq_true (h4 g22))) (g [[6]] ?_));refine WP.ret1 rfl rfl rfl (RV.tmp rfl) (fun w1 hI => ⟨_, D1, _, rfl, hX1, hI, rfl, t1, l1, b1, rfl, hd1⟩)
  try simp only [zq] at g22
  refine g [[2]] ?_;refine WL.ydg rfl (Yd.eqS' rfl rfl) rfl (WL.know 25 (.bool true) rfl (congrArg Value.bool (decide_eq_true (h3 (Decidable.not_not.1 g22)))) (g [[5]] ?_));refine WL.know 30 (.bool true) rfl (congrArg Value.bool (decide_eq_true (Decidable.not_not.1 g22))) (g [[9]] ?_);refine WP.ret1 rfl rfl rfl (RV.tmp rfl) (fun w1 hI => ⟨_, D1, _, rfl, hX1, hI, rfl, t1, l1, b1, rfl, hd1⟩)
end Go.Proofs.YtejgofaeafphjaaGreatDoor
