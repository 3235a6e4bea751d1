import Derived.Test.YtejgofaeafphjaaGreatDoorXG22
import Derived.Test.YtejgofaeafphjaaGreatDoorXG5
import Derived.Test.YtejgofaeafphjaaGreatDoorXG7
set_option linter.all false
set_option maxRecDepth 100000
set_option maxHeartbeats 4000000
attribute [local irreducible] Go.W.WL Go.W.WLF Go.W.WC Go.W.WCF Go.W.WP Go.W.WA Go.W.WQ Go.W.WH Go.W.WHo Go.W.WCn Go.W.Yd Go.W.Qt Go.W.SO Go.Code.wp Go.Code.wpIn
namespace Go.Proofs.YtejgofaeafphjaaGreatDoor
open Go.W Go.Ti
def ZY (T : Tks) (m : Int) (k : Nat) (y : KT) : Bool := ((allT T).take k).any fun x => decide (y = kyT (Go.Ti.keyT x m T.l.length))
theorem vg {T : Tks} {m : Int} {k : Nat} (hk : k < (allT T).length) : ZY T m (k + 1) = fun y => ZY T m k y || decide (y = kyT (Go.Ti.keyT (gt (allT T) k) m T.l.length)) := by
  funext y;unfold ZY;rw [zP hk, List.any_append]; simp
theorem Xy {t : Tru} (ht : okTr t) (m : Int) (n : Nat) : TrB (Go.Ti.keyT t m n) := fun i => by
  unfold Go.Ti.keyT; split
  · have := ht i; omega
  simp
theorem YE {t : Tru} {m : Int} {k : Nat} (h : w6 t k m = true) : upd (Go.Ti.keyT t m k) k (t k) = Go.Ti.keyT t m (k + 1) := by
  funext j;unfold upd Go.Ti.keyT;by_cases e : j = k
  · subst e; rw [if_pos rfl, if_pos ⟨by omega, h⟩]
  rw [if_neg e];by_cases h2 : j < k ∧ w6 t j m = true
  · rw [if_pos h2, if_pos ⟨by omega, h2.2⟩]
  rw [if_neg h2, if_neg (fun h3 => h2 ⟨by omega, h3.2⟩)]
theorem yJ {t : Tru} {m : Int} {k : Nat} (h : w6 t k m = false) : Go.Ti.keyT t m k = Go.Ti.keyT t m (k + 1) := by
  funext j;unfold Go.Ti.keyT;by_cases h2 : j < k ∧ w6 t j m = true
  · rw [if_pos h2, if_pos ⟨by omega, h2.2⟩]
  rw [if_neg h2, if_neg (fun h3 => by
    by_cases h5 : j = k
    · rw [h5, h] at h3; cases h3.2
    exact h2 ⟨by omega, h3.2⟩)]
def iniK (k : Nat) : Tru := fun j => if j < k then (-1, -1) else (0, 0)
theorem VZ (k : Nat) : upd (iniK k) k (-1, -1) = iniK (k + 1) := by
  funext j;unfold upd iniK;by_cases e : j = k
  · subst e; rw [if_pos rfl, if_pos (by omega)]
  rw [if_neg e];by_cases h2 : j < k
  · rw [if_pos h2, if_pos (by omega)]
  rw [if_neg h2, if_neg (by omega)]
theorem Xr (t : Tru) (m : Int) : truC (iniK 5) = truC (Go.Ti.keyT t m 0) := by
  simp [truC, iniK, Go.Ti.keyT]
theorem kF {t : Tru} {m : Int} {k : Nat} (h1 : w6 t k m = true) (h2 : nowI t m k < 0 ∨ befT t k (nowI t m k).toNat = true) : nowI t m (k + 1) = (k : Int) := by rw [nowI, if_pos ⟨h1, h2⟩]
theorem Uh {t : Tru} {m : Int} {k : Nat} (h : ¬ (w6 t k m = true ∧ (nowI t m k < 0 ∨ befT t k (nowI t m k).toNat = true))) : nowI t m (k + 1) = nowI t m k := by rw [nowI, if_neg h]
theorem Ui {t : Tru} {m : Int} {k : Nat} (h0 : ¬ nowI t m k < 0) (h1 : befT t k (nowI t m k).toNat = false) : nowI t m (k + 1) = nowI t m k := Uh fun h => by
  rcases h.2 with h2 | h2
  · exact h0 h2
  rw [h1] at h2; cases h2
theorem U1 (i : Nat) (hi : i < 5) : Obj.cells (splice (truC (iniK i)) (0 + (i : Int).toNat * 2) [it (-1), it (-1)]).toArray 150 (0, 0) = .cells (truC (iniK (i + 1))).toArray 150 (0, 0) := by
  rw [← VZ, ← YX (iniK i) hi (-1, -1), Int.toNat_natCast]
theorem wZ {t : Tru} {m : Int} {i : Nat} (h : w6 t i m = true) (hi : i < 5) : Obj.cells (splice (truC (Go.Ti.keyT t m i)) (0 + (i : Int).toNat * 2) [it (t i).1, it (t i).2]).toArray 150 (0, 0) = .cells (truC (Go.Ti.keyT t m (i + 1))).toArray 150 (0, 0) := by
  rw [← YE h, ← YX _ hi (t i), Int.toNat_natCast]
def whoN (T : Tks) (m : Int) (k : Nat) : Nat := xN (whoB m T.l.length ((allT T).take k)) T.l.length
def whoO (T : Tks) (m : Int) (k : Nat) : Bool := noB m T.l.length ((allT T).take k)
theorem jp (T : Tks) (m : Int) : whoN T m 0 = 0 := by
  unfold whoN
  have : ∀ n, xN (whoB m T.l.length ((allT T).take 0)) n = 0 := fun n => by
    induction n with
    | zero => rfl
    | succ n ih => rw [xN, ih]; simp [whoB]
  exact this _
theorem Wd {T : Tks} (hv : tksB T = true) {m : Int} {k : Nat} (hk : k < (allT T).length) (h : ZY T m k (kyT (Go.Ti.keyT (gt (allT T) k) m T.l.length)) = true) : whoN T m (k + 1) = whoN T m k ∧ whoO T m (k + 1) = whoO T m k ∧ ZY T m (k + 1) = ZY T m k := by
  obtain ⟨x, hx, he⟩ := List.any_eq_true.1 h;have hx2 := List.mem_of_mem_take hx;have e := of_decide_eq_true he
  have hs := Kb (m := m) (n := T.l.length) (L := (allT T).take k) (t := gt (allT T) k) (fun y hy i => (xq hv (List.mem_of_mem_take hy) i).1.1) (fun i => (xq hv (yE hk) i).1.1)
    ⟨x, hx, fun i hi => (zaw (Xy (xq hv (yE hk)) _ _) (Xy (xq hv hx2) _ _) e i (by have := (y8 hv).2.1; omega)).symm⟩
  refine ⟨?_, ?_, ?_⟩
  · unfold whoN; rw [zP hk]; exact uB fun i _ => hs.1 i
  · unfold whoO; rw [zP hk]; exact hs.2
  rw [vg hk]; funext y;cases hy : decide (y = kyT (Go.Ti.keyT (gt (allT T) k) m T.l.length)) with
  | false => simp
  | true => rw [of_decide_eq_true hy, h]; rfl
theorem Ye {T : Tks} {m : Int} {k : Nat} (hk : k < (allT T).length) (h : nowI (gt (allT T) k) m T.l.length < 0) : whoN T m (k + 1) = whoN T m k ∧ whoO T m (k + 1) = true := by
  unfold whoN whoO; rw [zP hk]; exact Ka h
theorem Yf {T : Tks} {m : Int} {k i : Nat} (hk : k < (allT T).length) (hi : i < T.l.length) (h : nowI (gt (allT T) k) m T.l.length = (i : Int)) : whoN T m k ||| 2 ^ i = whoN T m (k + 1) ∧ whoO T m (k + 1) = whoO T m k := by
  unfold whoN whoO; rw [zP hk, (We h).1, za2 _ hi]; exact ⟨rfl, (We h).2⟩
theorem K9 {T : Tks} {m : Int} (hne : allT T ≠ []) (h1 : whoN T m (allT T).length = 0) (h2 : whoO T m (allT T).length = false) : False := by
  unfold whoN whoO at *;rw [List.take_length] at h1 h2;rcases zbt (m := m) (n := T.l.length) hne with h | ⟨i, hi, h⟩
  · rw [h] at h2; cases h2
  exact QD _ hi h h1
theorem Qj {T : Tks} {m : Int} (hne : allT T = []) : whoN T m (allT T).length = 0 ∧ whoO T m (allT T).length = false := by
  rw [hne];exact ⟨jp T m, by simp [whoO, noB]⟩
def orL (l : List Nat) (k : Nat) : Nat := (l.take k).foldl (fun n x => n ||| x) 0
theorem XN {l : List Nat} {k : Nat} (hk : k < l.length) : orL l (k + 1) = orL l k ||| gt l k := by
  unfold orL;rw [zP hk, List.foldl_append]; rfl
theorem Kz {l : List Nat} (h : ∀ x ∈ l, x < 32) : ∀ k, k ≤ l.length → orL l k < 32
  | 0, _ => by simp [orL]
  | k + 1, hk => by
    rw [XN (by omega)];exact Nat.or_lt_two_pow (n := 5) (Kz h k (by omega)) (h _ (yE (by omega)))
theorem QL (b : Nat) (e v0 : Int) (t : TypeId) (w : World) (hb : w.heap[b]? = some (.cells (List.toArray [it v0]) t (0, 0))) : Ke Tryz.prog 86 [pt b] (.iface 247 (.agg #[it e])) b (.cells (List.toArray [it e]) t (0, 0)) w := by
  refine yI Tryz.func86 rfl fun c₀ cs hu => ?_;apply wpS_region;simp [wpOpsS, go_sem, recoverD, hu, Tryz.ntmps86];refine (yW e v0 b t w hb).mono ?_;rintro en w' ⟨⟨rfl, hk⟩, hb'⟩;cases c₀
  simp only at hu;subst hu;simp [bodyPostS, results, Tryz.results86, hk, hb']
theorem Qf (l : List Nat) (a : Option Addr) (n c : Nat) (D : Imm) (w : World) (hS : SlL D 1 (l.map natC) a n) (hl : ∀ x ∈ l, x < 32) (hn : n ≤ 1000) (hH : Holds D w) : z8 Tryz.prog 93 [.slice a n c] w (nt (orL l l.length)) := by
  unfold z8;obtain rfl := hS.len';refine en Tryz.func93 rfl Tryz.ntmps93 (Inv.start hH) (g [[1],[6,0],[7,2,0]] ?_);refine WC.loopF (fun k : Nat => [(2, nt (orL l k)), (5, .slice a l.length c), (6, nt l.length), (7, nt k)]) (fun k => k ≤ l.length) (fun k => l.length - k) 0 (by omega) (by exact ⟨rfl, rfl, rfl, rfl, trivial⟩) ?_;intro k hk;refine g [[1],[5,2,5,6,7]] ?_;refine WC.cond rfl (fun c8 => ?_) (fun c8 => ?_)
  · try simp only [zq] at c8
    have hkl : k < l.length := by omega
    refine g [[5],[1,2,5,6,7]] ?_;refine WL.yd (Yd.ix rfl rfl (hS.addr k (by omega))) rfl (WL.yd (Yd.l1 rfl ((hS.at k (by omega)).rd 0 rfl)) rfl (g [[3],[3,4,2,5,6,7]] ?_));refine WL.yd (Yd.orN (Kz hl k hk) (hl _ (yE hkl)) rfl rfl) rfl (g [[4],[4,2,5,6,7]] ?_);exact WP.againF (k + 1) (by omega) (by omega) ⟨by rw [XN hkl]; rfl, rfl, rfl, rfl, trivial⟩ (fun _ h => h) (fun h => h)
  try simp only [zq] at c8
  obtain rfl : k = l.length := by omega
  refine g [[6],[6,2]] ?_;refine WP.ret1 rfl rfl rfl (RV.tmp rfl) (fun w hI => ⟨rfl, hI.keep⟩)
theorem KU (T : Tks) (a1 : Option Addr) (n1 c1 : Nat) (D : Imm) (w : World) (hR : TksR D T a1 n1) (hH : Holds D w) (hv : tksB T = true) (m : Int) (hw : minT m = false) : z8 Tryz.prog 25 [.agg #[it T.huts, .slice a1 n1 c1], it m] w (.tuple #[it (zi T m).1, .bool (zi T m).2.1, it (zi T m).2.2]) := by
  unfold z8;obtain rfl := hR.tick.len';have hl1 := hR.len;have h5 := (y8 hv).2.1
  have hE : tksE T (minT m) = 2 := by
    unfold tksE;rw [if_neg (by rw [hv]; simp), if_pos hw]
  have hO0 : zi T m = (0, false, 2) := by unfold zi; rw [if_pos (by rw [hE]; simp), hE]
  refine enD Tryz.func25 rfl Tryz.ntmps25 (Inv.start hH) (g [[1],[1,0,1]] ?_);refine WL.so (SO.box rfl rfl) rfl (zw fun b2 hb2 => ?_);refine WL.so (SO.box rfl rfl) rfl (zw fun b3 hb3 => ?_);refine g [[2]] ?_;refine WL.so (SO.alloc ZvF.h rfl) rfl (zw fun b6 hb6 => ?_);refine g [[3],[2,6,5,4,3,2]] ?_;refine WL.defer rfl (g [[3]] ?_);refine WC.freezeN 2 b2 (boxT T (.slice a1 T.l.length c1)) rfl rfl hb2 (fun D1 hX1 h2 => ?_);replace hR := hR.ext hX1;refine WC.freezeN 1 b3 (.cells (List.toArray [it m]) 3 (0, 0)) rfl rfl hb3 (fun D3 hX3 h3 => ?_);replace hR := hR.ext hX3;replace h2 := hX3.old _ _ h2;refine g [[0,6,5,4,3,2]] ?_;refine WC.drawD [] (pz [1,3,4,6,9]) zk zk zX (fun _ hI => hI.nil) (g [[2]] ?_);refine WA.so rfl (SO.callP CaF.h rfl (fun w hI => vB _ _)) rfl ?_;rintro _ _ _ ⟨rfl, rfl, rfl⟩;refine ⟨fun _ hI => hI.nil, ?_⟩;refine WA.no rfl (SO.fail (Enters.func CaF.h rfl) (fun w hI => by have := j2 T a1 _ c1 _ w hR hI.imm hv; rwa [← hw] at this) (g [[1]] ?_));refine WP.panicD (k := 0) [_, _, _] [_, _, _] rfl CaF.h rfl (fun w hI => za6 _ _ _ _ _ (hI.own _ _ (List.mem_of_getElem? (i := 0) rfl))) rfl zV (fun w hI => ⟨congrArg Ending.returned (by rw [hO0]; rfl), hI.keep⟩)
theorem KV (T : Tks) (a1 : Option Addr) (n1 c1 : Nat) (D : Imm) (w : World) (hR : TksR D T a1 n1) (hH : Holds D w) (hv : tksB T = true) (m : Int) (hw : minT m = true) (hne : allT T = []) : z8 Tryz.prog 25 [.agg #[it T.huts, .slice a1 n1 c1], it m] w (.tuple #[it (zi T m).1, .bool (zi T m).2.1, it (zi T m).2.2]) := by
  unfold z8;obtain rfl := hR.tick.len';have hl1 := hR.len;have h5 := (y8 hv).2.1
  have hE : tksE T (minT m) = 10 := by
    unfold tksE;rw [if_neg (by rw [hv]; simp), if_neg (by rw [hw]; simp), if_pos (by rw [hne]; rfl)]
  have hO0 : zi T m = (0, false, 10) := by unfold zi; rw [if_pos (by rw [hE]; simp), hE]
  refine enM Tryz.func25 rfl Tryz.ntmps25 (Inv.start hH) (g [[1],[1,0,1]] ?_);refine WL.so (SO.box rfl rfl) rfl (zw fun b2 hb2 => ?_);refine WL.so (SO.box rfl rfl) rfl (zw fun b3 hb3 => ?_);refine g [[2]] ?_;refine WL.so (SO.alloc ZvF.h rfl) rfl (zw fun b6 hb6 => ?_);refine g [[3],[2,6,5,4,3,2]] ?_;refine WL.defer rfl (g [[3]] ?_);refine WC.freezeN 2 b2 (boxT T (.slice a1 T.l.length c1)) rfl rfl hb2 (fun D1 hX1 h2 => ?_);replace hR := hR.ext hX1;refine WC.freezeN 1 b3 (.cells (List.toArray [it m]) 3 (0, 0)) rfl rfl hb3 (fun D3 hX3 h3 => ?_);replace hR := hR.ext hX3;replace h2 := hX3.old _ _ h2;refine g [[0,6,5,4,3,2]] ?_;refine WC.drawD [] (pz [1,3,4,6,9]) zk zk zX (fun _ hI => hI.nil) (g [[2]] ?_);refine WA.so rfl (SO.callP CaF.h rfl (fun w hI => vB _ _)) rfl ?_;rintro _ _ _ ⟨rfl, rfl, rfl⟩;refine ⟨fun _ hI => hI.nil, ?_⟩;refine WA.so rfl (SO.makes (Enters.func Tryz.call88 rfl) (fun w hI => by have := x4 T a1 _ c1 _ w hR hI.imm hv; rwa [← hw] at this)) rfl ?_;rintro _ D2 _ ⟨hX2, ⟨bq, rfl, hO⟩, rfl⟩;replace hR := hR.ext hX2;replace h2 := hX2.old _ _ h2;replace h3 := hX2.old _ _ h3;refine ⟨fun _ hI => hI.nil.shrink hX2.old, ?_⟩;refine g [[4],[1,7,6,5,4,3,2]] ?_;refine WL.so SO.makeMap rfl ?_;rintro _ _ _ ⟨b21, hb21, rfl, rfl, rfl⟩;refine WL.so (SO.alloc ZvF.h rfl) rfl (zw fun b8 hb8 => ?_);refine g [[4]] ?_;refine WC.freezeN 0 b8 (.cells (List.toArray [.map (some b21)]) 143 (0, 0)) rfl rfl hb8 (fun D8 hX8 h8 => ?_);replace hR := hR.ext hX8;replace hO := hO.ext hX8;replace h2 := hX8.old _ _ h2;replace h3 := hX8.old _ _ h3;refine g [[1,8,7,6,5,4,3,2]] ?_;refine WL.so (SO.alloc ZvF.h rfl) rfl (zw fun b9 hb9 => ?_);refine WL.so (SO.alloc ZvF.h rfl) rfl (zw fun b10 hb10 => ?_);refine g [[6],[2,10,9,8,7,6,5,4,3,2]] ?_;refine WL.so (SO.makes (Enters.func Tryz.call90 rfl) (fun w hI => we bq _ _ hI.imm)) rfl ?_;rintro _ D4 _ ⟨hX4, ⟨bt, rfl, hbt⟩, rfl⟩;replace hR := hR.ext hX4;replace hO := hO.ext hX4;replace h2 := hX4.old _ _ h2;replace h3 := hX4.old _ _ h3;replace h8 := hX4.old _ _ h8;refine g [[3],[0,3,2,8,9,10,23,4,5,6]] ?_;refine WC.hpEq (hp' := [(b10, .cells (List.toArray [.bool (whoO T m 0)]) 4 (0, 0)), (b9, .cells (List.toArray [nt (whoN T m 0)]) 3 (0, 0)), (b21, .map #[] 0), (b6, .cells (List.toArray [it 0]) 51 (0, 0))]) (by rw [jp]; rfl) ?_;refine WC.rangeIterN (N := (allT T).length) (arg := fun k => truV (gt (allT T) k)) (fun w1 _ hD1 => yt T a1 _ c1 bq bt D4 w1 hO hR hbt hv hD1) rfl Tryz.call177 rfl (fun k _ h => (∃ es clock, h = [(b10, .cells (List.toArray [.bool (whoO T m k)]) 4 (0, 0)), (b9, .cells (List.toArray [nt (whoN T m k)]) 3 (0, 0)), (b21, .map es clock), (b6, .cells (List.toArray [it 0]) 51 (0, 0))] ∧ MapB kvT es clock (ZY T m k))) (fun _ _ _ => False) (fun _ _ _ _ _ h => h) ⟨#[], 0, rfl, MapB.empty kvT⟩ ?_ ?_ ?_
  · rintro rec1 l1 Dn0 k D6 _ w1 hrec hk ⟨es, clock, rfl, hMB⟩ hX6 hsz;unfold yP;replace hR := hR.ext hX6;replace h2 := hX6.old _ _ h2;replace h3 := hX6.old _ _ h3;replace h8 := hX6.old _ _ h8;have hoT := xq hv (yE hk);have hTB := Xy hoT m T.l.length;refine g [[1,24,3,2,8,9,10,4,5,6]] ?_;refine WLF.so (zn rfl) (SO.alloc ZvF.h rfl) rfl (zw fun b11 hb11 => ?_);skip;refine g [[2]] ?_;refine WP.iterBegin 1 rfl hrec (g [[2],[5,11,3,2,8,9,10,4,5,6],[1,12,11,3,2,8,9,10,4,5,6]] ?_);refine WLF.yd (zn rfl) (Yd.buildA (zs := [.int .i64 0, .int .i64 0, .int .i64 0, .int .i64 0, .int .i64 0, .int .i64 0, .int .i64 0, .int .i64 0, .int .i64 0, .int .i64 0]) ⟨_, ZvF.h, rfl⟩ UnF.h SzF.h rfl (cs := [_, _, _, _, _, _, _, _, _, _]) rfl) rfl ?_;refine WLF.so (zn rfl) (SO.alloc ZvF.h rfl) rfl (zw fun b13 hb13 => ?_);refine g [[5],[5,13,12,11,3,2,8,9,10,4,5,6]] ?_;refine WCF.loopHd (b := b13) _ (fun i : Nat => [(2, pt b2), (3, pt b3), (8, pt b8), (9, pt b9), (10, pt b10), (11, pt b11), (12, it (-1)), (13, pt b13), (26, nt i)]) (fun i => .cells (List.toArray (truC (iniK i))) 150 (0, 0)) (fun i => i ≤ 5) (fun i => 5 - i) 0 (by omega) rfl ⟨rfl, rfl, rfl, rfl, rfl, rfl, rfl, rfl, rfl, trivial⟩ ?_;intro i hi;refine g [[1],[5,2,3,8,9,10,11,12,13,26]] ?_;refine WCF.cond rfl (fun c27 => ?_) (fun c27 => ?_)
    · try simp only [zq] at c27
      have hi5 : i < 5 := by omega
      refine g [[5],[5,2,3,8,9,10,11,12,13,26],[3,14,2,3,8,9,10,11,12,13,26]] ?_;refine WLF.yd (zn rfl) (Yd.indexA UnF.h SzF.h rfl rfl (by omega) (by omega)) rfl ?_;refine WLF.so (zn rfl) (SO.store 0 rfl SzF.h rfl rfl rfl rfl (by show 0 + i * 2 + 2 ≤ 10; omega) (za rfl)) rfl (zt (g [[3],[4,2,3,8,9,10,11,12,13,26]] ?_));exact WP.againHd (i + 1) (by omega) (by omega) 0 rfl (U1 i hi5) ⟨rfl, rfl, rfl, rfl, rfl, rfl, rfl, rfl, rfl, trivial⟩
    try simp only [zq] at c27
    obtain rfl : i = 5 := by omega
    refine g [[7],[8,2,3,8,9,10,11,12,13]] ?_;refine WCF.loopHd (b := b13) _ (fun i : Nat => [(3, pt b3), (8, pt b8), (9, pt b9), (10, pt b10), (11, pt b11), (12, it (nowI (gt (allT T) k) m i)), (13, pt b13), (34, .slice a1 T.l.length c1), (35, nt T.l.length), (36, nt i)]) (fun i => .cells (List.toArray (truC (Go.Ti.keyT (gt (allT T) k) m i))) 150 (0, 0)) (fun i => i ≤ T.l.length) (fun i => T.l.length - i) 0 (by omega) (by rw [← Xr]) ⟨rfl, rfl, rfl, rfl, rfl, rfl, rfl, rfl, rfl, rfl, trivial⟩ ?_;intro i hi;have hnn := vU (gt (allT T) k) m i;have hwd : w6 (gt (allT T) k) i m = inB m ((gt (allT T) k) i).1 ((gt (allT T) k) i).2 := rfl;refine g [[1],[5,3,8,9,10,11,12,13,34,35,36]] ?_;refine WCF.cond rfl (fun c37 => ?_) (fun c37 => ?_)
    · try simp only [zq] at c37
      have hil : i < T.l.length := by omega
      have hi5 : i < 5 := by omega
      refine g [[5],[6,3,8,9,10,11,12,13,34,35,36],[0,15,3,8,9,10,11,12,13,34,35,36]] ?_;refine WCF.tail 4 [0, 1, 2, 3] rfl zk zk (noLets.then (noLets.blk (noLets.then (noLets.then (noLets.blk (noLets.then (noLets.blk noLets.round))))))) (g [[1]] ?_);refine WQ.q rfl (Yd.qt (Yd.indexA UnF.h SzF.h rfl rfl (by omega) (by omega))) rfl (WQ.q rfl (Yd.qt (Yd.lV [_, _] rfl (RdN.own (k := 1) (n := 2) rfl (uR (gt (allT T) k) hi5)))) rfl (g [[1]] ?_));refine WQ.tailR (WLF.know 41 (prV ((gt (allT T) k) i)) rfl rfl ?_);refine WLF.cl rfl (fun w hI => Qi ((gt (allT T) k) i) m _) (g [[2]] ?_);refine WCF.cond rfl (fun c43 => ?_) (fun c43 => ?_)
      · have hwt : w6 (gt (allT T) k) i m = true := by rw [hwd]; assumption
        refine g [[1],[3,15,3,8,9,10,11,12,13,34,35,36]] ?_;refine WLF.yd (zn rfl) (Yd.indexA UnF.h SzF.h rfl rfl (by omega) (by omega)) rfl (WLF.yd (zn rfl) (Yd.lV [_, _] rfl (RdN.own (k := 1) (n := 2) rfl (uR (gt (allT T) k) hi5))) rfl ?_);refine WLF.yd (zn rfl) (Yd.indexA UnF.h SzF.h rfl rfl (by omega) (by omega)) rfl ?_;refine WLF.so (zn rfl) (SO.store 0 rfl SzF.h rfl rfl rfl rfl (by show 0 + i * 2 + 2 ≤ 10; omega) (za rfl)) rfl (zt (g [[3],[4,15,3,8,9,10,11,12,13,34,35,36]] ?_));refine WLF.part 51 rfl (fun g51 => ?_) (fun g51 => ?_)
        · try simp only [zq] at g51
          have hnx := kF (t := (gt (allT T) k)) (m := m) (k := i) hwt (.inl (by omega));refine g [[3]] ?_
          first | refine WLF.know 54 (nt (nowI (gt (allT T) k) m i).toNat) rfl (congrArg it hnn2) ?_ | skip
          refine g [[4]] ?_;refine WCF.condT rfl (g [[6,15,3,8,9,10,11,12,13,34,35,36],[4,12,3,8,9,10,11,13,34,35,36]] ?_);exact WP.againHd (i + 1) (by omega) (by omega) 0 rfl (by first | exact wZ hwt hi5 | rw [← yJ hwt]) ⟨rfl, rfl, rfl, rfl, rfl, by show some (it _) = some (it _); rw [hnx], rfl, rfl, rfl, rfl, trivial⟩
        try simp only [zq] at g51
        have hnn2 : nowI (gt (allT T) k) m i = (((nowI (gt (allT T) k) m i).toNat : Nat) : Int) := by omega
        refine g [[3]] ?_
        first | refine WLF.know 54 (nt (nowI (gt (allT T) k) m i).toNat) rfl (congrArg it hnn2) ?_ | skip
        refine WLF.sog (zn rfl) rfl (SO.callP CaF.h rfl (fun w hI => ka (gt (allT T) k) i (nowI (gt (allT T) k) m i).toNat hi5 (by omega) _)) rfl (zs (g [[3]] ?_));refine WCF.cond rfl (fun c56 => ?_) (fun c56 => ?_)
        · have hnx := kF (t := (gt (allT T) k)) (m := m) (k := i) hwt (.inr c56);refine g [[6,15,3,8,9,10,11,12,13,34,35,36],[4,12,3,8,9,10,11,13,34,35,36]] ?_;exact WP.againHd (i + 1) (by omega) (by omega) 0 rfl (by first | exact wZ hwt hi5 | rw [← yJ hwt]) ⟨rfl, rfl, rfl, rfl, rfl, by show some (it _) = some (it _); rw [hnx], rfl, rfl, rfl, rfl, trivial⟩
        have hnx := Ui (t := (gt (allT T) k)) (m := m) (k := i) (by omega) c56;refine g [[3],[4,3,8,9,10,11,12,13,34,35,36]] ?_;exact WP.againHd (i + 1) (by omega) (by omega) 0 rfl (by first | exact wZ hwt hi5 | rw [← yJ hwt]) ⟨rfl, rfl, rfl, rfl, rfl, by show some (it _) = some (it _); rw [hnx], rfl, rfl, rfl, rfl, trivial⟩
      have hwt : w6 (gt (allT T) k) i m = false := by rw [hwd]; assumption
      have hnx := Uh (t := (gt (allT T) k)) (m := m) (k := i) (fun h => by rw [hwt] at h; cases h.1);refine g [[3],[4,3,8,9,10,11,12,13,34,35,36]] ?_;exact WP.againHd (i + 1) (by omega) (by omega) 0 rfl (by first | exact wZ hwt hi5 | rw [← yJ hwt]) ⟨rfl, rfl, rfl, rfl, rfl, by show some (it _) = some (it _); rw [hnx], rfl, rfl, rfl, rfl, trivial⟩
    try simp only [zq] at c37
    obtain rfl : i = T.l.length := by omega
    refine g [[7],[3,8,9,10,12,13]] ?_;refine WLF.know 60 (kvT (kyT (Go.Ti.keyT (gt (allT T) k) m T.l.length))) rfl (XB hTB) (WLF.yd (zn rfl) (Yd.lookB (y := kyT (Go.Ti.keyT (gt (allT T) k) m T.l.length)) kx ku Xz UnF.h ZvF.h (j := 6) rfl rfl rfl hMB) rfl (g [[2]] ?_));refine WCF.cond rfl (fun c61 => ?_) (fun c61 => ?_)
    · obtain ⟨hs1, hs2, hs3⟩ := Wd hv hk c61;refine g [[3]] ?_;refine WP.iterOnN hrec (h1 := [_, _, _, _]) zU1 zU2 (DExt.refl _ _) ⟨es, clock, ?_, ?_⟩
      · rw [hs1, hs2]
      rw [hs3]; exact hMB
    refine g [[3],[3,8,9,10,12,13]] ?_;refine WLF.know 63 (kvT (kyT (Go.Ti.keyT (gt (allT T) k) m T.l.length))) rfl (XB hTB) (WLF.so (zn rfl) (SO.putB (y := kyT (Go.Ti.keyT (gt (allT T) k) m T.l.length)) kx ku Xz UnF.h rfl rfl rfl (j := 6) rfl hMB) rfl ?_);rintro _ _ _ ⟨rfl, es1, clock1, rfl, hMB1⟩;refine g [[3],[5,9,10,12]] ?_;refine WCF.cond rfl (fun c65 => ?_) (fun c65 => ?_)
    · try simp only [zq] at c65
      obtain ⟨hs1, hs2⟩ := Ye hk c65;refine g [[4,10]] ?_;refine WP.iterOnN hrec (h1 := [_, _, _, _]) zU1 zU2 (DExt.refl _ _) ⟨es1, clock1, ?_, ?_⟩
      · rw [hs1, hs2]; rfl
      rw [vg hk]; exact hMB1
    try simp only [zq] at c65
    obtain ⟨q, hqn⟩ : ∃ q : Nat, nowI (gt (allT T) k) m T.l.length = (q : Int) := ⟨(nowI (gt (allT T) k) m T.l.length).toNat, by omega⟩;have hnn := vU (gt (allT T) k) m T.l.length;have hql : q < T.l.length := by omega
    obtain ⟨hs1, hs2⟩ := Yf hk hql hqn;have hw32 : whoN T m k < 32 := Nat.lt_of_lt_of_le (qB _ _) (Nat.pow_le_pow_right (by decide) h5);have hq32 : 2 ^ q < 32 := Nat.lt_of_lt_of_le (Nat.pow_lt_pow_right (by decide) hql) (Nat.pow_le_pow_right (by decide) h5);refine g [[0,9,12]] ?_;refine WCF.tail 3 [0, 1, 2] rfl zk zk (noLets.blk noLets.round) (g [[2]] ?_);refine WQ.know 67 (nt q) rfl (congrArg it hqn) (WQ.q rfl (Yd.qt (Yd.shlN (k := q) rfl rfl (by omega))) rfl ?_);refine WQ.tailR (WLF.so (zn rfl) (SO.buildSlice UnF.h SzF.h ZvF.h rfl rfl rfl rfl (cs := [_, _]) rfl) rfl ?_);rintro _ _ _ ⟨b69, hb69, rfl, rfl, rfl⟩;refine WLF.freezeN 0 b69 (.cells (List.toArray [nt (whoN T m k), nt (2 ^ q)]) 3 (0, 0)) rfl rfl hb69 (fun D69 hX69 h69 => ?_);refine WLF.cl rfl (fun w hI => Qf [whoN T m k, 2 ^ q] (some ⟨b69, 0, none⟩) 2 2 D69 _ (SlL.ofBlock (f := natC) (l := [whoN T m k, 2 ^ q]) (rest := []) (fun _ => rfl) h69) (by intro x hx; simp only [List.mem_cons, List.not_mem_nil, or_false] at hx; rcases hx with rfl | rfl; exact hw32; exact hq32) (by omega) hI.imm) ?_;refine WLF.know 70 (nt (whoN T m (k + 1))) rfl (by rw [← hs1]; show nt (orL [whoN T m k, 2 ^ q] 2) = _; simp [orL]) (g [[3]] ?_);refine WP.iterOnN hrec (h1 := [_, _, _, _]) zU1 zU2 hX69 ⟨es1, clock1, ?_, ?_⟩
    · rw [hs2]; rfl
    rw [vg hk]; exact hMB1
  · rintro Dn1 D6 _ hDn1 hX6 ⟨es, clock, rfl, hMB⟩;refine g [[3],[4,9,10,4,5,6]] ?_;refine WL.part 73 rfl (fun g73 => ?_) (fun g73 => ?_)
    · try simp only [zq] at g73
      exact absurd (Qj (m := m) hne).1 (by omega)
    try simp only [zq] at g73
    refine g [[2]] ?_;refine WL.part 75 rfl (fun g75 => ?_) (fun g75 => ?_)
    · rw [(Qj hne).2] at g75; cases g75
    refine WL.nf rfl (fun w hI => xo _ _) (g [[1]] ?_);refine WP.panicMsD (k := 3) [Dn1] [_, _, _, _] [_, _, _] [_, _, _] rfl CaF.h rfl (fun w hI => QL _ _ _ _ _ (hI.own _ _ (List.mem_of_getElem? (i := 3) rfl))) (fun _ h => h) (fun h => h) rfl zV (fun w hI => ⟨congrArg Ending.returned (by rw [hO0]; rfl), hI.keep⟩)
  exact fun _ _ _ _ _ _ h => h.elim
theorem Qv (T : Tks) (a1 : Option Addr) (n1 c1 : Nat) (D : Imm) (w : World) (hR : TksR D T a1 n1) (hH : Holds D w) (hv : tksB T = true) (m : Int) (hw : minT m = true) (hne : allT T ≠ []) : z8 Tryz.prog 25 [.agg #[it T.huts, .slice a1 n1 c1], it m] w (.tuple #[it (zi T m).1, .bool (zi T m).2.1, it (zi T m).2.2]) := by
  unfold z8;obtain rfl := hR.tick.len';have hl1 := hR.len;have h5 := (y8 hv).2.1
  have hE : tksE T (minT m) = 0 := by
    unfold tksE;rw [if_neg (by rw [hv]; simp), if_neg (by rw [hw]; simp), if_neg (by rw [List.isEmpty_iff]; exact hne)]
  have hO0 : zi T m = ((whoN T m (allT T).length : Int), whoO T m (allT T).length, 0) := by rw [Kd hE]; unfold whoN whoO; rw [List.take_length]
  refine enM Tryz.func25 rfl Tryz.ntmps25 (Inv.start hH) (g [[1],[1,0,1]] ?_);refine WL.so (SO.box rfl rfl) rfl (zw fun b2 hb2 => ?_);refine WL.so (SO.box rfl rfl) rfl (zw fun b3 hb3 => ?_);refine g [[2]] ?_;refine WL.so (SO.alloc ZvF.h rfl) rfl (zw fun b6 hb6 => ?_);refine g [[3],[2,6,5,4,3,2]] ?_;refine WL.defer rfl (g [[3]] ?_);refine WC.freezeN 2 b2 (boxT T (.slice a1 T.l.length c1)) rfl rfl hb2 (fun D1 hX1 h2 => ?_);replace hR := hR.ext hX1;refine WC.freezeN 1 b3 (.cells (List.toArray [it m]) 3 (0, 0)) rfl rfl hb3 (fun D3 hX3 h3 => ?_);replace hR := hR.ext hX3;replace h2 := hX3.old _ _ h2;refine g [[0,6,5,4,3,2]] ?_;refine WC.drawD [] (pz [1,3,4,6,9]) zk zk zX (fun _ hI => hI.nil) (g [[2]] ?_);refine WA.so rfl (SO.callP CaF.h rfl (fun w hI => vB _ _)) rfl ?_;rintro _ _ _ ⟨rfl, rfl, rfl⟩;refine ⟨fun _ hI => hI.nil, ?_⟩;refine WA.so rfl (SO.makes (Enters.func Tryz.call88 rfl) (fun w hI => by have := x4 T a1 _ c1 _ w hR hI.imm hv; rwa [← hw] at this)) rfl ?_;rintro _ D2 _ ⟨hX2, ⟨bq, rfl, hO⟩, rfl⟩;replace hR := hR.ext hX2;replace h2 := hX2.old _ _ h2;replace h3 := hX2.old _ _ h3;refine ⟨fun _ hI => hI.nil.shrink hX2.old, ?_⟩;refine g [[4],[1,7,6,5,4,3,2]] ?_;refine WL.so SO.makeMap rfl ?_;rintro _ _ _ ⟨b21, hb21, rfl, rfl, rfl⟩;refine WL.so (SO.alloc ZvF.h rfl) rfl (zw fun b8 hb8 => ?_);refine g [[4]] ?_;refine WC.freezeN 0 b8 (.cells (List.toArray [.map (some b21)]) 143 (0, 0)) rfl rfl hb8 (fun D8 hX8 h8 => ?_);replace hR := hR.ext hX8;replace hO := hO.ext hX8;replace h2 := hX8.old _ _ h2;replace h3 := hX8.old _ _ h3;refine g [[1,8,7,6,5,4,3,2]] ?_;refine WL.so (SO.alloc ZvF.h rfl) rfl (zw fun b9 hb9 => ?_);refine WL.so (SO.alloc ZvF.h rfl) rfl (zw fun b10 hb10 => ?_);refine g [[6],[2,10,9,8,7,6,5,4,3,2]] ?_;refine WL.so (SO.makes (Enters.func Tryz.call90 rfl) (fun w hI => we bq _ _ hI.imm)) rfl ?_;rintro _ D4 _ ⟨hX4, ⟨bt, rfl, hbt⟩, rfl⟩;replace hR := hR.ext hX4;replace hO := hO.ext hX4;replace h2 := hX4.old _ _ h2;replace h3 := hX4.old _ _ h3;replace h8 := hX4.old _ _ h8;refine g [[3],[0,3,2,8,9,10,23,4,5,6]] ?_;refine WC.hpEq (hp' := [(b10, .cells (List.toArray [.bool (whoO T m 0)]) 4 (0, 0)), (b9, .cells (List.toArray [nt (whoN T m 0)]) 3 (0, 0)), (b21, .map #[] 0), (b6, .cells (List.toArray [it 0]) 51 (0, 0))]) (by rw [jp]; rfl) ?_;refine WC.rangeIterN (N := (allT T).length) (arg := fun k => truV (gt (allT T) k)) (fun w1 _ hD1 => yt T a1 _ c1 bq bt D4 w1 hO hR hbt hv hD1) rfl Tryz.call177 rfl (fun k _ h => (∃ es clock, h = [(b10, .cells (List.toArray [.bool (whoO T m k)]) 4 (0, 0)), (b9, .cells (List.toArray [nt (whoN T m k)]) 3 (0, 0)), (b21, .map es clock), (b6, .cells (List.toArray [it 0]) 51 (0, 0))] ∧ MapB kvT es clock (ZY T m k))) (fun _ _ _ => False) (fun _ _ _ _ _ h => h) ⟨#[], 0, rfl, MapB.empty kvT⟩ ?_ ?_ ?_
  · rintro rec1 l1 Dn0 k D6 _ w1 hrec hk ⟨es, clock, rfl, hMB⟩ hX6 hsz;unfold yP;replace hR := hR.ext hX6;replace h2 := hX6.old _ _ h2;replace h3 := hX6.old _ _ h3;replace h8 := hX6.old _ _ h8;have hoT := xq hv (yE hk);have hTB := Xy hoT m T.l.length;refine g [[1,24,3,2,8,9,10,4,5,6]] ?_;refine WLF.so (zn rfl) (SO.alloc ZvF.h rfl) rfl (zw fun b11 hb11 => ?_);skip;refine g [[2]] ?_;refine WP.iterBegin 1 rfl hrec (g [[2],[5,11,3,2,8,9,10,4,5,6],[1,12,11,3,2,8,9,10,4,5,6]] ?_);refine WLF.yd (zn rfl) (Yd.buildA (zs := [.int .i64 0, .int .i64 0, .int .i64 0, .int .i64 0, .int .i64 0, .int .i64 0, .int .i64 0, .int .i64 0, .int .i64 0, .int .i64 0]) ⟨_, ZvF.h, rfl⟩ UnF.h SzF.h rfl (cs := [_, _, _, _, _, _, _, _, _, _]) rfl) rfl ?_;refine WLF.so (zn rfl) (SO.alloc ZvF.h rfl) rfl (zw fun b13 hb13 => ?_);refine g [[5],[5,13,12,11,3,2,8,9,10,4,5,6]] ?_;refine WCF.loopHd (b := b13) _ (fun i : Nat => [(2, pt b2), (3, pt b3), (8, pt b8), (9, pt b9), (10, pt b10), (11, pt b11), (12, it (-1)), (13, pt b13), (26, nt i)]) (fun i => .cells (List.toArray (truC (iniK i))) 150 (0, 0)) (fun i => i ≤ 5) (fun i => 5 - i) 0 (by omega) rfl ⟨rfl, rfl, rfl, rfl, rfl, rfl, rfl, rfl, rfl, trivial⟩ ?_;intro i hi;refine g [[1],[5,2,3,8,9,10,11,12,13,26]] ?_;refine WCF.cond rfl (fun c27 => ?_) (fun c27 => ?_)
    · try simp only [zq] at c27
      have hi5 : i < 5 := by omega
      refine g [[5],[5,2,3,8,9,10,11,12,13,26],[3,14,2,3,8,9,10,11,12,13,26]] ?_;refine WLF.yd (zn rfl) (Yd.indexA UnF.h SzF.h rfl rfl (by omega) (by omega)) rfl ?_;refine WLF.so (zn rfl) (SO.store 0 rfl SzF.h rfl rfl rfl rfl (by show 0 + i * 2 + 2 ≤ 10; omega) (za rfl)) rfl (zt (g [[3],[4,2,3,8,9,10,11,12,13,26]] ?_));exact WP.againHd (i + 1) (by omega) (by omega) 0 rfl (U1 i hi5) ⟨rfl, rfl, rfl, rfl, rfl, rfl, rfl, rfl, rfl, trivial⟩
    try simp only [zq] at c27
    obtain rfl : i = 5 := by omega
    refine g [[7],[8,2,3,8,9,10,11,12,13]] ?_;refine WCF.loopHd (b := b13) _ (fun i : Nat => [(3, pt b3), (8, pt b8), (9, pt b9), (10, pt b10), (11, pt b11), (12, it (nowI (gt (allT T) k) m i)), (13, pt b13), (34, .slice a1 T.l.length c1), (35, nt T.l.length), (36, nt i)]) (fun i => .cells (List.toArray (truC (Go.Ti.keyT (gt (allT T) k) m i))) 150 (0, 0)) (fun i => i ≤ T.l.length) (fun i => T.l.length - i) 0 (by omega) (by rw [← Xr]) ⟨rfl, rfl, rfl, rfl, rfl, rfl, rfl, rfl, rfl, rfl, trivial⟩ ?_;intro i hi;have hnn := vU (gt (allT T) k) m i;have hwd : w6 (gt (allT T) k) i m = inB m ((gt (allT T) k) i).1 ((gt (allT T) k) i).2 := rfl;refine g [[1],[5,3,8,9,10,11,12,13,34,35,36]] ?_;refine WCF.cond rfl (fun c37 => ?_) (fun c37 => ?_)
    · try simp only [zq] at c37
      have hil : i < T.l.length := by omega
      have hi5 : i < 5 := by omega
      refine g [[5],[6,3,8,9,10,11,12,13,34,35,36],[0,15,3,8,9,10,11,12,13,34,35,36]] ?_;refine WCF.tail 4 [0, 1, 2, 3] rfl zk zk (noLets.then (noLets.blk (noLets.then (noLets.then (noLets.blk (noLets.then (noLets.blk noLets.round))))))) (g [[1]] ?_);refine WQ.q rfl (Yd.qt (Yd.indexA UnF.h SzF.h rfl rfl (by omega) (by omega))) rfl (WQ.q rfl (Yd.qt (Yd.lV [_, _] rfl (RdN.own (k := 1) (n := 2) rfl (uR (gt (allT T) k) hi5)))) rfl (g [[1]] ?_));refine WQ.tailR (WLF.know 41 (prV ((gt (allT T) k) i)) rfl rfl ?_);refine WLF.cl rfl (fun w hI => Qi ((gt (allT T) k) i) m _) (g [[2]] ?_);refine WCF.cond rfl (fun c43 => ?_) (fun c43 => ?_)
      · have hwt : w6 (gt (allT T) k) i m = true := by rw [hwd]; assumption
        refine g [[1],[3,15,3,8,9,10,11,12,13,34,35,36]] ?_;refine WLF.yd (zn rfl) (Yd.indexA UnF.h SzF.h rfl rfl (by omega) (by omega)) rfl (WLF.yd (zn rfl) (Yd.lV [_, _] rfl (RdN.own (k := 1) (n := 2) rfl (uR (gt (allT T) k) hi5))) rfl ?_);refine WLF.yd (zn rfl) (Yd.indexA UnF.h SzF.h rfl rfl (by omega) (by omega)) rfl ?_;refine WLF.so (zn rfl) (SO.store 0 rfl SzF.h rfl rfl rfl rfl (by show 0 + i * 2 + 2 ≤ 10; omega) (za rfl)) rfl (zt (g [[3],[4,15,3,8,9,10,11,12,13,34,35,36]] ?_));refine WLF.part 51 rfl (fun g51 => ?_) (fun g51 => ?_)
        · try simp only [zq] at g51
          have hnx := kF (t := (gt (allT T) k)) (m := m) (k := i) hwt (.inl (by omega));refine g [[3]] ?_
          first | refine WLF.know 54 (nt (nowI (gt (allT T) k) m i).toNat) rfl (congrArg it hnn2) ?_ | skip
          refine g [[4]] ?_;refine WCF.condT rfl (g [[6,15,3,8,9,10,11,12,13,34,35,36],[4,12,3,8,9,10,11,13,34,35,36]] ?_);exact WP.againHd (i + 1) (by omega) (by omega) 0 rfl (by first | exact wZ hwt hi5 | rw [← yJ hwt]) ⟨rfl, rfl, rfl, rfl, rfl, by show some (it _) = some (it _); rw [hnx], rfl, rfl, rfl, rfl, trivial⟩
        try simp only [zq] at g51
        have hnn2 : nowI (gt (allT T) k) m i = (((nowI (gt (allT T) k) m i).toNat : Nat) : Int) := by omega
        refine g [[3]] ?_
        first | refine WLF.know 54 (nt (nowI (gt (allT T) k) m i).toNat) rfl (congrArg it hnn2) ?_ | skip
        refine WLF.sog (zn rfl) rfl (SO.callP CaF.h rfl (fun w hI => ka (gt (allT T) k) i (nowI (gt (allT T) k) m i).toNat hi5 (by omega) _)) rfl (zs (g [[3]] ?_));refine WCF.cond rfl (fun c56 => ?_) (fun c56 => ?_)
        · have hnx := kF (t := (gt (allT T) k)) (m := m) (k := i) hwt (.inr c56);refine g [[6,15,3,8,9,10,11,12,13,34,35,36],[4,12,3,8,9,10,11,13,34,35,36]] ?_;exact WP.againHd (i + 1) (by omega) (by omega) 0 rfl (by first | exact wZ hwt hi5 | rw [← yJ hwt]) ⟨rfl, rfl, rfl, rfl, rfl, by show some (it _) = some (it _); rw [hnx], rfl, rfl, rfl, rfl, trivial⟩
        have hnx := Ui (t := (gt (allT T) k)) (m := m) (k := i) (by omega) c56;refine g [[3],[4,3,8,9,10,11,12,13,34,35,36]] ?_;exact WP.againHd (i + 1) (by omega) (by omega) 0 rfl (by first | exact wZ hwt hi5 | rw [← yJ hwt]) ⟨rfl, rfl, rfl, rfl, rfl, by show some (it _) = some (it _); rw [hnx], rfl, rfl, rfl, rfl, trivial⟩
      have hwt : w6 (gt (allT T) k) i m = false := by rw [hwd]; assumption
      have hnx := Uh (t := (gt (allT T) k)) (m := m) (k := i) (fun h => by rw [hwt] at h; cases h.1);refine g [[3],[4,3,8,9,10,11,12,13,34,35,36]] ?_;exact WP.againHd (i + 1) (by omega) (by omega) 0 rfl (by first | exact wZ hwt hi5 | rw [← yJ hwt]) ⟨rfl, rfl, rfl, rfl, rfl, by show some (it _) = some (it _); rw [hnx], rfl, rfl, rfl, rfl, trivial⟩
    try simp only [zq] at c37
    obtain rfl : i = T.l.length := by omega
    refine g [[7],[3,8,9,10,12,13]] ?_;refine WLF.know 60 (kvT (kyT (Go.Ti.keyT (gt (allT T) k) m T.l.length))) rfl (XB hTB) (WLF.yd (zn rfl) (Yd.lookB (y := kyT (Go.Ti.keyT (gt (allT T) k) m T.l.length)) kx ku Xz UnF.h ZvF.h (j := 6) rfl rfl rfl hMB) rfl (g [[2]] ?_));refine WCF.cond rfl (fun c61 => ?_) (fun c61 => ?_)
    · obtain ⟨hs1, hs2, hs3⟩ := Wd hv hk c61;refine g [[3]] ?_;refine WP.iterOnN hrec (h1 := [_, _, _, _]) zU1 zU2 (DExt.refl _ _) ⟨es, clock, ?_, ?_⟩
      · rw [hs1, hs2]
      rw [hs3]; exact hMB
    refine g [[3],[3,8,9,10,12,13]] ?_;refine WLF.know 63 (kvT (kyT (Go.Ti.keyT (gt (allT T) k) m T.l.length))) rfl (XB hTB) (WLF.so (zn rfl) (SO.putB (y := kyT (Go.Ti.keyT (gt (allT T) k) m T.l.length)) kx ku Xz UnF.h rfl rfl rfl (j := 6) rfl hMB) rfl ?_);rintro _ _ _ ⟨rfl, es1, clock1, rfl, hMB1⟩;refine g [[3],[5,9,10,12]] ?_;refine WCF.cond rfl (fun c65 => ?_) (fun c65 => ?_)
    · try simp only [zq] at c65
      obtain ⟨hs1, hs2⟩ := Ye hk c65;refine g [[4,10]] ?_;refine WP.iterOnN hrec (h1 := [_, _, _, _]) zU1 zU2 (DExt.refl _ _) ⟨es1, clock1, ?_, ?_⟩
      · rw [hs1, hs2]; rfl
      rw [vg hk]; exact hMB1
    try simp only [zq] at c65
    obtain ⟨q, hqn⟩ : ∃ q : Nat, nowI (gt (allT T) k) m T.l.length = (q : Int) := ⟨(nowI (gt (allT T) k) m T.l.length).toNat, by omega⟩;have hnn := vU (gt (allT T) k) m T.l.length;have hql : q < T.l.length := by omega
    obtain ⟨hs1, hs2⟩ := Yf hk hql hqn;have hw32 : whoN T m k < 32 := Nat.lt_of_lt_of_le (qB _ _) (Nat.pow_le_pow_right (by decide) h5);have hq32 : 2 ^ q < 32 := Nat.lt_of_lt_of_le (Nat.pow_lt_pow_right (by decide) hql) (Nat.pow_le_pow_right (by decide) h5);refine g [[0,9,12]] ?_;refine WCF.tail 3 [0, 1, 2] rfl zk zk (noLets.blk noLets.round) (g [[2]] ?_);refine WQ.know 67 (nt q) rfl (congrArg it hqn) (WQ.q rfl (Yd.qt (Yd.shlN (k := q) rfl rfl (by omega))) rfl ?_);refine WQ.tailR (WLF.so (zn rfl) (SO.buildSlice UnF.h SzF.h ZvF.h rfl rfl rfl rfl (cs := [_, _]) rfl) rfl ?_);rintro _ _ _ ⟨b69, hb69, rfl, rfl, rfl⟩;refine WLF.freezeN 0 b69 (.cells (List.toArray [nt (whoN T m k), nt (2 ^ q)]) 3 (0, 0)) rfl rfl hb69 (fun D69 hX69 h69 => ?_);refine WLF.cl rfl (fun w hI => Qf [whoN T m k, 2 ^ q] (some ⟨b69, 0, none⟩) 2 2 D69 _ (SlL.ofBlock (f := natC) (l := [whoN T m k, 2 ^ q]) (rest := []) (fun _ => rfl) h69) (by intro x hx; simp only [List.mem_cons, List.not_mem_nil, or_false] at hx; rcases hx with rfl | rfl; exact hw32; exact hq32) (by omega) hI.imm) ?_;refine WLF.know 70 (nt (whoN T m (k + 1))) rfl (by rw [← hs1]; show nt (orL [whoN T m k, 2 ^ q] 2) = _; simp [orL]) (g [[3]] ?_);refine WP.iterOnN hrec (h1 := [_, _, _, _]) zU1 zU2 hX69 ⟨es1, clock1, ?_, ?_⟩
    · rw [hs2]; rfl
    rw [vg hk]; exact hMB1
  · rintro Dn1 D6 _ hDn1 hX6 ⟨es, clock, rfl, hMB⟩;refine g [[3],[4,9,10,4,5,6]] ?_;refine WL.part 73 rfl (fun g73 => ?_) (fun g73 => ?_)
    · try simp only [zq] at g73
      refine g [[2]] ?_;refine WL.cl rfl (fun w hI => xp _ _) (g [[3],[0,9,10,4,5,6]] ?_);refine WC.drawP [_, _] (pz [1,3,4,6,8]) zk zk zX (fun _ hI => hI.tail.left (l1 := [_, _]) (l2 := [_, _])) (g [[2]] ?_);refine WA.so rfl (SO.ofYd (Yd.assign rfl)) rfl ?_;rintro _ _ _ ⟨rfl, rfl, rfl⟩;refine ⟨fun _ hI => hI.tail.left (l1 := [_, _]) (l2 := [_, _]), ?_⟩;refine WA.so rfl (SO.ofYd (Yd.assign rfl)) rfl ?_;rintro _ _ _ ⟨rfl, rfl, rfl⟩;refine ⟨fun _ hI => hI.tail.left (l1 := [_, _]) (l2 := [_, _]), ?_⟩;refine WA.so rfl (SO.store 4 rfl SzF.h rfl rfl rfl rfl (zqb rfl) (za rfl)) rfl ?_;rintro _ _ _ ⟨rfl, rfl, rfl⟩;refine ⟨fun _ hI => hI.tail.left (l1 := [_, _]) (l2 := [_, _]), ?_⟩;refine g [[3]] ?_;refine WP.retMsD [Dn1] [_, _, _, _] [_, _, _] [_, _, _] rfl rfl CaF.h (fun w hI => VW _ _) (fun _ h => h) (fun h => h) rfl zV (fun w hI => ⟨congrArg Ending.returned (by rw [hO0]; rfl), hI.keep⟩)
    try simp only [zq] at g73
    refine g [[2]] ?_;refine WL.part 75 rfl (fun g75 => ?_) (fun g75 => ?_)
    · refine WL.cl rfl (fun w hI => xp _ _) (g [[3],[0,9,10,4,5,6]] ?_);refine WC.drawP [_, _] (pz [1,3,4,6,8]) zk zk zX (fun _ hI => hI.tail.left (l1 := [_, _]) (l2 := [_, _])) (g [[2]] ?_);refine WA.so rfl (SO.ofYd (Yd.assign rfl)) rfl ?_;rintro _ _ _ ⟨rfl, rfl, rfl⟩;refine ⟨fun _ hI => hI.tail.left (l1 := [_, _]) (l2 := [_, _]), ?_⟩;refine WA.so rfl (SO.ofYd (Yd.assign rfl)) rfl ?_;rintro _ _ _ ⟨rfl, rfl, rfl⟩;refine ⟨fun _ hI => hI.tail.left (l1 := [_, _]) (l2 := [_, _]), ?_⟩;refine WA.so rfl (SO.store 4 rfl SzF.h rfl rfl rfl rfl (zqb rfl) (za rfl)) rfl ?_;rintro _ _ _ ⟨rfl, rfl, rfl⟩;refine ⟨fun _ hI => hI.tail.left (l1 := [_, _]) (l2 := [_, _]), ?_⟩;refine g [[3]] ?_;refine WP.retMsD [Dn1] [_, _, _, _] [_, _, _] [_, _, _] rfl rfl CaF.h (fun w hI => VW _ _) (fun _ h => h) (fun h => h) rfl zV (fun w hI => ⟨congrArg Ending.returned (by rw [hO0]; rfl), hI.keep⟩)
    exact (K9 hne (by omega) g75).elim
  exact fun _ _ _ _ _ _ h => h.elim
theorem Vo (T : Tks) (a1 : Option Addr) (n1 c1 : Nat) (D : Imm) (w : World) (hR : TksR D T a1 n1) (hH : Holds D w) (hv : tksB T = true) (m : Int) : z8 Tryz.prog 25 [.agg #[it T.huts, .slice a1 n1 c1], it m] w (.tuple #[it (zi T m).1, .bool (zi T m).2.1, it (zi T m).2.2]) := by
  cases hw : minT m with
  | false => exact KU T a1 n1 c1 D w hR hH hv m hw
  | true =>
    by_cases hne : allT T = []
    · exact KV T a1 n1 c1 D w hR hH hv m hw hne
    exact Qv T a1 n1 c1 D w hR hH hv m hw hne
end Go.Proofs.YtejgofaeafphjaaGreatDoor
