import Derived.Test.YtejgofaeafphjaaGreatDoorXG9
import Derived.Test.YtejgofaeafphjaaGreatDoorXG8
import Derived.Test.YtejgofaeafphjaaGreatDoorXG3
import Derived.Test.YtejgofaeafphjaaGreatDoorXG7
set_option linter.all false
set_option maxRecDepth 100000
set_option maxHeartbeats 4000000
attribute [local irreducible] Go.W.WL Go.W.WLF Go.W.WC Go.W.WCF Go.W.WP Go.W.WA Go.W.WQ Go.W.WH Go.W.WHo Go.W.WCn Go.W.Yd Go.W.Qt Go.W.SO Go.Code.wp Go.Code.wpIn
namespace Go.Proofs.YtejgofaeafphjaaGreatDoor
open Go.W Go.Ti
theorem ka (t : Tru) (a b : Nat) (ha : a < 5) (hb5 : b < 5) (w : World) : z8 Tryz.prog 92 [truV t, nt a, nt b] w (.bool (befT t a b)) := by
  unfold z8;refine en Tryz.func92 rfl Tryz.ntmps92 zI (g [[1],[1,0,1,2]] ?_);refine WL.so (SO.box rfl rfl) rfl (zw fun b3 hb3 => ?_);refine g [[4],[0,6,3,1,2],[3022],[1]] ?_;refine WQ.q rfl (Yd.qt (Yd.indexA UnF.h SzF.h rfl rfl (by omega) (by omega))) rfl (g [[1]] ?_);refine WQ.q rfl (Yd.qt (Yd.l1 rfl (Rd.own (k := 0) rfl (uq t (i := a) (by omega)).1))) rfl (g [[1]] ?_);refine WQ.q rfl (Yd.qt (Yd.indexA UnF.h SzF.h rfl rfl (by omega) (by omega))) rfl (g [[1]] ?_);refine WQ.q rfl (Yd.qt (Yd.l1 rfl (Rd.own (k := 0) rfl (uq t (i := b) (by omega)).1))) rfl (g [[2]] ?_);refine WQ.part 16 rfl (fun g16 => ?_) (fun g16 => ?_)
  · try simp only [zq] at g16
    refine g [[20]] ?_;refine WP.ret1 rfl rfl rfl (RV.tmp rfl) (fun w hI => ⟨zb (by rw [Bool.eq_iff_iff]; simp_all [befT]; try omega), hI.keep⟩)
  try simp only [zq] at g16
  refine g [[1]] ?_;refine WQ.qg rfl rfl (Yd.qt (Yd.indexA UnF.h SzF.h rfl rfl (by omega) (by omega))) rfl (g [[1]] ?_);refine WQ.qg rfl rfl (Yd.qt (Yd.l1 rfl (Rd.own (k := 0) rfl (uq t (i := a) (by omega)).1))) rfl (g [[1]] ?_);refine WQ.qg rfl rfl (Yd.qt (Yd.indexA UnF.h SzF.h rfl rfl (by omega) (by omega))) rfl (g [[1]] ?_);refine WQ.qg rfl rfl (Yd.qt (Yd.l1 rfl (Rd.own (k := 0) rfl (uq t (i := b) (by omega)).1))) rfl (g [[2]] ?_);refine WQ.part 26 rfl (fun g26 => ?_) (fun g26 => ?_)
  · try simp only [zq] at g26
    refine g [[10]] ?_;refine WP.ret1 rfl rfl rfl (RV.tmp rfl) (fun w hI => ⟨zb (by rw [Bool.eq_iff_iff]; simp_all [befT]; try omega), hI.keep⟩)
  try simp only [zq] at g26
  refine g [[10]] ?_;refine WP.ret1 rfl rfl rfl (RV.tmp rfl) (fun w hI => ⟨zb (by rw [Bool.eq_iff_iff]; simp_all [befT]; try omega), hI.keep⟩)
theorem JE (t : Tru) (a b : Nat) (v : Value) (ha : a < 5) (hbb : b < 5) (w : World) : z8 Tryz.prog 335 [.agg #[nt a, nt b], v, truV t] w (.bool (WN t a b)) := by
  unfold z8;refine en Tryz.func335 rfl Tryz.ntmps335 zI (g [[1],[1,0,2]] ?_);refine WL.so (SO.box rfl rfl) rfl (zw fun b3 hb3 => ?_);refine WL.so (SO.box rfl rfl) rfl (zw fun b5 hb5 => ?_);refine g [[4],[5,6,5,3],[0,7,6,5,3],[3018],[6]] ?_;refine WQ.q rfl (Qt.call (Enters.val CaF.h rfl rfl) (fun w hI => ka t b a hbb ha _)) rfl (g [[1]] ?_);refine WQ.part 15 rfl (fun g15 => ?_) (fun g15 => ?_)
  · refine g [[2]] ?_;refine WQ.qg rfl rfl (Yd.qt (Yd.indexA UnF.h SzF.h rfl rfl (by omega) (by omega))) rfl (g [[1]] ?_);refine WQ.qg rfl rfl (Yd.qt (Yd.l1 rfl (Rd.own (k := 0) rfl (uq t (i := b) (by omega)).2))) rfl (g [[2]] ?_);refine WQ.qg rfl rfl (Yd.qt (Yd.indexA UnF.h SzF.h rfl rfl (by omega) (by omega))) rfl (g [[1]] ?_);refine WQ.qg rfl rfl (Yd.qt (Yd.l1 rfl (Rd.own (k := 0) rfl (uq t (i := a) (by omega)).2))) rfl (g [[7]] ?_);refine WP.ret1 rfl rfl rfl (RV.tmp rfl) (fun w hI => ⟨zb (by rw [Bool.eq_iff_iff]; simp_all [WN]), hI.keep⟩)
  refine g [[17]] ?_;refine WP.ret1 rfl rfl rfl (RV.tmp rfl) (fun w hI => ⟨zb (by rw [Bool.eq_iff_iff]; simp_all [WN]), hI.keep⟩)
theorem Ux (T : Tks) (a1 : Option Addr) (n1 c1 : Nat) (q : Nat) (D : Imm) (w : World) (hO : xM D q T (.slice a1 n1 c1)) (hR : TksR D T a1 n1) (hH : Holds D w) (hv : tksB T = true) (t : Tru) (a : Nat) (o : Int) (ha : a < 5) : z8 Tryz.prog 334 [.agg #[nt a, it o], pt q, truV t] w (.bool ((List.range T.l.length).any (WN t a))) := by
  unfold z8;obtain rfl := hR.tick.len';have hl1 := hR.len;have h5 := (y8 hv).2.1;obtain ⟨a3, c3, hq, hS3, hc3⟩ := hO;refine en Tryz.func334 rfl Tryz.ntmps334 (Inv.start hH) (g [[1],[1,0,1,2]] ?_);refine WL.so (SO.box rfl rfl) rfl (zw fun b3 hb3 => ?_);refine WL.so (SO.box rfl rfl) rfl (zw fun b5 hb5 => ?_);refine g [[5],[11,6,5,3,1]] ?_;refine WC.loop (fun y : Nat × Int => [(1, pt q), (3, pt b3), (5, pt b5), (12, nt T.l.length), (13, nt y.1)]) (fun y => [(b5, .cells (List.toArray (truC t)) 150 (0, 0)), (b3, .cells (List.toArray [nt a, it y.2]) 181 (0, 0))]) (fun _ => D) (fun y => y.1 ≤ T.l.length ∧ ∀ i, i < y.1 → WN t a i = false) (fun y => T.l.length - y.1) (0, o) ⟨by omega, by intro i hi; omega⟩ (fun a w h => y4 h ⟨rfl, rfl, rfl, rfl, rfl, trivial⟩) ?_;rintro ⟨k, o⟩ ⟨hk, hd⟩;dsimp only at hk hd;refine g [[1],[5,1,3,5,12,13]] ?_;refine WC.cond rfl (fun c14 => ?_) (fun c14 => ?_)
  · try simp only [zq] at c14
    refine g [[5],[7,1,3,5,12,13],[4,1,3,5,12,13]] ?_;refine WL.cl rfl (fun w hI => (JE t a k (pt q) ha (by omega) _)) (g [[2]] ?_);refine WC.cond rfl (fun c20 => ?_) (fun c20 => ?_)
    · refine g [[1],[10,1,3,5,12,13]] ?_;refine WP.ret1 rfl rfl rfl (RV.tmp rfl) (fun w hI => ⟨zb (Eq.symm (List.any_eq_true.2 ⟨k, List.mem_range.2 (by omega), c20⟩)), hI.keep⟩)
    refine g [[3],[4,1,3,5,12,13]] ?_;exact WP.again (⟨k + 1, (k : Int)⟩ : Nat × Int) ⟨by simp only; omega, zZ hd c20⟩ (by simp only; omega) (fun aa ww h => y4 h ⟨rfl, rfl, rfl, rfl, rfl, trivial⟩)
  try simp only [zq] at c14
  refine g [[6]] ?_;refine WC.ofFr [] trivial (g [[5]] ?_);refine WP.ret1 rfl rfl rfl (RV.tmp rfl) (fun w hI => ⟨zb (Eq.symm (by rw [List.any_eq_false]; intro i hi; rw [hd i (by have := List.mem_range.1 hi; omega)]; simp)), hI.keep⟩)
theorem Wb (T : Tks) (a1 : Option Addr) (n1 c1 : Nat) (q : Nat) (D : Imm) (w : World) (hO : xM D q T (.slice a1 n1 c1)) (hR : TksR D T a1 n1) (hH : Holds D w) (hv : tksB T = true) (t : Tru) (a : Nat) (ha : a < 5) : z8 Tryz.prog 336 [.agg #[nt a, it 0], pt q, truV t] w (.bool (yD T.l.length t a)) := by
  unfold z8;refine en Tryz.func336 rfl Tryz.ntmps336 (Inv.start hH) (g [[1],[1,0,1,2]] ?_);refine WL.so (SO.box rfl rfl) rfl (zw fun b3 hb3 => ?_);refine WL.so (SO.box rfl rfl) rfl (zw fun b5 hb5 => ?_);refine g [[4],[5,6,5,3,1]] ?_;refine WL.cl rfl (fun w hI => (Ux T a1 n1 c1 q D _ hO hR hI.imm hv t a 0 ha)) (g [[5]] ?_);refine WP.ret1 rfl rfl rfl (RV.tmp rfl) (fun w hI => ⟨rfl, hI.keep⟩)
theorem zdQ : zj Tryz.prog 178 [.bool false, .bool false] [(0, 1), (1, 1)] := ⟨⟨_, Tryz.zeroValue178, rfl⟩, _, Tryz.underlying178, fun w => by simp [Tryz.sizeOf4]⟩
abbrev zbH := SaF.mk zdQ
attribute [instance] zbH
theorem zd {α : Type} [Inhabited α] {f : α → Bool} {l : List α} {k : Nat} (hk : k < l.length) : (l.take (k + 1)).any f = ((l.take k).any f || f (gt l k)) := by
  have hg : gt l k = l[k] := by simp [gt, List.getD, hk]
  rw [List.take_succ_eq_append_getElem hk, List.any_append, hg];simp
theorem zg {α : Type} {f : α → Bool} {l : List α} {k : Nat} (h : (l.take k).any f = true) : l.any f = true := by
  obtain ⟨x, hx, hf⟩ := List.any_eq_true.1 h;exact List.any_eq_true.2 ⟨x, List.mem_of_mem_take hx, hf⟩
theorem Zh {α : Type} {f : α → Bool} {l : List α} (hne : l ≠ []) (h1 : l.any f = false) (h2 : (l.any fun x => !f x) = false) : False := by
  cases l with
  | nil => exact hne rfl
  | cons x l =>
    rw [List.any_cons] at h1 h2;cases hf : f x <;> simp [hf] at h1 h2
theorem eqVd (a b c d : Bool) : ∀ w, (Op.equalIn 10000 178 (.agg #[.bool a, .bool b]) (.agg #[.bool c, .bool d])).run Tryz.prog w = .ok (a == c && b == d) w := by
  intro w;cases a <;> cases b <;> cases c <;> cases d <;> simp [go_sem, Op.eqFields]
theorem Qc (a b : Bool) (w : World) : z8 Tryz.prog 119 [.agg #[.bool a, .bool b]] w (it (vI a b)) := by
  unfold z8;refine en Tryz.func119 rfl Tryz.ntmps119 zI (g [[1],[1,0]] ?_);refine WL.so (SO.box rfl rfl) rfl (zw fun b1 hb1 => ?_);refine g [[5],[6,2,1],[2,3,2]] ?_;refine WL.yd (Yd.eqS EgF.h (eqVd _ _ _ _) rfl rfl) rfl (g [[3]] ?_);refine WC.cond rfl (fun c4 => ?_) (fun c4 => ?_)
  · refine g [[1],[7,2]] ?_;refine WP.ret1 rfl rfl rfl (RV.tmp rfl) (fun w hI => ⟨j8 (by unfold vI; cases a <;> cases b <;> simp_all), hI.keep⟩)
  refine g [[1],[2,3,2]] ?_;refine WL.yd (Yd.eqS EgF.h (eqVd _ _ _ _) rfl rfl) rfl (g [[3]] ?_);refine WC.cond rfl (fun c7 => ?_) (fun c7 => ?_)
  · refine g [[1],[7,2]] ?_;refine WP.ret1 rfl rfl rfl (RV.tmp rfl) (fun w hI => ⟨j8 (by unfold vI; cases a <;> cases b <;> simp_all), hI.keep⟩)
  refine g [[4],[5,2]] ?_;refine WP.ret1 rfl rfl rfl (RV.tmp rfl) (fun w hI => ⟨j8 (by unfold vI; cases a <;> cases b <;> simp_all), hI.keep⟩)
theorem zcd (T : Tks) (a1 : Option Addr) (n1 c1 : Nat) (q : Nat) (D : Imm) (w : World) (hO : xM D q T (.slice a1 n1 c1)) (hR : TksR D T a1 n1) (hH : Holds D w) (hv : tksB T = true) (a : Nat) (ha : a < 5) (hne : allT T ≠ []) : z8 Tryz.prog 118 [pt q, .iface 183 (.agg #[nt a, it 0])] w (.agg #[.bool ((allT T).any (fun t => yD T.l.length t a)), .bool ((allT T).any (fun t => !yD T.l.length t a))]) := by
  unfold z8;obtain rfl := hR.tick.len';have hl1 := hR.len;refine enM Tryz.func118 rfl Tryz.ntmps118 (Inv.start hH) (g [[1],[1,0,1]] ?_);refine WL.so (SO.box rfl rfl) rfl (zw fun b2 hb2 => ?_);refine WL.so (SO.box rfl rfl) rfl (zw fun b3 hb3 => ?_);refine WL.so (SO.alloc ZvF.h rfl) rfl (zw fun b4 hb4 => ?_);refine g [[4],[2,4,3,2]] ?_;refine WL.so (SO.makes (Enters.func Tryz.call90 rfl) (fun w hI => we q D _ hI.imm)) rfl ?_;rintro _ D1 _ ⟨hX1, ⟨bt, rfl, hbt⟩, rfl⟩;replace hO := hO.ext hX1;replace hR := hR.ext hX1;refine g [[3],[0,2,3,4,8]] ?_;refine WC.rangeIterN (N := (allT T).length) (arg := fun k => truV (gt (allT T) k)) (fun w1 _ hD1 => yt T a1 _ c1 q bt D1 w1 hO hR hbt hv hD1) rfl Tryz.call177 rfl (fun k _ h => h = [(b4, .cells (List.toArray [.bool (((allT T).take k).any (fun t => yD T.l.length t a)), .bool (((allT T).take k).any (fun t => !yD T.l.length t a))]) 178 (0, 0)), (b3, .cells (List.toArray [.iface 183 (.agg #[nt a, it 0])]) 274 (0, 0)), (b2, .cells (List.toArray [pt q]) 141 (0, 0))]) (fun c _ h => c = .ret ∧ h = [(b4, .cells (List.toArray [.bool ((allT T).any (fun t => yD T.l.length t a)), .bool ((allT T).any (fun t => !yD T.l.length t a))]) 178 (0, 0)), (b3, .cells (List.toArray [.iface 183 (.agg #[nt a, it 0])]) 274 (0, 0)), (b2, .cells (List.toArray [pt q]) 141 (0, 0))] ∧ allT T ≠ []) (fun _ _ _ _ _ h => h) rfl ?_ ?_ ?_
  · rintro rec1 l1 Dn0 k D5 _ w1 hrec hk rfl hX5 hsz;unfold yP;replace hO := hO.ext hX5;replace hR := hR.ext hX5;refine g [[1,9,2,3,4]] ?_;refine WLF.so (zn rfl) (SO.alloc ZvF.h rfl) rfl (zw fun b5 hb5 => ?_);refine g [[2]] ?_;refine WP.iterBegin 1 rfl hrec (g [[2],[4,5,2,3,4]] ?_);refine WLF.so (zn rfl) (SO.call (Enters.meth CaF.h (fun w => by kernel_rfl) rfl rfl) (fun w hI => Wb T a1 _ c1 q D5 _ hO hR hI.imm hv (gt (allT T) k) a ha)) rfl (zs (g [[4],[4,6,4]] ?_));refine WLF.part 16 rfl (fun g16 => ?_) (fun g16 => ?_)
    · refine g [[5]] ?_;refine WLF.part 21 rfl (fun g21 => ?_) (fun g21 => ?_)
      · refine g [[8],[3,4]] ?_;refine WLF.yd (zn rfl) (Yd.eqS EgF.h (eqVd _ _ _ _) rfl rfl) rfl (g [[2]] ?_);refine WCF.cond rfl (fun c28 => ?_) (fun c28 => ?_)
        · refine g [[1],[7,4]] ?_;have hA : (allT T).any (fun t => yD T.l.length t a) = true := zg (k := k + 1) (by rw [zd hk]; simp_all);have hN : (allT T).any (fun t => !yD T.l.length t a) = true := zg (k := k + 1) (by rw [zd hk]; simp_all);refine WP.iterRetN (h1 := [_, _, _]) (fun _ h => List.mem_cons_of_mem _ h) (fun h => (List.nodup_cons.1 h).2) (DExt.refl _ _) ⟨rfl, ?_, List.ne_nil_of_length_pos (by omega)⟩;rw [hA, hN];rfl
        refine g [[2]] ?_;refine WP.iterOnN hrec (h1 := [_, _, _]) (fun _ h => List.mem_cons_of_mem _ h) (fun h => (List.nodup_cons.1 h).2) (DExt.refl _ _) ?_;rw [zd hk, zd hk, g16, g21];rfl
      refine g [[8],[3,4]] ?_;refine WLF.yd (zn rfl) (Yd.eqS EgF.h (eqVd _ _ _ _) rfl rfl) rfl (g [[2]] ?_);refine WCF.cond rfl (fun c28 => ?_) (fun c28 => ?_)
      · refine g [[1],[7,4]] ?_;have hA : (allT T).any (fun t => yD T.l.length t a) = true := zg (k := k + 1) (by rw [zd hk]; simp_all);have hN : (allT T).any (fun t => !yD T.l.length t a) = true := zg (k := k + 1) (by rw [zd hk]; simp_all);refine WP.iterRetN (h1 := [_, _, _]) (fun _ h => List.mem_cons_of_mem _ h) (fun h => (List.nodup_cons.1 h).2) (DExt.refl _ _) ⟨rfl, ?_, List.ne_nil_of_length_pos (by omega)⟩;rw [hA, hN];have e : yD T.l.length (gt (allT T) k) a = false := by simp_all
        rw [e]; rfl
      refine g [[2]] ?_;refine WP.iterOnN hrec (h1 := [_, _, _]) (fun _ h => List.mem_cons_of_mem _ h) (fun h => (List.nodup_cons.1 h).2) (DExt.refl _ _) ?_;rw [zd hk, zd hk, g16, g21];rfl
    refine g [[5]] ?_;refine WLF.part 21 rfl (fun g21 => ?_) (fun g21 => ?_)
    · refine g [[8],[3,4]] ?_;refine WLF.yd (zn rfl) (Yd.eqS EgF.h (eqVd _ _ _ _) rfl rfl) rfl (g [[2]] ?_);refine WCF.cond rfl (fun c28 => ?_) (fun c28 => ?_)
      · refine g [[1],[7,4]] ?_;have hA : (allT T).any (fun t => yD T.l.length t a) = true := zg (k := k + 1) (by rw [zd hk]; simp_all);have hN : (allT T).any (fun t => !yD T.l.length t a) = true := zg (k := k + 1) (by rw [zd hk]; simp_all);refine WP.iterRetN (h1 := [_, _, _]) (fun _ h => List.mem_cons_of_mem _ h) (fun h => (List.nodup_cons.1 h).2) (DExt.refl _ _) ⟨rfl, ?_, List.ne_nil_of_length_pos (by omega)⟩;rw [hA, hN];have e : yD T.l.length (gt (allT T) k) a = true := by simp_all
        rw [e]; rfl
      refine g [[2]] ?_;refine WP.iterOnN hrec (h1 := [_, _, _]) (fun _ h => List.mem_cons_of_mem _ h) (fun h => (List.nodup_cons.1 h).2) (DExt.refl _ _) ?_;rw [zd hk, zd hk, g16, g21];rfl
    refine g [[8],[3,4]] ?_;refine WLF.yd (zn rfl) (Yd.eqS EgF.h (eqVd _ _ _ _) rfl rfl) rfl (g [[2]] ?_);refine WCF.cond rfl (fun c28 => ?_) (fun c28 => ?_)
    · refine g [[1],[7,4]] ?_;have hA : (allT T).any (fun t => yD T.l.length t a) = true := zg (k := k + 1) (by rw [zd hk]; simp_all);have hN : (allT T).any (fun t => !yD T.l.length t a) = true := zg (k := k + 1) (by rw [zd hk]; simp_all);refine WP.iterRetN (h1 := [_, _, _]) (fun _ h => List.mem_cons_of_mem _ h) (fun h => (List.nodup_cons.1 h).2) (DExt.refl _ _) ⟨rfl, ?_, List.ne_nil_of_length_pos (by omega)⟩;rw [hA, hN]
      exfalso; revert c28; cases yD T.l.length (gt (allT T) k) a <;> simp; done
    refine g [[2]] ?_;refine WP.iterOnN hrec (h1 := [_, _, _]) (fun _ h => List.mem_cons_of_mem _ h) (fun h => (List.nodup_cons.1 h).2) (DExt.refl _ _) ?_;rw [zd hk, zd hk, g16, g21];rfl
  · rintro Dn1 D6 _ hDn1 hX6 rfl;rw [List.take_length];refine g [[3],[4,4]] ?_;refine WL.part 32 rfl (fun g32 => ?_) (fun g32 => ?_)
    · refine g [[3]] ?_;refine WL.cl rfl (fun w hI => xp _ _) (g [[3],[6,4]] ?_);refine WP.retMs [Dn1] [_, _, _] [_] [_] rfl rfl (fun _ h => h) (fun h => h) rfl zV (fun w hI => ⟨rfl, hI.keep⟩)
    refine g [[3]] ?_;refine WL.part 35 rfl (fun g35 => ?_) (fun g35 => ?_)
    · refine WL.cl rfl (fun w hI => xp _ _) (g [[3],[6,4]] ?_);refine WP.retMs [Dn1] [_, _, _] [_] [_] rfl rfl (fun _ h => h) (fun h => h) rfl zV (fun w hI => ⟨rfl, hI.keep⟩)
    exact (Zh hne g32 g35).elim
  rintro Dn1 c D6 _ hDn1 hX6 ⟨rfl, rfl, hne2⟩;refine g [[3]] ?_;refine WP.retMs [Dn1] [_, _, _] [_] [_] rfl rfl (fun _ h => h) (fun h => h) rfl zV (fun w hI => ⟨rfl, hI.keep⟩)
theorem zcc (T : Tks) (a1 : Option Addr) (n1 c1 : Nat) (q : Nat) (D : Imm) (w : World) (hO : xM D q T (.slice a1 n1 c1)) (hR : TksR D T a1 n1) (hH : Holds D w) (hv : tksB T = true) (a : Nat) (ha : a < 5) (hne : allT T = []) : xC Tryz.prog 118 [pt q, .iface 183 (.agg #[nt a, it 0])] w (jz 10) := by
  unfold xC;obtain rfl := hR.tick.len';have hl1 := hR.len;refine enM Tryz.func118 rfl Tryz.ntmps118 (Inv.start hH) (g [[1],[1,0,1]] ?_);refine WL.so (SO.box rfl rfl) rfl (zw fun b2 hb2 => ?_);refine WL.so (SO.box rfl rfl) rfl (zw fun b3 hb3 => ?_);refine WL.so (SO.alloc ZvF.h rfl) rfl (zw fun b4 hb4 => ?_);refine g [[4],[2,4,3,2]] ?_;refine WL.so (SO.makes (Enters.func Tryz.call90 rfl) (fun w hI => we q D _ hI.imm)) rfl ?_;rintro _ D1 _ ⟨hX1, ⟨bt, rfl, hbt⟩, rfl⟩;replace hO := hO.ext hX1;replace hR := hR.ext hX1;refine g [[3],[0,2,3,4,8]] ?_;refine WC.rangeIterN (N := (allT T).length) (arg := fun k => truV (gt (allT T) k)) (fun w1 _ hD1 => yt T a1 _ c1 q bt D1 w1 hO hR hbt hv hD1) rfl Tryz.call177 rfl (fun k _ h => h = [(b4, .cells (List.toArray [.bool (((allT T).take k).any (fun t => yD T.l.length t a)), .bool (((allT T).take k).any (fun t => !yD T.l.length t a))]) 178 (0, 0)), (b3, .cells (List.toArray [.iface 183 (.agg #[nt a, it 0])]) 274 (0, 0)), (b2, .cells (List.toArray [pt q]) 141 (0, 0))]) (fun c _ h => c = .ret ∧ h = [(b4, .cells (List.toArray [.bool ((allT T).any (fun t => yD T.l.length t a)), .bool ((allT T).any (fun t => !yD T.l.length t a))]) 178 (0, 0)), (b3, .cells (List.toArray [.iface 183 (.agg #[nt a, it 0])]) 274 (0, 0)), (b2, .cells (List.toArray [pt q]) 141 (0, 0))] ∧ allT T ≠ []) (fun _ _ _ _ _ h => h) rfl ?_ ?_ ?_
  · rintro rec1 l1 Dn0 k D5 _ w1 hrec hk rfl hX5 hsz;unfold yP;replace hO := hO.ext hX5;replace hR := hR.ext hX5;refine g [[1,9,2,3,4]] ?_;refine WLF.so (zn rfl) (SO.alloc ZvF.h rfl) rfl (zw fun b5 hb5 => ?_);refine g [[2]] ?_;refine WP.iterBegin 1 rfl hrec (g [[2],[4,5,2,3,4]] ?_);refine WLF.so (zn rfl) (SO.call (Enters.meth CaF.h (fun w => by kernel_rfl) rfl rfl) (fun w hI => Wb T a1 _ c1 q D5 _ hO hR hI.imm hv (gt (allT T) k) a ha)) rfl (zs (g [[4],[4,6,4]] ?_));refine WLF.part 16 rfl (fun g16 => ?_) (fun g16 => ?_)
    · refine g [[5]] ?_;refine WLF.part 21 rfl (fun g21 => ?_) (fun g21 => ?_)
      · refine g [[8],[3,4]] ?_;refine WLF.yd (zn rfl) (Yd.eqS EgF.h (eqVd _ _ _ _) rfl rfl) rfl (g [[2]] ?_);refine WCF.cond rfl (fun c28 => ?_) (fun c28 => ?_)
        · refine g [[1],[7,4]] ?_;have hA : (allT T).any (fun t => yD T.l.length t a) = true := zg (k := k + 1) (by rw [zd hk]; simp_all);have hN : (allT T).any (fun t => !yD T.l.length t a) = true := zg (k := k + 1) (by rw [zd hk]; simp_all);refine WP.iterRetN (h1 := [_, _, _]) (fun _ h => List.mem_cons_of_mem _ h) (fun h => (List.nodup_cons.1 h).2) (DExt.refl _ _) ⟨rfl, ?_, List.ne_nil_of_length_pos (by omega)⟩;rw [hA, hN];rfl
        refine g [[2]] ?_;refine WP.iterOnN hrec (h1 := [_, _, _]) (fun _ h => List.mem_cons_of_mem _ h) (fun h => (List.nodup_cons.1 h).2) (DExt.refl _ _) ?_;rw [zd hk, zd hk, g16, g21];rfl
      refine g [[8],[3,4]] ?_;refine WLF.yd (zn rfl) (Yd.eqS EgF.h (eqVd _ _ _ _) rfl rfl) rfl (g [[2]] ?_);refine WCF.cond rfl (fun c28 => ?_) (fun c28 => ?_)
      · refine g [[1],[7,4]] ?_;have hA : (allT T).any (fun t => yD T.l.length t a) = true := zg (k := k + 1) (by rw [zd hk]; simp_all);have hN : (allT T).any (fun t => !yD T.l.length t a) = true := zg (k := k + 1) (by rw [zd hk]; simp_all);refine WP.iterRetN (h1 := [_, _, _]) (fun _ h => List.mem_cons_of_mem _ h) (fun h => (List.nodup_cons.1 h).2) (DExt.refl _ _) ⟨rfl, ?_, List.ne_nil_of_length_pos (by omega)⟩;rw [hA, hN];have e : yD T.l.length (gt (allT T) k) a = false := by simp_all
        rw [e]; rfl
      refine g [[2]] ?_;refine WP.iterOnN hrec (h1 := [_, _, _]) (fun _ h => List.mem_cons_of_mem _ h) (fun h => (List.nodup_cons.1 h).2) (DExt.refl _ _) ?_;rw [zd hk, zd hk, g16, g21];rfl
    refine g [[5]] ?_;refine WLF.part 21 rfl (fun g21 => ?_) (fun g21 => ?_)
    · refine g [[8],[3,4]] ?_;refine WLF.yd (zn rfl) (Yd.eqS EgF.h (eqVd _ _ _ _) rfl rfl) rfl (g [[2]] ?_);refine WCF.cond rfl (fun c28 => ?_) (fun c28 => ?_)
      · refine g [[1],[7,4]] ?_;have hA : (allT T).any (fun t => yD T.l.length t a) = true := zg (k := k + 1) (by rw [zd hk]; simp_all);have hN : (allT T).any (fun t => !yD T.l.length t a) = true := zg (k := k + 1) (by rw [zd hk]; simp_all);refine WP.iterRetN (h1 := [_, _, _]) (fun _ h => List.mem_cons_of_mem _ h) (fun h => (List.nodup_cons.1 h).2) (DExt.refl _ _) ⟨rfl, ?_, List.ne_nil_of_length_pos (by omega)⟩;rw [hA, hN];have e : yD T.l.length (gt (allT T) k) a = true := by simp_all
        rw [e]; rfl
      refine g [[2]] ?_;refine WP.iterOnN hrec (h1 := [_, _, _]) (fun _ h => List.mem_cons_of_mem _ h) (fun h => (List.nodup_cons.1 h).2) (DExt.refl _ _) ?_;rw [zd hk, zd hk, g16, g21];rfl
    refine g [[8],[3,4]] ?_;refine WLF.yd (zn rfl) (Yd.eqS EgF.h (eqVd _ _ _ _) rfl rfl) rfl (g [[2]] ?_);refine WCF.cond rfl (fun c28 => ?_) (fun c28 => ?_)
    · refine g [[1],[7,4]] ?_;have hA : (allT T).any (fun t => yD T.l.length t a) = true := zg (k := k + 1) (by rw [zd hk]; simp_all);have hN : (allT T).any (fun t => !yD T.l.length t a) = true := zg (k := k + 1) (by rw [zd hk]; simp_all);refine WP.iterRetN (h1 := [_, _, _]) (fun _ h => List.mem_cons_of_mem _ h) (fun h => (List.nodup_cons.1 h).2) (DExt.refl _ _) ⟨rfl, ?_, List.ne_nil_of_length_pos (by omega)⟩;rw [hA, hN]
      exfalso; revert c28; cases yD T.l.length (gt (allT T) k) a <;> simp; done
    refine g [[2]] ?_;refine WP.iterOnN hrec (h1 := [_, _, _]) (fun _ h => List.mem_cons_of_mem _ h) (fun h => (List.nodup_cons.1 h).2) (DExt.refl _ _) ?_;rw [zd hk, zd hk, g16, g21];rfl
  · rintro Dn1 D6 _ hDn1 hX6 rfl;rw [List.take_length];refine g [[3],[4,4]] ?_;refine WL.part 32 rfl (fun g32 => ?_) (fun g32 => ?_)
    · rw [hne] at g32; cases g32
    refine g [[3]] ?_;refine WL.part 35 rfl (fun g35 => ?_) (fun g35 => ?_)
    · rw [hne] at g35; cases g35
    refine WL.nf rfl (fun w hI => xo _ _) (g [[1]] ?_);exact WP.panicMs [Dn1] [_, _, _] rfl (fun _ h => h) (fun h => h) (fun w hI => ⟨rfl, hI.keep⟩)
  rintro Dn1 c D6 _ hDn1 hX6 ⟨rfl, rfl, hne2⟩;exact absurd hne hne2
end Go.Proofs.YtejgofaeafphjaaGreatDoor
namespace Go.Ti
open Go.W (gt wX)
abbrev Ms := Bool × Int × Int
def seeS (s : Ms) (n : Int) : Ms := (true, if s.1 then min s.2.1 n else n, if s.1 then max s.2.2 n else n)
def qJ (g : Tru → Int) (l : List Tru) : Ms := l.foldl (fun s t => seeS s (g t)) (false, 0, 0)
def vW (g : Tru → Int) (l : List Tru) : Sp := ⟨(qJ g l).2.1, (qJ g l).2.2⟩
theorem Wy (g : Tru → Int) {l : List Tru} {k : Nat} (hk : k < l.length) : qJ g (l.take (k + 1)) = seeS (qJ g (l.take k)) (g (gt l k)) := by
  have hg : gt l k = l[k] := by simp [gt, List.getD, hk]
  unfold qJ;rw [List.take_succ_eq_append_getElem hk, List.foldl_append, hg];rfl
structure V8 (g : Tru → Int) (l : List Tru) (s : Sp) : Prop where
  lo : ∃ t, t ∈ l ∧ g t = s.lo
  hi : ∃ t, t ∈ l ∧ g t = s.hi
  mem : ∀ t, t ∈ l → s.lo ≤ g t ∧ g t ≤ s.hi
theorem Wx (g : Tru → Int) : ∀ (l l0 : List Tru) (s : Ms), (l0 = [] ∧ s.1 = false ∨ s.1 = true ∧ V8 g l0 ⟨s.2.1, s.2.2⟩) → l0 ++ l ≠ [] →
    V8 g (l0 ++ l) ⟨(l.foldl (fun s t => seeS s (g t)) s).2.1, (l.foldl (fun s t => seeS s (g t)) s).2.2⟩ := by
  intro l
  induction l with
  | nil =>
    intro l0 s h hne;rw [List.append_nil] at hne ⊢;rcases h with ⟨h, _⟩ | ⟨_, h⟩
    · exact absurd h hne
    · exact h
  | cons t l ih =>
    intro l0 s h hne;have := ih (l0 ++ [t]) (seeS s (g t)) (.inr ⟨rfl, ?_⟩) (by simp)
    · rw [List.append_assoc] at this;exact this
    · rcases h with ⟨rfl, h⟩ | ⟨h, hs⟩
      · refine ⟨⟨t, by simp, ?_⟩, ⟨t, by simp, ?_⟩, fun u hu => ?_⟩
        · simp [seeS, h]
        · simp [seeS, h]
        · have : u = t := by simpa using hu
          subst this;simp [seeS, h]
      · obtain ⟨⟨a, ha, ha2⟩, ⟨b, hb, hb2⟩, hm⟩ := hs;simp only at ha2 hb2 hm;simp only [seeS, h, if_true];refine ⟨?_, ?_, fun u hu => ?_⟩
        · rcases Int.le_total s.2.1 (g t) with h1 | h1
          · exact ⟨a, by simp [ha], by simp only; omega⟩
          · exact ⟨t, by simp, by simp only; omega⟩
        · rcases Int.le_total s.2.2 (g t) with h1 | h1
          · exact ⟨t, by simp, by simp only; omega⟩
          · exact ⟨b, by simp [hb], by simp only; omega⟩
        · rcases List.mem_append.1 hu with hu | hu
          · have := hm u hu; simp only; omega
          · have : u = t := by simpa using hu
            subst this;simp only; omega
theorem jX (g : Tru → Int) {l : List Tru} (h : l ≠ []) : V8 g l (vW g l) := by
  have := Wx g l [] (false, 0, 0) (.inl ⟨rfl, rfl⟩) (by simpa using h);simpa [vW, qJ] using this
def zu (T : Tks) (n : Int) : Int × Int := if tksE T (isT T n) ≠ 0 then (0, tksE T (isT T n)) else (vI ((allT T).any fun t => yD T.l.length t n.toNat) ((allT T).any fun t => !yD T.l.length t n.toNat), 0)
def ze (T : Tks) (n : Int) : Sp × Sp × Int := if tksE T (isT T n) ≠ 0 then (⟨0, 0⟩, ⟨0, 0⟩, tksE T (isT T n)) else (vW (fun t => (t n.toNat).1) (allT T), vW (fun t => (t n.toNat).2) (allT T), 0)
def y7 (T : Tks) : Sp × Int := if tksE T true ≠ 0 then (⟨0, 0⟩, tksE T true) else (vW (qV T.l.length) (allT T), 0)
end Go.Ti
namespace Go.Proofs.YtejgofaeafphjaaGreatDoor
open Go.W Go.Ti
theorem zdR : zj Tryz.prog 181 [.int .i64 0, .int .i64 0] [(0, 1), (1, 1)] := ⟨⟨_, Tryz.zeroValue181, rfl⟩, _, Tryz.underlying181, fun w => by simp [Tryz.sizeOf3]⟩
abbrev zbI := SaF.mk zdR
attribute [instance] zbI
theorem zdS : zj Tryz.prog 183 [.int .i64 0, .int .i64 0] [(0, 2)] := ⟨⟨_, Tryz.zeroValue183, rfl⟩, _, Tryz.underlying183, fun w => by simp [Tryz.sizeOf181]⟩
abbrev zbJ := SaF.mk zdS
attribute [instance] zbJ
theorem kt {T : Tks} {n : Int} (h : isT T n = true) : ∃ a : Nat, n = (a : Int) ∧ a < T.l.length := by
  have := of_decide_eq_true h;exact ⟨n.toNat, by omega, by omega⟩
theorem zc7 (T : Tks) (a1 : Option Addr) (n1 c1 : Nat) (D : Imm) (w : World) (hR : TksR D T a1 n1) (hH : Holds D w) (n : Int) (hv : tksB T = false) : z8 Tryz.prog 45 [.agg #[it T.huts, .slice a1 n1 c1], it n] w (.tuple #[it (zu T n).1, it (zu T n).2]) := by
  unfold z8;obtain rfl := hR.tick.len';have hl1 := hR.len
  have hE : tksE T (isT T n) = 1 := by
    unfold tksE;rw [if_pos hv]
  have hO0 : zu T n = (0, 1) := by unfold zu; rw [if_pos (by rw [hE]; simp), hE]
  refine enD Tryz.func45 rfl Tryz.ntmps45 (Inv.start hH) (g [[1],[1,0,1]] ?_);refine WL.so (SO.box rfl rfl) rfl (zw fun b2 hb2 => ?_);refine g [[1]] ?_;refine WL.so (SO.alloc ZvF.h rfl) rfl (zw fun b5 hb5 => ?_);refine g [[3],[2,5,4,2,1]] ?_;refine WL.defer rfl (g [[3],[0,5,4,2,1]] ?_);refine WC.drawH [(b2, boxT T (.slice a1 T.l.length c1))] zk (fun _ hI => hI.tail) (g [[1000],[1001],[1002],[1005],[1006],[1007],[1008]] ?_);refine WH.one (i := 3) zk (WHo.so rfl (SO.callP CaF.h rfl (fun w hI => yS T a1 _ c1 n _ rfl hl1)) rfl ?_);rintro _ _ _ ⟨rfl, rfl, rfl⟩;refine ⟨(fun _ hI => hI.tail), ?_⟩;refine WH.one (i := 4) zk (WHo.no rfl (SO.fail (Enters.func CaF.h rfl) (fun w hI => ZS T a1 _ c1 D _ hR hI.imm (isT T n) hv) (g [[1]] ?_)));refine WP.panicD (k := 0) [_, _] [_, _] rfl CaF.h rfl (fun w hI => kf _ _ _ _ _ (hI.own _ _ (List.mem_of_getElem? (i := 0) rfl))) rfl zV (fun w hI => ⟨congrArg Ending.returned (by rw [hO0]; rfl), hI.keep⟩)
theorem zc8 (T : Tks) (a1 : Option Addr) (n1 c1 : Nat) (D : Imm) (w : World) (hR : TksR D T a1 n1) (hH : Holds D w) (n : Int) (hv : tksB T = true) (hw : isT T n = false) : z8 Tryz.prog 45 [.agg #[it T.huts, .slice a1 n1 c1], it n] w (.tuple #[it (zu T n).1, it (zu T n).2]) := by
  unfold z8;obtain rfl := hR.tick.len';have hl1 := hR.len
  have hE : tksE T (isT T n) = 2 := by
    unfold tksE;rw [if_neg (by rw [hv]; simp), if_pos hw]
  have hO0 : zu T n = (0, 2) := by unfold zu; rw [if_pos (by rw [hE]; simp), hE]
  refine enD Tryz.func45 rfl Tryz.ntmps45 (Inv.start hH) (g [[1],[1,0,1]] ?_);refine WL.so (SO.box rfl rfl) rfl (zw fun b2 hb2 => ?_);refine g [[1]] ?_;refine WL.so (SO.alloc ZvF.h rfl) rfl (zw fun b5 hb5 => ?_);refine g [[3],[2,5,4,2,1]] ?_;refine WL.defer rfl (g [[3],[0,5,4,2,1]] ?_);refine WC.drawH [(b2, boxT T (.slice a1 T.l.length c1))] zk (fun _ hI => hI.tail) (g [[1000],[1001],[1002],[1005],[1006],[1007],[1008]] ?_);refine WH.one (i := 3) zk (WHo.so rfl (SO.callP CaF.h rfl (fun w hI => yS T a1 _ c1 n _ rfl hl1)) rfl ?_);rintro _ _ _ ⟨rfl, rfl, rfl⟩;refine ⟨(fun _ hI => hI.tail), ?_⟩;refine WH.know 10 (.bool false) rfl (congrArg Value.bool hw) ?_;refine WH.one (i := 4) zk (WHo.no rfl (SO.fail (Enters.func CaF.h rfl) (fun w hI => j2 T a1 _ c1 D _ hR hI.imm hv) (g [[1]] ?_)));refine WP.panicD (k := 0) [_, _] [_, _] rfl CaF.h rfl (fun w hI => kf _ _ _ _ _ (hI.own _ _ (List.mem_of_getElem? (i := 0) rfl))) rfl zV (fun w hI => ⟨congrArg Ending.returned (by rw [hO0]; rfl), hI.keep⟩)
theorem zc9 (T : Tks) (a1 : Option Addr) (n1 c1 : Nat) (D : Imm) (w : World) (hR : TksR D T a1 n1) (hH : Holds D w) (n : Int) (hv : tksB T = true) (hw : isT T n = true) (hne : allT T = []) : z8 Tryz.prog 45 [.agg #[it T.huts, .slice a1 n1 c1], it n] w (.tuple #[it (zu T n).1, it (zu T n).2]) := by
  unfold z8;obtain rfl := hR.tick.len';have hl1 := hR.len
  have hE : tksE T (isT T n) = 10 := by
    unfold tksE;rw [if_neg (by rw [hv]; simp), if_neg (by rw [hw]; simp), if_pos (by rw [hne]; rfl)]
  have hO0 : zu T n = (0, 10) := by unfold zu; rw [if_pos (by rw [hE]; simp), hE]
  have h5 := (y8 hv).2.1;obtain ⟨a, rfl, han⟩ := kt hw;refine enD Tryz.func45 rfl Tryz.ntmps45 (Inv.start hH) (g [[1],[1,0,1]] ?_);refine WL.so (SO.box rfl rfl) rfl (zw fun b2 hb2 => ?_);refine g [[1]] ?_;refine WL.so (SO.alloc ZvF.h rfl) rfl (zw fun b5 hb5 => ?_);refine g [[3],[2,5,4,2,1]] ?_;refine WL.defer rfl (g [[3],[0,5,4,2,1]] ?_);refine WC.drawH [(b2, boxT T (.slice a1 T.l.length c1))] zk (fun _ hI => hI.tail) (g [[1000],[1001],[1002],[1005],[1006],[1007],[1008]] ?_);refine WH.one (i := 3) zk (WHo.so rfl (SO.callP CaF.h rfl (fun w hI => yS T a1 _ c1 a _ rfl hl1)) rfl ?_);rintro _ _ _ ⟨rfl, rfl, rfl⟩;refine ⟨(fun _ hI => hI.tail), ?_⟩;refine WH.know 10 (.bool true) rfl (congrArg Value.bool hw) ?_;refine WH.one (i := 4) zk (WHo.so rfl (SO.makes (Enters.func Tryz.call88 rfl) (fun w hI => x4 T a1 _ c1 D _ hR hI.imm hv)) rfl ?_);rintro _ D2 _ ⟨hX2, ⟨bq, rfl, hO⟩, rfl⟩;have hR2 := hR.ext hX2;refine ⟨(fun _ hI => hI.tail.shrink hX2.old), ?_⟩;refine WH.one (i := 9) zk (WHo.no rfl (SO.fail (Enters.func CaF.h rfl) (fun w hI => zcc T a1 _ c1 bq D2 _ hO hR2 hI.imm hv a (by omega) hne) (g [[1]] ?_)));refine WP.panicD (k := 0) [_, _] [_, _] rfl CaF.h rfl (fun w hI => kf _ _ _ _ _ (hI.own _ _ (List.mem_of_getElem? (i := 0) rfl))) rfl zV (fun w hI => ⟨congrArg Ending.returned (by rw [hO0]; rfl), hI.keep⟩)
theorem KQ (T : Tks) (a1 : Option Addr) (n1 c1 : Nat) (D : Imm) (w : World) (hR : TksR D T a1 n1) (hH : Holds D w) (n : Int) (hv : tksB T = true) (hw : isT T n = true) (hne : allT T ≠ []) : z8 Tryz.prog 45 [.agg #[it T.huts, .slice a1 n1 c1], it n] w (.tuple #[it (zu T n).1, it (zu T n).2]) := by
  unfold z8;obtain rfl := hR.tick.len';have hl1 := hR.len
  have hE : tksE T (isT T n) = 0 := by
    unfold tksE;rw [if_neg (by rw [hv]; simp), if_neg (by rw [hw]; simp), if_neg (by rw [List.isEmpty_iff]; exact hne)]
  have hO0 : zu T n = (vI ((allT T).any fun t => yD T.l.length t n.toNat) ((allT T).any fun t => !yD T.l.length t n.toNat), 0) := by unfold zu; rw [if_neg (by rw [hE]; simp)]
  have h5 := (y8 hv).2.1;obtain ⟨a, rfl, han⟩ := kt hw;refine enD Tryz.func45 rfl Tryz.ntmps45 (Inv.start hH) (g [[1],[1,0,1]] ?_);refine WL.so (SO.box rfl rfl) rfl (zw fun b2 hb2 => ?_);refine g [[1]] ?_;refine WL.so (SO.alloc ZvF.h rfl) rfl (zw fun b5 hb5 => ?_);refine g [[3],[2,5,4,2,1]] ?_;refine WL.defer rfl (g [[3],[0,5,4,2,1]] ?_);refine WC.drawH [(b2, boxT T (.slice a1 T.l.length c1))] zk (fun _ hI => hI.tail) (g [[1000],[1001],[1002],[1005],[1006],[1007],[1008]] ?_);refine WH.one (i := 3) zk (WHo.so rfl (SO.callP CaF.h rfl (fun w hI => yS T a1 _ c1 a _ rfl hl1)) rfl ?_);rintro _ _ _ ⟨rfl, rfl, rfl⟩;refine ⟨(fun _ hI => hI.tail), ?_⟩;refine WH.know 10 (.bool true) rfl (congrArg Value.bool hw) ?_;refine WH.one (i := 4) zk (WHo.so rfl (SO.makes (Enters.func Tryz.call88 rfl) (fun w hI => x4 T a1 _ c1 D _ hR hI.imm hv)) rfl ?_);rintro _ D2 _ ⟨hX2, ⟨bq, rfl, hO⟩, rfl⟩;have hR2 := hR.ext hX2;refine ⟨(fun _ hI => hI.tail.shrink hX2.old), ?_⟩;refine WH.one (i := 9) zk (WHo.so rfl (SO.callP CaF.h rfl (fun w hI => zcd T a1 _ c1 bq D2 _ hO hR2 hI.imm hv a (by omega) hne)) rfl ?_);rintro _ _ _ ⟨rfl, rfl, rfl⟩;refine ⟨(fun _ hI => hI.tail.shrink hX2.old), ?_⟩;refine WH.one (i := 10) zk (WHo.so rfl (SO.callP CaF.h rfl (fun w hI => Qc _ _ _)) rfl ?_);rintro _ _ _ ⟨rfl, rfl, rfl⟩;refine ⟨(fun _ hI => hI.tail.shrink hX2.old), ?_⟩;refine WH.one (i := 11) zk (WHo.yd rfl (Yd.assign rfl) rfl ?_);refine WH.one (i := 12) zk (WHo.so rfl (SO.store 0 rfl SzF.h rfl rfl rfl rfl (zqb rfl) (za rfl)) rfl ?_);rintro _ _ _ ⟨rfl, rfl, rfl⟩;refine ⟨(fun _ hI => hI.tail.shrink hX2.old), ?_⟩;refine WH.nil zk (g [[2]] ?_);refine WP.endD [_, _] [_, _] rfl rfl CaF.h (fun w hI => zao _ _) rfl zV (fun w hI => ⟨congrArg Ending.returned (by rw [hO0]; rfl), hI.keep⟩)
theorem Ze (T : Tks) (a1 : Option Addr) (n1 c1 : Nat) (D : Imm) (w : World) (hR : TksR D T a1 n1) (hH : Holds D w) (n : Int) : z8 Tryz.prog 45 [.agg #[it T.huts, .slice a1 n1 c1], it n] w (.tuple #[it (zu T n).1, it (zu T n).2]) := by
  cases hv : tksB T with
  | false => exact zc7 T a1 n1 c1 D w hR hH n hv
  | true =>
    cases hw : isT T n with
    | false => exact zc8 T a1 n1 c1 D w hR hH n hv hw
    | true =>
      by_cases hne : allT T = []
      · exact zc9 T a1 n1 c1 D w hR hH n hv hw hne
      exact KQ T a1 n1 c1 D w hR hH n hv hw hne
theorem SA39 : zj Tryz.prog 39 [.int .i64 0, .int .i64 0] [(0, 1), (1, 1)] := ⟨⟨_, Tryz.zeroValue39, rfl⟩, _, Tryz.underlying39, fun w => by simp [Tryz.sizeOf3]⟩
abbrev zdw := SaF.mk SA39
attribute [instance] zdw
abbrev Row := Value × Ms
def rowC (r : Row) : List Value := [r.1, .bool r.2.1, it r.2.2.1, it r.2.2.2]
theorem kO : ∀ r, (rowC r).length = 4 := fun _ => rfl
def rows (F : Nat → Row) (n : Nat) : List Row := (List.range n).map F
theorem kP (F : Nat → Row) (n : Nat) : (rows F n).length = n := by simp [rows]
theorem YS {F : Nat → Row} {n i : Nat} (hi : i < n) : gt (rows F n) i = F i := by simp [rows, gt, List.getD, hi]
theorem JJ {F : Nat → Row} {n i : Nat} (y : Row) : (rows F n).set i y = rows (fun j => if j = i then y else F j) n := by
  apply List.ext_getElem
  · simp [rows]
  intro j h1 h2;simp only [rows, List.getElem_set, List.getElem_map, List.getElem_range];by_cases e : i = j
  · subst e; simp
  rw [if_neg e, if_neg (fun h => e h.symm)]
theorem WS {F G : Nat → Row} {n : Nat} (h : ∀ i, i < n → F i = G i) : rows F n = rows G n := List.map_congr_left fun i hi => h i (List.mem_range.1 hi)
def xi (F : Nat → Row) (n : Nat) : Obj := .cells (List.toArray ((rows F n).flatMap rowC ++ [])) 372 (0, 0)
theorem wI {F G : Nat → Row} {n : Nat} (h : ∀ i, i < n → F i = G i) : xi F n = xi G n := by unfold xi; rw [WS h]
section
variable {P : Program} {x : Cx} {fr : Fr} {D : Imm} {hp : Hp} {ty : TypeId} {Q : Exit → Act → World → Prop}
theorem rdR {F : Nat → Row} {n i k b j : Nat} {r : Row} {v : Value} (hk : hp[k]? = some (b, xi F n)) (hi : i < n) (hF : F i = r) (hj : j < 4) (hv : (rowC r)[j]? = some v) : Rd D hp ⟨b, 0 + i * 4 + j, none⟩ v :=
  Rd.flat kO hk (by rw [kP]; exact hi) hj (by rw [YS hi, hF]; exact hv)
theorem rdR0 {F : Nat → Row} {n i b : Nat} (k : Nat) {r : Row} (hk : hp[k]? = some (b, xi F n)) (hi : i < n) (hF : F i = r) : Rd D hp ⟨b, 0 + i * 4 + 0, none⟩ r.1 := rdR hk hi hF (by decide) rfl
theorem rdR1 {F : Nat → Row} {n i b : Nat} (k : Nat) {r : Row} (hk : hp[k]? = some (b, xi F n)) (hi : i < n) (hF : F i = r) : Rd D hp ⟨b, 0 + i * 4 + 1, none⟩ (.bool r.2.1) := rdR hk hi hF (by decide) rfl
theorem rdR2 {F : Nat → Row} {n i b : Nat} (k : Nat) {r : Row} (hk : hp[k]? = some (b, xi F n)) (hi : i < n) (hF : F i = r) : Rd D hp ⟨b, 0 + i * 4 + 2 + 0, none⟩ (it r.2.2.1) := rdR (j := 2) hk hi hF (by decide) rfl
theorem rdR3 {F : Nat → Row} {n i b : Nat} (k : Nat) {r : Row} (hk : hp[k]? = some (b, xi F n)) (hi : i < n) (hF : F i = r) : Rd D hp ⟨b, 0 + i * 4 + 2 + 1, none⟩ (it r.2.2.2) := rdR (j := 3) hk hi hF (by decide) rfl
theorem rdnR {F : Nat → Row} {n i b : Nat} (k : Nat) {r : Row} (hk : hp[k]? = some (b, xi F n)) (hi : i < n) (hF : F i = r) : RdN D hp b (0 + i * 4) (rowC r) :=
  RdN.flat kO (j := 0) (n := 4) hk (by rw [kP]; exact hi) (by rw [YS hi, hF]; rfl)
theorem SO.storeR {F : Nat → Row} {n i k b j m : Nat} {t : TypeId} {p o : Operand} {v : Value} {vs : List Value} {r : Row} (y : Row) (hk : hp[k]? = some (b, xi F n)) (hz : ∀ w, (sizeOf t).run P w = .ok m w)
    (hp' : opv fr p = some (.pointer (some ⟨b, 0 + i * 4 + j, none⟩))) (ho : opv fr o = some v) (hc : v.cells = vs.toArray) (hl : vs.length = m) (hi : i < n) (hF : F i = r) (hj : j + m ≤ 4) (hone : ∀ v ∈ vs, v.oneCell' = true) (hy : rowC y = splice (rowC r) j vs) :
    SO P x fr D hp (.store t p o) ty Q (SetK D hp k b (xi (fun u => if u = i then y else F u) n)) := by
  have h := SO.storeFlatN (P := P) (x := x) (fr := fr) (D := D) (hp := hp) (ty := ty) (Q := Q) kO y k hk hz hp' ho hc hl (by rw [kP]; exact hi) hj hone (by rw [YS hi, hF]; exact hy);rw [JJ] at h;exact h
end
structure Clo where
  fi : FuncId
  cp : List Value
  g : Tru → Int
instance : Inhabited Clo := ⟨⟨0, [], fun _ => 0⟩⟩
def cloV (c : Clo) : Value := .func (.func c.fi) #[] c.cp.toArray
def yX (D : Imm) (L : List Tru) (c : Clo) : Prop := (∀ args w, (callFunc c.fi args).run Tryz.prog w = .ok (.enter c.fi args) w) ∧ ∀ t, t ∈ L → ∀ w, Holds D w → z8 Tryz.prog c.fi (truV t :: c.cp) w (it (c.g t))
theorem yX.ext {w : World} {D D' : Imm} (hD : DExt w D D') {L : List Tru} {c : Clo} (h : yX D L c) : yX D' L c := ⟨h.1, fun t ht w' hH => h.2 t ht w' fun b o hb => hH b o (hD.old b o hb)⟩
theorem zcX (F : Nat → Row) (n i : Nat) (hi : i < n) (c : Clo) (s : Ms) (hF : F i = (cloV c, s)) (L : List Tru) (t : Tru) (htL : t ∈ L) (D : Imm) (w : World) (hC : yX D L c) (bm : Nat) (hI0 : Inv D [(bm, xi F n)] [bm] w w) : wP Tryz.prog 278 [.pointer (some ⟨bm, 0 + i * 4, none⟩), truV t] w D [bm] (fun v D' hp' => v = .tuple #[] ∧ D = D' ∧ hp' = [(bm, xi (fun j => if j = i then (cloV c, seeS s (c.g t)) else F j) n)]) := by
  unfold wP;refine en Tryz.func278 rfl Tryz.ntmps278 hI0 (g [[1],[1,0,1]] ?_);refine WL.so (SO.box rfl rfl) rfl (zw fun b3 hb3 => ?_);refine g [[3],[0,3,0],[3005],[3]] ?_;refine WQ.q rfl (Yd.qt (Yd.l1 rfl (rdR0 1 rfl hi hF))) rfl (g [[2]] ?_);refine WL.so (SO.call (Enters.val hC.1 rfl rfl) (fun w hI => hC.2 t htL _ hI.imm)) rfl (zs (g [[5],[4,4,0]] ?_));refine WL.yd (Yd.l1 rfl (rdR1 1 rfl hi hF)) rfl (g [[3]] ?_);refine WC.cond rfl (fun c15 => ?_) (fun c15 => ?_)
  · try simp only [zq] at c15
    refine g [[8,4,0]] ?_;refine WL.so (SO.storeR (k := 1) (j := 1) (cloV c, (true, s.2.1, s.2.2)) rfl SzF.h rfl rfl rfl rfl hi hF (by decide) (za rfl) rfl) rfl ?_;rintro _ _ _ ⟨rfl, rfl, rfl⟩;refine g [[2]] ?_;refine WL.so (SO.storeR (k := 1) (j := 2) (cloV c, (true, c.g t, c.g t)) rfl SzF.h rfl rfl rfl rfl hi (if_pos rfl) (by decide) (za rfl) rfl) rfl ?_;rintro _ _ _ ⟨rfl, rfl, rfl⟩;refine g [[2],[0,4,0],[3016],[5]] ?_;refine WQ.q rfl (Yd.qt (Yd.l1 rfl (rdR2 1 rfl hi (if_pos rfl)))) rfl (g [[1]] ?_);refine WQ.q rfl (Yd.qt (Yd.min2 rfl rfl)) rfl (g [[4]] ?_);refine WQ.q rfl (Yd.qt (Yd.l1 rfl (rdR3 1 rfl hi (if_pos rfl)))) rfl (g [[1]] ?_);refine WQ.q rfl (Yd.qt (Yd.max2 rfl rfl)) rfl (g [[4]] ?_);refine WL.so (SO.storeR (k := 1) (j := 2) (cloV c, (true, min (c.g t) (c.g t), max (c.g t) (c.g t))) rfl SzF.h rfl rfl rfl rfl hi (if_pos rfl) (by decide) (za rfl) rfl) rfl ?_;rintro _ _ _ ⟨rfl, rfl, rfl⟩;refine g [[1]] ?_;refine WP.ret0 rfl rfl rfl  (fun w1 hI => ⟨_, D, _, rfl, DExt.refl _ _, hI.tail, fun _ h => h, rfl, rfl, congrArg (fun o => [(bm, o)]) (wI fun u _ => by by_cases e : u = i <;> simp_all [seeS])⟩)
  try simp only [zq] at c15
  refine g [[2],[0,4,0],[3016],[5]] ?_;refine WQ.q rfl (Yd.qt (Yd.l1 rfl (rdR2 1 rfl hi hF))) rfl (g [[1]] ?_);refine WQ.q rfl (Yd.qt (Yd.min2 rfl rfl)) rfl (g [[4]] ?_);refine WQ.q rfl (Yd.qt (Yd.l1 rfl (rdR3 1 rfl hi hF))) rfl (g [[1]] ?_);refine WQ.q rfl (Yd.qt (Yd.max2 rfl rfl)) rfl (g [[4]] ?_);refine WL.so (SO.storeR (k := 1) (j := 2) (cloV c, (s.1, min s.2.1 (c.g t), max s.2.2 (c.g t))) rfl SzF.h rfl rfl rfl rfl hi hF (by decide) (za rfl) rfl) rfl ?_;rintro _ _ _ ⟨rfl, rfl, rfl⟩;refine g [[1]] ?_;refine WP.ret0 rfl rfl rfl  (fun w1 hI => ⟨_, D, _, rfl, DExt.refl _ _, hI.tail, fun _ h => h, rfl, rfl, congrArg (fun o => [(bm, o)]) (wI fun u _ => by by_cases e : u = i <;> simp_all [seeS])⟩)
end Go.Proofs.YtejgofaeafphjaaGreatDoor
