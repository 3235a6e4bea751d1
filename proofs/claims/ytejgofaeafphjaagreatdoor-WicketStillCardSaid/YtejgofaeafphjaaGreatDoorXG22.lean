import Derived.Test.YtejgofaeafphjaaGreatDoorXG21
import Derived.Test.YtejgofaeafphjaaGreatDoorXG7
set_option linter.all false
set_option maxRecDepth 100000
set_option maxHeartbeats 4000000
attribute [local irreducible] Go.W.WL Go.W.WLF Go.W.WC Go.W.WCF Go.W.WP Go.W.WA Go.W.WQ Go.W.WH Go.W.WHo Go.W.WCn Go.W.Yd Go.W.Qt Go.W.SO Go.Code.wp Go.Code.wpIn
namespace Go.Proofs.YtejgofaeafphjaaGreatDoor
open Go.W Go.Ti
theorem zdT : zj Tryz.prog 186 [.int .i64 0, .int .i64 0] [(0, 1), (1, 1)] := ⟨⟨_, Tryz.zeroValue186, rfl⟩, _, Tryz.underlying186, fun w => by simp [Tryz.sizeOf3]⟩
abbrev zbK := SaF.mk zdT
attribute [instance] zbK
theorem KY (T : Tks) (a1 : Option Addr) (n1 c1 : Nat) (q : Nat) (D : Imm) (w : World) (hO : xM D q T (.slice a1 n1 c1)) (hR : TksR D T a1 n1) (hH : Holds D w) (hv : tksB T = true) (hut m : Int) (hm : 0 ≤ m ∧ m ≤ 240) (hne : allT T ≠ []) : z8 Tryz.prog 118 [pt q, .iface 186 (.agg #[it hut, it m])] w (.agg #[.bool ((allT T).any (fun t => !yr T t hut m)), .bool ((allT T).any (fun t => !!yr T t hut m))]) := by
  unfold z8;obtain rfl := hR.tick.len';have hl1 := hR.len;refine enM Tryz.func118 rfl Tryz.ntmps118 (Inv.start hH) (g [[1],[1,0,1]] ?_);refine WL.so (SO.box rfl rfl) rfl (zw fun b2 hb2 => ?_);refine WL.so (SO.box rfl rfl) rfl (zw fun b3 hb3 => ?_);refine WL.so (SO.alloc ZvF.h rfl) rfl (zw fun b4 hb4 => ?_);refine g [[4],[2,4,3,2]] ?_;refine WL.so (SO.makes (Enters.func Tryz.call90 rfl) (fun w hI => we q D _ hI.imm)) rfl ?_;rintro _ D1 _ ⟨hX1, ⟨bt, rfl, hbt⟩, rfl⟩;replace hO := hO.ext hX1;replace hR := hR.ext hX1;refine g [[3],[0,2,3,4,8]] ?_;refine WC.rangeIterN (N := (allT T).length) (arg := fun k => truV (gt (allT T) k)) (fun w1 _ hD1 => yt T a1 _ c1 q bt D1 w1 hO hR hbt hv hD1) rfl Tryz.call177 rfl (fun k _ h => h = [(b4, .cells (List.toArray [.bool (((allT T).take k).any (fun t => !yr T t hut m)), .bool (((allT T).take k).any (fun t => !!yr T t hut m))]) 178 (0, 0)), (b3, .cells (List.toArray [.iface 186 (.agg #[it hut, it m])]) 274 (0, 0)), (b2, .cells (List.toArray [pt q]) 141 (0, 0))]) (fun c _ h => c = .ret ∧ h = [(b4, .cells (List.toArray [.bool ((allT T).any (fun t => !yr T t hut m)), .bool ((allT T).any (fun t => !!yr T t hut m))]) 178 (0, 0)), (b3, .cells (List.toArray [.iface 186 (.agg #[it hut, it m])]) 274 (0, 0)), (b2, .cells (List.toArray [pt q]) 141 (0, 0))] ∧ allT T ≠ []) (fun _ _ _ _ _ h => h) rfl ?_ ?_ ?_
  · rintro rec1 l1 Dn0 k D5 _ w1 hrec hk rfl hX5 hsz;unfold yP;replace hO := hO.ext hX5;replace hR := hR.ext hX5;refine g [[1,9,2,3,4]] ?_;refine WLF.so (zn rfl) (SO.alloc ZvF.h rfl) rfl (zw fun b5 hb5 => ?_);refine g [[2]] ?_;refine WP.iterBegin 1 rfl hrec (g [[2],[4,5,2,3,4]] ?_);refine WLF.so (zn rfl) (SO.call (Enters.meth CaF.h (fun w => by kernel_rfl) rfl rfl) (fun w hI => Xn T a1 _ c1 q D5 _ hO hR hI.imm hv (gt (allT T) k) (xq hv (yE hk)) hut m hm)) rfl (zs (g [[4],[4,6,4]] ?_));refine WLF.part 16 rfl (fun g16 => ?_) (fun g16 => ?_)
    · refine g [[5]] ?_;refine WLF.part 21 rfl (fun g21 => ?_) (fun g21 => ?_)
      · refine g [[8],[3,4]] ?_;refine WLF.yd (zn rfl) (Yd.eqS EgF.h (eqVd _ _ _ _) rfl rfl) rfl (g [[2]] ?_);refine WCF.cond rfl (fun c28 => ?_) (fun c28 => ?_)
        · refine g [[1],[7,4]] ?_;have hA : (allT T).any (fun t => !yr T t hut m) = true := zg (k := k + 1) (by rw [zd hk]; simp_all);have hN : (allT T).any (fun t => !!yr T t hut m) = true := zg (k := k + 1) (by rw [zd hk]; simp_all);refine WP.iterRetN (h1 := [_, _, _]) (fun _ h => List.mem_cons_of_mem _ h) (fun h => (List.nodup_cons.1 h).2) (DExt.refl _ _) ⟨rfl, ?_, List.ne_nil_of_length_pos (by omega)⟩;rw [hA, hN];rfl
        refine g [[2]] ?_;refine WP.iterOnN hrec (h1 := [_, _, _]) (fun _ h => List.mem_cons_of_mem _ h) (fun h => (List.nodup_cons.1 h).2) (DExt.refl _ _) ?_;rw [zd hk, zd hk, g16, g21];rfl
      refine g [[8],[3,4]] ?_;refine WLF.yd (zn rfl) (Yd.eqS EgF.h (eqVd _ _ _ _) rfl rfl) rfl (g [[2]] ?_);refine WCF.cond rfl (fun c28 => ?_) (fun c28 => ?_)
      · refine g [[1],[7,4]] ?_;have hA : (allT T).any (fun t => !yr T t hut m) = true := zg (k := k + 1) (by rw [zd hk]; simp_all);have hN : (allT T).any (fun t => !!yr T t hut m) = true := zg (k := k + 1) (by rw [zd hk]; simp_all);refine WP.iterRetN (h1 := [_, _, _]) (fun _ h => List.mem_cons_of_mem _ h) (fun h => (List.nodup_cons.1 h).2) (DExt.refl _ _) ⟨rfl, ?_, List.ne_nil_of_length_pos (by omega)⟩;rw [hA, hN];have e : (yr T (gt (allT T) k) hut m) = true := by simp_all
        rw [e]; rfl
      refine g [[2]] ?_;refine WP.iterOnN hrec (h1 := [_, _, _]) (fun _ h => List.mem_cons_of_mem _ h) (fun h => (List.nodup_cons.1 h).2) (DExt.refl _ _) ?_;rw [zd hk, zd hk, g16, g21];rfl
    refine g [[5]] ?_;refine WLF.part 21 rfl (fun g21 => ?_) (fun g21 => ?_)
    · refine g [[8],[3,4]] ?_;refine WLF.yd (zn rfl) (Yd.eqS EgF.h (eqVd _ _ _ _) rfl rfl) rfl (g [[2]] ?_);refine WCF.cond rfl (fun c28 => ?_) (fun c28 => ?_)
      · refine g [[1],[7,4]] ?_;have hA : (allT T).any (fun t => !yr T t hut m) = true := zg (k := k + 1) (by rw [zd hk]; simp_all);have hN : (allT T).any (fun t => !!yr T t hut m) = true := zg (k := k + 1) (by rw [zd hk]; simp_all);refine WP.iterRetN (h1 := [_, _, _]) (fun _ h => List.mem_cons_of_mem _ h) (fun h => (List.nodup_cons.1 h).2) (DExt.refl _ _) ⟨rfl, ?_, List.ne_nil_of_length_pos (by omega)⟩;rw [hA, hN];have e : (yr T (gt (allT T) k) hut m) = false := by simp_all
        rw [e]; rfl
      refine g [[2]] ?_;refine WP.iterOnN hrec (h1 := [_, _, _]) (fun _ h => List.mem_cons_of_mem _ h) (fun h => (List.nodup_cons.1 h).2) (DExt.refl _ _) ?_;rw [zd hk, zd hk, g16, g21];rfl
    refine g [[8],[3,4]] ?_;refine WLF.yd (zn rfl) (Yd.eqS EgF.h (eqVd _ _ _ _) rfl rfl) rfl (g [[2]] ?_);refine WCF.cond rfl (fun c28 => ?_) (fun c28 => ?_)
    · refine g [[1],[7,4]] ?_;have hA : (allT T).any (fun t => !yr T t hut m) = true := zg (k := k + 1) (by rw [zd hk]; simp_all);have hN : (allT T).any (fun t => !!yr T t hut m) = true := zg (k := k + 1) (by rw [zd hk]; simp_all);refine WP.iterRetN (h1 := [_, _, _]) (fun _ h => List.mem_cons_of_mem _ h) (fun h => (List.nodup_cons.1 h).2) (DExt.refl _ _) ⟨rfl, ?_, List.ne_nil_of_length_pos (by omega)⟩;rw [hA, hN]
      exfalso; revert c28; cases (yr T (gt (allT T) k) hut m) <;> simp; done
    refine g [[2]] ?_;refine WP.iterOnN hrec (h1 := [_, _, _]) (fun _ h => List.mem_cons_of_mem _ h) (fun h => (List.nodup_cons.1 h).2) (DExt.refl _ _) ?_;rw [zd hk, zd hk, g16, g21];rfl
  · rintro Dn1 D6 _ hDn1 hX6 rfl;rw [List.take_length];refine g [[3],[4,4]] ?_;refine WL.part 32 rfl (fun g32 => ?_) (fun g32 => ?_)
    · refine g [[3]] ?_;refine WL.cl rfl (fun w hI => xp _ _) (g [[3],[6,4]] ?_);refine WP.retMs [Dn1] [_, _, _] [_] [_] rfl rfl (fun _ h => h) (fun h => h) rfl zV (fun w hI => ⟨rfl, hI.keep⟩)
    refine g [[3]] ?_;refine WL.part 35 rfl (fun g35 => ?_) (fun g35 => ?_)
    · refine WL.cl rfl (fun w hI => xp _ _) (g [[3],[6,4]] ?_);refine WP.retMs [Dn1] [_, _, _] [_] [_] rfl rfl (fun _ h => h) (fun h => h) rfl zV (fun w hI => ⟨rfl, hI.keep⟩)
    exact (Zh hne g32 g35).elim
  rintro Dn1 c D6 _ hDn1 hX6 ⟨rfl, rfl, hne2⟩;refine g [[3]] ?_;refine WP.retMs [Dn1] [_, _, _] [_] [_] rfl rfl (fun _ h => h) (fun h => h) rfl zV (fun w hI => ⟨rfl, hI.keep⟩)
theorem KX (T : Tks) (a1 : Option Addr) (n1 c1 : Nat) (q : Nat) (D : Imm) (w : World) (hO : xM D q T (.slice a1 n1 c1)) (hR : TksR D T a1 n1) (hH : Holds D w) (hv : tksB T = true) (hut m : Int) (hm : 0 ≤ m ∧ m ≤ 240) (hne : allT T = []) : xC Tryz.prog 118 [pt q, .iface 186 (.agg #[it hut, it m])] w (jz 10) := by
  unfold xC;obtain rfl := hR.tick.len';have hl1 := hR.len;refine enM Tryz.func118 rfl Tryz.ntmps118 (Inv.start hH) (g [[1],[1,0,1]] ?_);refine WL.so (SO.box rfl rfl) rfl (zw fun b2 hb2 => ?_);refine WL.so (SO.box rfl rfl) rfl (zw fun b3 hb3 => ?_);refine WL.so (SO.alloc ZvF.h rfl) rfl (zw fun b4 hb4 => ?_);refine g [[4],[2,4,3,2]] ?_;refine WL.so (SO.makes (Enters.func Tryz.call90 rfl) (fun w hI => we q D _ hI.imm)) rfl ?_;rintro _ D1 _ ⟨hX1, ⟨bt, rfl, hbt⟩, rfl⟩;replace hO := hO.ext hX1;replace hR := hR.ext hX1;refine g [[3],[0,2,3,4,8]] ?_;refine WC.rangeIterN (N := (allT T).length) (arg := fun k => truV (gt (allT T) k)) (fun w1 _ hD1 => yt T a1 _ c1 q bt D1 w1 hO hR hbt hv hD1) rfl Tryz.call177 rfl (fun k _ h => h = [(b4, .cells (List.toArray [.bool (((allT T).take k).any (fun t => !yr T t hut m)), .bool (((allT T).take k).any (fun t => !!yr T t hut m))]) 178 (0, 0)), (b3, .cells (List.toArray [.iface 186 (.agg #[it hut, it m])]) 274 (0, 0)), (b2, .cells (List.toArray [pt q]) 141 (0, 0))]) (fun c _ h => c = .ret ∧ h = [(b4, .cells (List.toArray [.bool ((allT T).any (fun t => !yr T t hut m)), .bool ((allT T).any (fun t => !!yr T t hut m))]) 178 (0, 0)), (b3, .cells (List.toArray [.iface 186 (.agg #[it hut, it m])]) 274 (0, 0)), (b2, .cells (List.toArray [pt q]) 141 (0, 0))] ∧ allT T ≠ []) (fun _ _ _ _ _ h => h) rfl ?_ ?_ ?_
  · rintro rec1 l1 Dn0 k D5 _ w1 hrec hk rfl hX5 hsz;unfold yP;replace hO := hO.ext hX5;replace hR := hR.ext hX5;refine g [[1,9,2,3,4]] ?_;refine WLF.so (zn rfl) (SO.alloc ZvF.h rfl) rfl (zw fun b5 hb5 => ?_);refine g [[2]] ?_;refine WP.iterBegin 1 rfl hrec (g [[2],[4,5,2,3,4]] ?_);refine WLF.so (zn rfl) (SO.call (Enters.meth CaF.h (fun w => by kernel_rfl) rfl rfl) (fun w hI => Xn T a1 _ c1 q D5 _ hO hR hI.imm hv (gt (allT T) k) (xq hv (yE hk)) hut m hm)) rfl (zs (g [[4],[4,6,4]] ?_));refine WLF.part 16 rfl (fun g16 => ?_) (fun g16 => ?_)
    · refine g [[5]] ?_;refine WLF.part 21 rfl (fun g21 => ?_) (fun g21 => ?_)
      · refine g [[8],[3,4]] ?_;refine WLF.yd (zn rfl) (Yd.eqS EgF.h (eqVd _ _ _ _) rfl rfl) rfl (g [[2]] ?_);refine WCF.cond rfl (fun c28 => ?_) (fun c28 => ?_)
        · refine g [[1],[7,4]] ?_;have hA : (allT T).any (fun t => !yr T t hut m) = true := zg (k := k + 1) (by rw [zd hk]; simp_all);have hN : (allT T).any (fun t => !!yr T t hut m) = true := zg (k := k + 1) (by rw [zd hk]; simp_all);refine WP.iterRetN (h1 := [_, _, _]) (fun _ h => List.mem_cons_of_mem _ h) (fun h => (List.nodup_cons.1 h).2) (DExt.refl _ _) ⟨rfl, ?_, List.ne_nil_of_length_pos (by omega)⟩;rw [hA, hN];rfl
        refine g [[2]] ?_;refine WP.iterOnN hrec (h1 := [_, _, _]) (fun _ h => List.mem_cons_of_mem _ h) (fun h => (List.nodup_cons.1 h).2) (DExt.refl _ _) ?_;rw [zd hk, zd hk, g16, g21];rfl
      refine g [[8],[3,4]] ?_;refine WLF.yd (zn rfl) (Yd.eqS EgF.h (eqVd _ _ _ _) rfl rfl) rfl (g [[2]] ?_);refine WCF.cond rfl (fun c28 => ?_) (fun c28 => ?_)
      · refine g [[1],[7,4]] ?_;have hA : (allT T).any (fun t => !yr T t hut m) = true := zg (k := k + 1) (by rw [zd hk]; simp_all);have hN : (allT T).any (fun t => !!yr T t hut m) = true := zg (k := k + 1) (by rw [zd hk]; simp_all);refine WP.iterRetN (h1 := [_, _, _]) (fun _ h => List.mem_cons_of_mem _ h) (fun h => (List.nodup_cons.1 h).2) (DExt.refl _ _) ⟨rfl, ?_, List.ne_nil_of_length_pos (by omega)⟩;rw [hA, hN];have e : (yr T (gt (allT T) k) hut m) = true := by simp_all
        rw [e]; rfl
      refine g [[2]] ?_;refine WP.iterOnN hrec (h1 := [_, _, _]) (fun _ h => List.mem_cons_of_mem _ h) (fun h => (List.nodup_cons.1 h).2) (DExt.refl _ _) ?_;rw [zd hk, zd hk, g16, g21];rfl
    refine g [[5]] ?_;refine WLF.part 21 rfl (fun g21 => ?_) (fun g21 => ?_)
    · refine g [[8],[3,4]] ?_;refine WLF.yd (zn rfl) (Yd.eqS EgF.h (eqVd _ _ _ _) rfl rfl) rfl (g [[2]] ?_);refine WCF.cond rfl (fun c28 => ?_) (fun c28 => ?_)
      · refine g [[1],[7,4]] ?_;have hA : (allT T).any (fun t => !yr T t hut m) = true := zg (k := k + 1) (by rw [zd hk]; simp_all);have hN : (allT T).any (fun t => !!yr T t hut m) = true := zg (k := k + 1) (by rw [zd hk]; simp_all);refine WP.iterRetN (h1 := [_, _, _]) (fun _ h => List.mem_cons_of_mem _ h) (fun h => (List.nodup_cons.1 h).2) (DExt.refl _ _) ⟨rfl, ?_, List.ne_nil_of_length_pos (by omega)⟩;rw [hA, hN];have e : (yr T (gt (allT T) k) hut m) = false := by simp_all
        rw [e]; rfl
      refine g [[2]] ?_;refine WP.iterOnN hrec (h1 := [_, _, _]) (fun _ h => List.mem_cons_of_mem _ h) (fun h => (List.nodup_cons.1 h).2) (DExt.refl _ _) ?_;rw [zd hk, zd hk, g16, g21];rfl
    refine g [[8],[3,4]] ?_;refine WLF.yd (zn rfl) (Yd.eqS EgF.h (eqVd _ _ _ _) rfl rfl) rfl (g [[2]] ?_);refine WCF.cond rfl (fun c28 => ?_) (fun c28 => ?_)
    · refine g [[1],[7,4]] ?_;have hA : (allT T).any (fun t => !yr T t hut m) = true := zg (k := k + 1) (by rw [zd hk]; simp_all);have hN : (allT T).any (fun t => !!yr T t hut m) = true := zg (k := k + 1) (by rw [zd hk]; simp_all);refine WP.iterRetN (h1 := [_, _, _]) (fun _ h => List.mem_cons_of_mem _ h) (fun h => (List.nodup_cons.1 h).2) (DExt.refl _ _) ⟨rfl, ?_, List.ne_nil_of_length_pos (by omega)⟩;rw [hA, hN]
      exfalso; revert c28; cases (yr T (gt (allT T) k) hut m) <;> simp; done
    refine g [[2]] ?_;refine WP.iterOnN hrec (h1 := [_, _, _]) (fun _ h => List.mem_cons_of_mem _ h) (fun h => (List.nodup_cons.1 h).2) (DExt.refl _ _) ?_;rw [zd hk, zd hk, g16, g21];rfl
  · rintro Dn1 D6 _ hDn1 hX6 rfl;rw [List.take_length];refine g [[3],[4,4]] ?_;refine WL.part 32 rfl (fun g32 => ?_) (fun g32 => ?_)
    · rw [hne] at g32; cases g32
    refine g [[3]] ?_;refine WL.part 35 rfl (fun g35 => ?_) (fun g35 => ?_)
    · rw [hne] at g35; cases g35
    refine WL.nf rfl (fun w hI => xo _ _) (g [[1]] ?_);exact WP.panicMs [Dn1] [_, _, _] rfl (fun _ h => h) (fun h => h) (fun w hI => ⟨rfl, hI.keep⟩)
  rintro Dn1 c D6 _ hDn1 hX6 ⟨rfl, rfl, hne2⟩;exact absurd hne hne2
theorem zbz (T : Tks) (a1 : Option Addr) (n1 c1 : Nat) (D : Imm) (w : World) (hR : TksR D T a1 n1) (hH : Holds D w) (hv : tksB T = true) (hut m : Int) (hw : (hutT T hut && minT m) = false) : z8 Tryz.prog 46 [.agg #[it T.huts, .slice a1 n1 c1], it hut, it m] w (.tuple #[it (zF T hut m).1, it (zF T hut m).2]) := by
  unfold z8;obtain rfl := hR.tick.len';have hl1 := hR.len
  have hE : tksE T (hutT T hut && minT m) = 2 := by
    unfold tksE;rw [if_neg (by rw [hv]; simp), if_pos hw]
  have hO0 : zF T hut m = (0, 2) := by unfold zF; rw [if_pos (by rw [hE]; simp), hE]
  refine enD Tryz.func46 rfl Tryz.ntmps46 (Inv.start hH) (g [[1],[1,0,1,2]] ?_);refine WL.so (SO.box rfl rfl) rfl (zw fun b3 hb3 => ?_);refine g [[1]] ?_;refine WL.so (SO.alloc ZvF.h rfl) rfl (zw fun b7 hb7 => ?_);refine g [[3],[2,7,6,3,1,2]] ?_;refine WL.defer rfl (g [[3],[0,7,6,3,1,2]] ?_);refine WC.drawP [(b3, boxT T (.slice a1 T.l.length c1))] (pz [1,3,5,19,21,23,25,6,9,11,12,15,16,26,28,30,32]) zk zk zX (fun _ hI => hI.tail) (g [[7]] ?_);refine WA.so rfl (SO.callP CaF.h rfl (fun w hI => YD T a1 _ c1 hv _ _)) rfl ?_;rintro _ _ _ ⟨rfl, rfl, rfl⟩;refine ⟨fun _ hI => hI.tail, ?_⟩;refine g [[1]] ?_;refine WA.part 13 rfl (fun g13 => ?_) (fun g13 => ?_)
  · refine g [[1]] ?_;refine WA.sog rfl rfl (SO.callP CaF.h rfl (fun w hI => vB _ _)) rfl ?_;rintro _ _ _ ⟨rfl, rfl, rfl⟩;refine ⟨fun _ hI => hI.tail, ?_⟩;refine g [[1]] ?_;refine WA.know 16 (.bool false) rfl (congrArg Value.bool (by simp_all)) ?_;refine WA.no rfl (SO.fail (Enters.func CaF.h rfl) (fun w hI => j2 T a1 _ c1 D _ hR hI.imm hv) (g [[1]] ?_));refine WP.panicD (k := 0) [_, _] [_, _] rfl CaF.h rfl (fun w hI => kg _ _ _ _ _ (hI.own _ _ (List.mem_of_getElem? (i := 0) rfl))) rfl zV (fun w hI => ⟨congrArg Ending.returned (by rw [hO0]; rfl), hI.keep⟩)
  refine g [[3]] ?_;refine WA.no rfl (SO.fail (Enters.func CaF.h rfl) (fun w hI => j2 T a1 _ c1 D _ hR hI.imm hv) (g [[1]] ?_));refine WP.panicD (k := 0) [_, _] [_, _] rfl CaF.h rfl (fun w hI => kg _ _ _ _ _ (hI.own _ _ (List.mem_of_getElem? (i := 0) rfl))) rfl zV (fun w hI => ⟨congrArg Ending.returned (by rw [hO0]; rfl), hI.keep⟩)
theorem zbA (T : Tks) (a1 : Option Addr) (n1 c1 : Nat) (D : Imm) (w : World) (hR : TksR D T a1 n1) (hH : Holds D w) (hv : tksB T = true) (hut m : Int) (hw : (hutT T hut && minT m) = true) (hne : allT T = []) : z8 Tryz.prog 46 [.agg #[it T.huts, .slice a1 n1 c1], it hut, it m] w (.tuple #[it (zF T hut m).1, it (zF T hut m).2]) := by
  unfold z8;obtain rfl := hR.tick.len';have hl1 := hR.len
  have hE : tksE T (hutT T hut && minT m) = 10 := by
    unfold tksE;rw [if_neg (by rw [hv]; simp), if_neg (by rw [hw]; simp), if_pos (by rw [hne]; rfl)]
  have hO0 : zF T hut m = (0, 10) := by unfold zF; rw [if_pos (by rw [hE]; simp), hE]
  have hm2 : 0 ≤ m ∧ m ≤ 240 := by simp only [Bool.and_eq_true] at hw; exact of_decide_eq_true hw.2
  refine enD Tryz.func46 rfl Tryz.ntmps46 (Inv.start hH) (g [[1],[1,0,1,2]] ?_);refine WL.so (SO.box rfl rfl) rfl (zw fun b3 hb3 => ?_);refine g [[1]] ?_;refine WL.so (SO.alloc ZvF.h rfl) rfl (zw fun b7 hb7 => ?_);refine g [[3],[2,7,6,3,1,2]] ?_;refine WL.defer rfl (g [[3],[0,7,6,3,1,2]] ?_);refine WC.drawP [(b3, boxT T (.slice a1 T.l.length c1))] (pz [1,3,5,19,21,23,25,6,9,11,12,15,16,26,28,30,32]) zk zk zX (fun _ hI => hI.tail) (g [[7]] ?_);refine WA.so rfl (SO.callP CaF.h rfl (fun w hI => YD T a1 _ c1 hv _ _)) rfl ?_;rintro _ _ _ ⟨rfl, rfl, rfl⟩;refine ⟨fun _ hI => hI.tail, ?_⟩;refine g [[1]] ?_;refine WA.part 13 rfl (fun g13 => ?_) (fun g13 => ?_)
  · refine g [[1]] ?_;refine WA.sog rfl rfl (SO.callP CaF.h rfl (fun w hI => vB _ _)) rfl ?_;rintro _ _ _ ⟨rfl, rfl, rfl⟩;refine ⟨fun _ hI => hI.tail, ?_⟩;refine g [[1]] ?_;refine WA.know 16 (.bool true) rfl (congrArg Value.bool (by simp_all)) ?_;refine WA.so rfl (SO.makes (Enters.func Tryz.call88 rfl) (fun w hI => x4 T a1 _ c1 D _ hR hI.imm hv)) rfl ?_;rintro _ D2 _ ⟨hX2, ⟨bq, rfl, hO⟩, rfl⟩;have hR2 := hR.ext hX2;refine ⟨fun _ hI => hI.tail.shrink hX2.old, ?_⟩;refine WA.no rfl (SO.fail (Enters.func CaF.h rfl) (fun w hI => KX T a1 _ c1 bq D2 _ hO hR2 hI.imm hv hut m hm2 hne) (g [[1]] ?_));refine WP.panicD (k := 0) [_, _] [_, _] rfl CaF.h rfl (fun w hI => kg _ _ _ _ _ (hI.own _ _ (List.mem_of_getElem? (i := 0) rfl))) rfl zV (fun w hI => ⟨congrArg Ending.returned (by rw [hO0]; rfl), hI.keep⟩)
  simp_all
theorem KO (T : Tks) (a1 : Option Addr) (n1 c1 : Nat) (D : Imm) (w : World) (hR : TksR D T a1 n1) (hH : Holds D w) (hv : tksB T = true) (hut m : Int) (hw : (hutT T hut && minT m) = true) (hne : allT T ≠ []) : z8 Tryz.prog 46 [.agg #[it T.huts, .slice a1 n1 c1], it hut, it m] w (.tuple #[it (zF T hut m).1, it (zF T hut m).2]) := by
  unfold z8;obtain rfl := hR.tick.len';have hl1 := hR.len
  have hE : tksE T (hutT T hut && minT m) = 0 := by
    unfold tksE;rw [if_neg (by rw [hv]; simp), if_neg (by rw [hw]; simp), if_neg (by rw [List.isEmpty_iff]; exact hne)]
  have hO0 : zF T hut m = (vI ((allT T).any fun t => !yr T t hut m) ((allT T).any fun t => yr T t hut m), 0) := by unfold zF; rw [if_neg (by rw [hE]; simp)]
  have hm2 : 0 ≤ m ∧ m ≤ 240 := by simp only [Bool.and_eq_true] at hw; exact of_decide_eq_true hw.2
  refine enD Tryz.func46 rfl Tryz.ntmps46 (Inv.start hH) (g [[1],[1,0,1,2]] ?_);refine WL.so (SO.box rfl rfl) rfl (zw fun b3 hb3 => ?_);refine g [[1]] ?_;refine WL.so (SO.alloc ZvF.h rfl) rfl (zw fun b7 hb7 => ?_);refine g [[3],[2,7,6,3,1,2]] ?_;refine WL.defer rfl (g [[3],[0,7,6,3,1,2]] ?_);refine WC.drawP [(b3, boxT T (.slice a1 T.l.length c1))] (pz [1,3,5,19,21,23,25,6,9,11,12,15,16,26,28,30,32]) zk zk zX (fun _ hI => hI.tail) (g [[7]] ?_);refine WA.so rfl (SO.callP CaF.h rfl (fun w hI => YD T a1 _ c1 hv _ _)) rfl ?_;rintro _ _ _ ⟨rfl, rfl, rfl⟩;refine ⟨fun _ hI => hI.tail, ?_⟩;refine g [[1]] ?_;refine WA.part 13 rfl (fun g13 => ?_) (fun g13 => ?_)
  · refine g [[1]] ?_;refine WA.sog rfl rfl (SO.callP CaF.h rfl (fun w hI => vB _ _)) rfl ?_;rintro _ _ _ ⟨rfl, rfl, rfl⟩;refine ⟨fun _ hI => hI.tail, ?_⟩;refine g [[1]] ?_;refine WA.know 16 (.bool true) rfl (congrArg Value.bool (by simp_all)) ?_;refine WA.so rfl (SO.makes (Enters.func Tryz.call88 rfl) (fun w hI => x4 T a1 _ c1 D _ hR hI.imm hv)) rfl ?_;rintro _ D2 _ ⟨hX2, ⟨bq, rfl, hO⟩, rfl⟩;have hR2 := hR.ext hX2;refine ⟨fun _ hI => hI.tail.shrink hX2.old, ?_⟩;refine WA.so rfl (SO.callP CaF.h rfl (fun w hI => KY T a1 _ c1 bq D2 _ hO hR2 hI.imm hv hut m hm2 hne)) rfl ?_;rintro _ _ _ ⟨rfl, rfl, rfl⟩;refine ⟨fun _ hI => hI.tail.shrink hX2.old, ?_⟩;refine WA.so rfl (SO.callP CaF.h rfl (fun w hI => Qc _ _ _)) rfl ?_;rintro _ _ _ ⟨rfl, rfl, rfl⟩;refine ⟨fun _ hI => hI.tail.shrink hX2.old, ?_⟩;refine WA.so rfl (SO.ofYd (Yd.assign rfl)) rfl ?_;rintro _ _ _ ⟨rfl, rfl, rfl⟩;refine ⟨fun _ hI => hI.tail.shrink hX2.old, ?_⟩;refine WA.so rfl (SO.store 0 rfl SzF.h rfl rfl rfl rfl (zqb rfl) (za rfl)) rfl ?_;rintro _ _ _ ⟨rfl, rfl, rfl⟩;refine ⟨fun _ hI => hI.tail.shrink hX2.old, ?_⟩;refine g [[3]] ?_;refine WP.endD [_, _] [_, _] rfl rfl CaF.h (fun w hI => zap _ _) rfl zV (fun w hI => ⟨congrArg Ending.returned (by rw [hO0]; simp only [Bool.not_not]; rfl), hI.keep⟩)
  simp_all
theorem Kf (T : Tks) (a1 : Option Addr) (n1 c1 : Nat) (D : Imm) (w : World) (hR : TksR D T a1 n1) (hH : Holds D w) (hv : tksB T = true) (hut m : Int) : z8 Tryz.prog 46 [.agg #[it T.huts, .slice a1 n1 c1], it hut, it m] w (.tuple #[it (zF T hut m).1, it (zF T hut m).2]) := by
  cases hw : (hutT T hut && minT m) with
  | false => exact zbz T a1 n1 c1 D w hR hH hv hut m hw
  | true =>
    by_cases hne : allT T = []
    · exact zbA T a1 n1 c1 D w hR hH hv hut m hw hne
    exact KO T a1 n1 c1 D w hR hH hv hut m hw hne
abbrev KT : Type := { l : List Int // l.length = 10 ∧ ∀ x ∈ l, -1 ≤ x ∧ x ≤ 1000 }
def kvT (y : KT) : Value := .agg (y.1.map it).toArray
theorem kx : ∀ x y, kvT x = kvT y → x = y := fun x y h => by
  apply Subtype.ext;simp only [kvT, Value.agg.injEq] at h;have h2 : x.1.map it = y.1.map it := by simpa using h
  exact (List.map_inj_right (fun a b e => by simpa [it] using e)).1 h2
def clI (x : Int) : Int := if -1 ≤ x ∧ x ≤ 1000 then x else 0
theorem zec (x : Int) : -1 ≤ clI x ∧ clI x ≤ 1000 := by unfold clI; split <;> omega
def kyT (t : Tru) : KT := ⟨[clI (t 0).1, clI (t 0).2, clI (t 1).1, clI (t 1).2, clI (t 2).1, clI (t 2).2, clI (t 3).1, clI (t 3).2, clI (t 4).1, clI (t 4).2], rfl, fun x hx => by
  simp only [List.mem_cons, List.not_mem_nil, or_false] at hx;rcases hx with rfl | rfl | rfl | rfl | rfl | rfl | rfl | rfl | rfl | rfl <;> exact zec _⟩
def TrB (t : Tru) : Prop := ∀ i, (-1 ≤ (t i).1 ∧ (t i).1 ≤ 1000) ∧ -1 ≤ (t i).2 ∧ (t i).2 ≤ 1000
theorem ye {x : Int} (h : -1 ≤ x ∧ x ≤ 1000) : clI x = x := by unfold clI; rw [if_pos h]
theorem XB {t : Tru} (h : TrB t) : truV t = kvT (kyT t) := by
  show truV t = .agg ([clI (t 0).1, clI (t 0).2, clI (t 1).1, clI (t 1).2, clI (t 2).1, clI (t 2).2, clI (t 3).1, clI (t 3).2, clI (t 4).1, clI (t 4).2].map it).toArray;rw [ye (h 0).1, ye (h 0).2, ye (h 1).1, ye (h 1).2, ye (h 2).1, ye (h 2).2, ye (h 3).1, ye (h 3).2, ye (h 4).1, ye (h 4).2];rfl
theorem zaw {t t' : Tru} (h : TrB t) (h' : TrB t') (e : kyT t = kyT t') : ∀ i, i < 5 → t i = t' i := fun i hi => by
  have e2 := congrArg Subtype.val e;simp only [kyT, List.cons.injEq, and_true] at e2
  rw [ye (h 0).1, ye (h 0).2, ye (h 1).1, ye (h 1).2, ye (h 2).1, ye (h 2).2, ye (h 3).1, ye (h 3).2, ye (h 4).1, ye (h 4).2,
    ye (h' 0).1, ye (h' 0).2, ye (h' 1).1, ye (h' 1).2, ye (h' 2).1, ye (h' 2).2, ye (h' 3).1, ye (h' 3).2, ye (h' 4).1, ye (h' 4).2] at e2
  obtain ⟨e0, e1, e2, e3, e4, e5, e6, e7, e8, e9⟩ := e2;rcases (show i = 0 ∨ i = 1 ∨ i = 2 ∨ i = 3 ∨ i = 4 by omega) with rfl | rfl | rfl | rfl | rfl
  · exact Prod.ext e0 e1
  · exact Prod.ext e2 e3
  · exact Prod.ext e4 e5
  · exact Prod.ext e6 e7
  exact Prod.ext e8 e9
theorem zcy : Tryz.prog.keyType 150 = true := by kernel_rfl
theorem ku : Go.Maps.Keyed Tryz.prog 150 := Go.Maps.Keyed.of_law (deep_law_gate ZI (Nat.le_of_ble_eq_true zk) (Nat.le_of_ble_eq_true zk) zcy zk)
theorem zdl {n : Int} (h : -1 ≤ n ∧ n ≤ 1000) : (Lit.int .i64 n).wf = true := by
  simp only [Lit.wf, Bool.and_eq_true, decide_eq_true_eq];exact ⟨Int.le_trans (by decide) h.1, Int.le_trans h.2 (by decide)⟩
theorem Ub (d : Nat) (n : Int) (h : -1 ≤ n ∧ n ≤ 1000) : Tryz.prog.keyLits (d + 1) 3 [it n] = some [.int .i64 n] := by
  have hw := zdl h;simp only [Program.keyLits, Tryz.underlying3];simp [hw]
set_option maxRecDepth 10000 in
theorem v8 (d : Nat) (a b : Int) (ha : -1 ≤ a ∧ a ≤ 1000) (hb : -1 ≤ b ∧ b ≤ 1000) : Tryz.prog.keyLits (d + 2) 148 [it a, it b] = some [.int .i64 a, .int .i64 b] := by
  have h2 : Tryz.prog.cellsOf 148 = 2 := by kernel_rfl
  have h1 : Tryz.prog.cellsOf 3 = 1 := by kernel_rfl
  unfold Program.keyLits;simp only [Tryz.underlying148, h2];simp [h1, Ub, ha, hb]
theorem zl9 {α : Type} {l : List α} (h : l.length = 10) : ∃ a b c d e f g i j k, l = [a, b, c, d, e, f, g, i, j, k] := by
  match l, h with
  | [a, b, c, d, e, f, g, i, j, k], _ => exact ⟨a, b, c, d, e, f, g, i, j, k, rfl⟩
set_option maxRecDepth 10000 in
theorem Xz (y : KT) : ∃ l, keyOf Tryz.prog 150 (kvT y) = some l := by
  obtain ⟨l, hl, hb⟩ := y;obtain ⟨a, b, c, d, e, f, g, i, j, k, rfl⟩ := zl9 hl;have h10 : Tryz.prog.cellsOf 150 = 10 := by kernel_rfl
  have h2 : Tryz.prog.cellsOf 148 = 2 := by kernel_rfl
  have hs : Tryz.prog.types.size + 1 = 433 + 3 := by kernel_rfl
  unfold keyOf;rw [Tryz.underlying150]
  have hf : (kvT ⟨[a, b, c, d, e, f, g, i, j, k], hl, hb⟩).formed Tryz.prog 150 = true := by
    simp [kvT, Value.formed, Tryz.underlying150, h10]
  simp only [zcy, hf, Bool.and_self, if_true, hs];have ha := hb a (by simp);have hb' := hb b (by simp);have hc := hb c (by simp);have hd := hb d (by simp);have he := hb e (by simp);have hf' := hb f (by simp);have hg := hb g (by simp);have hi := hb i (by simp);have hj := hb j (by simp);have hk := hb k (by simp)
  have hl : Tryz.prog.keyLits (433 + 3) 150 [it a, it b, it c, it d, it e, it f, it g, it i, it j, it k] = some [.int .i64 a, .int .i64 b, .int .i64 c, .int .i64 d, .int .i64 e, .int .i64 f, .int .i64 g, .int .i64 i, .int .i64 j, .int .i64 k] := by
    unfold Program.keyLits;simp only [Tryz.underlying150, h10];simp [h2, List.range, List.range.loop, v8 433 a b ha hb', v8 433 c d hc hd, v8 433 e f he hf', v8 433 g i hg hi, v8 433 j k hj hk]
  show ∃ l, (Tryz.prog.keyLits (433 + 3) 150 [it a, it b, it c, it d, it e, it f, it g, it i, it j, it k]).map _ = some l;rw [hl];exact ⟨_, rfl⟩
end Go.Proofs.YtejgofaeafphjaaGreatDoor
