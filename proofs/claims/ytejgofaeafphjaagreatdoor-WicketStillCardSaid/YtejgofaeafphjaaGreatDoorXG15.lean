import Derived.Test.YtejgofaeafphjaaGreatDoorXG14
import Derived.Test.YtejgofaeafphjaaGreatDoorXG5
import Derived.Lib.ItoaNum
import Derived.Lib.AtoiAll
import Derived.Test.YtejgofaeafphjaaGreatDoorXG13
import Derived.Lib.SplitLaws
import Derived.Lib.Strings
import Derived.Test.YtejgofaeafphjaaGreatDoorXG7
set_option linter.all false
set_option maxRecDepth 100000
set_option maxHeartbeats 4000000
attribute [local irreducible] Go.W.WL Go.W.WLF Go.W.WC Go.W.WCF Go.W.WP Go.W.WA Go.W.WQ Go.W.WH Go.W.WHo Go.W.WCn Go.W.Yd Go.W.Qt Go.W.SO Go.Code.wp Go.Code.wpIn
namespace Go.Proofs.YtejgofaeafphjaaGreatDoor
open Go.W Go.Ti
theorem kr {w1 w0 w : World} {D D' : Imm} {hp : Hp} {S : List Nat} (h : Inv D' hp S w0 w) (hx : DExt w1 D D') : Inv D hp S w0 w :=
  ⟨fun b o hb => h.imm b o (hx.old b o hb), h.own, h.nodup, (fun b o hb => by
    cases hd : D b with
    | none => rfl
    | some o' => have := h.apart b o hb; rw [hx.old b o' hd] at this; cases this), h.keep, h.may⟩
abbrev K5 : Type := Fin 61 × Fin 61 × Fin 61 × Fin 61 × Fin 241
def htC (h : Hts) : List Value := [it (h 0), it (h 1), it (h 2), it (h 3)]
def htV (h : Hts) : Value := .agg (htC h).toArray
def moV (h : Hts) (m : Int) : Value := .agg #[it (h 0), it (h 1), it (h 2), it (h 3), it m]
def kv5 (y : K5) : Value := .agg #[nt y.1.val, nt y.2.1.val, nt y.2.2.1.val, nt y.2.2.2.1.val, nt y.2.2.2.2.val]
def f61 (x : Int) : Fin 61 := ⟨x.toNat % 61, Nat.mod_lt _ (by decide)⟩
def f241 (x : Int) : Fin 241 := ⟨x.toNat % 241, Nat.mod_lt _ (by decide)⟩
theorem Yu {x : Int} (h : 0 ≤ x ∧ x ≤ 60) : ((f61 x).val : Int) = x := by
  show ((x.toNat % 61 : Nat) : Int) = x;rw [Nat.mod_eq_of_lt (by omega)]; omega
theorem kn {x : Int} (h : 0 ≤ x ∧ x ≤ 240) : ((f241 x).val : Int) = x := by
  show ((x.toNat % 241 : Nat) : Int) = x;rw [Nat.mod_eq_of_lt (by omega)]; omega
def k5 (h : Hts) (m : Int) : K5 := (f61 (h 0), f61 (h 1), f61 (h 2), f61 (h 3), f241 m)
def HtB (h : Hts) : Prop := ∀ i, 0 ≤ h i ∧ h i ≤ 60
theorem ZH {h : Hts} {m : Int} (hh : HtB h) (hm : 0 ≤ m ∧ m ≤ 240) : moV h m = kv5 (k5 h m) := by
  have g : ∀ x : Int, 0 ≤ x ∧ x ≤ 60 → it x = nt (f61 x).val := fun x hx => by show it x = it ((f61 x).val : Int); rw [Yu hx]
  have g2 : it m = nt (f241 m).val := by show it m = it ((f241 m).val : Int); rw [kn hm]
  unfold moV kv5;rw [g _ (hh 0), g _ (hh 1), g _ (hh 2), g _ (hh 3), g2]; rfl
theorem qO : ∀ x y, kv5 x = kv5 y → x = y := by
  rintro ⟨⟨a, ha⟩, ⟨b, hb⟩, ⟨c, hc⟩, ⟨d, hd⟩, ⟨e, he⟩⟩ ⟨⟨a', ha'⟩, ⟨b', hb'⟩, ⟨c', hc'⟩, ⟨d', hd'⟩, ⟨e', he'⟩⟩ h;simp only [kv5, Value.agg.injEq, it] at h;simp at h;obtain ⟨h1, h2, h3, h4, h5⟩ := h;have e1 : a = a' := by omega
  have e2 : b = b' := by omega
  have e3 : c = c' := by omega
  have e4 : d = d' := by omega
  have e5 : e = e' := by omega
  subst e1; subst e2; subst e3; subst e4; subst e5; rfl
theorem zcw {h h' : Hts} {m m' : Int} (hh : HtB h) (hh' : HtB h') (hm : 0 ≤ m ∧ m ≤ 240) (hm' : 0 ≤ m' ∧ m' ≤ 240) (e : k5 h m = k5 h' m') : (∀ i, i < 4 → h i = h' i) ∧ m = m' := by
  simp only [k5, Prod.mk.injEq] at e;obtain ⟨e0, e1, e2, e3, e4⟩ := e;have g : ∀ {x y : Int}, 0 ≤ x ∧ x ≤ 60 → 0 ≤ y ∧ y ≤ 60 → f61 x = f61 y → x = y := fun hx hy e => by rw [← Yu hx, ← Yu hy, e]
  refine ⟨fun i hi => ?_, by rw [← kn hm, ← kn hm', e4]⟩;rcases (show i = 0 ∨ i = 1 ∨ i = 2 ∨ i = 3 by omega) with rfl | rfl | rfl | rfl
  · exact g (hh _) (hh' _) e0
  · exact g (hh _) (hh' _) e1
  · exact g (hh _) (hh' _) e2
  exact g (hh _) (hh' _) e3
theorem keyM : Tryz.prog.keyType 305 = true := by kernel_rfl
theorem ZI : laidOutB Tryz.prog = true := by kernel_rfl
theorem qM : Go.Maps.Keyed Tryz.prog 305 := Go.Maps.Keyed.of_law (deep_law_gate ZI (Nat.le_of_ble_eq_true zk) (Nat.le_of_ble_eq_true zk) keyM zk)
theorem Yc {n : Nat} (h : n ≤ 1000) : (Lit.int .i64 (n : Int)).wf = true := by
  simp only [Lit.wf, Bool.and_eq_true, decide_eq_true_eq];exact ⟨Int.le_trans (by decide) (Int.natCast_nonneg n), Int.le_trans (show (n : Int) ≤ 1000 by omega) (by decide)⟩
theorem Jk (d : Nat) (n : Nat) (h : n ≤ 1000) : Tryz.prog.keyLits (d + 1) 3 [nt n] = some [.int .i64 (n : Int)] := by
  have hw := Yc h;simp only [Program.keyLits, Tryz.underlying3];simp [hw]
theorem ZN (d : Nat) (a b c e : Nat) (ha : a ≤ 1000) (hb : b ≤ 1000) (hc : c ≤ 1000) (he : e ≤ 1000) : Tryz.prog.keyLits (d + 2) 232 [nt a, nt b, nt c, nt e] = some [.int .i64 (a : Int), .int .i64 (b : Int), .int .i64 (c : Int), .int .i64 (e : Int)] := by
  have h4 : Tryz.prog.cellsOf 232 = 4 := by kernel_rfl
  have h1 : Tryz.prog.cellsOf 3 = 1 := by kernel_rfl
  simp only [Program.keyLits, Tryz.underlying232, Tryz.underlying3, h4, h1];simp [List.range, List.range.loop, Yc ha, Yc hb, Yc hc, Yc he]
theorem ZF (y : K5) : ∃ l, keyOf Tryz.prog 305 (kv5 y) = some l := by
  obtain ⟨⟨a, ha⟩, ⟨b, hb⟩, ⟨c, hc⟩, ⟨d, hd⟩, ⟨e, he⟩⟩ := y;have h5 : Tryz.prog.cellsOf 305 = 5 := by kernel_rfl
  have h4 : Tryz.prog.cellsOf 232 = 4 := by kernel_rfl
  have h1 : Tryz.prog.cellsOf 3 = 1 := by kernel_rfl
  have hs : Tryz.prog.types.size + 1 = 433 + 3 := by kernel_rfl
  unfold keyOf;rw [Tryz.underlying305]
  have hf : (kv5 (⟨a, ha⟩, ⟨b, hb⟩, ⟨c, hc⟩, ⟨d, hd⟩, ⟨e, he⟩)).formed Tryz.prog 305 = true := by
    simp [kv5, Value.formed, Tryz.underlying305, h5]
  simp only [keyM, hf, Bool.and_self, if_true, hs]
  have hl : Tryz.prog.keyLits (433 + 3) 305 [nt a, nt b, nt c, nt d, nt e] = some [.int .i64 (a : Int), .int .i64 (b : Int), .int .i64 (c : Int), .int .i64 (d : Int), .int .i64 (e : Int)] := by
    unfold Program.keyLits;simp only [Tryz.underlying305, h5];simp [h4, h1, Jk, ZN 433 a b c d (by omega) (by omega) (by omega) (by omega), show e ≤ 1000 by omega]
  show ∃ l, (Tryz.prog.keyLits (433 + 3) 305 [nt a, nt b, nt c, nt d, nt e]).map _ = some l;rw [hl];exact ⟨_, rfl⟩
def k9 (T : Tide) (F : K5 → Option Int) : Prop := ∀ h m v, HtB h → zx T m = true → F (k5 h m) = some v → v = y5 T h m
def MapK (T : Tide) (mb : Nat) (hp : Hp) : Prop := ∃ es clock F, hp = [(mb, .map es clock)] ∧ MapR kv5 es clock F ∧ k9 T F
theorem kD (T : Tide) (mb : Nat) : MapK T mb [(mb, .map #[] 0)] := ⟨_, _, _, rfl, MapR.empty kv5, fun h m v _ _ e => by cases e⟩
theorem wq {T : Tide} (hT : zG T) {m : Int} (h : zx T m = true) : 0 ≤ m ∧ m ≤ 240 := by
  have h1 := (hT.mark 0 (by have := hT.nm; omega)).1;have h2 := (hT.mark (T.marks.length - 1) (by have := hT.nm; omega)).1.2;have h' : jI T ≤ m ∧ m ≤ wB T := by simpa only [zx, decide_eq_true_eq] using h
  exact ⟨Int.le_trans h1.1 h'.1, Int.le_trans h'.2 h2⟩
theorem Y2 {T : Tide} (hT : zG T) {h h' : Hts} {m : Int} (hm : zx T m = true) (e : ∀ i, i < 4 → h i = h' i) : y5 T h m = y5 T h' m := by
  obtain ⟨_, h2, _⟩ := ud hT hm;have := hT.nm;unfold y5 jY;rw [e _ (by omega), e _ (by omega)]
theorem ZG {T : Tide} (hT : zG T) {F : K5 → Option Int} (hF : k9 T F) {h : Hts} {m : Int} (hh : HtB h) (hm : zx T m = true) : k9 T (putF F (k5 h m) (y5 T h m)) := fun h' m' v hh' hm' e => by
  unfold putF at e;split at e
  · rename_i e2
    obtain ⟨h1, h2⟩ := zcw hh' hh (wq hT hm') (wq hT hm) e2;subst h2;simp only [Option.some.injEq] at e;rw [← e]; exact (Y2 hT hm h1).symm
  exact hF h' m' v hh' hm' e
theorem zcA (x : Go.Ti.Mark) (b5 : Nat) (m : Int) (D : Imm) (h5 : D b5 = some (.cells (List.toArray [it m]) 3 (0, 0))) (w : World) (hH : Holds D w) : z8 Tryz.prog 231 [.agg #[it x.minute, it x.high.lo, it x.high.hi], pt b5] w (.bool (decide (m ≤ x.minute))) := by
  unfold z8;refine en Tryz.func231 rfl Tryz.ntmps231 (Inv.start hH) (g [[1],[1,0,1]] ?_);refine WL.so (SO.box rfl rfl) rfl (zw fun b2 hb2 => ?_);refine g [[4],[9,3,2,1]] ?_;refine WP.ret1 rfl rfl rfl (RV.tmp rfl) (fun w hI => ⟨zb rfl, hI.keep⟩)
theorem J8 (T : Tide) (a1 a2 a3 : Option Addr) (n1 n2 n3 c1 c2 c3 : Nat) (D : Imm) (w : World) (hR : yo D T a1 n1 a2 n2 a3 n3) (hH : Holds D w) (b5 : Nat) (m : Int) (h5 : D b5 = some (.cells (List.toArray [it m]) 3 (0, 0))) (hfd : wi T m T.marks.length 0 < T.marks.length) : z8 Tryz.prog 230 [.slice a1 n1 c1, .func (.func 231) #[] #[pt b5]] w (nt (wi T m T.marks.length 0)) := by
  unfold z8;obtain rfl := hR.mark.len';obtain rfl := hR.sand.len';obtain rfl := hR.look.len';obtain ⟨hl1, hl2, hl3⟩ := hR.len;refine en Tryz.func230 rfl Tryz.ntmps230 (Inv.start hH) (g [[1],[6,0,1],[7,4,0,1]] ?_);refine WC.loopF (fun k : Nat => [(0, .slice a1 T.marks.length c1), (1, .func (.func 231) #[] #[pt b5]), (7, nt T.marks.length), (8, nt k)]) (fun k => k ≤ T.marks.length ∧ wi T m T.marks.length 0 = wi T m (T.marks.length - k) k) (fun k => T.marks.length - k) 0 ⟨by omega, rfl⟩ (by exact ⟨rfl, rfl, rfl, rfl, trivial⟩) ?_;intro k ⟨hk, hd⟩;refine g [[1],[5,0,1,7,8]] ?_;refine WC.cond rfl (fun c9 => ?_) (fun c9 => ?_)
  · try simp only [zq] at c9
    refine g [[5],[6,0,1,7,8],[4,5,0,1,7,8]] ?_;refine WL.yd (Yd.ix rfl rfl (hR.mark.addr k (by omega))) rfl (WL.yd (Yd.lV [_, _, _] rfl ((hR.mark.at k (by omega)).rdn 0 3 rfl)) rfl ?_);refine WL.so (SO.call (Enters.val CaF.h rfl rfl) (fun w hI => zcA (gt T.marks k) b5 m D h5 _ hI.imm)) rfl (zs (g [[2]] ?_));refine WC.cond rfl (fun c16 => ?_) (fun c16 => ?_)
    · try simp only [zq] at c16
      refine g [[1],[11,5,0,1,7,8]] ?_
      refine WP.ret1 rfl rfl rfl (RV.tmp rfl) (fun w hI => ⟨j8 (by
              first
                | (rw [hd, show T.marks.length - k = (T.marks.length - (k + 1)) + 1 by omega, wi, if_pos (by omega)]; done)
                | (exfalso; rw [hd, show T.marks.length - k = 0 by omega, wi] at hfd; omega)), hI.keep⟩)
    try simp only [zq] at c16
    refine g [[3],[4,0,1,7,8]] ?_;exact WP.againF (k + 1) ⟨by omega, by rw [hd, show T.marks.length - k = (T.marks.length - (k + 1)) + 1 by omega, wi, if_neg (by omega)]⟩ (by omega) ⟨rfl, rfl, rfl, rfl, trivial⟩ (fun _ h => h) (fun h => h)
  try simp only [zq] at c9
  refine g [[6]] ?_;refine WC.ofFr [] trivial (g [[5]] ?_)
  refine WP.ret1 rfl rfl rfl (RV.tmp rfl) (fun w hI => ⟨j8 (by
          first
            | (rw [hd, show T.marks.length - k = (T.marks.length - (k + 1)) + 1 by omega, wi, if_pos (by omega)]; done)
            | (exfalso; rw [hd, show T.marks.length - k = 0 by omega, wi] at hfd; omega)), hI.keep⟩)
theorem ze5 : zj Tryz.prog 305 [.int .i64 0, .int .i64 0, .int .i64 0, .int .i64 0, .int .i64 0] [(0, 4), (4, 1)] := ⟨⟨_, Tryz.zeroValue305, rfl⟩, _, Tryz.underlying305, fun w => by simp [Tryz.sizeOf3, Tryz.sizeOf232]⟩
abbrev zbW := SaF.mk ze5
attribute [instance] zbW
def ux (D : Imm) : Prop := ∃ t fz, D 2 = some (.cells (List.toArray (donL.map it)) t fz)
theorem ux.ext {w : World} {D D' : Imm} (hD : DExt w D D') (h : ux D) : ux D' := let ⟨t, fz, e⟩ := h; ⟨t, fz, hD.old _ _ e⟩
theorem Yt {D : Imm} (h : ux D) (hp : Hp) {k : Nat} (hk : k < 7) : Rd D hp ⟨2, 0 + k * 1, none⟩ (it (doneN k)) := by
  obtain ⟨t, fz, e⟩ := h;rcases (show k = 0 ∨ k = 1 ∨ k = 2 ∨ k = 3 ∨ k = 4 ∨ k = 5 ∨ k = 6 by omega) with rfl | rfl | rfl | rfl | rfl | rfl | rfl <;> exact Rd.imm e rfl
theorem zcH {a r : Int} (ha : 0 ≤ a ∧ a ≤ 12) (hr : 0 ≤ r ∧ r ≤ 240) : 0 ≤ a * r ∧ a * r ≤ 2880 :=
  ⟨Int.mul_nonneg ha.1 hr.1, Int.le_trans (Int.mul_le_mul ha.2 hr.2 hr.1 (by decide)) (by decide)⟩
theorem zld {a r : Int} (ha : 0 ≤ a ∧ a ≤ 3) (hr : 0 ≤ r ∧ r ≤ 240) : 0 ≤ a * r ∧ a * r ≤ 720 :=
  ⟨Int.mul_nonneg ha.1 hr.1, Int.le_trans (Int.mul_le_mul ha.2 hr.2 hr.1 (by decide)) (by decide)⟩
theorem J5 (h : Hts) {i : Nat} (hi : i < 4) : (htC h)[0 + i * 1]? = some (it (h i)) := by
  rcases (show i = 0 ∨ i = 1 ∨ i = 2 ∨ i = 3 by omega) with rfl | rfl | rfl | rfl <;> rfl
theorem qx (T : Tide) (a1 a2 a3 : Option Addr) (n1 n2 n3 c1 c2 c3 : Nat) (D : Imm) (w : World) (hR : yo D T a1 n1 a2 n2 a3 n3) (qb mb : Nat) (hq : D qb = some (shoO (.slice a1 n1 c1) (.slice a2 n2 c2) (.slice a3 n3 c3) mb)) (hH : Holds D w) (hT : zG T) (hdn : ux D) (h : Hts) (m : Int) (hh : HtB h) (hm : zx T m = true) (es : Array MapEntry) (clock : Nat) (F : K5 → Option Int) (hM : MapR kv5 es clock F) (hF : k9 T F) (hI0 : Inv D [(mb, .map es clock)] [mb] w w) : zp Tryz.prog 168 [pt qb, htV h, it m] w D [mb] (fun v D' hp' => v = it (y5 T h m) ∧ D' = D ∧ MapK T mb hp') := by
  unfold zp;obtain rfl := hR.mark.len';obtain rfl := hR.sand.len';obtain rfl := hR.look.len';obtain ⟨hl1, hl2, hl3⟩ := hR.len;have hmn := wq hT hm;obtain ⟨hk1, hk2, hk3, hk4, hk5⟩ := ud hT hm
  have hfd := jH hT (m := m) (by
      have h' : jI T ≤ m ∧ m ≤ wB T := by simpa only [zx, decide_eq_true_eq] using hm
      exact h'.2)
  have hst : y5 T h m = jY T h m (xf T m) := rfl;generalize hkn : xf T m = k at hk1 hk2 hk3 hk4 hk5 hst;have hnm := hT.nm;have hma := (hT.mark (k - 1) (by omega)).1;have hmb := (hT.mark k hk2).1;have hgap := hT.less (i := k - 1) (j := k) (by omega) hk2;have hh1 := hh (k - 1);have hh2 := hh k;unfold jY at hst;obtain ⟨L, hLd⟩ : ∃ L, (gt T.marks k).minute - (gt T.marks (k - 1)).minute = L := ⟨_, rfl⟩;obtain ⟨x, hxd⟩ : ∃ x, m - (gt T.marks (k - 1)).minute = x := ⟨_, rfl⟩;rw [hLd, hxd] at hst;have hLn : 6 ≤ L ∧ L ≤ 240 := by omega
  have hxn : 0 ≤ x ∧ x ≤ L := by omega
  obtain ⟨mv1, mv2, mv3, mv4, mv5, mv6, mv7⟩ := XF (L := L) (x := x) (by omega) hxn.1 hxn.2;have hmv : q8 L x = doneN (6 * x / L).toNat * L + if 0 < 6 * x % L then (doneN ((6 * x / L).toNat + 1) - doneN (6 * x / L).toNat) * (6 * x % L) else 0 := rfl;obtain ⟨qn, hqn⟩ : ∃ qn : Nat, 6 * x / L = (qn : Int) := ⟨(6 * x / L).toNat, by omega⟩;obtain ⟨r, hrd⟩ : ∃ r, 6 * x % L = r := ⟨_, rfl⟩;obtain ⟨f, hf⟩ : ∃ f, q8 L x = f := ⟨_, rfl⟩;have hqw := hqn;have hrw := hrd;rw [hf] at mv5 mv6 hmv hst;rw [hqn, hrd, Int.toNat_natCast] at hmv;rw [hqn] at mv1 mv2 mv7;rw [hrd] at mv3 mv4 mv7;have hfv : (0 < r → doneN qn * L + (doneN (qn + 1) - doneN qn) * r = f) ∧ (r ≤ 0 → doneN qn * L = f) := ⟨fun h => by rw [hmv, if_pos h], fun h => by rw [hmv, if_neg (by omega)]; omega⟩;have hdq := qj qn;have hdr := qG qn;have hpl := zcH (a := doneN qn) (r := L) hdq (by omega);obtain ⟨sn1, sn2, sn3, sn4, sn5, sn6, sn7⟩ := Y1 (L := L) (f := f) (by omega) hh1 hh2 ⟨mv5, mv6⟩;refine en Tryz.func168 rfl Tryz.ntmps168 hI0 (g [[1],[1,0,1,2]] ?_);refine WL.so (SO.box rfl rfl) rfl (zw fun b4 hb4 => ?_);refine WL.so (SO.box rfl rfl) rfl (zw fun b5 hb5 => ?_);refine g [[4],[1,6,5,4,0]] ?_;refine WL.yd (Yd.loadN  AgF.h SzF.h rfl (vs := [_, _, _, _]) rfl (RdN.own (k := 1) (n := 4) rfl rfl)) rfl (g [[2]] ?_);refine WL.so (SO.alloc ZvF.h rfl) rfl (zw fun b7 hb7 => ?_);refine g [[5],[0,7,6,5,4,0],[3010],[5]] ?_;refine WQ.know 24 (kv5 (k5 h m)) rfl (ZH hh hmn) (WQ.q rfl (Yd.qt (Yd.lookKOk (y := k5 h m) qO qM ZF UnF.h ZvF.h (j := 3) rfl rfl rfl hM)) rfl (g [[9],[4,9,8,7,6,5,4,0]] ?_));refine WC.cond rfl (fun c28 => ?_) (fun c28 => ?_)
  · refine g [[1],[7,8,7,6,5,4,0]] ?_
    refine WP.ret1 rfl rfl rfl (RV.tmp rfl) (fun w1 hI => ⟨_, D, [(mb, .map es clock)], rfl, DExt.refl _ _, hI.drop 3, (by cases hFk : F (k5 h m) with
      | none => rw [hFk] at c28; cases c28
      | some v => exact congrArg it (hF h m v hh hm hFk)), rfl, es, clock, F, rfl, hM, hF⟩)
  refine g [[3],[7,7,6,5,4,0]] ?_;refine WL.freezeK 1 rfl (fun hn5 => ?_);have hF5 := fun o => (DExt.refl w D).add (o := o) hn5 hb5;have hX1 := hF5 (.cells (List.toArray [it m]) 3 (0, 0));have hq1 := hX1.old _ _ hq;have hR1 := hR.ext hX1;have hdn1 := hdn.ext hX1;have h51 : (D.add b5 (.cells (List.toArray [it m]) 3 (0, 0))) b5 = _ := Imm.add_self _ _ _;refine WL.cl rfl (fun w hI => J8 T a1 a2 a3 _ _ _ c1 c2 c3 _ _ hR1 hI.imm b5 m h51 hfd) (WL.yd (Yd.max2 rfl rfl) rfl ?_);refine WL.know 37 (nt k) rfl (by show it (max 1 _) = it (k : Int); congr 1; rw [← hkn]; unfold xf; omega) (g [[4],[0,10,7,6,5,4,0],[3031],[7]] ?_);refine WQ.know 44 (nt (k - 1)) rfl (by show it ((k : Int) - 1) = it ((k - 1 : Nat) : Int); congr 1; omega) ?_;refine WQ.q rfl (Yd.qt (Yd.ix rfl rfl (hR1.mark.addr (k - 1) (by omega)))) rfl (g [[1]] ?_);refine WQ.q rfl (Yd.qt (Yd.l1 rfl ((hR1.mark.at (k - 1) (by omega)).rd 0 rfl))) rfl (g [[6]] ?_);refine WQ.q rfl (Yd.qt (Yd.ix rfl rfl (hR1.mark.addr (k - 1) (by omega)))) rfl (g [[1]] ?_);refine WQ.q rfl (Yd.qt (Yd.l1 rfl ((hR1.mark.at k (by omega)).rd 0 rfl))) rfl (g [[7]] ?_);refine WQ.know 63 (nt (k - 1)) rfl (by show it ((k : Int) - 1) = it ((k - 1 : Nat) : Int); congr 1; omega) ?_;refine WQ.q rfl (Yd.qt (Yd.ix rfl rfl (hR1.mark.addr (k - 1) (by omega)))) rfl (g [[1]] ?_);refine WQ.q rfl (Yd.qt (Yd.l1 rfl ((hR1.mark.at (k - 1) (by omega)).rd 0 rfl))) rfl (g [[1]] ?_);refine WQ.know 67 (it L) rfl (congrArg it hLd) (g [[6],[0,12,11,10,7,6,5,4,0],[3013],[3]] ?_);refine WQ.know 70 (it x) rfl (congrArg it hxd) (g [[2]] ?_);refine WQ.q rfl (Yd.qt (Yd.quo rfl rfl (by omega) (by omega) (wr64 ⟨by omega, by omega⟩))) rfl (g [[3]] ?_);refine WQ.know 76 (it x) rfl (congrArg it hxd) (g [[2]] ?_);refine WQ.q rfl (Yd.qt (Yd.rem rfl rfl (by omega) (by omega))) rfl (WQ.know 73 (nt qn) rfl (congrArg it hqn) ?_);refine WQ.know 79 (it r) rfl (congrArg it hrd) (g [[6],[2,14,13,12,10,7,6,4,0]] ?_);refine WL.yd (Yd.indexA UnF.h SzF.h rfl rfl (by omega) (by omega)) rfl (WL.yd (Yd.l1 rfl (Yt hdn1 _ (k := qn) (by omega))) rfl (g [[7],[5,15,14,13,12,10,7,6,4,0]] ?_));refine WC.cond rfl (fun c86 => ?_) (fun c86 => ?_)
  · try simp only [zq] at c86
    have hq5 : qn ≤ 5 := by omega
    have hpr := zld (a := doneN (qn + 1) - doneN qn) (r := r) (by omega) (by omega);refine g [[0,15,14,13,12,10,7,6,4,0],[3011],[2]] ?_;refine WQ.q rfl (Yd.qt (Yd.addN (i := qn) (j := 1) rfl rfl (by omega))) rfl (WQ.q rfl (Yd.qt (Yd.indexA UnF.h SzF.h rfl rfl (by omega) (by omega))) rfl ?_);refine WQ.q rfl (Yd.qt (Yd.l1 rfl (Yt hdn1 _ (k := qn + 1) (by omega)))) rfl (g [[1]] ?_);refine WQ.q rfl (Yd.qt (Yd.indexA UnF.h SzF.h rfl rfl (by omega) (by omega))) rfl (WQ.q rfl (Yd.qt (Yd.l1 rfl (Yt hdn1 _ (k := qn) (by omega)))) rfl (g [[9],[0,15,12,10,7,6,4,0],[3023],[7]] ?_));refine WQ.know 105 (nt (k - 1)) rfl (by show it ((k : Int) - 1) = it ((k - 1 : Nat) : Int); congr 1; omega) ?_;refine WQ.q rfl (Yd.qt (Yd.indexA UnF.h SzF.h rfl rfl (by omega) (by omega))) rfl (WQ.q rfl (Yd.qt (Yd.l1 rfl (Rd.own (k := 1) rfl (J5 h (i := k - 1) (by omega))))) rfl (g [[3]] ?_));refine WQ.know 110 (it f) rfl (congrArg it (hfv.1 c86)) (g [[3]] ?_);refine WQ.q rfl (Yd.qt (Yd.indexA UnF.h SzF.h rfl rfl (by omega) (by omega))) rfl (WQ.q rfl (Yd.qt (Yd.l1 rfl (Rd.own (k := 1) rfl (J5 h (i := k) (by omega))))) rfl (g [[1]] ?_));refine WQ.know 116 (it f) rfl (congrArg it (hfv.1 c86)) (g [[4]] ?_);refine WQ.q rfl (Yd.qt (Yd.quo rfl rfl (by omega) (by omega) (wr64 ⟨by omega, by omega⟩))) rfl (g [[1]] ?_);refine WL.know 103 (kv5 (k5 h m)) rfl (ZH hh hmn) (WL.know 121 (it (y5 T h m)) rfl (congrArg it hst.symm) ?_);refine WL.so (SO.putK (u := y5 T h m) (y := k5 h m) qO qM ZF UnF.h rfl rfl rfl (j := 2) rfl hM) rfl ?_;rintro _ _ _ ⟨rfl, es1, clock1, rfl, hM1⟩;refine g [[3],[0,7,6,0],[3005],[6]] ?_;refine WL.know 126 (kv5 (k5 h m)) rfl (ZH hh hmn) (WL.yd (Yd.lookK (y := k5 h m) qO qM ZF UnF.h ZvF.h (j := 2) rfl rfl rfl hM1) rfl (g [[4]] ?_));refine WP.ret1 rfl rfl rfl (RV.tmp rfl) (fun w1 hI => ⟨_, D, [(mb, .map es1 clock1)], rfl, DExt.refl _ _, kr (hI.drop 2) hX1, (by rw [show (putF F (k5 h m) (y5 T h m)) (k5 h m) = some (y5 T h m) from if_pos rfl]; rfl), rfl, es1, clock1, _, rfl, hM1, ZG hT hF hh hm⟩)
  try simp only [zq] at c86
  refine g [[3],[0,15,12,10,7,6,4,0],[3023],[7]] ?_;refine WQ.know 105 (nt (k - 1)) rfl (by show it ((k : Int) - 1) = it ((k - 1 : Nat) : Int); congr 1; omega) ?_;refine WQ.q rfl (Yd.qt (Yd.indexA UnF.h SzF.h rfl rfl (by omega) (by omega))) rfl (WQ.q rfl (Yd.qt (Yd.l1 rfl (Rd.own (k := 1) rfl (J5 h (i := k - 1) (by omega))))) rfl (g [[3]] ?_));refine WQ.know 110 (it f) rfl (congrArg it (hfv.2 c86)) (g [[3]] ?_);refine WQ.q rfl (Yd.qt (Yd.indexA UnF.h SzF.h rfl rfl (by omega) (by omega))) rfl (WQ.q rfl (Yd.qt (Yd.l1 rfl (Rd.own (k := 1) rfl (J5 h (i := k) (by omega))))) rfl (g [[1]] ?_));refine WQ.know 116 (it f) rfl (congrArg it (hfv.2 c86)) (g [[4]] ?_);refine WQ.q rfl (Yd.qt (Yd.quo rfl rfl (by omega) (by omega) (wr64 ⟨by omega, by omega⟩))) rfl (g [[1]] ?_);refine WL.know 103 (kv5 (k5 h m)) rfl (ZH hh hmn) (WL.know 121 (it (y5 T h m)) rfl (congrArg it hst.symm) ?_);refine WL.so (SO.putK (u := y5 T h m) (y := k5 h m) qO qM ZF UnF.h rfl rfl rfl (j := 2) rfl hM) rfl ?_;rintro _ _ _ ⟨rfl, es1, clock1, rfl, hM1⟩;refine g [[3],[0,7,6,0],[3005],[6]] ?_;refine WL.know 126 (kv5 (k5 h m)) rfl (ZH hh hmn) (WL.yd (Yd.lookK (y := k5 h m) qO qM ZF UnF.h ZvF.h (j := 2) rfl rfl rfl hM1) rfl (g [[4]] ?_));refine WP.ret1 rfl rfl rfl (RV.tmp rfl) (fun w1 hI => ⟨_, D, [(mb, .map es1 clock1)], rfl, DExt.refl _ _, kr (hI.drop 2) hX1, (by rw [show (putF F (k5 h m) (y5 T h m)) (k5 h m) = some (y5 T h m) from if_pos rfl]; rfl), rfl, es1, clock1, _, rfl, hM1, ZG hT hF hh hm⟩)
theorem zd3 (h : Hts) {i : Nat} (hi : i < 4) (n : Int) : splice (htC h) (0 + i * 1) [it n] = htC (updH h i n) := by
  rcases (show i = 0 ∨ i = 1 ∨ i = 2 ∨ i = 3 by omega) with rfl | rfl | rfl | rfl <;> simp [htC, updH, splice]
theorem zbu (h : Hts) (i : Nat) (n : Int) (hi : i < 4) (w : World) : z8 Tryz.prog 237 [htV h, nt i, it n] w (htV (updH h i n)) := by
  unfold z8;refine en Tryz.func237 rfl Tryz.ntmps237 zI (g [[1],[1,0,1,2]] ?_);refine WL.so (SO.box rfl rfl) rfl (zw fun b3 hb3 => ?_);refine WL.so (SO.alloc ZvF.h rfl) rfl (zw fun b6 hb6 => ?_);refine g [[3],[3,6,3,1,2]] ?_;refine WL.yd (Yd.indexA UnF.h SzF.h rfl rfl (by omega) (by omega)) rfl ?_;refine WL.so (SO.store 1 rfl SzF.h rfl rfl rfl rfl (by show 0 + i * 1 + 1 ≤ 4; omega) (za rfl)) rfl (zt (g [[3],[1,6,3]] ?_));rw [show splice (htC h) (0 + (i : Int).toNat * 1) [it n] = htC (updH h i n) from zd3 h hi n];refine g [[5]] ?_;refine WP.ret1 rfl rfl rfl (RV.cellN AgF.h SzF.h rfl (vs := [_, _, _, _]) rfl (RdN.own (k := 0) (n := 4) rfl rfl)) (fun w hI => ⟨rfl, hI.keep⟩)
theorem Yv (a b : Int) (w : World) : z8 Tryz.prog 354 [.agg #[], it a, it b] w (.bool true) := by
  unfold z8;refine en Tryz.func354 rfl Tryz.ntmps354 zI (g [[1],[1,0]] ?_);refine WL.so (SO.box rfl rfl) rfl (zw fun b3 hb3 => ?_);refine g [[4],[5,6]] ?_;refine WP.ret1 rfl rfl rfl (RV.tmp rfl) (fun w hI => ⟨rfl, hI.keep⟩)
theorem zai (l : Go.Ti.Look) (a b : Int) (ha : 0 ≤ a ∧ a ≤ 60) (hb : 0 ≤ b ∧ b ≤ 60) (w : World) : z8 Tryz.prog 355 [.agg #[it l.depth.lo, it l.depth.hi], it a, it b] w (.bool (fitB l a b)) := by
  unfold z8;refine en Tryz.func355 rfl Tryz.ntmps355 zI (g [[1],[1,0,1,2]] ?_);refine WL.so (SO.box rfl rfl) rfl (zw fun b3 hb3 => ?_);refine g [[4],[1,6,3,1,2]] ?_;refine WL.yd (Yd.fieldAddrZ (c := 1) (k := 0) Tryz.underlying366 rfl Tryz.sizeOf362 rfl rfl zk zk rfl rfl) rfl (g [[3]] ?_);refine WL.cl rfl (fun w hI => Yv a b _) (g [[1]] ?_);refine WL.part 12 rfl (fun g12 => ?_) (fun g12 => ?_)
  · try simp only [zq] at g12
    refine g [[3]] ?_;refine WL.ydg rfl (Yd.max2 rfl rfl) rfl (g [[6]] ?_);refine WL.sog rfl (SO.callP CaF.h rfl (fun w hI => w7 _ _ _ _)) rfl (zs (g [[5]] ?_));refine WP.ret1 rfl rfl rfl (RV.tmp rfl) (fun w hI => ⟨zb (by simp [fitB, inB]), hI.keep⟩)
  cases g12
end Go.Proofs.YtejgofaeafphjaaGreatDoor
namespace Go.Ti
abbrev Bs := List UInt8
def digB (c : UInt8) : Bool := decide (48 ≤ c.toNat ∧ c.toNat ≤ 57)
def valN (acc : Nat) (s : Bs) : Nat := s.foldl (fun a c => 10 * a + (c.toNat - 48)) acc
theorem jn (acc : Nat) (c : UInt8) (r : Bs) : valN acc (c :: r) = valN (10 * acc + (c.toNat - 48)) r := by simp only [valN, List.foldl_cons]
def numR (s : Bs) : Option Int := if (1 ≤ s.length ∧ s.length ≤ 6) ∧ ¬ (1 < s.length ∧ s.head? = some 48) ∧ s.all digB = true then some ((valN 0 s : Nat) : Int) else none
def numP (s : Bs) : Option Int := match Lib.atoiAll s with
  | .ok v => if 0 ≤ v ∧ s.length ≤ 6 ∧ Lib.itoa v = s then some v else none
  | _ => none
theorem Wc (a b : Bs) (acc : Nat) : valN acc (a ++ b) = valN (valN acc a) b := List.foldl_append
theorem vw {c : UInt8} : digB c = true ↔ 48 ≤ c.toNat ∧ c.toNat ≤ 57 := by simp [digB]
theorem j4 : ∀ (s : Bs) (acc k : Nat), s.all digB = true → acc < 10 ^ k → k + s.length ≤ 12 → Lib.parseUint10 acc s = .ok (valN acc s) ∧ valN acc s < 10 ^ (k + s.length)
  | [], acc, k, _, h, _ => ⟨rfl, h⟩
  | c :: s, acc, k, hd, h, hk => by
    simp only [List.all_cons, Bool.and_eq_true] at hd;have hc := vw.1 hd.1;have h1 : (10 : Nat) ^ k ≤ 10 ^ 12 := Nat.pow_le_pow_right (by omega) (by simp at hk; omega);have h2 : (10 : Nat) ^ 12 = 1000000000000 := by decide
    have h3 : 10 * acc + (c.toNat - 48) < 10 ^ (k + 1) := by rw [Nat.pow_succ]; omega
    have ih := j4 s (10 * acc + (c.toNat - 48)) (k + 1) hd.2 h3 (by simp at hk; omega);rw [Lib.parseUint10, if_pos hc, if_neg (by omega), if_neg (by omega), jn, show acc * 10 + (c.toNat - 48) = 10 * acc + (c.toNat - 48) by omega];exact ⟨ih.1, by rw [List.length_cons, show k + (s.length + 1) = k + 1 + s.length by omega]; exact ih.2⟩
theorem ZR {n : Nat} (h : n < 10) : (UInt8.ofNat (48 + n)).toNat = 48 + n := UInt8.toNat_ofNat_of_lt' (show 48 + n < 256 by omega)
theorem Yo (n : Nat) : (Lib.decDigits n).all digB = true ∧ valN 0 (Lib.decDigits n) = n ∧ Lib.decDigits n ≠ [] ∧ (10 ≤ n → (Lib.decDigits n).head? ≠ some 48) ∧ (n < 10 → (Lib.decDigits n).length = 1) ∧ (0 < n → (Lib.decDigits n).head? ≠ some 48) := by
  induction n using Nat.strongRecOn with
  | _ n ih =>
    by_cases h : n < 10
    · have e : Lib.decDigits n = [UInt8.ofNat (48 + n)] := by rw [Lib.decDigits, dif_pos h]
      have e2 := ZR h;rw [e];refine ⟨by rw [List.all_cons, digB, e2]; simp; omega, by show 10 * 0 + ((UInt8.ofNat (48 + n)).toNat - 48) = n; rw [e2]; omega, by simp, fun h2 => by omega, fun _ => rfl, fun h2 e3 => ?_⟩;simp only [List.head?_cons, Option.some.injEq] at e3;rw [e3] at e2;have : (48 : UInt8).toNat = 48 := rfl;omega
    · have e : Lib.decDigits n = Lib.decDigits (n / 10) ++ [UInt8.ofNat (48 + n % 10)] := by rw [Lib.decDigits, dif_neg h]
      obtain ⟨h1, h2, h3, h4, h5, h6⟩ := ih (n / 10) (by omega);have e2 := ZR (n := n % 10) (by omega)
      have hh : (Lib.decDigits n).head? = (Lib.decDigits (n / 10)).head? := by
        rw [e];cases hd : Lib.decDigits (n / 10) with
        | nil => exact absurd hd h3
        | cons x l => rfl
      refine ⟨by rw [e, List.all_append, h1, List.all_cons, digB, e2]; simp; omega, ?_, by rw [e]; simp, fun _ => by rw [hh]; exact h6 (by omega), fun h7 => absurd h7 h, fun _ => by rw [hh]; exact h6 (by omega)⟩;rw [e, Wc, h2]
      show 10 * (n / 10) + ((UInt8.ofNat (48 + n % 10)).toNat - 48) = n;rw [e2]; omega
theorem Qg : ∀ (s : Bs) (acc : Nat), 0 < acc → 0 < valN acc s
  | [], _, h => h
  | c :: s, acc, h => by rw [jn]; exact Qg s _ (by omega)
theorem Xf : ∀ (k : Nat) (s : Bs), s.length = k + 1 → s.all digB = true → (1 < s.length → s.head? ≠ some 48) → Lib.decDigits (valN 0 s) = s
  | 0, s, hl, hd, _ => by
    match s, hl with
    | [c], _ =>
      have hc := vw.1 (by simpa using hd : digB c = true);have e : valN 0 [c] = c.toNat - 48 := by show 10 * 0 + (c.toNat - 48) = _; omega
      rw [e, Lib.decDigits, dif_pos (by omega), show 48 + (c.toNat - 48) = c.toNat by omega];simp
  | k + 1, s, hl, hd, hz => by
    have hne : s ≠ [] := fun e => by rw [e] at hl; simp at hl
    obtain ⟨t, c, rfl⟩ : ∃ t c, s = t ++ [c] := ⟨s.dropLast, s.getLast hne, (List.dropLast_concat_getLast hne).symm⟩;have htl : t.length = k + 1 := by simpa using hl
    rw [List.all_append, Bool.and_eq_true] at hd;have hc := vw.1 (by simpa using hd.2 : digB c = true)
    have hhead : (t ++ [c]).head? = t.head? := by
      cases t with
      | nil => simp at htl
      | cons x t => rfl
    have hz' : t.head? ≠ some 48 := by rw [← hhead]; exact hz (by simp; omega)
    have ih := Xf k t htl hd.1 (fun _ => hz')
    have hp : 0 < valN 0 t := by
      cases t with
      | nil => simp at htl
      | cons x t =>
        simp only [List.all_cons, Bool.and_eq_true] at hd;have hx := vw.1 hd.1.1;rw [jn];refine Qg t _ ?_;rcases Nat.lt_or_ge 48 x.toNat with h1 | h1
        · omega
        · exfalso
          apply hz';have : x.toNat = (48 : UInt8).toNat := by have : (48 : UInt8).toNat = 48 := rfl; omega
          rw [UInt8.toNat_inj.1 this]; rfl
    have e : valN 0 (t ++ [c]) = 10 * valN 0 t + (c.toNat - 48) := by rw [Wc]; rfl
    rw [e, Lib.decDigits, dif_neg (by omega), show (10 * valN 0 t + (c.toNat - 48)) / 10 = valN 0 t by omega, ih, show 48 + (10 * valN 0 t + (c.toNat - 48)) % 10 = c.toNat by omega];simp
theorem ql (n : Nat) : Lib.itoa (n : Int) = Lib.decDigits n := by
  unfold Lib.itoa;rw [if_neg (by omega), Int.toNat_natCast]
theorem Qz {s : Bs} (h1 : 1 ≤ s.length) (h2 : s.length ≤ 6) (hd : s.all digB = true) : Lib.atoiAll s = .ok ((valN 0 s : Nat) : Int) := by
  have hp := j4 s 0 0 hd (by simp) (by omega)
  match s, h1 with
  | c :: r, _ =>
    have hc := vw.1 (by simp only [List.all_cons, Bool.and_eq_true] at hd; exact hd.1 : digB c = true)
    have hlt : valN 0 (c :: r) < 1000000 := by
      have h3 : (10 : Nat) ^ (0 + (c :: r).length) ≤ 10 ^ 6 := Nat.pow_le_pow_right (by omega) (by omega);have h4 : (10 : Nat) ^ 6 = 1000000 := by decide
      omega
    unfold Lib.atoiAll;simp only;rw [if_neg (by omega), Lib.parseMag, if_neg (by simp), hp.1];simp only;rw [if_neg (by omega), if_neg (by omega), if_neg (by omega)]
theorem XJ (s : Bs) : numP s = numR s := by
  by_cases h : (1 ≤ s.length ∧ s.length ≤ 6) ∧ ¬ (1 < s.length ∧ s.head? = some 48) ∧ s.all digB = true
  · have hb := Xf (s.length - 1) s (by omega) h.2.2 (fun h1 e => h.2.1 ⟨h1, e⟩);unfold numP numR;rw [if_pos h, Qz h.1.1 h.1.2 h.2.2];simp only;rw [if_pos ⟨by omega, h.1.2, by rw [ql, hb]⟩]
  · unfold numR;rw [if_neg h];unfold numP;split
    · rename_i v e
      rw [if_neg];rintro ⟨h0, hl, hi⟩;obtain ⟨n, rfl⟩ := Int.eq_ofNat_of_zero_le h0;rw [ql] at hi;have hd := Yo n;rw [hi] at hd;refine h ⟨⟨?_, hl⟩, fun h1 => ?_, hd.1⟩
      · have := List.length_pos_iff.2 hd.2.2.1; omega
      · rcases Nat.lt_or_ge n 10 with h2 | h2
        · have := hd.2.2.2.2.1 h2; omega
        · exact hd.2.2.2.1 h2 h1.2
    · rfl
theorem zaL {s : Bs} {v : Int} (h : numP s = some v) : 0 ≤ v ∧ v < 1000000 := by
  rw [XJ] at h;unfold numR at h;split at h
  · rename_i h1
    cases h
    have hp := (j4 s 0 0 h1.2.2 (by simp) (by omega)).2;have h3 : (10 : Nat) ^ (0 + s.length) ≤ 10 ^ 6 := Nat.pow_le_pow_right (by omega) (by omega);have h4 : (10 : Nat) ^ 6 = 1000000 := by decide
    omega
  · cases h
end Go.Ti
namespace Go.Ti
open Go.W
def minT (n : Int) : Bool := decide (0 ≤ n ∧ n ≤ 240)
def w6 (t : Tru) (i : Nat) (m : Int) : Bool := decide ((t i).1 ≤ m ∧ m ≤ (t i).2)
def nowI (t : Tru) (m : Int) : Nat → Int
  | 0 => -1
  | i + 1 => if w6 t i m = true ∧ (nowI t m i < 0 ∨ befT t i (nowI t m i).toNat = true) then (i : Int) else nowI t m i
def yr (T : Tks) (t : Tru) (hut m : Int) : Bool := (List.range T.l.length).any fun i => decide ((gt T.l i).hut = hut) && decide (0 ≤ m - (t i).2 ∧ m - (t i).2 ≤ 29)
def zi (T : Tks) (m : Int) : Int × Bool × Int := if tksE T (minT m) ≠ 0 then (0, false, tksE T (minT m)) else ((xN (fun i => (allT T).any fun t => decide (nowI t m T.l.length = (i : Int))) T.l.length : Int), (allT T).any (fun t => decide (nowI t m T.l.length < 0)), 0)
def zF (T : Tks) (hut m : Int) : Int × Int := if tksE T (hutT T hut && minT m) ≠ 0 then (0, tksE T (hutT T hut && minT m)) else (vI ((allT T).any fun t => !yr T t hut m) ((allT T).any fun t => yr T t hut m), 0)
structure Wick where
  huts : Int
  price : Int
  fine : Int
  wait : Int
  marks : List Mark
  sand : List Sp
deriving Inhabited
structure Day where
  tks : List Tick
  looks : List Look
  book : List Ent
deriving Inhabited
def day0 : Day := ⟨[], [], []⟩
def zE (w : Wick) (d : Day) : Tide := ⟨w.marks, w.sand, d.looks⟩
def tksW (w : Wick) (d : Day) : Tks := ⟨w.huts, d.tks⟩
def zD (w : Wick) (d : Day) : Till := ⟨tksW w d, w.price, w.fine, w.wait⟩
def zS (w : Wick) : Bool := yx (zD w day0) && zQ (zE w day0)
def repL (w : Bs) (l : List Int) : Bs := w ++ l.flatMap fun n => 32 :: Lib.itoa n
def zo : Bs := [116, 105, 99, 107, 101, 116]
def yk : Bs := [108, 111, 111, 107]
def yF : Bs := [116, 117, 114, 110]
def y3 : Bs := [119, 104, 111, 115, 101]
def yN : Bs := [102, 114, 101, 101]
def zz : Bs := [100, 101, 112, 116, 104]
def y9 : Bs := [102, 105, 114, 115, 116]
def yp : Bs := [98, 111, 111, 107]
def sumS : Bs := [115, 117, 109]
def payS : Bs := [112, 97, 121]
def xw : Bs := [102, 105, 110, 101]
def xE : Bs := [98, 97, 99, 107]
def uJ : Bs := [112, 97, 105, 100]
def vv (s : Bs) : Option Nat :=
  if s = zo then some 5 else if s = yk then some 4 else if s = yF then some 1 else if s = y3 then some 1 else if s = yN then some 2 else if s = zz then some 2 else
  if s = y9 then some 3 else if s = yp then some 0 else if s = sumS then some 0 else if s = payS then some 1 else if s = xw then some 1 else if s = xE then some 2 else none
def numsL : List Bs → Option (List Int)
  | [] => some []
  | s :: l => (numP s).bind fun v => (numsL l).map fun r => v :: r
abbrev Rep := Day × Bs × Int
def errD (d : Day) (e : Int) : Rep := (d, [], e)
def jy (w : Wick) (d : Day) (x : Tick) : Rep :=
  if 5 ≤ d.tks.length then errD d 9 else if tksB ⟨w.huts, d.tks ++ [x]⟩ = false then errD d 2 else ({ d with tks := d.tks ++ [x] }, repL zo [(d.tks.length : Int)], 0)
def jw (w : Wick) (d : Day) (x : Look) : Rep :=
  if 6 ≤ d.looks.length then errD d 9 else if zQ ⟨w.marks, w.sand, d.looks ++ [x]⟩ = false then errD d 2 else ({ d with looks := d.looks ++ [x] }, repL yk [(d.looks.length : Int)], 0)
def xX (d : Day) (x : Ent) : Rep :=
  if (d.tks.length : Int) ≤ x.ticket then errD d 2 else if zM d.book x.ticket x.kind = true then errD d 5 else ({ d with book := d.book ++ [x] }, repL uJ [(d.book.length : Int)], 0)
def askD (d : Day) (s : Bs) (r : List Int) (e : Int) : Rep := if e ≠ 0 then errD d e else (d, repL s r, 0)
def wS (b : Bool) : Int := if b then 1 else 0
def doD (w : Wick) (d : Day) (s : Bs) (l : List Int) : Rep :=
  if s = zo then jy w d ⟨⟨gt l 0, gt l 1⟩, gt l 2, ⟨gt l 3, gt l 4⟩⟩ else
  if s = yk then jw w d ⟨gt l 0, gt l 1, ⟨gt l 2, gt l 3⟩⟩ else
  if s = yF then askD d yF [(zu (tksW w d) (gt l 0)).1] (zu (tksW w d) (gt l 0)).2 else
  if s = y3 then askD d y3 [(zi (tksW w d) (gt l 0)).1, wS (zi (tksW w d) (gt l 0)).2.1] (zi (tksW w d) (gt l 0)).2.2 else
  if s = yN then askD d yN [(zF (tksW w d) (gt l 0) (gt l 1)).1] (zF (tksW w d) (gt l 0) (gt l 1)).2 else
  if s = zz then askD d zz [(zf (zE w d) (gt l 0) (gt l 1)).1.lo, (zf (zE w d) (gt l 0) (gt l 1)).1.hi] (zf (zE w d) (gt l 0) (gt l 1)).2 else
  if s = y9 then askD d y9 [(zv (zE w d) (gt l 0) (gt l 1) (gt l 2)).1] (zv (zE w d) (gt l 0) (gt l 1) (gt l 2)).2 else
  if s = yp then (if (zh (zD w d) d.book).2.2 = 4 then (d, yp, 0) else askD d yp [(zh (zD w d) d.book).1, (zh (zD w d) d.book).2.1] (zh (zD w d) d.book).2.2) else
  if s = sumS then askD d sumS [(yh (zD w d) d.book).1] (yh (zD w d) d.book).2 else
  if s = payS then xX d ⟨gt l 0, 1, w.price⟩ else
  if s = xw then xX d ⟨gt l 0, 2, w.fine⟩ else xX d ⟨gt l 0, 3, gt l 1⟩
def zC (w : Wick) (d : Day) (s : Bs) : Rep :=
  if 60 < s.length then errD d 3 else match vv ((Lib.split s [32]).headD []) with
  | none => errD d 8
  | some n => if (Lib.split s [32]).length ≠ n + 1 then errD d 8 else match numsL (Lib.split s [32]).tail with
    | none => errD d 8
    | some l => doD w d ((Lib.split s [32]).headD []) l
def y0 (w : Wick) : Day → List Bs → Day
  | d, [] => d
  | d, s :: l => y0 w (zC w d s).1 l
def yV (w : Wick) : Day → List Bs → List Bs × Nat
  | _, [] => ([], 0)
  | d, s :: l => ((zC w d s).2.1 :: (yV w (zC w d s).1 l).1, (if (zC w d s).2.2 ≠ 0 then 1 else 0) + (yV w (zC w d s).1 l).2)
def wg (w : Wick) (l : List Bs) : List Bs × Int × Int := if 60 < l.length then ([], 0, 3) else if zS w = false then ([], 0, 1) else ((yV w day0 l).1, ((yV w day0 l).2 : Int), 0)
def xJ : Bs → Bs → List Bs
  | acc, [] => [acc]
  | acc, d :: r => if d = 32 then acc :: xJ [] r else xJ (acc ++ [d]) r
theorem jS : ∀ (p acc q : Bs), (32 : UInt8) ∉ p → xJ acc (p ++ 32 :: q) = (acc ++ p) :: xJ [] q
  | [], acc, q, _ => by simp [xJ]
  | d :: p, acc, q, h => by
    rw [List.cons_append, xJ, if_neg (fun e => h (by simp [e])), jS p _ q (fun hm => h (by simp [hm]))];simp
theorem ZT : ∀ (p acc : Bs), (32 : UInt8) ∉ p → xJ acc p = [acc ++ p]
  | [], acc, _ => by simp [xJ]
  | d :: p, acc, h => by
    rw [xJ, if_neg (fun e => h (by simp [e])), ZT p _ (fun hm => h (by simp [hm]))];simp
theorem za9 : ∀ s : Bs, (32 : UInt8) ∈ s → ∃ p q, s = p ++ 32 :: q ∧ (32 : UInt8) ∉ p
  | [], h => by cases h
  | c :: s, h => by
    by_cases e : c = 32
    · exact ⟨[], s, by rw [e]; rfl, by simp⟩
    · have e' : ¬ 32 = c := fun x => e x.symm;obtain ⟨p, q, h1, h2⟩ := za9 s (by simpa [e'] using h);exact ⟨c :: p, q, by rw [h1]; rfl, by simp [h2, e']⟩
end Go.Ti
namespace Go.Ti
open Go.W
theorem J9 {c : UInt8} (r q : Bs) {p : Bs} (h : c ∉ p) : Lib.index (p ++ (c :: r ++ q)) (c :: r) = (p.length : Int) := by
  refine Lib.index_first (by simp) (by simp [Lib.occAt]) fun j hj => ?_;unfold Lib.occAt;rw [List.drop_append_of_le_length (by omega)];cases e : p.drop j with
  | nil => have := congrArg List.length e; simp at this; omega
  | cons d t =>
    have hd : d ∈ p := List.mem_of_mem_drop (by rw [e]; simp);have : (c == d) = false := by rw [beq_eq_false_iff_ne]; intro e'; exact h (e' ▸ hd)
    rw [List.cons_append, List.isPrefixOf_cons_cons, this, Bool.false_and]
theorem Ja {c : UInt8} (r : Bs) {s : Bs} (h : c ∉ s) : Lib.index s (c :: r) = -1 := by
  refine Lib.index_none fun j _ => ?_;unfold Lib.occAt;cases e : s.drop j with
  | nil => rfl
  | cons d t =>
    have hd : d ∈ s := List.mem_of_mem_drop (by rw [e]; simp);have : (c == d) = false := by rw [beq_eq_false_iff_ne]; intro e'; exact h (e' ▸ hd)
    rw [List.isPrefixOf_cons_cons, this, Bool.false_and]
theorem uN {p : Bs} (q : Bs) (h : (32 : UInt8) ∉ p) : Lib.split (p ++ 32 :: q) [32] = p :: Lib.split q [32] := by
  have hi : Lib.index (p ++ 32 :: q) [32] = (p.length : Int) := J9 [] q h;have hc := Lib.count_hit (s := p ++ 32 :: q) (sub := [32]) (by simp) hi
  have hd : (p ++ 32 :: q).drop (p.length + 1) = q := by
    rw [← List.drop_drop, List.drop_append_of_le_length (by omega), List.drop_of_length_le (l := p) (by omega)]; rfl
  unfold Lib.split;rw [hc, Nat.add_comm, Lib.splitK, if_neg (by rw [hi, beq_iff_eq]; omega), hi, Int.toNat_natCast];simp only [List.length_singleton, Nat.add_zero];rw [hd, List.take_append_of_le_length (by omega), List.take_of_length_le (by omega)]
theorem je {p : Bs} (h : (32 : UInt8) ∉ p) : Lib.split p [32] = [p] := by
  unfold Lib.split;rw [Lib.count_miss (Ja [] h)];rfl
theorem vY : ∀ (n : Nat) (s : Bs), s.length ≤ n → Lib.split s [32] = xJ [] s
  | n, s, hn => by
    by_cases h : (32 : UInt8) ∈ s
    · obtain ⟨p, q, rfl, hp⟩ := za9 s h;rw [uN q hp, jS p [] q hp, List.nil_append];cases n with
      | zero => simp at hn
      | succ n => rw [vY n q (by simp at hn; omega)]
    · rw [je h, ZT s [] h, List.nil_append]
theorem JP (s : Bs) : Lib.split s [32] ≠ [] := by
  by_cases h : (32 : UInt8) ∈ s
  · obtain ⟨p, q, rfl, hp⟩ := za9 s h;rw [uN q hp]; simp
  · rw [je h]; simp
structure zT (w : Wick) (d : Day) : Prop where
  tks : tksB (tksW w d) = true
  tide : zQ (zE w d) = true
  ent : ∀ i, i < d.book.length → (0 ≤ (gt d.book i).ticket ∧ (gt d.book i).ticket < (d.tks.length : Int)) ∧ (1 ≤ (gt d.book i).kind ∧ (gt d.book i).kind ≤ 3)
  once : ∀ i, i < d.book.length → zM (d.book.take i) (gt d.book i).ticket (gt d.book i).kind = false
  due : ∀ i, i < d.book.length → ((gt d.book i).kind = 1 → (gt d.book i).pence = w.price) ∧ ((gt d.book i).kind = 2 → (gt d.book i).pence = w.fine)
theorem vO {w : Wick} (h : zS w = true) : zT w day0 := by
  simp only [zS, yx, Bool.and_eq_true] at h;exact ⟨h.1.1.1.1, h.2, fun i hi => absurd hi (Nat.not_lt_zero _), fun i hi => absurd hi (Nat.not_lt_zero _), fun i hi => absurd hi (Nat.not_lt_zero _)⟩
theorem ya (d : Day) (s : Bs) (r : List Int) (e : Int) : (askD d s r e).1 = d := by unfold askD; split <;> rfl
theorem zbb {w : Wick} {d : Day} (h : zT w d) (x : Tick) : zT w (jy w d x).1 := by
  unfold jy;split
  · exact h
  · split
    · exact h
    · rename_i h1 h2
      refine ⟨by simpa [tksW] using h2, h.tide, fun i hi => ?_, h.once, h.due⟩;have := h.ent i hi;refine ⟨⟨this.1.1, ?_⟩, this.2⟩;have h3 : ((d.tks ++ [x]).length : Int) = d.tks.length + 1 := by simp
      show (gt d.book i).ticket < ((d.tks ++ [x]).length : Int);omega
theorem look_ok {w : Wick} {d : Day} (h : zT w d) (x : Look) : zT w (jw w d x).1 := by
  unfold jw;split
  · exact h
  · split
    · exact h
    · rename_i h1 h2
      exact ⟨h.tks, by simpa [zE] using h2, h.ent, h.once, h.due⟩
theorem za4 {w : Wick} {d : Day} (h : zT w d) (x : Ent) (h0 : 0 ≤ x.ticket) (hk : 1 ≤ x.kind ∧ x.kind ≤ 3) (hp : (x.kind = 1 → x.pence = w.price) ∧ (x.kind = 2 → x.pence = w.fine)) : zT w (xX d x).1 := by
  unfold xX;split
  · exact h
  · split
    · exact h
    · rename_i h1 h2
      have app : ∀ i, i < (d.book ++ [x]).length → (i < d.book.length ∧ gt (d.book ++ [x]) i = gt d.book i) ∨ (i = d.book.length ∧ gt (d.book ++ [x]) i = x) := fun i hi => by
        rcases Nat.lt_or_ge i d.book.length with h3 | h3
        · exact .inl ⟨h3, YA h3⟩
        · have h4 : i = d.book.length := by simp at hi; omega
          subst h4;exact .inr ⟨rfl, by simp [gt, List.getD]⟩
      refine ⟨h.tks, h.tide, fun i hi => ?_, fun i hi => ?_, fun i hi => ?_⟩
      · rcases app i hi with ⟨h3, e⟩ | ⟨_, e⟩ <;> simp only [e]
        · exact h.ent i h3
        · exact ⟨⟨h0, by omega⟩, hk⟩
      · rcases app i hi with ⟨h3, e⟩ | ⟨h3, e⟩ <;> simp only [e]
        · rw [List.take_append_of_le_length (by omega)]; exact h.once i h3
        · rw [h3, List.take_append_of_le_length (by omega), List.take_length]; simpa using h2
      · rcases app i hi with ⟨h3, e⟩ | ⟨_, e⟩ <;> simp only [e]
        · exact h.due i h3
        · exact hp
theorem XK : ∀ (l : List Bs) (ns : List Int), numsL l = some ns → ns.length = l.length ∧ ∀ n ∈ ns, 0 ≤ n ∧ n < 1000000
  | [], ns, h => by cases h; exact ⟨rfl, by simp⟩
  | s :: l, ns, h => by
    rw [numsL] at h;cases e : numP s with
    | none => rw [e] at h; cases h
    | some v =>
      cases e2 : numsL l with
      | none => rw [e, e2] at h; cases h
      | some r =>
        rw [e, e2] at h;simp only [Option.bind_some, Option.map_some, Option.some.injEq] at h;subst h;obtain ⟨h1, h2⟩ := XK l r e2;refine ⟨by simp [h1], fun n hn => ?_⟩;rcases List.mem_cons.1 hn with rfl | hn
        · exact zaL e
        · exact h2 n hn
theorem zei {ns : List Int} (h : ∀ n ∈ ns, 0 ≤ n ∧ n < 1000000) (i : Nat) : 0 ≤ gt ns i := by
  rcases Nat.lt_or_ge i ns.length with h1 | h1
  · exact (h _ (yE h1)).1
  · rw [zcr h1]; decide
theorem zee {w : Wick} {d : Day} (h : zT w d) (s : Bs) {l : List Int} (hl : ∀ n ∈ l, 0 ≤ n ∧ n < 1000000) : zT w (doD w d s l).1 := by
  have hb : ∀ (k p : Int), (1 ≤ k ∧ k ≤ 3) → (k = 1 → p = w.price) ∧ (k = 2 → p = w.fine) → zT w (xX d ⟨gt l 0, k, p⟩).1 := fun k p hk hp => za4 h _ (zei hl 0) hk hp;have ha : ∀ s r e, zT w (askD d s r e).1 := fun s r e => by rw [ya]; exact h
  by_cases h1 : s = zo
  · rw [doD, if_pos h1]; exact zbb h _
  rw [doD, if_neg h1];by_cases h2 : s = yk
  · rw [if_pos h2]; exact look_ok h _
  rw [if_neg h2];by_cases h3 : s = yF
  · rw [if_pos h3]; exact ha _ _ _
  rw [if_neg h3];by_cases h4 : s = y3
  · rw [if_pos h4]; exact ha _ _ _
  rw [if_neg h4];by_cases h5 : s = yN
  · rw [if_pos h5]; exact ha _ _ _
  rw [if_neg h5];by_cases h6 : s = zz
  · rw [if_pos h6]; exact ha _ _ _
  rw [if_neg h6];by_cases h7 : s = y9
  · rw [if_pos h7]; exact ha _ _ _
  rw [if_neg h7];by_cases h8 : s = yp
  · rw [if_pos h8];by_cases h9 : (zh (zD w d) d.book).2.2 = 4
    · rw [if_pos h9]; exact h
    · rw [if_neg h9]; exact ha _ _ _
  rw [if_neg h8];by_cases h9 : s = sumS
  · rw [if_pos h9]; exact ha _ _ _
  rw [if_neg h9];by_cases h10 : s = payS
  · rw [if_pos h10]; exact hb _ _ (by decide) ⟨fun _ => rfl, fun e => absurd e (by decide)⟩
  rw [if_neg h10];by_cases h11 : s = xw
  · rw [if_pos h11]; exact hb _ _ (by decide) ⟨fun e => absurd e (by decide), fun _ => rfl⟩
  rw [if_neg h11];exact hb _ _ (by decide) ⟨fun e => absurd e (by decide), fun e => absurd e (by decide)⟩
theorem kB {w : Wick} {d : Day} (h : zT w d) (s : Bs) : zT w (zC w d s).1 := by
  unfold zC;split
  · exact h
  · split
    · exact h
    · split
      · exact h
      · split
        · exact h
        · rename_i e
          exact zee h _ (XK _ _ e).2
theorem wc {w : Wick} : ∀ (l : List Bs) {d : Day}, zT w d → zT w (y0 w d l)
  | [], _, h => h
  | s :: l, _, h => wc l (kB h s)
end Go.Ti
