import Derived.Test.YtejgofaeafphjaaGreatDoorXG8
import Derived.Test.YtejgofaeafphjaaGreatDoorXG3
import Derived.Test.YtejgofaeafphjaaGreatDoorXG7
set_option linter.all false
set_option maxRecDepth 100000
set_option maxHeartbeats 4000000
attribute [local irreducible] Go.W.WL Go.W.WLF Go.W.WC Go.W.WCF Go.W.WP Go.W.WA Go.W.WQ Go.W.WH Go.W.WHo Go.W.WCn Go.W.Yd Go.W.Qt Go.W.SO Go.Code.wp Go.Code.wpIn
namespace Go.Proofs.YtejgofaeafphjaaGreatDoor
open Go.W Go.Ti
theorem ze1 : zj Tryz.prog 250 [.int .i64 0, .slice none 0 0, .slice none 0 0] [(0, 2), (2, 1)] := ⟨⟨_, Tryz.zeroValue250, rfl⟩, _, Tryz.underlying250, fun w => by simp [Tryz.sizeOf24, Tryz.sizeOf94]⟩
abbrev zbS := SaF.mk ze1
attribute [instance] zbS
theorem zak (l : List Nat) : l.flatMap natC = l.map nt := by
  induction l with
  | nil => rfl
  | cons x l ih => rw [List.flatMap_cons, ih]; rfl
theorem zbd (less : Nat → Nat → Bool) (l : List Nat) (o : Option Ow) (n0 : Nat) (D : Imm) (w w0 : World) (hok : InN n0 l) (hl : n0 < 20) (ho : owP w0 o n0 1) (fi : FuncId) (cp : List Value) (hfi : ∀ args w, (callFunc fi args).run Tryz.prog w = .ok (.enter fi args) w) (cr : Nat → Nat → Int) (hF : ∀ w', Holds D w' → ∀ i j, i < n0 → j < n0 → z8 Tryz.prog fi (nt i :: nt j :: cp) w' (it (cr i j))) (hcr : ∀ i j, i < n0 → j < n0 → decide (cr i j < 0) = less i j) (hI0 : Inv D (owH o 3 (l.map nt) []) (keys (owH o 3 (l.map nt) [])) w w) :
    wP Tryz.prog 175 [owV o n0, .func (.func fi) #[] cp.toArray] w D (keys (owH o 3 (l.map nt) [])) (fun v D' hpc' => v = .tuple #[] ∧ D = D' ∧ hpc' = owH o 3 ((insT less (n0 - 1) l).map nt) []) := by
  cases o with
  | none =>
    have h0 : n0 = 0 := ho;subst h0;have hl0 : l = [] := List.eq_nil_of_length_eq_zero hok.1;subst hl0;refine (zd0 none 0 _ w).mono ?_;rintro e w' ⟨rfl, hk⟩;exact ⟨_, D, [], rfl, DExt.refl _ _, hI0.call hk, fun _ h => h, rfl, rfl, rfl⟩
  | some u => exact zd1 less l u.rest u.b u.cap n0 D w hok hl fi cp hfi cr hF hcr hI0
theorem yC {T : Tks} {x : Tick} (h : vn T x = true) : hutT T x.hut = true ∧ vX x.bought = true ∧ vX x.door = true := by
  simpa only [vn, Bool.and_eq_true, and_assoc] using h
def boxT (T : Tks) (s1 : Value) : Obj := .cells (List.toArray [it T.huts, s1]) 24 (0, 0)
def offO (T : Tks) (s1 s3 : Value) : Obj := .cells (List.toArray [it T.huts, s1, s3]) 250 (0, 0)
def xM (D : Imm) (q : Nat) (T : Tks) (s1 : Value) : Prop := ∃ a3 c3, D q = some (offO T s1 (.slice a3 T.l.length c3)) ∧ SlL D 1 ((ordT T).map natC) a3 T.l.length ∧ T.l.length ≤ c3
theorem zaV {w0 : World} {o : Option Ow} {n m : Nat} (h : owP w0 o n m) : n ≤ owCp o n := by
  cases o with
  | none => exact Nat.le_of_eq h
  | some u => exact h.2.1
theorem xM.ext {w : World} {D D' : Imm} (hD : DExt w D D') {q : Nat} {T : Tks} {s1 : Value} (h : xM D q T s1) : xM D' q T s1 := by
  obtain ⟨a3, c3, h1, h2, h3⟩ := h;exact ⟨a3, c3, hD.old _ _ h1, h2.ext hD, h3⟩
def zdI (T : Tks) (s1 : Value) (is : Bool) (D : Imm) (w : World) (e : Ending) (w' : World) : Prop :=
  (tksB T = false → e = .panicked (jz 1) ∧ Keep [] w w') ∧ (tksB T = true → is = false → e = .panicked (jz 2) ∧ Keep [] w w') ∧
  (tksB T = true → is = true → ∃ q D', e = .returned (pt q) ∧ Keep [] w w' ∧ Holds D' w' ∧ DExt w D D' ∧ xM D' q T s1)
theorem Xv (s : Sp) (w : World) : z8 Tryz.prog 174 [.agg #[it s.lo, it s.hi]] w (.bool (vX s)) := by
  unfold z8;have hfit : True := trivial;refine en Tryz.func174 rfl Tryz.ntmps174 zI (g [[1],[1,0]] ?_);refine WL.so (SO.box rfl rfl) rfl (zw fun b1 hb1 => ?_);refine g [[4],[5,2,1]] ?_;refine WL.part 6 rfl (fun g6 => ?_) (fun g6 => ?_)
  · try simp only [zq] at g6
    refine g [[7]] ?_;refine WL.part 13 rfl (fun g13 => ?_) (fun g13 => ?_)
    · try simp only [zq] at g13
      refine g [[5]] ?_;refine WL.part 18 rfl (fun g18 => ?_) (fun g18 => ?_)
      · try simp only [zq] at g18
        refine g [[4]] ?_;refine WL.ydg rfl (Yd.sub rfl rfl (wr64 ⟨by first | omega | (simp_all; omega), by first | omega | (simp_all; omega)⟩)) rfl (g [[6]] ?_);refine WP.ret1 rfl rfl rfl (RV.tmp rfl) (fun w hI => ⟨zb (by rw [Bool.eq_iff_iff]; simp_all [vX]; try omega), hI.keep⟩)
      try simp only [zq] at g18
      refine g [[11]] ?_;refine WP.ret1 rfl rfl rfl (RV.tmp rfl) (fun w hI => ⟨zb (by rw [Bool.eq_iff_iff]; simp_all [vX]; try omega), hI.keep⟩)
    try simp only [zq] at g13
    refine g [[16]] ?_;refine WP.ret1 rfl rfl rfl (RV.tmp rfl) (fun w hI => ⟨zb (by rw [Bool.eq_iff_iff]; simp_all [vX]; try omega), hI.keep⟩)
  try simp only [zq] at g6
  refine g [[23]] ?_;refine WP.ret1 rfl rfl rfl (RV.tmp rfl) (fun w hI => ⟨zb (by rw [Bool.eq_iff_iff]; simp_all [vX]; try omega), hI.keep⟩)
theorem yS (T : Tks) (a1 : Option Addr) (n1 c1 : Nat) (n : Int) (w : World) (hn : n1 = T.l.length) (hl : n1 ≤ 1000) : z8 Tryz.prog 117 [.agg #[it T.huts, .slice a1 n1 c1], it n] w (.bool (isT T n)) := by
  unfold z8;refine en Tryz.func117 rfl Tryz.ntmps117 zI (g [[1],[1,0,1]] ?_);refine WL.so (SO.box rfl rfl) rfl (zw fun b2 hb2 => ?_);refine g [[4],[6,4,2,1]] ?_;refine WL.cl rfl (fun w hI => xB _ _ _ _) (g [[4]] ?_);refine WP.ret1 rfl rfl rfl (RV.tmp rfl) (fun w hI => ⟨zb (by subst hn; rfl), hI.keep⟩)
theorem zed (T : Tks) (a1 : Option Addr) (c1 : Nat) (D : Imm) (b2 : Nat) (hR : TksR D T a1 T.l.length) (h2 : D b2 = some (boxT T (.slice a1 T.l.length c1))) (hv : tksB T = true) (w : World) (hH : Holds D w) (i j : Nat) (hi : i < T.l.length) (hj : j < T.l.length) : z8 Tryz.prog 176 [nt i, nt j, pt b2] w (it ((gt T.l i).hut - (gt T.l j).hut)) := by
  unfold z8;obtain ⟨⟨hh1, hh2⟩, hn5, hnum⟩ := y8 hv;have hx1 := (hnum i hi).1;have hx2 := (hnum j hj).1;refine en Tryz.func176 rfl Tryz.ntmps176 (Inv.start hH) (g [[1],[5,0,1,2],[0,5,0,1,2],[3012],[3]] ?_);refine WQ.q rfl (Yd.qt (Yd.ix rfl rfl (hR.tick.addr i (by omega)))) rfl (g [[1]] ?_);refine WQ.q rfl (Yd.qt (Yd.l1 rfl ((hR.tick.at i (by omega)).rd 2 rfl))) rfl (g [[3]] ?_);refine WQ.q rfl (Yd.qt (Yd.ix rfl rfl (hR.tick.addr i (by omega)))) rfl (g [[1]] ?_);refine WQ.q rfl (Yd.qt (Yd.l1 rfl ((hR.tick.at j (by omega)).rd 2 rfl))) rfl (g [[6]] ?_);refine WP.ret1 rfl rfl rfl (RV.tmp rfl) (fun w hI => ⟨rfl, hI.keep⟩)
theorem Ut (T : Tks) (a1 : Option Addr) (n1 c1 : Nat) (D : Imm) (w : World) (hR : TksR D T a1 n1) (hH : Holds D w) (is : Bool) : Calls Tryz.prog 88 (List.toArray [.agg #[it T.huts, .slice a1 n1 c1], .bool is]) w fun e w' => zdI T (.slice a1 n1 c1) is D w e w' := by
  obtain rfl := hR.tick.len';have hl1 := hR.len;refine en Tryz.func88 rfl Tryz.ntmps88 (Inv.start hH) (g [[1],[1,0,1]] ?_);refine WL.so (SO.box rfl rfl) rfl (zw fun b2 hb2 => ?_);refine g [[4],[3,4,2,1]] ?_;refine WL.cl rfl (fun w hI => xB _ _ _ _) (g [[1]] ?_);refine WL.part 12 rfl (fun g12 => ?_) (fun g12 => ?_)
  · have hh12 : 1 ≤ T.huts ∧ T.huts ≤ 4 := of_decide_eq_true g12;refine g [[5]] ?_;refine WL.part 17 rfl (fun g17 => ?_) (fun g17 => ?_)
    · try simp only [zq] at g17
      refine WL.cl rfl (fun w hI => xp _ _) (g [[3],[5,4,2,1],[3,5,4,2,1]] ?_);refine WL.so (SO.box rfl rfl) rfl (zw fun b21 hb21 => ?_);refine g [[5],[8,6,5,4,2,1]] ?_;refine WC.loop (fun y : Nat × Option Ow => [(1, .bool is), (2, pt b2), (5, .func (.func 174) #[] #[]), (6, pt b21), (23, .slice a1 T.l.length c1), (24, nt T.l.length), (25, nt y.1)]) (fun y => ((b21, offO T (.slice a1 T.l.length c1) (owV y.2 y.1)) :: (b2, boxT T (.slice a1 T.l.length c1)) :: owH y.2 3 ((List.range y.1).map nt) [])) (fun _ => D) (fun y => y.1 ≤ T.l.length ∧ owP w y.2 y.1 1 ∧ ∀ i, i < y.1 → vn T (gt T.l i) = true) (fun y => T.l.length - y.1) (0, none) ⟨by omega, rfl, by intro i hi; omega⟩ (fun a w h => y4 h ⟨rfl, rfl, rfl, rfl, rfl, rfl, rfl, trivial⟩) ?_;rintro ⟨k, o⟩ ⟨hk, ho, hd⟩;dsimp only at hk ho hd;refine g [[1],[5,1,2,5,6,23,24,25]] ?_;refine WC.cond rfl (fun c26 => ?_) (fun c26 => ?_)
      · try simp only [zq] at c26
        refine g [[5],[2,1,2,5,6,23,24,25]] ?_;refine WL.yd (Yd.ix rfl rfl (hR.tick.addr k (by omega))) rfl (WL.yd (Yd.lV [_, _, _, _, _] rfl ((hR.tick.at k (by omega)).rdn 0 5 rfl)) rfl ?_);refine WL.so (SO.alloc ZvF.h rfl) rfl (zw fun b8 hb8 => ?_);refine g [[5],[6,7,8,1,2,5,6,23,24,25]] ?_;refine WL.cl rfl (fun w hI => xB _ _ _ _) (g [[1]] ?_);refine WL.part 36 rfl (fun g36 => ?_) (fun g36 => ?_)
        · refine g [[3]] ?_;refine WL.sog rfl (SO.call (Enters.val CaF.h rfl rfl) (fun w hI => Xv ⟨_, _⟩ _)) rfl (zs (g [[2]] ?_));refine WL.part 42 rfl (fun g42 => ?_) (fun g42 => ?_)
          · refine g [[3]] ?_;refine WL.sog rfl (SO.call (Enters.val CaF.h rfl rfl) (fun w hI => Xv ⟨_, _⟩ _)) rfl (zs (g [[1]] ?_));refine WL.part 47 rfl (fun g47 => ?_) (fun g47 => ?_)
            · refine WL.cl rfl (fun w hI => xp _ _) (g [[2],[7,7,1,2,5,6,23,24,25]] ?_);refine WL.so (SO.buildSlice UnF.h SzF.h ZvF.h rfl rfl rfl rfl (cs := [_]) rfl) rfl ?_;rintro _ _ _ ⟨b55, hb55, rfl, rfl, rfl⟩;refine WL.so (SO.appendOw (o := o) (len := k) (n := 1) (xs := ((List.range k).map nt)) (size := 1) [_] [_, _, _] [] rfl rfl Tryz.underlying94 Tryz.sizeOf3 Tryz.typeInfo3 Tryz.zeroValue3 rfl rfl rfl rfl ⟨rfl, .inr ⟨_, _, _, rfl, RdN.own (k := 0) (n := 1) rfl rfl⟩⟩ (za rfl) ho (by simp) (by omega) (by show (2 * (_ + _) + 1000) * 8 ≤ 2 ^ 48; omega) (by omega)) rfl ?_;rintro _ _ _ ⟨u1, hu1, rfl, rfl, rfl⟩;refine g [[6],[4,1,2,5,6,23,24,25]] ?_;refine WP.again (⟨k + 1, some u1⟩ : Nat × Option Ow) ⟨by simp only; omega, hu1, zZ hd (by simp_all [vn, hutT, inB])⟩ (by simp only; omega) (fun aa ww h => ?_);have hrs : (List.range (k + 1)).map nt = (List.range k).map nt ++ [nt k] := by rw [List.range_succ, List.map_append]; rfl
              show At _ [(1, .bool is), (2, pt b2), (5, .func (.func 174) #[] #[]), (6, pt b21), (23, .slice a1 T.l.length c1), (24, nt T.l.length), (25, nt (k + 1))] D ((b21, offO T (.slice a1 T.l.length c1) (owV (some u1) (k + 1))) :: (b2, boxT T (.slice a1 T.l.length c1)) :: owH (some u1) 3 ((List.range (k + 1)).map nt) []) aa ww;rw [hrs];exact yi h ⟨rfl, rfl, rfl, rfl, rfl, rfl, rfl, trivial⟩ (fun _ h => List.mem_cons_of_mem _ h) (fun h => (List.nodup_cons.1 h).2)
            refine WL.nf rfl (fun w hI => xo _ _) (g [[6]] ?_);refine WP.panicBody rfl (fun w hI => ?_)
            have hno : tksB T = false := by
              cases hdb : tksB T with
              | false => rfl
              | true =>
                exfalso
                obtain ⟨h1, h2, h3⟩ := (yv T).1 hdb
                first | (simp_all [inB]; done) | (simp_all [inB]; omega) | exact Bool.noConfusion ((yC (h3 k (by omega))).1.symm.trans g36 : true = false) | exact Bool.noConfusion ((yC (h3 k (by omega))).2.1.symm.trans g42 : true = false) | exact Bool.noConfusion ((yC (h3 k (by omega))).2.2.symm.trans g47 : true = false)
            exact ⟨fun _ => ⟨rfl, hI.keep⟩, fun h => absurd (hno.symm.trans h) (by decide), fun h => absurd (hno.symm.trans h) (by decide)⟩
          refine g [[5]] ?_;refine WL.nf rfl (fun w hI => xo _ _) (g [[6]] ?_);refine WP.panicBody rfl (fun w hI => ?_)
          have hno : tksB T = false := by
            cases hdb : tksB T with
            | false => rfl
            | true =>
              exfalso
              obtain ⟨h1, h2, h3⟩ := (yv T).1 hdb
              first | (simp_all [inB]; done) | (simp_all [inB]; omega) | exact Bool.noConfusion ((yC (h3 k (by omega))).1.symm.trans g36 : true = false) | exact Bool.noConfusion ((yC (h3 k (by omega))).2.1.symm.trans g42 : true = false) | exact Bool.noConfusion ((yC (h3 k (by omega))).2.2.symm.trans g47 : true = false)
          exact ⟨fun _ => ⟨rfl, hI.keep⟩, fun h => absurd (hno.symm.trans h) (by decide), fun h => absurd (hno.symm.trans h) (by decide)⟩
        refine g [[11]] ?_;refine WL.nf rfl (fun w hI => xo _ _) (g [[6]] ?_);refine WP.panicBody rfl (fun w hI => ?_)
        have hno : tksB T = false := by
          cases hdb : tksB T with
          | false => rfl
          | true =>
            exfalso
            obtain ⟨h1, h2, h3⟩ := (yv T).1 hdb
            first | (simp_all [inB]; done) | (simp_all [inB]; omega) | exact Bool.noConfusion ((yC (h3 k (by omega))).1.symm.trans g36 : true = false) | exact Bool.noConfusion ((yC (h3 k (by omega))).2.1.symm.trans g42 : true = false) | exact Bool.noConfusion ((yC (h3 k (by omega))).2.2.symm.trans g47 : true = false)
        exact ⟨fun _ => ⟨rfl, hI.keep⟩, fun h => absurd (hno.symm.trans h) (by decide), fun h => absurd (hno.symm.trans h) (by decide)⟩
      try simp only [zq] at c26
      refine g [[6]] ?_;obtain rfl : k = T.l.length := by omega
      have hok : tksB T = true := (yv T).2 ⟨by simp_all [inB], by omega, hd⟩;refine g [[2,1,2,6]] ?_;refine WL.part 60 rfl (fun g60 => ?_) (fun g60 => ?_)
      · refine WL.cl rfl (fun w hI => xp _ _) (g [[3],[6,2,6]] ?_);refine WL.freezeK 1 rfl (fun hn2 => ?_);have hF2 := fun o => (DExt.refl w D).add (o := o) hn2 hb2;refine WL.so (SO.alters (own := [_]) (hpc := owH o 3 ((List.range T.l.length).map nt) []) (S1 := keys (owH o 3 ((List.range T.l.length).map nt) [])) (fun _ h => h) (fun h => h) (fun _ h => h) (fun _ h => h) (Enters.func CaF.h rfl) (fun w1 hI => zbd (yR (ZB T)) (List.range T.l.length) o T.l.length _ w1 w ⟨by simp, fun i hi => by rw [qk hi]; exact hi⟩ (by omega) ho 176 [pt b2] CaF.h (fun i j => (gt T.l i).hut - (gt T.l j).hut) (fun w' hH' i j hi hj => zed T a1 c1 _ b2 (hR.ext (hF2 _)) (Imm.add_self _ _ _) hok w' hH' i j hi hj) (fun i j _ _ => by unfold yR ZB; congr 1; apply propext; omega) hI)) rfl ?_;rintro _ _ _ ⟨_, _, ⟨rfl, rfl, rfl⟩, rfl⟩;refine g [[3],[1,6]] ?_;have hso : (wO (ZB T) T.l.length).length = T.l.length := xy _ _;refine WL.freezeOw (f := natC) (m := 1) Jq [_] [] o 3 (ordT T) rfl (by show owP w o (wO (ZB T) T.l.length).length 1; rw [hso]; exact ho) (by rw [zak]; rfl) (fun D2 hX2 hS2 => ?_);refine g [[5]] ?_
        refine WP.ret1 rfl rfl rfl (RV.tmp rfl) (fun w1 hI => ⟨fun h => absurd (hok.symm.trans h) (by decide), fun _ h => (by rw [g60] at h; cases h), fun _ _ => ⟨_, _, rfl, hI.keep, hI.freeze.imm, (((hF2 _).trans hX2 (Nat.le_refl _)).add (hI.apart _ _ (List.mem_of_getElem? (i := 0) rfl)) hb21), _, _, by rw [xg (wt ho)]; exact Imm.add_self _ _ _, by
          have h9 := hS2.ext ((DExt.refl w D2).add (o := offO T (.slice a1 T.l.length c1) (owV o T.l.length)) (hI.apart _ _ (List.mem_of_getElem? (i := 0) rfl)) hb21);rw [show (ordT T).length = T.l.length from hso] at h9;exact ⟨h9, zaV ho⟩⟩⟩)
      refine WL.nf rfl (fun w hI => xo _ _) (g [[1]] ?_);exact WP.panicBody rfl (fun w hI => ⟨fun h => absurd (hok.symm.trans h) (by decide), fun _ _ => ⟨rfl, hI.keep⟩, fun _ h => by rw [g60] at h; cases h⟩)
    try simp only [zq] at g17
    refine WL.nf rfl (fun w hI => xo _ _) (g [[1]] ?_);refine WP.panicBody rfl (fun w hI => ?_)
    have hno : tksB T = false := by
      cases hdb : tksB T with
      | false => rfl
      | true =>
        exfalso
        obtain ⟨h1, h2, h3⟩ := (yv T).1 hdb
        first | (simp_all [inB]; done) | (simp_all [inB]; omega) | exact Bool.noConfusion ((yC (h3 k (by omega))).1.symm.trans g36 : true = false) | exact Bool.noConfusion ((yC (h3 k (by omega))).2.1.symm.trans g42 : true = false) | exact Bool.noConfusion ((yC (h3 k (by omega))).2.2.symm.trans g47 : true = false)
    exact ⟨fun _ => ⟨rfl, hI.keep⟩, fun h => absurd (hno.symm.trans h) (by decide), fun h => absurd (hno.symm.trans h) (by decide)⟩
  refine g [[5]] ?_;refine WL.nf rfl (fun w hI => xo _ _) (g [[1]] ?_);refine WP.panicBody rfl (fun w hI => ?_)
  have hno : tksB T = false := by
    cases hdb : tksB T with
    | false => rfl
    | true =>
      exfalso
      obtain ⟨h1, h2, h3⟩ := (yv T).1 hdb
      first | (simp_all [inB]; done) | (simp_all [inB]; omega) | exact Bool.noConfusion ((yC (h3 k (by omega))).1.symm.trans g36 : true = false) | exact Bool.noConfusion ((yC (h3 k (by omega))).2.1.symm.trans g42 : true = false) | exact Bool.noConfusion ((yC (h3 k (by omega))).2.2.symm.trans g47 : true = false)
  exact ⟨fun _ => ⟨rfl, hI.keep⟩, fun h => absurd (hno.symm.trans h) (by decide), fun h => absurd (hno.symm.trans h) (by decide)⟩
theorem zdN : zj Tryz.prog 148 [.int .i64 0, .int .i64 0] [(0, 1), (1, 1)] := ⟨⟨_, Tryz.zeroValue148, rfl⟩, _, Tryz.underlying148, fun w => by simp [Tryz.sizeOf3]⟩
abbrev zbE := SaF.mk zdN
attribute [instance] zbE
theorem x4 (T : Tks) (a1 : Option Addr) (n1 c1 : Nat) (D : Imm) (w : World) (hR : TksR D T a1 n1) (hH : Holds D w) (hv : tksB T = true) : y6 Tryz.prog 88 [.agg #[it T.huts, .slice a1 n1 c1], .bool true] w D (fun v D' => ∃ q, v = pt q ∧ xM D' q T (.slice a1 n1 c1)) :=
  (Ut T a1 n1 c1 D w hR hH true).mono fun e w' h => by
    obtain ⟨q, D', h1, h2, h3, h4, h5⟩ := h.2.2 hv rfl;exact ⟨_, D', h1, h2, h3, h4, q, rfl, h5⟩
theorem ZS (T : Tks) (a1 : Option Addr) (n1 c1 : Nat) (D : Imm) (w : World) (hR : TksR D T a1 n1) (hH : Holds D w) (is : Bool) (hv : tksB T = false) : xC Tryz.prog 88 [.agg #[it T.huts, .slice a1 n1 c1], .bool is] w (jz 1) := (Ut T a1 n1 c1 D w hR hH is).mono fun e w' h => h.1 hv
theorem j2 (T : Tks) (a1 : Option Addr) (n1 c1 : Nat) (D : Imm) (w : World) (hR : TksR D T a1 n1) (hH : Holds D w) (hv : tksB T = true) : xC Tryz.prog 88 [.agg #[it T.huts, .slice a1 n1 c1], .bool false] w (jz 2) := (Ut T a1 n1 c1 D w hR hH false).mono fun e w' h => h.2.1 hv rfl
def prV (p : Pr) : Value := .agg #[it p.1, it p.2]
theorem zaj {α β : Type} [Inhabited α] [Inhabited β] (l : List α) (f : α → List β) {i j : Nat} (hi : i < l.length) (hj : j < (f (gt l i)).length) : ((l.take i).flatMap f).length + j < (l.flatMap f).length ∧ gt (l.flatMap f) (((l.take i).flatMap f).length + j) = gt (f (gt l i)) j := by
  have hg : gt l i = l[i] := by simp [gt, List.getD, hi]
  have hsp : l = l.take i ++ l[i] :: l.drop (i + 1) := by rw [List.getElem_cons_drop]; exact (List.take_append_drop i l).symm
  have hfl : l.flatMap f = (l.take i).flatMap f ++ (f l[i] ++ (l.drop (i + 1)).flatMap f) := by
    conv => lhs; rw [hsp]
    rw [List.flatMap_append, List.flatMap_cons]
  rw [hg] at hj ⊢;rw [hfl];refine ⟨by simp only [List.length_append]; omega, ?_⟩;simp only [gt, List.getD];rw [List.getElem?_append_right (by omega), List.getElem?_append_left (by omega)];congr 2; omega
theorem Xo {lo hi : Int} {i : Nat} (h : i < (hi - lo + 1).toNat) : gt (rng lo hi) i = lo + (i : Int) := by
  simp [gt, rng, List.getD, h]
theorem wH (lo hi : Int) : (rng lo hi).length = (hi - lo + 1).toNat := by simp [rng]
def numP (x : Tick) : Nat := (x.bought.hi - x.bought.lo + 1).toNat
def mP (x : Tick) (i : Nat) : Nat := (x.door.hi - max (x.bought.lo + (i : Int)) x.door.lo + 1).toNat
def cntP (x : Tick) (i : Nat) : Nat := (((rng x.bought.lo x.bought.hi).take i).flatMap (xu x)).length
theorem Zr (x : Tick) (a : Int) : (xu x a).length = (x.door.hi - max a x.door.lo + 1).toNat := by simp [xu, wH]
theorem QW (x : Tick) (a : Int) {j : Nat} (h : j < (x.door.hi - max a x.door.lo + 1).toNat) : gt (xu x a) j = (a, max a x.door.lo + (j : Int)) := by
  simp [gt, xu, rng, List.getD, h]
theorem XO {x : Tick} {i j : Nat} (hi : i < numP x) (hj : j < mP x i) : cntP x i + j < (yb x).length ∧ gt (yb x) (cntP x i + j) = (x.bought.lo + (i : Int), max (x.bought.lo + (i : Int)) x.door.lo + (j : Int)) := by
  have hr := Xo (lo := x.bought.lo) (hi := x.bought.hi) hi;obtain ⟨h1, h2⟩ := zaj (rng x.bought.lo x.bought.hi) (xu x) (i := i) (j := j) (by rw [wH]; exact hi) (by rw [hr, Zr]; exact hj);refine ⟨h1, h2.trans ?_⟩;rw [hr, QW _ _ hj]
theorem QM {x : Tick} {i : Nat} (hi : i < numP x) : cntP x (i + 1) = cntP x i + mP x i := by
  have hl : i < (rng x.bought.lo x.bought.hi).length := by rw [wH]; exact hi
  have hr := Xo (lo := x.bought.lo) (hi := x.bought.hi) hi;have hg : gt (rng x.bought.lo x.bought.hi) i = (rng x.bought.lo x.bought.hi)[i] := by simp [gt, List.getD, hl]
  unfold cntP;rw [List.take_succ_eq_append_getElem hl, List.flatMap_append, List.length_append, ← hg, hr];simp only [List.flatMap_cons, List.flatMap_nil, List.append_nil, Zr];rfl
theorem za7 (x : Tick) : cntP x (numP x) = (yb x).length := by
  unfold cntP yb;rw [List.take_of_length_le (by rw [wH]; exact Nat.le_refl _)]
theorem YO (x : Tick) (b5 : Nat) (D : Imm) (w : World) (hx : 0 ≤ x.bought.lo ∧ x.bought.lo ≤ x.bought.hi ∧ x.bought.hi ≤ 240 ∧ 0 ≤ x.door.lo ∧ x.door.lo ≤ x.door.hi ∧ x.door.hi ≤ 240) (h5 : D b5 = some (.cells (List.toArray (yc x)) 41 (0, 0))) : V9 Tryz.prog 240 [pt b5] (yb x).length (fun k => prV (gt (yb x) k)) D w := by
  unfold V9;intro l St Sp hSm hround h0 hS0 hI0;unfold zp;obtain ⟨hx1, hx2, hx3, hx4, hx5, hx6⟩ := hx;refine en Tryz.func240 rfl Tryz.ntmps240 hI0 (g [[1],[8,0,1]] ?_);refine WC.loop (fun y : Nat × Imm × Hp => [(0, .func (.yield l) #[] #[]), (1, pt b5), (3, it (x.bought.lo + ((y.1 : Nat) : Int)))]) (fun y => y.2.2) (fun y => y.2.1) (fun y => y.1 ≤ numP x ∧ DExt w D y.2.1 ∧ St (cntP x y.1) y.2.1 y.2.2) (fun y => numP x - y.1) ⟨0, D, h0⟩ ⟨by omega, DExt.refl _ _, hS0⟩ (fun a w h => y4 h ⟨rfl, rfl, by show some (it _) = some (it _); congr 2; push_cast; omega, trivial⟩) ?_;rintro ⟨i, D1, h1⟩ ⟨hi, hX1, hS1⟩;dsimp only at hi hX1 hS1;refine g [[2],[4,0,1,3]] ?_;refine WL.yd (Yd.l1 rfl (Rd.imm (hX1.old _ _ h5) rfl)) rfl (g [[3]] ?_);refine WC.cond rfl (fun c12 => ?_) (fun c12 => ?_)
  · try simp only [zq] at c12
    have hiN : i < numP x := by unfold numP; omega
    refine g [[5],[4,0,1,3]] ?_;refine WL.yd (Yd.l1 rfl (Rd.imm (hX1.old _ _ h5) rfl)) rfl (WL.yd (Yd.max2 rfl rfl) rfl (g [[4]] ?_));refine WC.loop (fun y : Nat × Imm × Hp => [(0, .func (.yield l) #[] #[]), (1, pt b5), (3, it (x.bought.lo + (i : Int))), (4, it (max (x.bought.lo + (i : Int)) x.door.lo + ((y.1 : Nat) : Int)))]) (fun y => y.2.2) (fun y => y.2.1) (fun y => y.1 ≤ mP x i ∧ DExt w D y.2.1 ∧ St (cntP x i + y.1) y.2.1 y.2.2) (fun y => mP x i - y.1) ⟨0, D1, h1⟩ ⟨by omega, hX1, hS1⟩ (fun a w h => y4 h ⟨rfl, rfl, rfl, by show some (it _) = some (it _); congr 2; push_cast; omega, trivial⟩) ?_;rintro ⟨j, D2, h2⟩ ⟨hj, hX2, hS2⟩;dsimp only at hj hX2 hS2;refine g [[2],[4,0,1,3,4]] ?_;refine WL.yd (Yd.l1 rfl (Rd.imm (hX2.old _ _ h5) rfl)) rfl (g [[3]] ?_);refine WC.cond rfl (fun c24 => ?_) (fun c24 => ?_)
    · try simp only [zq] at c24
      have hjM : j < mP x i := by unfold mP; omega
      refine g [[5],[0,0,1,3,4]] ?_;refine WC.ofF (g [[5]] ?_);refine WLF.yieldN (l := l) (vals := [prV (x.bought.lo + (i : Int), max (x.bought.lo + (i : Int)) x.door.lo + (j : Int))]) [] h2 (fun _ h => h) (fun h => h) rfl rfl rfl (fun w' hsz hI => by rw [← (XO hiN hjM).2]; exact hround (cntP x i + j) D2 h2 w' (XO hiN hjM).1 hsz hX2 hS2 hI) ?_;rintro b31 D5 hp5 hK5 hX5;refine g [[3]] ?_;refine WC.cond rfl (fun c32 => ?_) (fun c32 => ?_)
      · try simp only [zq] at c32
        refine g [[9]] ?_
        refine WP.ret0 rfl rfl rfl  (fun w1 hI => by
          obtain ⟨htt, _⟩ | ⟨_, hK5⟩ := hK5
          · simp_all
          exact ⟨_, D5, hp5, rfl, hX2.trans hX5 (Nat.le_refl _), hI, .inr hK5⟩)
      try simp only [zq] at c32
      refine g [[3],[5,0,1,3,4]] ?_;obtain ⟨_, hK5⟩ | ⟨hff, _⟩ := hK5
      · refine WP.again (⟨j + 1, D5, hp5⟩ : Nat × Imm × Hp) ⟨by simp only; omega, hX2.trans hX5 (Nat.le_refl _), hK5⟩ (by simp only; omega) (fun a w h => y4 h ⟨rfl, rfl, rfl, by show some (it _) = some (it _); congr 2; push_cast; omega, trivial⟩)
      simp_all
    try simp only [zq] at c24
    obtain rfl : j = mP x i := by unfold mP at hj ⊢; omega
    refine g [[6],[5,0,1,3]] ?_;exact WP.again (⟨i + 1, D2, h2⟩ : Nat × Imm × Hp) ⟨by simp only; omega, hX2, by simp only; rw [QM hiN]; exact hS2⟩ (by simp only; omega) (fun a w h => y4 h ⟨rfl, rfl, by show some (it _) = some (it _); congr 2; push_cast; omega, trivial⟩)
  try simp only [zq] at c12
  obtain rfl : i = numP x := by unfold numP at hi ⊢; omega
  refine g [[4]] ?_;refine WP.ret0 rfl rfl rfl  (fun w1 hI => ⟨_, D1, h1, rfl, hX1, hI, .inl (by rw [← za7]; exact hS1)⟩)
def truC (t : Tru) : List Value := [it (t 0).1, it (t 0).2, it (t 1).1, it (t 1).2, it (t 2).1, it (t 2).2, it (t 3).1, it (t 3).2, it (t 4).1, it (t 4).2]
def truV (t : Tru) : Value := .agg (truC t).toArray
theorem YX (t : Tru) {i : Nat} (hi : i < 5) (p : Pr) : splice (truC t) (0 + i * 2) [it p.1, it p.2] = truC (upd t i p) := by
  rcases (show i = 0 ∨ i = 1 ∨ i = 2 ∨ i = 3 ∨ i = 4 by omega) with rfl | rfl | rfl | rfl | rfl <;> rfl
theorem uq (t : Tru) {i : Nat} (hi : i < 5) : (truC t)[0 + i * 2]? = some (it (t i).1) ∧ (truC t)[0 + i * 2 + 1]? = some (it (t i).2) := by
  rcases (show i = 0 ∨ i = 1 ∨ i = 2 ∨ i = 3 ∨ i = 4 by omega) with rfl | rfl | rfl | rfl | rfl <;> exact ⟨rfl, rfl⟩
theorem zdm (t : Tru) (i : Nat) (p : Pr) (hi : i < 5) (w : World) : z8 Tryz.prog 179 [truV t, nt i, prV p] w (truV (upd t i p)) := by
  unfold z8;refine en Tryz.func179 rfl Tryz.ntmps179 zI (g [[1],[1,0,1,2]] ?_);refine WL.so (SO.box rfl rfl) rfl (zw fun b3 hb3 => ?_);refine WL.so (SO.box rfl rfl) rfl (zw fun b5 hb5 => ?_);refine WL.so (SO.alloc ZvF.h rfl) rfl (zw fun b6 hb6 => ?_);refine g [[3],[3,6,5,3,1]] ?_;refine WL.yd (Yd.indexA UnF.h SzF.h rfl rfl (by omega) (by omega)) rfl ?_;refine WL.so (SO.store 2 rfl SzF.h rfl rfl rfl rfl (by show 0 + i * 2 + 2 ≤ 10; omega) (za rfl)) rfl (zt (g [[3],[1,6,3]] ?_));rw [show splice (truC t) (0 + (i : Int).toNat * 2) [it p.1, it p.2] = truC (upd t i p) from YX t hi p];refine g [[5]] ?_;refine WP.ret1 rfl rfl rfl (RV.cellN AgF.h SzF.h rfl (vs := [_, _, _, _, _, _, _, _, _, _]) rfl (RdN.own (k := 0) (n := 10) rfl rfl)) (fun w hI => ⟨rfl, hI.keep⟩)
theorem zaX (T : Tks) (a1 : Option Addr) (n1 c1 : Nat) (q : Nat) (D : Imm) (w : World) (hO : xM D q T (.slice a1 n1 c1)) (hR : TksR D T a1 n1) (hH : Holds D w) (i : Nat) (hi : i < T.l.length) : y6 Tryz.prog 180 [pt q, nt i] w D (fun v D' => ∃ b, v = .func (.func 240) #[] #[pt b] ∧ D' b = some (.cells (List.toArray (yc (gt T.l i))) 41 (0, 0))) := by
  unfold y6;obtain rfl := hR.tick.len';have hl1 := hR.len;obtain ⟨a3, c3, hq, hS3, hc3⟩ := hO;refine en Tryz.func180 rfl Tryz.ntmps180 (Inv.start hH) (g [[1],[5,0,1],[7,4,0,1]] ?_);refine WL.yd (Yd.ix rfl rfl (hR.tick.addr i (by omega))) rfl (WL.yd (Yd.lV [_, _, _, _, _] rfl ((hR.tick.at i (by omega)).rdn 0 5 rfl)) rfl ?_);refine WL.so (SO.alloc ZvF.h rfl) rfl (zw fun b5 hb5 => ?_);refine g [[4],[6,5,4]] ?_;refine WP.ret1 rfl rfl rfl (RV.tmp rfl) (fun w1 hI => ⟨_, _, rfl, hI.keep, hI.freeze.imm, (DExt.refl w D).add (hI.apart _ _ (List.mem_of_getElem? (i := 0) rfl)) hb5, b5, rfl, Imm.add_self _ _ _⟩)
theorem we (q : Nat) (D : Imm) (w : World) (hH : Holds D w) : y6 Tryz.prog 90 [pt q] w D (fun v D' => ∃ b, v = .func (.func 177) #[] #[pt b] ∧ D' b = some (.cells (List.toArray [pt q]) 141 (0, 0))) := by
  unfold y6;refine en Tryz.func90 rfl Tryz.ntmps90 (Inv.start hH) (g [[1],[1,0]] ?_);refine WL.so (SO.box rfl rfl) rfl (zw fun b1 hb1 => ?_);refine g [[4],[6,2,1]] ?_;refine WP.ret1 rfl rfl rfl (RV.tmp rfl) (fun w1 hI => ⟨_, _, rfl, hI.keep, hI.freeze.imm, (DExt.refl w D).add (hI.apart _ _ (List.mem_of_getElem? (i := 0) rfl)) hb1, b1, rfl, Imm.add_self _ _ _⟩)
def PartOf {α : Type} (A L : List α) (k : Nat) : Prop := ∃ pre post, A = pre ++ (L ++ post) ∧ pre.length = k
theorem PartOf.at {α : Type} [Inhabited α] {A L : List α} {k : Nat} (h : PartOf A L k) (j : Nat) (hj : j < L.length) : gt A (k + j) = gt L j ∧ k + j < A.length := by
  obtain ⟨pre, post, rfl, rfl⟩ := h;refine ⟨?_, by simp only [List.length_append]; omega⟩;simp only [gt, List.getD];rw [List.getElem?_append_right (by omega), List.getElem?_append_left (by omega)];congr 2; omega
theorem PartOf.step {α β : Type} [Inhabited α] {A : List β} {l : List α} {f : α → List β} {k i : Nat} (h : PartOf A (l.flatMap f) k) (hi : i < l.length) : PartOf A (f (gt l i)) (k + ((l.take i).flatMap f).length) := by
  obtain ⟨pre, post, rfl, rfl⟩ := h;have hg : gt l i = l[i] := by simp [gt, List.getD, hi]
  have hsp : l = l.take i ++ l[i] :: l.drop (i + 1) := by rw [List.getElem_cons_drop]; exact (List.take_append_drop i l).symm
  have hfl : l.flatMap f = (l.take i).flatMap f ++ (f l[i] ++ (l.drop (i + 1)).flatMap f) := by
    conv => lhs; rw [hsp]
    rw [List.flatMap_append, List.flatMap_cons]
  refine ⟨pre ++ (l.take i).flatMap f, (l.drop (i + 1)).flatMap f ++ post, ?_, by simp⟩;rw [hfl, hg]; simp [List.append_assoc]
theorem jh {α β : Type} [Inhabited α] {l : List α} (f : α → List β) {i : Nat} (hi : i < l.length) : ((l.take (i + 1)).flatMap f).length = ((l.take i).flatMap f).length + (f (gt l i)).length := by
  have hg : gt l i = l[i] := by simp [gt, List.getD, hi]
  rw [List.take_succ_eq_append_getElem hi, List.flatMap_append, List.length_append, hg];simp
def onP (T : Tks) (ord : List Nat) (rem : Nat) (t : Tru) (at_ : Nat) (p : Pr) : List Tru := if u5 T ord t at_ (gt ord at_) p then truL T ord rem (upd t (gt ord at_) p) (at_ + 1) else []
theorem Y6 (T : Tks) (ord : List Nat) (rem : Nat) (t : Tru) (at_ : Nat) : truL T ord (rem + 1) t at_ = (yb (gt T.l (gt ord at_))).flatMap (onP T ord rem t at_) := rfl
def okTr (t : Tru) : Prop := ∀ i, (0 ≤ (t i).1 ∧ (t i).1 ≤ 240) ∧ 0 ≤ (t i).2 ∧ (t i).2 ≤ 240
theorem Uo : okTr V3 := fun i => by simp [V3]
theorem Jt {t : Tru} (h : okTr t) (i : Nat) {p : Pr} (hp : (0 ≤ p.1 ∧ p.1 ≤ 240) ∧ 0 ≤ p.2 ∧ p.2 ≤ 240) : okTr (upd t i p) := fun j => by
  unfold upd; split
  · exact hp
  exact h j
def onN (T : Tks) (ord : List Nat) (rem : Nat) (t : Tru) (at_ k : Nat) : Nat := (((yb (gt T.l (gt ord at_))).take k).flatMap (onP T ord rem t at_)).length
theorem Yx {T : Tks} {ord : List Nat} {t : Tru} {at_ i : Nat} {p : Pr} {j : Nat} (hj : j < at_) (h : qD T t (gt ord j) i p = true) : u5 T ord t at_ i p = false := by
  cases hf : u5 T ord t at_ i p with
  | false => rfl
  | true =>
    have := List.all_eq_true.1 hf j (List.mem_range.2 hj);rw [h] at this; cases this
theorem VP {T : Tks} {ord : List Nat} {t : Tru} {at_ i : Nat} {p : Pr} (h : ∀ j, j < at_ → qD T t (gt ord j) i p = false) : u5 T ord t at_ i p = true := by
  unfold u5;rw [List.all_eq_true];intro j hj;rw [h j (List.mem_range.1 hj)]; rfl
theorem Jv {T : Tks} {ord : List Nat} {rem : Nat} {t : Tru} {at_ k : Nat} (hk : k < (yb (gt T.l (gt ord at_))).length) (h : u5 T ord t at_ (gt ord at_) (gt (yb (gt T.l (gt ord at_))) k) = false) : onN T ord rem t at_ (k + 1) = onN T ord rem t at_ k := by
  unfold onN;rw [jh _ hk];unfold onP;rw [if_neg (by rw [h]; simp)];rfl
theorem zcK {T : Tks} {ord : List Nat} {rem : Nat} {t : Tru} {at_ k : Nat} (hk : k < (yb (gt T.l (gt ord at_))).length) (h : u5 T ord t at_ (gt ord at_) (gt (yb (gt T.l (gt ord at_))) k) = true) :
    onN T ord rem t at_ (k + 1) = onN T ord rem t at_ k + (truL T ord rem (upd t (gt ord at_) (gt (yb (gt T.l (gt ord at_))) k)) (at_ + 1)).length := by
  unfold onN;rw [jh _ hk];congr 1;unfold onP;rw [if_pos h]
theorem Ju {T : Tks} {ord : List Nat} {rem : Nat} {t : Tru} {at_ k k0 : Nat} {A : List Tru} (hA : PartOf A (truL T ord (rem + 1) t at_) k0) (hk : k < (yb (gt T.l (gt ord at_))).length) (h : u5 T ord t at_ (gt ord at_) (gt (yb (gt T.l (gt ord at_))) k) = true) :
    PartOf A (truL T ord rem (upd t (gt ord at_) (gt (yb (gt T.l (gt ord at_))) k)) (at_ + 1)) (k0 + onN T ord rem t at_ k) := by
  rw [Y6] at hA;have := hA.step hk;unfold onP at this;rw [if_pos h] at this;exact this
theorem zaO {T : Tks} {ord : List Nat} {rem : Nat} {t : Tru} {at_ : Nat} : onN T ord rem t at_ (yb (gt T.l (gt ord at_))).length = (truL T ord (rem + 1) t at_).length := by
  unfold onN;rw [Y6, List.take_length]
theorem on_0 (T : Tks) (a1 : Option Addr) (n1 c1 : Nat) (q b1 b2 b3 ly : Nat) (St : Nat → Imm → Hp → Prop) (Sp : Imm → Hp → Prop) (w0 : World) (A : List Tru) (hv : tksB T = true)
    (hSm : ∀ k D1 D2 h, DExt w0 D1 D2 → St k D1 h → St k D2 h)
    (DD : Imm) (hround : ∀ k D' h w', k < A.length → w0.heap.size ≤ w'.heap.size → DExt w0 DD D' → St k D' h → Inv D' h (keys h) w' w' → YieldAt Fence.wide 0 Tryz.prog ly #[truV (gt A k)] w' (xV w' D' (keys h) (fun b D'' h' => (b = true ∧ St (k + 1) D'' h') ∨ (b = false ∧ Sp D'' h')))) : ∀ (t : Tru) (at_ k0 : Nat) (D : Imm) (w : World) (h0 : Hp), at_ + 0 = T.l.length → PartOf A (truL T (ordT T) 0 t at_) k0 → okTr t → w0.heap.size ≤ w.heap.size → DExt w0 DD D → xM D q T (.slice a1 n1 c1) → TksR D T a1 n1 → D b1 = some (.cells (List.toArray [pt q]) 141 (0, 0)) → D b2 = some (.cells (List.toArray [.func (.yield ly) #[] #[]]) 253 (0, 0)) → D b3 = some (.cells (List.toArray [.func (.func 178) #[] #[pt b1, pt b2, pt b3]]) 254 (0, 0)) → St k0 D h0 → Inv D h0 (keys h0) w w → zp Tryz.prog 178 [truV t, nt at_, pt b1, pt b2, pt b3] w D (keys h0) (fun v D' h' => ∃ b, v = .bool b ∧ ((b = true ∧ St (k0 + (truL T (ordT T) 0 t at_).length) D' h') ∨ (b = false ∧ Sp D' h'))) := by
  intro t at_ k0 D w h0 hin hpart hoT hsw hXX hO hR h1 h2 h3 hS0 hI0;obtain rfl := hR.tick.len';have hl1 := hR.len;have h5 := (y8 hv).2.1;obtain ⟨a3, c3, hq, hS3, hc3⟩ := hO;unfold zp;refine en Tryz.func178 rfl Tryz.ntmps178 hI0 (g [[1],[1,0,1,2,3,4]] ?_);refine WL.so (SO.box rfl rfl) rfl (zw fun b5 hb5 => ?_);refine WL.so (SO.box rfl rfl) rfl (zw fun b6 hb6 => ?_);refine WL.so (SO.alloc ZvF.h rfl) rfl (zw fun b7 hb7 => ?_);refine g [[2]] ?_;refine WC.scope (g [[2],[0,7,6,5,2,3,4],[3006],[10]] ?_);refine WC.cond rfl (fun c19 => ?_) (fun c19 => ?_)
  · try simp only [zq] at c19
    have hkA := hpart.at 0 (by exact Nat.zero_lt_one);have hgA : gt A k0 = t := hkA.1;refine g [[1],[0,7,6,5,2,3,4]] ?_;refine WC.ofF (g [[3]] ?_);refine WLF.yieldN (l := ly) (vals := [truV t]) [_, _, _] h0 (fun _ h => h) (fun h => h) rfl rfl rfl (fun w' hsz hI => by rw [← hgA]; exact hround k0 D h0 w' hkA.2 (Nat.le_trans hsw hsz) hXX hS0 hI) ?_;rintro b22 D5 hp5 hK5 hX5;refine g [[5]] ?_;refine WP.scRet ?_
    refine WP.ret1 rfl rfl rfl (RV.cell1 AgF.h rfl (Rd.own (k := 0) rfl rfl)) (fun w1 hI => by
      rcases hK5 with ⟨rfl, hK5⟩ | ⟨rfl, hK5⟩
      · exact ⟨_, D5, hp5, rfl, hX5, hI.drop 3, true, rfl, .inl ⟨rfl, hK5⟩⟩
      exact ⟨_, D5, hp5, rfl, hX5, hI.drop 3, false, rfl, .inr ⟨rfl, hK5⟩⟩)
  try simp only [zq] at c19
  omega
theorem on_s (T : Tks) (a1 : Option Addr) (n1 c1 : Nat) (q b1 b2 b3 ly : Nat) (St : Nat → Imm → Hp → Prop) (Sp : Imm → Hp → Prop) (w0 : World) (A : List Tru) (hv : tksB T = true)
    (hSm : ∀ k D1 D2 h, DExt w0 D1 D2 → St k D1 h → St k D2 h)
    (DD : Imm) (hround : ∀ k D' h w', k < A.length → w0.heap.size ≤ w'.heap.size → DExt w0 DD D' → St k D' h → Inv D' h (keys h) w' w' → YieldAt Fence.wide 0 Tryz.prog ly #[truV (gt A k)] w' (xV w' D' (keys h) (fun b D'' h' => (b = true ∧ St (k + 1) D'' h') ∨ (b = false ∧ Sp D'' h')))) (rem : Nat) (ih : ∀ (t : Tru) (at_ k0 : Nat) (D : Imm) (w : World) (h0 : Hp), at_ + rem = T.l.length → PartOf A (truL T (ordT T) rem t at_) k0 → okTr t → w0.heap.size ≤ w.heap.size → DExt w0 DD D → xM D q T (.slice a1 n1 c1) → TksR D T a1 n1 → D b1 = some (.cells (List.toArray [pt q]) 141 (0, 0)) → D b2 = some (.cells (List.toArray [.func (.yield ly) #[] #[]]) 253 (0, 0)) → D b3 = some (.cells (List.toArray [.func (.func 178) #[] #[pt b1, pt b2, pt b3]]) 254 (0, 0)) → St k0 D h0 → Inv D h0 (keys h0) w w → zp Tryz.prog 178 [truV t, nt at_, pt b1, pt b2, pt b3] w D (keys h0) (fun v D' h' => ∃ b, v = .bool b ∧ ((b = true ∧ St (k0 + (truL T (ordT T) rem t at_).length) D' h') ∨ (b = false ∧ Sp D' h')))) : ∀ (t : Tru) (at_ k0 : Nat) (D : Imm) (w : World) (h0 : Hp), at_ + (rem + 1) = T.l.length → PartOf A (truL T (ordT T) (rem + 1) t at_) k0 → okTr t → w0.heap.size ≤ w.heap.size → DExt w0 DD D → xM D q T (.slice a1 n1 c1) → TksR D T a1 n1 → D b1 = some (.cells (List.toArray [pt q]) 141 (0, 0)) → D b2 = some (.cells (List.toArray [.func (.yield ly) #[] #[]]) 253 (0, 0)) → D b3 = some (.cells (List.toArray [.func (.func 178) #[] #[pt b1, pt b2, pt b3]]) 254 (0, 0)) → St k0 D h0 → Inv D h0 (keys h0) w w → zp Tryz.prog 178 [truV t, nt at_, pt b1, pt b2, pt b3] w D (keys h0) (fun v D' h' => ∃ b, v = .bool b ∧ ((b = true ∧ St (k0 + (truL T (ordT T) (rem + 1) t at_).length) D' h') ∨ (b = false ∧ Sp D' h'))) := by
  intro t at_ k0 D w h0 hin hpart hoT hsw hXX hO hR h1 h2 h3 hS0 hI0;obtain rfl := hR.tick.len';have hl1 := hR.len;have h5 := (y8 hv).2.1;obtain ⟨a3, c3, hq, hS3, hc3⟩ := hO;unfold zp;refine enM Tryz.func178 rfl Tryz.ntmps178 hI0 (g [[1],[1,0,1,2,3,4]] ?_);refine WL.so (SO.box rfl rfl) rfl (zw fun b5 hb5 => ?_);refine WL.so (SO.box rfl rfl) rfl (zw fun b6 hb6 => ?_);refine WL.so (SO.alloc ZvF.h rfl) rfl (zw fun b7 hb7 => ?_);refine g [[2]] ?_;refine WC.scope (g [[2],[0,7,6,5,2,3,4],[3006],[10]] ?_);refine WC.cond rfl (fun c19 => ?_) (fun c19 => ?_)
  · try simp only [zq] at c19
    omega
  try simp only [zq] at c19
  have hat : at_ < T.l.length := by omega
  have hi : (gt (ordT T) at_) < T.l.length := qw _ _ hat;have hi5 : (gt (ordT T) at_) < 5 := by omega
  have hnum := (y8 hv).2.2 _ hi;obtain ⟨hh, hpb, hpd⟩ := hnum;refine g [[3],[0,7,6,5,2,4]] ?_;refine WC.drawD _ (pz [1,3,5,7,9,11,13,14,16]) zk zk zX (fun _ hI => hI) (g [[5]] ?_);refine WA.yd rfl (Yd.ix rfl rfl (hS3.addr at_ (by omega))) rfl (WA.yd rfl (Yd.l1 rfl ((hS3.at at_ (by omega)).rd 0 rfl)) rfl ?_);refine WA.so rfl (SO.alloc ZvF.h rfl) rfl ?_;rintro _ _ _ ⟨b8, hb8, rfl, rfl, rfl⟩;refine ⟨fun _ hI => hI.tail, ?_⟩;refine WA.so rfl (SO.store 0 rfl SzF.h rfl rfl rfl rfl (zqb rfl) (za rfl)) rfl ?_;rintro _ _ _ ⟨rfl, rfl, rfl⟩;refine ⟨fun _ hI => hI.drop 1, ?_⟩;refine g [[3],[3,8,7,6,5,2,4]] ?_;refine WL.so (SO.alloc ZvF.h rfl) rfl (zw fun b9 hb9 => ?_);refine g [[4]] ?_;refine WC.label (g [[3],[3,9,8,7,6,5,2,4]] ?_);refine WL.so (SO.makes (Enters.func Tryz.call180 rfl) (fun w hI => zaX T a1 _ c1 q D _ ⟨a3, c3, hq, hS3, hc3⟩ hR hI.imm (gt (ordT T) at_) hi)) rfl ?_;rintro _ D2 _ ⟨hX2, ⟨bp, rfl, hbp⟩, rfl⟩;replace hXX := hXX.trans (hX2) hsw;replace hR := hR.ext (hX2);replace hq := (hX2).old _ _ hq;replace hS3 := hS3.ext (hX2);replace h1 := (hX2).old _ _ h1;replace h2 := (hX2).old _ _ h2;replace h3 := (hX2).old _ _ h3;refine g [[3],[0,2,4,5,6,7,8,9,34]] ?_;refine WC.rangeIterN (N := (yb (gt T.l (gt (ordT T) at_))).length) (arg := fun k => prV (gt (yb (gt T.l (gt (ordT T) at_))) k)) (fun w1 _ hD1 => YO (gt T.l (gt (ordT T) at_)) bp D2 w1 (by omega) hbp) rfl Tryz.call240 rfl (fun k D' h => ∃ hG, h = ((b9, .cells (List.toArray [.func (.func 179) #[truV t] #[]]) 255 (0, 0)) :: (b8, .cells (List.toArray [nt (gt (ordT T) at_)]) 3 (0, 0)) :: (b7, .cells (List.toArray [.bool false]) 4 (0, 0)) :: (b6, .cells (List.toArray [nt at_]) 3 (0, 0)) :: (b5, .cells (List.toArray (truC t)) 150 (0, 0)) :: hG) ∧ St (k0 + onN T (ordT T) rem t at_ k) D' hG) (fun c D' h => c = .ret ∧ ∃ hG, h = ((b9, .cells (List.toArray [.func (.func 179) #[truV t] #[]]) 255 (0, 0)) :: (b8, .cells (List.toArray [nt (gt (ordT T) at_)]) 3 (0, 0)) :: (b7, .cells (List.toArray [.bool false]) 4 (0, 0)) :: (b6, .cells (List.toArray [nt at_]) 3 (0, 0)) :: (b5, .cells (List.toArray (truC t)) 150 (0, 0)) :: hG) ∧ Sp D' hG) (fun k D1 D2 h hx ⟨hG, e, hs⟩ => ⟨hG, e, hSm _ _ _ _ (hx.wide hsw) hs⟩) ⟨h0, rfl, hSm _ _ _ _ (hX2.wide hsw) hS0⟩ ?_ ?_ ?_
  · rintro rec1 l1 Dn0 k D3 _ w1 hrec hk ⟨hG, rfl, hSG⟩ hX3 hsz;unfold yP;replace hXX := hXX.trans (hX3) hsw;replace hR := hR.ext (hX3);replace hq := (hX3).old _ _ hq;replace hS3 := hS3.ext (hX3);replace h1 := (hX3).old _ _ h1;replace h2 := (hX3).old _ _ h2;replace h3 := (hX3).old _ _ h3;have hpp0 := ug.1 (qY.1 (yE hk));have hpp : (0 ≤ (gt (yb (gt T.l (gt (ordT T) at_))) k).1 ∧ (gt (yb (gt T.l (gt (ordT T) at_))) k).1 ≤ 240) ∧ 0 ≤ (gt (yb (gt T.l (gt (ordT T) at_))) k).2 ∧ (gt (yb (gt T.l (gt (ordT T) at_))) k).2 ≤ 240 := by omega
    refine g [[1,35,2,4,5,6,7,8,9]] ?_;refine WLF.so (zn rfl) (SO.alloc ZvF.h rfl) rfl (zw fun b10 hb10 => ?_);refine g [[2]] ?_;refine WP.iterBegin 1 rfl hrec (g [[3],[0,10,2,4,5,6,7,8,9]] ?_);refine WCF.drawH _ zk zk (noLets.then (noLets.then (noLets.blk noLets.round))) (fun _ hI => hI) (g [[1000],[1001],[1002],[1003],[1004]] ?_);refine WH.yd (i := 5) zk zX rfl (Yd.sliceTo (h := at_) Tryz.underlying94 Tryz.sizeOf3 rfl rfl (by omega)) rfl (g [[1006],[1007]] ?_);refine WH.nil zk (g [[2]] ?_);refine WCF.loopF (fun j : Nat => [(2, pt b1), (4, pt b3), (5, pt b5), (6, pt b6), (7, pt b7), (8, pt b8), (9, pt b9), (10, pt b10), (41, .slice a3 at_ c3), (42, nt at_), (43, nt j)]) (fun j => j ≤ at_ ∧ ∀ i, i < j → qD T t (gt (ordT T) i) (gt (ordT T) at_) (gt (yb (gt T.l (gt (ordT T) at_))) k) = false) (fun j => at_ - j) 0 ⟨by omega, by intro i hi; omega⟩ (by exact ⟨rfl, rfl, rfl, rfl, rfl, rfl, rfl, rfl, rfl, rfl, rfl, trivial⟩) ?_;intro j ⟨hj, hcl⟩;refine g [[1],[5,2,4,5,6,7,8,9,10,41,42,43]] ?_;refine WCF.cond rfl (fun c44 => ?_) (fun c44 => ?_)
    · try simp only [zq] at c44
      have hjl : gt (ordT T) j < T.l.length := qw _ _ (by omega);have hj5 : gt (ordT T) j < 5 := by omega
      have hbt := hoT (gt (ordT T) j);refine g [[5],[1,2,4,5,6,7,8,9,10,41,42,43]] ?_;refine WLF.yd (zn rfl) (Yd.ix rfl rfl (hS3.addr j (by omega))) rfl (WLF.yd (zn rfl) (Yd.l1 rfl ((hS3.at j (by omega)).rd 0 rfl)) rfl (g [[4],[0,12,2,4,5,6,7,8,9,10,41,42,43]] ?_));refine WCF.tail 26 [0, 1, 2, 3, 4, 5, 6, 7, 8, 9, 10, 11, 12, 13, 14, 15, 16, 17, 18, 19, 20, 21, 22, 23, 24, 25] rfl zk zk (noLets.then (noLets.blk (noLets.then (noLets.then (noLets.blk (noLets.then (noLets.blk noLets.round))))))) (g [[6]] ?_);refine WQ.q rfl (Yd.qt (Yd.ix rfl rfl (hR.tick.addr (gt (ordT T) j) hjl))) rfl (g [[1]] ?_);refine WQ.q rfl (Yd.qt (Yd.l1 rfl ((hR.tick.at (gt (ordT T) j) hjl).rd 2 rfl))) rfl (g [[6]] ?_);refine WQ.q rfl (Yd.qt (Yd.ix rfl rfl (hR.tick.addr (gt (ordT T) j) hjl))) rfl (g [[1]] ?_);refine WQ.q rfl (Yd.qt (Yd.l1 rfl ((hR.tick.at (gt (ordT T) at_) hi).rd 2 rfl))) rfl (g [[2]] ?_);refine WQ.part 66 rfl (fun g66 => ?_) (fun g66 => ?_)
      · try simp only [zq] at g66
        refine g [[1]] ?_;refine WQ.qg rfl rfl (Yd.qt (Yd.indexA UnF.h SzF.h rfl rfl (by omega) (by omega))) rfl (g [[1]] ?_);refine WQ.qg rfl rfl (Yd.qt (Yd.l1 rfl (Rd.own (k := 7) rfl (uq t hj5).2))) rfl (g [[2]] ?_);refine WQ.tailR (g [[1]] ?_);refine WLF.sog (zn rfl) rfl (SO.callP CaF.h rfl (fun w hI => xB _ _ _ _)) rfl (zs (g [[3]] ?_));refine WCF.cond rfl (fun c75 => ?_) (fun c75 => ?_)
        · have hfr : u5 T (ordT T) t at_ (gt (ordT T) at_) (gt (yb (gt T.l (gt (ordT T) at_))) k) = false := Yx (j := j) (by omega) (by unfold qD; rw [decide_eq_true g66]; exact c75);refine g [[7]] ?_;exact WP.iterOnN hrec (h1 := ((b9, .cells (List.toArray [.func (.func 179) #[truV t] #[]]) 255 (0, 0)) :: (b8, .cells (List.toArray [nt (gt (ordT T) at_)]) 3 (0, 0)) :: (b7, .cells (List.toArray [.bool false]) 4 (0, 0)) :: (b6, .cells (List.toArray [nt at_]) 3 (0, 0)) :: (b5, .cells (List.toArray (truC t)) 150 (0, 0)) :: hG)) (fun _ h => List.mem_cons_of_mem _ h) (fun h => (List.nodup_cons.1 h).2) (DExt.refl _ _) ⟨hG, rfl, by rw [Jv hk hfr]; exact hSG⟩
        refine g [[3],[4,2,4,5,6,7,8,9,10,41,42,43]] ?_;exact WP.againF (j + 1) ⟨by omega, zZ hcl (wT.2 (fun _ => c75))⟩ (by omega) ⟨rfl, rfl, rfl, rfl, rfl, rfl, rfl, rfl, rfl, rfl, rfl, trivial⟩ (fun _ h => h) (fun h => h)
      try simp only [zq] at g66
      refine g [[6]] ?_;refine WQ.tailR (g [[5]] ?_);refine WCF.condF rfl (g [[3],[4,2,4,5,6,7,8,9,10,41,42,43]] ?_);exact WP.againF (j + 1) ⟨by omega, zZ hcl (wT.2 (fun e => absurd e g66))⟩ (by omega) ⟨rfl, rfl, rfl, rfl, rfl, rfl, rfl, rfl, rfl, rfl, rfl, trivial⟩ (fun _ h => h) (fun h => h)
    try simp only [zq] at c44
    have hfr : u5 T (ordT T) t at_ (gt (ordT T) at_) (gt (yb (gt T.l (gt (ordT T) at_))) k) = true := VP fun i hi => hcl i (by omega);refine g [[6],[0,4,6,7,8,9,10]] ?_;refine WCF.tail 7 [0, 1, 2, 3, 4, 5, 6] rfl zk zk (noLets.then (noLets.blk noLets.round)) (g [[4]] ?_);refine WQ.q rfl (Qt.call (Enters.val CaF.h rfl rfl) (fun w hI => zdm t (gt (ordT T) at_) (gt (yb (gt T.l (gt (ordT T) at_))) k) hi5 _)) rfl (g [[1]] ?_);refine WQ.q rfl (Yd.qt (Yd.addN (i := at_) (j := 1) rfl rfl (by omega))) rfl (WQ.tailR ?_);refine WLF.so (zn rfl) (SO.altersNS (own := [_, _, _, _, _, _, _, _]) (hpc := hG) (fun _ h => h) (fun h => h) (Enters.val CaF.h rfl rfl) (fun w3 hsz3 hI => ih (upd t (gt (ordT T) at_) (gt (yb (gt T.l (gt (ordT T) at_))) k)) (at_ + 1) (k0 + onN T (ordT T) rem t at_ k) D3 w3 hG (by omega) (Ju hpart hk hfr) (Jt hoT _ hpp) (Nat.le_trans hsw (Nat.le_trans hsz hsz3)) hXX ⟨a3, c3, hq, hS3, hc3⟩ hR h1 h2 h3 hSG hI)) rfl ?_;rintro _ D8 _ ⟨hp8, hX8, ⟨b84, rfl, hK8⟩, rfl⟩;refine g [[3]] ?_;refine WCF.cond rfl (fun c85 => ?_) (fun c85 => ?_)
    · try simp only [zq] at c85
      refine g [[1],[6,7]] ?_;have hb84 : b84 = false := by simpa using c85
      rcases hK8 with ⟨htt, _⟩ | ⟨_, hK8⟩
      · rw [hb84] at htt; cases htt
      exact WP.iterRetN (h1 := ((b9, .cells (List.toArray [.func (.func 179) #[truV t] #[]]) 255 (0, 0)) :: (b8, .cells (List.toArray [nt (gt (ordT T) at_)]) 3 (0, 0)) :: (b7, .cells (List.toArray [.bool false]) 4 (0, 0)) :: (b6, .cells (List.toArray [nt at_]) 3 (0, 0)) :: (b5, .cells (List.toArray (truC t)) 150 (0, 0)) :: hp8)) (fun _ h => List.mem_cons_of_mem _ h) (fun h => (List.nodup_cons.1 h).2) hX8 ⟨rfl, hp8, rfl, hK8⟩
    try simp only [zq] at c85
    refine g [[2]] ?_;have hb84 : b84 = true := by simpa using c85
    rcases hK8 with ⟨_, hK8⟩ | ⟨hff, _⟩
    · exact WP.iterOnN hrec (h1 := ((b9, .cells (List.toArray [.func (.func 179) #[truV t] #[]]) 255 (0, 0)) :: (b8, .cells (List.toArray [nt (gt (ordT T) at_)]) 3 (0, 0)) :: (b7, .cells (List.toArray [.bool false]) 4 (0, 0)) :: (b6, .cells (List.toArray [nt at_]) 3 (0, 0)) :: (b5, .cells (List.toArray (truC t)) 150 (0, 0)) :: hp8)) (fun _ h => List.mem_cons_of_mem _ h) (fun h => (List.nodup_cons.1 h).2) hX8 ⟨hp8, rfl, by rw [zcK hk hfr, ← Nat.add_assoc]; exact hK8⟩
    rw [hb84] at hff; cases hff
  · rintro Dn1 D6 _ hDn1 hX6 ⟨hG, rfl, hSG⟩;refine g [[3],[5,7]] ?_;refine WP.scRet ?_;refine WP.retMs [Dn1] (((b9, .cells (List.toArray [.func (.func 179) #[truV t] #[]]) 255 (0, 0)) :: (b8, .cells (List.toArray [nt (gt (ordT T) at_)]) 3 (0, 0)) :: (b7, .cells (List.toArray [.bool true]) 4 (0, 0)) :: (b6, .cells (List.toArray [nt at_]) 3 (0, 0)) :: (b5, .cells (List.toArray (truC t)) 150 (0, 0)) :: hG)) [_] [_] rfl rfl (fun _ h => h) (fun h => h) rfl zV (fun w2 hI => ⟨_, D6, hG, rfl, hX2.trans hX6 (Nat.le_refl _), hI.drop 5, true, rfl, .inl ⟨rfl, by rw [← zaO]; exact hSG⟩⟩)
  rintro Dn1 c D6 _ hDn1 hX6 ⟨rfl, hG, rfl, hSG⟩;refine g [[3]] ?_;refine WP.scRet ?_;refine WP.retMs [Dn1] (((b9, .cells (List.toArray [.func (.func 179) #[truV t] #[]]) 255 (0, 0)) :: (b8, .cells (List.toArray [nt (gt (ordT T) at_)]) 3 (0, 0)) :: (b7, .cells (List.toArray [.bool false]) 4 (0, 0)) :: (b6, .cells (List.toArray [nt at_]) 3 (0, 0)) :: (b5, .cells (List.toArray (truC t)) 150 (0, 0)) :: hG)) [_] [_] rfl rfl (fun _ h => h) (fun h => h) rfl zV (fun w2 hI => ⟨_, D6, hG, rfl, hX2.trans hX6 (Nat.le_refl _), hI.drop 5, false, rfl, .inr ⟨rfl, hSG⟩⟩)
theorem on_g (T : Tks) (a1 : Option Addr) (n1 c1 : Nat) (q b1 b2 b3 ly : Nat) (St : Nat → Imm → Hp → Prop) (Sp : Imm → Hp → Prop) (w0 : World) (A : List Tru) (hv : tksB T = true)
    (hSm : ∀ k D1 D2 h, DExt w0 D1 D2 → St k D1 h → St k D2 h)
    (DD : Imm) (hround : ∀ k D' h w', k < A.length → w0.heap.size ≤ w'.heap.size → DExt w0 DD D' → St k D' h → Inv D' h (keys h) w' w' → YieldAt Fence.wide 0 Tryz.prog ly #[truV (gt A k)] w' (xV w' D' (keys h) (fun b D'' h' => (b = true ∧ St (k + 1) D'' h') ∨ (b = false ∧ Sp D'' h')))) : ∀ rem, ∀ (t : Tru) (at_ k0 : Nat) (D : Imm) (w : World) (h0 : Hp), at_ + rem = T.l.length → PartOf A (truL T (ordT T) rem t at_) k0 → okTr t → w0.heap.size ≤ w.heap.size → DExt w0 DD D → xM D q T (.slice a1 n1 c1) → TksR D T a1 n1 → D b1 = some (.cells (List.toArray [pt q]) 141 (0, 0)) → D b2 = some (.cells (List.toArray [.func (.yield ly) #[] #[]]) 253 (0, 0)) → D b3 = some (.cells (List.toArray [.func (.func 178) #[] #[pt b1, pt b2, pt b3]]) 254 (0, 0)) → St k0 D h0 → Inv D h0 (keys h0) w w → zp Tryz.prog 178 [truV t, nt at_, pt b1, pt b2, pt b3] w D (keys h0) (fun v D' h' => ∃ b, v = .bool b ∧ ((b = true ∧ St (k0 + (truL T (ordT T) rem t at_).length) D' h') ∨ (b = false ∧ Sp D' h'))) := by
  intro rem
  induction rem with
  | zero => exact on_0 T a1 n1 c1 q b1 b2 b3 ly St Sp w0 A hv hSm DD hround
  | succ rem ih => exact on_s T a1 n1 c1 q b1 b2 b3 ly St Sp w0 A hv hSm DD hround rem ih
theorem yt (T : Tks) (a1 : Option Addr) (n1 c1 : Nat) (q b1 : Nat) (D : Imm) (w : World) (hO : xM D q T (.slice a1 n1 c1)) (hR : TksR D T a1 n1) (h1 : D b1 = some (.cells (List.toArray [pt q]) 141 (0, 0))) (hv : tksB T = true) (hH : Holds D w) : V9 Tryz.prog 177 [pt b1] (allT T).length (fun k => truV (gt (allT T) k)) D w := by
  unfold V9;intro l St Sp hSm hround h0 hS0 hI0;unfold zp;refine en Tryz.func177 rfl Tryz.ntmps177 hI0 (g [[1],[1,0,1]] ?_);refine WL.so (SO.box rfl rfl) rfl (zw fun b2 hb2 => ?_);refine g [[3],[1,2,1]] ?_;refine WL.so (SO.alloc ZvF.h rfl) rfl (zw fun b3 hb3 => ?_);refine g [[3],[5,3,2,1]] ?_;refine WC.freezeK 0 rfl (fun hn3 => ?_);refine WC.freezeK 0 rfl (fun hn2 => ?_);have hX3 : DExt w D ((D.add b3 (.cells (List.toArray [.func (.func 178) #[] #[pt b1, pt b2, pt b3]]) 254 (0, 0))).add b2 (.cells (List.toArray [.func (.yield l) #[] #[]]) 253 (0, 0))) := ((DExt.refl w D).add hn3 hb3).add hn2 hb2;have h2 : ((D.add b3 (.cells (List.toArray [.func (.func 178) #[] #[pt b1, pt b2, pt b3]]) 254 (0, 0))).add b2 (.cells (List.toArray [.func (.yield l) #[] #[]]) 253 (0, 0))) b2 = some (.cells (List.toArray [.func (.yield l) #[] #[]]) 253 (0, 0)) := Imm.add_self _ _ _;have h3 : ((D.add b3 (.cells (List.toArray [.func (.func 178) #[] #[pt b1, pt b2, pt b3]]) 254 (0, 0))).add b2 (.cells (List.toArray [.func (.yield l) #[] #[]]) 253 (0, 0))) b3 = some (.cells (List.toArray [.func (.func 178) #[] #[pt b1, pt b2, pt b3]]) 254 (0, 0)) := ((DExt.refl w _).add hn2 hb2).old _ _ (Imm.add_self _ _ _);replace h1 := hX3.old _ _ h1;replace hO := hO.ext hX3;replace hR := hR.ext hX3;refine (?_ : WC Tryz.prog _ _ ((D.add b3 (.cells (List.toArray [.func (.func 178) #[] #[pt b1, pt b2, pt b3]]) 254 (0, 0))).add b2 (.cells (List.toArray [.func (.yield l) #[] #[]]) 253 (0, 0))) h0 _ _);generalize ((D.add b3 (.cells (List.toArray [.func (.func 178) #[] #[pt b1, pt b2, pt b3]]) 254 (0, 0))).add b2 (.cells (List.toArray [.func (.yield l) #[] #[]]) 253 (0, 0))) = D3 at hX3 h1 h2 h3 hO hR ⊢;refine g [[2,3]] ?_;refine WL.yd (Yd.buildA (zs := [.int .i64 0, .int .i64 0, .int .i64 0, .int .i64 0, .int .i64 0, .int .i64 0, .int .i64 0, .int .i64 0, .int .i64 0, .int .i64 0]) ⟨_, ZvF.h, rfl⟩ UnF.h SzF.h rfl (cs := [_, _, _, _, _, _, _, _, _, _]) rfl) rfl (WL.know 6 (truV V3) rfl rfl ?_);refine WL.so (SO.altersNS (own := []) (hpc := h0) (fun _ h => h) (fun h => h) (Enters.val CaF.h rfl rfl) (fun w3 hsz hI => on_g T a1 n1 c1 q b1 b2 b3 l St Sp w (allT T) hv hSm D hround T.l.length V3 0 0 D3 w3 h0 (by omega) ⟨[], [], by simp [allT], rfl⟩ Uo hsz hX3 hO hR h1 h2 h3 (hSm _ _ _ _ hX3 hS0) hI)) rfl ?_;rintro _ D8 hp8 ⟨_, hX8, ⟨b7, rfl, hK8⟩, rfl⟩;refine g [[1]] ?_
  refine WP.ret0 rfl rfl rfl  (fun w1 hI => by
    rcases hK8 with ⟨rfl, hK8⟩ | ⟨rfl, hK8⟩
    · exact ⟨_, D8, hp8, rfl, hX3.trans hX8 (Nat.le_refl _), hI, .inl (by rw [Nat.zero_add] at hK8; exact hK8)⟩
    exact ⟨_, D8, hp8, rfl, hX3.trans hX8 (Nat.le_refl _), hI, .inr hK8⟩)
end Go.Proofs.YtejgofaeafphjaaGreatDoor
