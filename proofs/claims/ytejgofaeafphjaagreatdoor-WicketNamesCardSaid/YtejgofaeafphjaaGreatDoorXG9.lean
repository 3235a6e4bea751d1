import Derived.Test.YtejgofaeafphjaaGreatDoorXG8
import Derived.Test.YtejgofaeafphjaaGreatDoorXG7
import Derived.Test.YtejgofaeafphjaaGreatDoorXG1
import Derived.Test.YtejgofaeafphjaaGreatDoorXG3
set_option linter.unusedSimpArgs false
set_option linter.unusedVariables false
set_option linter.all false
set_option maxRecDepth 100000
set_option maxHeartbeats 4000000
attribute [local irreducible] Go.W.WL Go.W.WLF Go.W.WC Go.W.WCF Go.W.WP Go.W.WA Go.W.WQ Go.W.WH Go.W.WHo Go.W.WCn Go.Code.wp Go.Code.wpIn
namespace Go.Ti
open Go.W (gt gt_of)
structure IsH (l : List Int) (s : Sp) : Prop where
  lo : s.lo ∈ l
  hi : s.hi ∈ l
  mem : ∀ v, v ∈ l → s.lo ≤ v ∧ v ≤ s.hi
theorem IsH.uniq {l : List Int} {s t : Sp} (h : IsH l s) (h' : IsH l t) : s = t := by
  obtain ⟨a, b⟩ := s
  obtain ⟨c, d⟩ := t
  have h1 := h.mem _ h'.lo
  have h2 := h.mem _ h'.hi
  have h3 := h'.mem _ h.lo
  have h4 := h'.mem _ h.hi
  simp only at h1 h2 h3 h4
  rw [Sp.mk.injEq]
  omega
end Go.Ti
namespace Go.Ti
open Go.W
theorem bits_or (f : Nat → Bool) {n i : Nat} (hi : i < n) : bitsI f n ||| 2 ^ i = bitsI (fun j => f j || decide (j = i)) n := by
  apply Nat.eq_of_testBit_eq
  intro j
  rw [Nat.testBit_or, bits_test, bits_test, Nat.testBit_two_pow]
  by_cases h : j < n
  · rw [decide_eq_true h]
    simp only [Bool.true_and]
    congr 1
    exact decide_eq_decide.2 ⟨Eq.symm, Eq.symm⟩
  · rw [decide_eq_false h, decide_eq_false (by omega : ¬ i = j)]; rfl
theorem bits_has (f : Nat → Bool) {n i : Nat} (hi : i < n) : bitsI f n / 2 ^ i % 2 = 1 ↔ f i = true := by
  have h := bits_test f n i
  rw [Nat.testBit_eq_decide_div_mod_eq, decide_eq_true hi, Bool.true_and] at h
  rw [← h, decide_eq_true_eq]
theorem now_num (t : Tru) (m : Int) : ∀ k, -1 ≤ nowI t m k ∧ nowI t m k < (k : Int) ∧ (nowI t m k < 0 → nowI t m k = -1)
  | 0 => by simp [nowI]
  | k + 1 => by
    have := now_num t m k
    unfold nowI
    split <;> omega
theorem now_wait (t : Tru) (m : Int) : ∀ k, 0 ≤ nowI t m k → waitB t (nowI t m k).toNat m = true
  | 0 => by simp [nowI]
  | k + 1 => by
    have := now_wait t m k
    unfold nowI
    split
    · rename_i h; intro _; simpa using h.1
    · exact this
def keyT (t : Tru) (m : Int) (n : Nat) : Tru := fun i => if i < n ∧ waitB t i m = true then t i else (-1, -1)
theorem key_now {t t' : Tru} {m : Int} {n : Nat} (ht : ∀ i, 0 ≤ (t i).1) (ht' : ∀ i, 0 ≤ (t' i).1) (h : ∀ i, i < n → keyT t m n i = keyT t' m n i) : ∀ k, k ≤ n → nowI t m k = nowI t' m k
  | 0, _ => rfl
  | k + 1, hk => by
    have ih := key_now ht ht' h k (by omega)
    have same : ∀ i, i < n → waitB t i m = waitB t' i m ∧ (waitB t i m = true → t i = t' i) := fun i hi => by
      have e := h i hi
      unfold keyT at e
      have a := ht i
      have a' := ht' i
      cases h1 : waitB t i m with
      | true =>
        rw [if_pos ⟨hi, h1⟩] at e
        cases h2 : waitB t' i m with
        | true => rw [if_pos ⟨hi, h2⟩] at e; exact ⟨rfl, fun _ => e⟩
        | false => rw [if_neg (by rw [h2]; simp)] at e; rw [e] at a; exact absurd a (by decide)
      | false =>
        rw [if_neg (by rw [h1]; simp)] at e
        cases h2 : waitB t' i m with
        | true => rw [if_pos ⟨hi, h2⟩] at e; rw [← e] at a'; exact absurd a' (by decide)
        | false => exact ⟨rfl, fun h => by cases h⟩
    unfold nowI
    rw [← ih]
    have s1 := same k (by omega)
    have hnn := now_num t m k
    cases hw : waitB t k m with
    | false => rw [← s1.1, hw]; simp
    | true =>
      rw [← s1.1, hw]
      by_cases h0 : nowI t m k < 0
      · rw [if_pos ⟨rfl, .inl h0⟩, if_pos ⟨rfl, .inl h0⟩]
      · have w0 := now_wait t m k (by omega)
        have s2 := same (nowI t m k).toNat (by omega)
        have eb : befT t k (nowI t m k).toNat = befT t' k (nowI t m k).toNat := by
          unfold befT
          rw [s1.2 hw, s2.2 w0]
        rw [eb]
def whoB (m : Int) (n : Nat) (L : List Tru) (i : Nat) : Bool := L.any fun t => decide (nowI t m n = (i : Int))
def noB (m : Int) (n : Nat) (L : List Tru) : Bool := L.any fun t => decide (nowI t m n < 0)
theorem whose_eq {T : Tks} {m : Int} (h : tksE T (minT m) = 0) : WhoseOut T m = ((bitsI (whoB m T.l.length (allT T)) T.l.length : Int), noB m T.l.length (allT T), 0) := by
  unfold WhoseOut
  rw [if_neg (by rw [h]; simp)]; rfl
theorem who_snoc (m : Int) (n : Nat) (L : List Tru) (t : Tru) : (∀ i, whoB m n (L ++ [t]) i = (whoB m n L i || decide (nowI t m n = (i : Int)))) ∧ noB m n (L ++ [t]) = (noB m n L || decide (nowI t m n < 0)) := by
  simp [whoB, noB]
theorem who_seen {m : Int} {n : Nat} {L : List Tru} {t : Tru} (hL : ∀ x ∈ L, ∀ i, 0 ≤ (x i).1) (ht : ∀ i, 0 ≤ (t i).1) (h : ∃ x ∈ L, ∀ i, i < n → keyT x m n i = keyT t m n i) : (∀ i, whoB m n (L ++ [t]) i = whoB m n L i) ∧ noB m n (L ++ [t]) = noB m n L := by
  obtain ⟨x, hx, hk⟩ := h
  have e := key_now (hL x hx) ht hk n (Nat.le_refl _)
  refine ⟨fun i => ?_, ?_⟩
  · rw [(who_snoc m n L t).1]
    by_cases h : nowI t m n = (i : Int)
    · rw [show whoB m n L i = true from List.any_eq_true.2 ⟨x, hx, by rw [e]; exact decide_eq_true h⟩]; rfl
    · rw [decide_eq_false h, Bool.or_false]
  · rw [(who_snoc m n L t).2]
    by_cases h : nowI t m n < 0
    · rw [show noB m n L = true from List.any_eq_true.2 ⟨x, hx, by rw [e]; exact decide_eq_true h⟩]; rfl
    · rw [decide_eq_false h, Bool.or_false]
theorem who_none {m : Int} {n : Nat} {L : List Tru} {t : Tru} (h : nowI t m n < 0) : bitsI (whoB m n (L ++ [t])) n = bitsI (whoB m n L) n ∧ noB m n (L ++ [t]) = true := by
  refine ⟨bits_congr fun i _ => ?_, by rw [(who_snoc m n L t).2, decide_eq_true h, Bool.or_true]⟩
  rw [(who_snoc m n L t).1, decide_eq_false (by omega), Bool.or_false]
theorem who_some {m : Int} {n : Nat} {L : List Tru} {t : Tru} {i : Nat} (h : nowI t m n = (i : Int)) : bitsI (whoB m n (L ++ [t])) n = bitsI (fun j => whoB m n L j || decide (j = i)) n ∧ noB m n (L ++ [t]) = noB m n L := by
  refine ⟨bits_congr fun j _ => ?_, by rw [(who_snoc m n L t).2, decide_eq_false (by omega), Bool.or_false]⟩
  rw [(who_snoc m n L t).1]
  congr 1
  exact decide_eq_decide.2 (by omega)
theorem who_any {m : Int} {n : Nat} {L : List Tru} (h : L ≠ []) : noB m n L = true ∨ ∃ i, i < n ∧ whoB m n L i = true := by
  cases L with
  | nil => exact absurd rfl h
  | cons t r =>
    have hn := now_num t m n
    by_cases h0 : nowI t m n < 0
    · exact .inl (List.any_eq_true.2 ⟨t, by simp, decide_eq_true h0⟩)
    · exact .inr ⟨(nowI t m n).toNat, by omega, List.any_eq_true.2 ⟨t, by simp, decide_eq_true (by omega)⟩⟩
theorem bits_pos (f : Nat → Bool) {n i : Nat} (hi : i < n) (hf : f i = true) : bitsI f n ≠ 0 := fun e => by
  have := (bits_has f hi).2 hf
  rw [e] at this
  simp at this
end Go.Ti
namespace Go.Proofs.YtejgofaeafphjaaGreatDoor
open Go.W Go.Ti
theorem isMinK_g (n : Int) (w : World) : Gives Tryz.prog 89 [it n] w (.bool (minT n)) := by
  unfold Gives
  refine en Tryz.func89 rfl Tryz.ntmps89 zI (g [[1],[5,0],[2,2,0]] ?_)
  refine WL.cl rfl (fun w hI => withinK_g _ _ _ _) (g [[4]] ?_)
  refine WP.ret1 rfl rfl rfl (RV.tmp rfl) (fun w hI => ⟨ret_bool (by simp [minT, inB]), hI.keep⟩)
theorem isHut_g (T : Tks) (a1 : Option Addr) (n1 c1 : Nat) (hv : tksB T = true) (n : Int) (w : World) : Gives Tryz.prog 121 [.agg #[it T.huts, .slice a1 n1 c1], it n] w (.bool (hutT T n)) := by
  unfold Gives
  have hh := (tks_num hv).1
  refine en Tryz.func121 rfl Tryz.ntmps121 zI (g [[1],[1,0,1]] ?_)
  refine WL.so (SO.box rfl rfl) rfl (zw fun b2 hb2 => ?_)
  refine g [[4],[5,4,2,1]] ?_
  refine WL.cl rfl (fun w hI => withinK_g _ _ _ _) (g [[4]] ?_)
  refine WP.ret1 rfl rfl rfl (RV.tmp rfl) (fun w hI => ⟨ret_bool (by simp [hutT, inB]), hI.keep⟩)
theorem half_g (p : Pr) (m : Int) (hp : 0 ≤ p.2 ∧ p.2 ≤ 240) (hm : 0 ≤ m ∧ m ≤ 240) (w : World) : Gives Tryz.prog 333 [prV p, it m] w (.bool (inB (m - p.2) 0 29)) := by
  unfold Gives
  refine en Tryz.func333 rfl Tryz.ntmps333 zI (g [[1],[1,0,1]] ?_)
  refine WL.so (SO.box rfl rfl) rfl (zw fun b2 hb2 => ?_)
  refine g [[4],[5,4,2,1]] ?_
  refine WL.cl rfl (fun w hI => withinK_g _ _ _ _) (g [[4]] ?_)
  refine WP.ret1 rfl rfl rfl (RV.tmp rfl) (fun w hI => ⟨rfl, hI.keep⟩)
theorem waits_g (p : Pr) (m : Int) (w : World) : Gives Tryz.prog 91 [prV p, it m] w (.bool (inB m p.1 p.2)) := by
  unfold Gives
  refine en Tryz.func91 rfl Tryz.ntmps91 zI (g [[1],[1,0,1]] ?_)
  refine WL.so (SO.box rfl rfl) rfl (zw fun b2 hb2 => ?_)
  refine g [[4],[6,4,2,1]] ?_
  refine WL.cl rfl (fun w hI => withinK_g _ _ _ _) (g [[4]] ?_)
  refine WP.ret1 rfl rfl rfl (RV.tmp rfl) (fun w hI => ⟨rfl, hI.keep⟩)
def halfB (T : Tks) (t : Tru) (hut m : Int) (i : Nat) : Bool := decide ((gt T.l i).hut = hut) && inB (m - (t i).2) 0 29
theorem used_half (T : Tks) (t : Tru) (hut m : Int) : usedB T t hut m = (List.range T.l.length).any (halfB T t hut m) := rfl
theorem used_yes {T : Tks} {t : Tru} {hut m : Int} {i : Nat} (hi : i < T.l.length) (h : halfB T t hut m i = true) : usedB T t hut m = true := by
  rw [used_half]; exact List.any_eq_true.2 ⟨i, List.mem_range.2 hi, h⟩
theorem used_no {T : Tks} {t : Tru} {hut m : Int} (h : ∀ i, i < T.l.length → halfB T t hut m i = false) : usedB T t hut m = false := by
  rw [used_half, List.any_eq_false]; intro i hi; rw [h i (List.mem_range.1 hi)]; simp
theorem freeis_g (T : Tks) (a1 : Option Addr) (n1 c1 : Nat) (q : Nat) (D : Imm) (w : World) (hO : OffAt D q T (.slice a1 n1 c1)) (hR : TksR D T a1 n1) (hH : Holds D w) (hv : tksB T = true) (t : Tru) (ht : okTr t) (hut m : Int) (hm : 0 ≤ m ∧ m ≤ 240) : Gives Tryz.prog 337 [.agg #[it hut, it m], pt q, truV t] w (.bool (!usedB T t hut m)) := by
  unfold Gives
  obtain rfl := hR.tick.len'
  have hl1 := hR.len
  have h5 := (tks_num hv).2.1
  obtain ⟨a3, c3, hq, hS3, hc3⟩ := hO
  refine en Tryz.func337 rfl Tryz.ntmps337 (Inv.start hH) (g [[1],[1,0,1,2]] ?_)
  refine WL.so (SO.box rfl rfl) rfl (zw fun b3 hb3 => ?_)
  refine WL.so (SO.box rfl rfl) rfl (zw fun b5 hb5 => ?_)
  refine g [[5],[11,6,5,3,1]] ?_
  refine WC.loopF (fun k : Nat => [(3, pt b3), (5, pt b5), (13, .slice a1 T.l.length c1), (14, nt T.l.length), (15, nt k)]) (fun k => k ≤ T.l.length ∧ ∀ i, i < k → halfB T t hut m i = false) (fun k => T.l.length - k) 0 ⟨by omega, by intro i hi; omega⟩ (by exact ⟨rfl, rfl, rfl, rfl, rfl, trivial⟩) ?_
  intro k ⟨hk, hd⟩
  refine g [[1],[5,3,5,13,14,15]] ?_
  refine WC.cond rfl (fun c16 => ?_) (fun c16 => ?_)
  · try simp only [zq] at c16
    have hkl : k < T.l.length := by omega
    have hk5 : k < 5 := by omega
    have hhb : halfB T t hut m k = (decide ((gt T.l k).hut = hut) && inB (m - (t k).2) 0 29) := rfl
    refine g [[5],[2,3,5,13,14,15]] ?_
    refine WL.yd (Yd.ix rfl rfl (hR.tick.addr k (by omega))) rfl (WL.yd (Yd.lV [_, _, _, _, _] rfl ((hR.tick.at k (by omega)).rdn 0 5 rfl)) rfl ?_)
    refine WL.so (SO.alloc ZvF.h rfl) rfl (zw fun b8 hb8 => ?_)
    refine g [[5],[0,7,8,3,5,13,14,15],[3011],[6]] ?_
    refine WQ.part 25 rfl (fun g25 => ?_) (fun g25 => ?_)
    · try simp only [zq] at g25
      refine g [[1]] ?_
      refine WQ.qg rfl rfl (Yd.qt (Yd.indexA UnF.h SzF.h rfl rfl (by omega) (by omega))) rfl (WQ.qg rfl rfl (Yd.qt (Yd.lV [_, _] rfl (RdN.own (k := 1) (n := 2) rfl (tru_rdn t hk5)))) rfl (g [[3]] ?_))
      first | refine WL.know 28 (prV (t k)) rfl rfl ?_ | skip
      refine WL.sog rfl (SO.callP CaF.h rfl (fun w hI => half_g (t k) m (ht k).2 hm _)) rfl (zs (g [[3]] ?_))
      refine WC.cond rfl (fun c32 => ?_) (fun c32 => ?_)
      · try simp only [zq] at c32
        refine g [[1],[10,3,5,13,14,15]] ?_
        refine WP.ret1 rfl rfl rfl (RV.tmp rfl) (fun w hI => ⟨ret_bool (by rw [used_yes hkl (by rw [hhb]; simp_all)]; rfl), hI.keep⟩)
      try simp only [zq] at c32
      refine g [[3],[4,3,5,13,14,15]] ?_
      exact WP.againF (k + 1) ⟨by omega, ext_roundN hd (by rw [hhb]; simp_all)⟩ (by omega) ⟨rfl, rfl, rfl, rfl, rfl, trivial⟩ (fun _ h => List.mem_cons_of_mem _ h) (fun h => (List.nodup_cons.1 h).2)
    try simp only [zq] at g25
    refine g [[6]] ?_
    first | refine WL.know 28 (prV (t k)) rfl rfl ?_ | skip
    refine g [[8],[4,3,5,13,14,15]] ?_
    exact WP.againF (k + 1) ⟨by omega, ext_roundN hd (by rw [hhb]; simp_all)⟩ (by omega) ⟨rfl, rfl, rfl, rfl, rfl, trivial⟩ (fun _ h => List.mem_cons_of_mem _ h) (fun h => (List.nodup_cons.1 h).2)
  try simp only [zq] at c16
  obtain rfl : k = T.l.length := by omega
  refine g [[6]] ?_
  refine WC.ofFr [] trivial (g [[5]] ?_)
  refine WP.ret1 rfl rfl rfl (RV.tmp rfl) (fun w hI => ⟨ret_bool (by rw [used_no hd]; rfl), hI.keep⟩)
end Go.Proofs.YtejgofaeafphjaaGreatDoor
namespace Go.Proofs.YtejgofaeafphjaaGreatDoor
open Go.W Go.Ti
theorem SA186 : StructAt Tryz.prog 186 [.int .i64 0, .int .i64 0] [(0, 1), (1, 1)] := ⟨⟨_, Tryz.zeroValue186, rfl⟩, _, Tryz.underlying186, fun w => by simp [Tryz.sizeOf3]⟩
@[reducible, instance] def ISA186 := SaF.mk SA186
theorem askF_ok (T : Tks) (a1 : Option Addr) (n1 c1 : Nat) (q : Nat) (D : Imm) (w : World) (hO : OffAt D q T (.slice a1 n1 c1)) (hR : TksR D T a1 n1) (hH : Holds D w) (hv : tksB T = true) (hut m : Int) (hm : 0 ≤ m ∧ m ≤ 240) (hne : allT T ≠ []) : Gives Tryz.prog 118 [pt q, .iface 186 (.agg #[it hut, it m])] w (.agg #[.bool ((allT T).any (fun t => !usedB T t hut m)), .bool ((allT T).any (fun t => !!usedB T t hut m))]) := by
  unfold Gives
  obtain rfl := hR.tick.len'
  have hl1 := hR.len
  refine enM Tryz.func118 rfl Tryz.ntmps118 (Inv.start hH) (g [[1],[1,0,1]] ?_)
  refine WL.so (SO.box rfl rfl) rfl (zw fun b2 hb2 => ?_)
  refine WL.so (SO.box rfl rfl) rfl (zw fun b3 hb3 => ?_)
  refine WL.so (SO.alloc ZvF.h rfl) rfl (zw fun b4 hb4 => ?_)
  refine g [[4],[2,4,3,2]] ?_
  refine WL.so (SO.makes (Enters.func Tryz.call90 rfl) (fun w hI => truths_g q D _ hI.imm)) rfl ?_
  rintro _ D1 _ ⟨hX1, ⟨bt, rfl, hbt⟩, rfl⟩
  replace hO := hO.ext hX1
  replace hR := hR.ext hX1
  refine g [[3],[0,2,3,4,8]] ?_
  refine WC.rangeIterN (N := (allT T).length) (arg := fun k => truV (gt (allT T) k)) (fun w1 _ hD1 => truths1_iter T a1 _ c1 q bt D1 w1 hO hR hbt hv hD1) rfl Tryz.call177 rfl (fun k _ h => h = [(b4, .cells (List.toArray [.bool (((allT T).take k).any (fun t => !usedB T t hut m)), .bool (((allT T).take k).any (fun t => !!usedB T t hut m))]) 178 (0, 0)), (b3, .cells (List.toArray [.iface 186 (.agg #[it hut, it m])]) 274 (0, 0)), (b2, .cells (List.toArray [pt q]) 141 (0, 0))]) (fun c _ h => c = .ret ∧ h = [(b4, .cells (List.toArray [.bool ((allT T).any (fun t => !usedB T t hut m)), .bool ((allT T).any (fun t => !!usedB T t hut m))]) 178 (0, 0)), (b3, .cells (List.toArray [.iface 186 (.agg #[it hut, it m])]) 274 (0, 0)), (b2, .cells (List.toArray [pt q]) 141 (0, 0))] ∧ allT T ≠ []) (fun _ _ _ _ _ h => h) rfl ?_ ?_ ?_
  · rintro rec1 l1 Dn0 k D5 _ w1 hrec hk rfl hX5 hsz
    unfold RoundGN
    replace hO := hO.ext hX5
    replace hR := hR.ext hX5
    refine g [[1,9,2,3,4]] ?_
    refine WLF.so (zn rfl) (SO.alloc ZvF.h rfl) rfl (zw fun b5 hb5 => ?_)
    refine g [[2]] ?_
    refine WP.iterBegin 1 rfl hrec (g [[2],[4,5,2,3,4]] ?_)
    refine WLF.so (zn rfl) (SO.call (Enters.meth CaF.h (fun w => by kernel_rfl) rfl rfl) (fun w hI => freeis_g T a1 _ c1 q D5 _ hO hR hI.imm hv (gt (allT T) k) (okTr_mem hv (gt_mem hk)) hut m hm)) rfl (zs (g [[4],[4,6,4]] ?_))
    refine WLF.part 16 rfl (fun g16 => ?_) (fun g16 => ?_)
    · try simp only [zq] at g16
      refine g [[5]] ?_
      refine WLF.part 21 rfl (fun g21 => ?_) (fun g21 => ?_)
      · try simp only [zq] at g21
        refine g [[8],[3,4]] ?_
        refine WLF.yd (zn rfl) (Yd.eqS EgF.h (eqVd _ _ _ _) rfl rfl) rfl (g [[2]] ?_)
        refine WCF.cond rfl (fun c28 => ?_) (fun c28 => ?_)
        · try simp only [zq] at c28
          refine g [[1],[7,4]] ?_
          have hA : (allT T).any (fun t => !usedB T t hut m) = true := any_of_take (k := k + 1) (by rw [any_take hk]; simp_all)
          have hN : (allT T).any (fun t => !!usedB T t hut m) = true := any_of_take (k := k + 1) (by rw [any_take hk]; simp_all)
          refine WP.iterRetN (h1 := [_, _, _]) (fun _ h => List.mem_cons_of_mem _ h) (fun h => (List.nodup_cons.1 h).2) (DExt.refl _ _) ⟨rfl, ?_, List.ne_nil_of_length_pos (by omega)⟩
          rw [hA, hN]
          first
            | rfl
            | (exfalso; revert c28; cases (usedB T (gt (allT T) k) hut m) <;> simp; done)
            | (have e : (usedB T (gt (allT T) k) hut m) = true := by simp_all
               rw [e]; rfl)
            | (have e : (usedB T (gt (allT T) k) hut m) = false := by simp_all
               rw [e]; rfl)
        try simp only [zq] at c28
        refine g [[2]] ?_
        refine WP.iterOnN hrec (h1 := [_, _, _]) (fun _ h => List.mem_cons_of_mem _ h) (fun h => (List.nodup_cons.1 h).2) (DExt.refl _ _) ?_
        rw [any_take hk, any_take hk, g16, g21]
        rfl
      try simp only [zq] at g21
      refine g [[8],[3,4]] ?_
      refine WLF.yd (zn rfl) (Yd.eqS EgF.h (eqVd _ _ _ _) rfl rfl) rfl (g [[2]] ?_)
      refine WCF.cond rfl (fun c28 => ?_) (fun c28 => ?_)
      · try simp only [zq] at c28
        refine g [[1],[7,4]] ?_
        have hA : (allT T).any (fun t => !usedB T t hut m) = true := any_of_take (k := k + 1) (by rw [any_take hk]; simp_all)
        have hN : (allT T).any (fun t => !!usedB T t hut m) = true := any_of_take (k := k + 1) (by rw [any_take hk]; simp_all)
        refine WP.iterRetN (h1 := [_, _, _]) (fun _ h => List.mem_cons_of_mem _ h) (fun h => (List.nodup_cons.1 h).2) (DExt.refl _ _) ⟨rfl, ?_, List.ne_nil_of_length_pos (by omega)⟩
        rw [hA, hN]
        first
          | rfl
          | (exfalso; revert c28; cases (usedB T (gt (allT T) k) hut m) <;> simp; done)
          | (have e : (usedB T (gt (allT T) k) hut m) = true := by simp_all
             rw [e]; rfl)
          | (have e : (usedB T (gt (allT T) k) hut m) = false := by simp_all
             rw [e]; rfl)
      try simp only [zq] at c28
      refine g [[2]] ?_
      refine WP.iterOnN hrec (h1 := [_, _, _]) (fun _ h => List.mem_cons_of_mem _ h) (fun h => (List.nodup_cons.1 h).2) (DExt.refl _ _) ?_
      rw [any_take hk, any_take hk, g16, g21]
      rfl
    try simp only [zq] at g16
    refine g [[5]] ?_
    refine WLF.part 21 rfl (fun g21 => ?_) (fun g21 => ?_)
    · try simp only [zq] at g21
      refine g [[8],[3,4]] ?_
      refine WLF.yd (zn rfl) (Yd.eqS EgF.h (eqVd _ _ _ _) rfl rfl) rfl (g [[2]] ?_)
      refine WCF.cond rfl (fun c28 => ?_) (fun c28 => ?_)
      · try simp only [zq] at c28
        refine g [[1],[7,4]] ?_
        have hA : (allT T).any (fun t => !usedB T t hut m) = true := any_of_take (k := k + 1) (by rw [any_take hk]; simp_all)
        have hN : (allT T).any (fun t => !!usedB T t hut m) = true := any_of_take (k := k + 1) (by rw [any_take hk]; simp_all)
        refine WP.iterRetN (h1 := [_, _, _]) (fun _ h => List.mem_cons_of_mem _ h) (fun h => (List.nodup_cons.1 h).2) (DExt.refl _ _) ⟨rfl, ?_, List.ne_nil_of_length_pos (by omega)⟩
        rw [hA, hN]
        first
          | rfl
          | (exfalso; revert c28; cases (usedB T (gt (allT T) k) hut m) <;> simp; done)
          | (have e : (usedB T (gt (allT T) k) hut m) = true := by simp_all
             rw [e]; rfl)
          | (have e : (usedB T (gt (allT T) k) hut m) = false := by simp_all
             rw [e]; rfl)
      try simp only [zq] at c28
      refine g [[2]] ?_
      refine WP.iterOnN hrec (h1 := [_, _, _]) (fun _ h => List.mem_cons_of_mem _ h) (fun h => (List.nodup_cons.1 h).2) (DExt.refl _ _) ?_
      rw [any_take hk, any_take hk, g16, g21]
      rfl
    try simp only [zq] at g21
    refine g [[8],[3,4]] ?_
    refine WLF.yd (zn rfl) (Yd.eqS EgF.h (eqVd _ _ _ _) rfl rfl) rfl (g [[2]] ?_)
    refine WCF.cond rfl (fun c28 => ?_) (fun c28 => ?_)
    · try simp only [zq] at c28
      refine g [[1],[7,4]] ?_
      have hA : (allT T).any (fun t => !usedB T t hut m) = true := any_of_take (k := k + 1) (by rw [any_take hk]; simp_all)
      have hN : (allT T).any (fun t => !!usedB T t hut m) = true := any_of_take (k := k + 1) (by rw [any_take hk]; simp_all)
      refine WP.iterRetN (h1 := [_, _, _]) (fun _ h => List.mem_cons_of_mem _ h) (fun h => (List.nodup_cons.1 h).2) (DExt.refl _ _) ⟨rfl, ?_, List.ne_nil_of_length_pos (by omega)⟩
      rw [hA, hN]
      first
        | rfl
        | (exfalso; revert c28; cases (usedB T (gt (allT T) k) hut m) <;> simp; done)
        | (have e : (usedB T (gt (allT T) k) hut m) = true := by simp_all
           rw [e]; rfl)
        | (have e : (usedB T (gt (allT T) k) hut m) = false := by simp_all
           rw [e]; rfl)
    try simp only [zq] at c28
    refine g [[2]] ?_
    refine WP.iterOnN hrec (h1 := [_, _, _]) (fun _ h => List.mem_cons_of_mem _ h) (fun h => (List.nodup_cons.1 h).2) (DExt.refl _ _) ?_
    rw [any_take hk, any_take hk, g16, g21]
    rfl
  · rintro Dn1 D6 _ hDn1 hX6 rfl
    rw [List.take_length]
    refine g [[3],[4,4]] ?_
    refine WL.part 32 rfl (fun g32 => ?_) (fun g32 => ?_)
    · try simp only [zq] at g32
      refine g [[3]] ?_
      refine WL.cl rfl (fun w hI => mustK_ok _ _) (g [[3],[6,4]] ?_)
      refine WP.retMs [Dn1] [_, _, _] [_] [_] rfl rfl (fun _ h => h) (fun h => h) rfl zV (fun w hI => ⟨rfl, hI.keep⟩)
    try simp only [zq] at g32
    refine g [[3]] ?_
    refine WL.part 35 rfl (fun g35 => ?_) (fun g35 => ?_)
    · try simp only [zq] at g35
      refine WL.cl rfl (fun w hI => mustK_ok _ _) (g [[3],[6,4]] ?_)
      refine WP.retMs [Dn1] [_, _, _] [_] [_] rfl rfl (fun _ h => h) (fun h => h) rfl zV (fun w hI => ⟨rfl, hI.keep⟩)
    try simp only [zq] at g35
    exact (any_split hne g32 g35).elim
  rintro Dn1 c D6 _ hDn1 hX6 ⟨rfl, rfl, hne2⟩
  refine g [[3]] ?_
  refine WP.retMs [Dn1] [_, _, _] [_] [_] rfl rfl (fun _ h => h) (fun h => h) rfl zV (fun w hI => ⟨rfl, hI.keep⟩)
theorem askF_no (T : Tks) (a1 : Option Addr) (n1 c1 : Nat) (q : Nat) (D : Imm) (w : World) (hO : OffAt D q T (.slice a1 n1 c1)) (hR : TksR D T a1 n1) (hH : Holds D w) (hv : tksB T = true) (hut m : Int) (hm : 0 ≤ m ∧ m ≤ 240) (hne : allT T = []) : Fails Tryz.prog 118 [pt q, .iface 186 (.agg #[it hut, it m])] w (stopK 10) := by
  unfold Fails
  obtain rfl := hR.tick.len'
  have hl1 := hR.len
  refine enM Tryz.func118 rfl Tryz.ntmps118 (Inv.start hH) (g [[1],[1,0,1]] ?_)
  refine WL.so (SO.box rfl rfl) rfl (zw fun b2 hb2 => ?_)
  refine WL.so (SO.box rfl rfl) rfl (zw fun b3 hb3 => ?_)
  refine WL.so (SO.alloc ZvF.h rfl) rfl (zw fun b4 hb4 => ?_)
  refine g [[4],[2,4,3,2]] ?_
  refine WL.so (SO.makes (Enters.func Tryz.call90 rfl) (fun w hI => truths_g q D _ hI.imm)) rfl ?_
  rintro _ D1 _ ⟨hX1, ⟨bt, rfl, hbt⟩, rfl⟩
  replace hO := hO.ext hX1
  replace hR := hR.ext hX1
  refine g [[3],[0,2,3,4,8]] ?_
  refine WC.rangeIterN (N := (allT T).length) (arg := fun k => truV (gt (allT T) k)) (fun w1 _ hD1 => truths1_iter T a1 _ c1 q bt D1 w1 hO hR hbt hv hD1) rfl Tryz.call177 rfl (fun k _ h => h = [(b4, .cells (List.toArray [.bool (((allT T).take k).any (fun t => !usedB T t hut m)), .bool (((allT T).take k).any (fun t => !!usedB T t hut m))]) 178 (0, 0)), (b3, .cells (List.toArray [.iface 186 (.agg #[it hut, it m])]) 274 (0, 0)), (b2, .cells (List.toArray [pt q]) 141 (0, 0))]) (fun c _ h => c = .ret ∧ h = [(b4, .cells (List.toArray [.bool ((allT T).any (fun t => !usedB T t hut m)), .bool ((allT T).any (fun t => !!usedB T t hut m))]) 178 (0, 0)), (b3, .cells (List.toArray [.iface 186 (.agg #[it hut, it m])]) 274 (0, 0)), (b2, .cells (List.toArray [pt q]) 141 (0, 0))] ∧ allT T ≠ []) (fun _ _ _ _ _ h => h) rfl ?_ ?_ ?_
  · rintro rec1 l1 Dn0 k D5 _ w1 hrec hk rfl hX5 hsz
    unfold RoundGN
    replace hO := hO.ext hX5
    replace hR := hR.ext hX5
    refine g [[1,9,2,3,4]] ?_
    refine WLF.so (zn rfl) (SO.alloc ZvF.h rfl) rfl (zw fun b5 hb5 => ?_)
    refine g [[2]] ?_
    refine WP.iterBegin 1 rfl hrec (g [[2],[4,5,2,3,4]] ?_)
    refine WLF.so (zn rfl) (SO.call (Enters.meth CaF.h (fun w => by kernel_rfl) rfl rfl) (fun w hI => freeis_g T a1 _ c1 q D5 _ hO hR hI.imm hv (gt (allT T) k) (okTr_mem hv (gt_mem hk)) hut m hm)) rfl (zs (g [[4],[4,6,4]] ?_))
    refine WLF.part 16 rfl (fun g16 => ?_) (fun g16 => ?_)
    · try simp only [zq] at g16
      refine g [[5]] ?_
      refine WLF.part 21 rfl (fun g21 => ?_) (fun g21 => ?_)
      · try simp only [zq] at g21
        refine g [[8],[3,4]] ?_
        refine WLF.yd (zn rfl) (Yd.eqS EgF.h (eqVd _ _ _ _) rfl rfl) rfl (g [[2]] ?_)
        refine WCF.cond rfl (fun c28 => ?_) (fun c28 => ?_)
        · try simp only [zq] at c28
          refine g [[1],[7,4]] ?_
          have hA : (allT T).any (fun t => !usedB T t hut m) = true := any_of_take (k := k + 1) (by rw [any_take hk]; simp_all)
          have hN : (allT T).any (fun t => !!usedB T t hut m) = true := any_of_take (k := k + 1) (by rw [any_take hk]; simp_all)
          refine WP.iterRetN (h1 := [_, _, _]) (fun _ h => List.mem_cons_of_mem _ h) (fun h => (List.nodup_cons.1 h).2) (DExt.refl _ _) ⟨rfl, ?_, List.ne_nil_of_length_pos (by omega)⟩
          rw [hA, hN]
          first
            | rfl
            | (exfalso; revert c28; cases (usedB T (gt (allT T) k) hut m) <;> simp; done)
            | (have e : (usedB T (gt (allT T) k) hut m) = true := by simp_all
               rw [e]; rfl)
            | (have e : (usedB T (gt (allT T) k) hut m) = false := by simp_all
               rw [e]; rfl)
        try simp only [zq] at c28
        refine g [[2]] ?_
        refine WP.iterOnN hrec (h1 := [_, _, _]) (fun _ h => List.mem_cons_of_mem _ h) (fun h => (List.nodup_cons.1 h).2) (DExt.refl _ _) ?_
        rw [any_take hk, any_take hk, g16, g21]
        rfl
      try simp only [zq] at g21
      refine g [[8],[3,4]] ?_
      refine WLF.yd (zn rfl) (Yd.eqS EgF.h (eqVd _ _ _ _) rfl rfl) rfl (g [[2]] ?_)
      refine WCF.cond rfl (fun c28 => ?_) (fun c28 => ?_)
      · try simp only [zq] at c28
        refine g [[1],[7,4]] ?_
        have hA : (allT T).any (fun t => !usedB T t hut m) = true := any_of_take (k := k + 1) (by rw [any_take hk]; simp_all)
        have hN : (allT T).any (fun t => !!usedB T t hut m) = true := any_of_take (k := k + 1) (by rw [any_take hk]; simp_all)
        refine WP.iterRetN (h1 := [_, _, _]) (fun _ h => List.mem_cons_of_mem _ h) (fun h => (List.nodup_cons.1 h).2) (DExt.refl _ _) ⟨rfl, ?_, List.ne_nil_of_length_pos (by omega)⟩
        rw [hA, hN]
        first
          | rfl
          | (exfalso; revert c28; cases (usedB T (gt (allT T) k) hut m) <;> simp; done)
          | (have e : (usedB T (gt (allT T) k) hut m) = true := by simp_all
             rw [e]; rfl)
          | (have e : (usedB T (gt (allT T) k) hut m) = false := by simp_all
             rw [e]; rfl)
      try simp only [zq] at c28
      refine g [[2]] ?_
      refine WP.iterOnN hrec (h1 := [_, _, _]) (fun _ h => List.mem_cons_of_mem _ h) (fun h => (List.nodup_cons.1 h).2) (DExt.refl _ _) ?_
      rw [any_take hk, any_take hk, g16, g21]
      rfl
    try simp only [zq] at g16
    refine g [[5]] ?_
    refine WLF.part 21 rfl (fun g21 => ?_) (fun g21 => ?_)
    · try simp only [zq] at g21
      refine g [[8],[3,4]] ?_
      refine WLF.yd (zn rfl) (Yd.eqS EgF.h (eqVd _ _ _ _) rfl rfl) rfl (g [[2]] ?_)
      refine WCF.cond rfl (fun c28 => ?_) (fun c28 => ?_)
      · try simp only [zq] at c28
        refine g [[1],[7,4]] ?_
        have hA : (allT T).any (fun t => !usedB T t hut m) = true := any_of_take (k := k + 1) (by rw [any_take hk]; simp_all)
        have hN : (allT T).any (fun t => !!usedB T t hut m) = true := any_of_take (k := k + 1) (by rw [any_take hk]; simp_all)
        refine WP.iterRetN (h1 := [_, _, _]) (fun _ h => List.mem_cons_of_mem _ h) (fun h => (List.nodup_cons.1 h).2) (DExt.refl _ _) ⟨rfl, ?_, List.ne_nil_of_length_pos (by omega)⟩
        rw [hA, hN]
        first
          | rfl
          | (exfalso; revert c28; cases (usedB T (gt (allT T) k) hut m) <;> simp; done)
          | (have e : (usedB T (gt (allT T) k) hut m) = true := by simp_all
             rw [e]; rfl)
          | (have e : (usedB T (gt (allT T) k) hut m) = false := by simp_all
             rw [e]; rfl)
      try simp only [zq] at c28
      refine g [[2]] ?_
      refine WP.iterOnN hrec (h1 := [_, _, _]) (fun _ h => List.mem_cons_of_mem _ h) (fun h => (List.nodup_cons.1 h).2) (DExt.refl _ _) ?_
      rw [any_take hk, any_take hk, g16, g21]
      rfl
    try simp only [zq] at g21
    refine g [[8],[3,4]] ?_
    refine WLF.yd (zn rfl) (Yd.eqS EgF.h (eqVd _ _ _ _) rfl rfl) rfl (g [[2]] ?_)
    refine WCF.cond rfl (fun c28 => ?_) (fun c28 => ?_)
    · try simp only [zq] at c28
      refine g [[1],[7,4]] ?_
      have hA : (allT T).any (fun t => !usedB T t hut m) = true := any_of_take (k := k + 1) (by rw [any_take hk]; simp_all)
      have hN : (allT T).any (fun t => !!usedB T t hut m) = true := any_of_take (k := k + 1) (by rw [any_take hk]; simp_all)
      refine WP.iterRetN (h1 := [_, _, _]) (fun _ h => List.mem_cons_of_mem _ h) (fun h => (List.nodup_cons.1 h).2) (DExt.refl _ _) ⟨rfl, ?_, List.ne_nil_of_length_pos (by omega)⟩
      rw [hA, hN]
      first
        | rfl
        | (exfalso; revert c28; cases (usedB T (gt (allT T) k) hut m) <;> simp; done)
        | (have e : (usedB T (gt (allT T) k) hut m) = true := by simp_all
           rw [e]; rfl)
        | (have e : (usedB T (gt (allT T) k) hut m) = false := by simp_all
           rw [e]; rfl)
    try simp only [zq] at c28
    refine g [[2]] ?_
    refine WP.iterOnN hrec (h1 := [_, _, _]) (fun _ h => List.mem_cons_of_mem _ h) (fun h => (List.nodup_cons.1 h).2) (DExt.refl _ _) ?_
    rw [any_take hk, any_take hk, g16, g21]
    rfl
  · rintro Dn1 D6 _ hDn1 hX6 rfl
    rw [List.take_length]
    refine g [[3],[4,4]] ?_
    refine WL.part 32 rfl (fun g32 => ?_) (fun g32 => ?_)
    · try simp only [zq] at g32
      rw [hne] at g32; cases g32
    try simp only [zq] at g32
    refine g [[3]] ?_
    refine WL.part 35 rfl (fun g35 => ?_) (fun g35 => ?_)
    · try simp only [zq] at g35
      rw [hne] at g35; cases g35
    try simp only [zq] at g35
    refine WL.nf rfl (fun w hI => mustK_no _ _) (g [[1]] ?_)
    exact WP.panicMs [Dn1] [_, _, _] rfl (fun _ h => h) (fun h => h) (fun w hI => ⟨rfl, hI.keep⟩)
  rintro Dn1 c D6 _ hDn1 hX6 ⟨rfl, rfl, hne2⟩
  exact absurd hne hne2
theorem Free_2 (T : Tks) (a1 : Option Addr) (n1 c1 : Nat) (D : Imm) (w : World) (hR : TksR D T a1 n1) (hH : Holds D w) (hv : tksB T = true) (hut m : Int) (hw : (hutT T hut && minT m) = false) : Gives Tryz.prog 46 [.agg #[it T.huts, .slice a1 n1 c1], it hut, it m] w (.tuple #[it (FreeOut T hut m).1, it (FreeOut T hut m).2]) := by
  unfold Gives
  obtain rfl := hR.tick.len'
  have hl1 := hR.len
  have hE : tksE T (hutT T hut && minT m) = 2 := by
    unfold tksE
    rw [if_neg (by rw [hv]; simp), if_pos hw]
  have hO0 : FreeOut T hut m = (0, 2) := by unfold FreeOut; rw [if_pos (by rw [hE]; simp), hE]
  refine enD Tryz.func46 rfl Tryz.ntmps46 (Inv.start hH) (g [[1],[1,0,1,2]] ?_)
  refine WL.so (SO.box rfl rfl) rfl (zw fun b3 hb3 => ?_)
  refine g [[1]] ?_
  refine WL.so (SO.alloc ZvF.h rfl) rfl (zw fun b7 hb7 => ?_)
  refine g [[3],[2,7,6,3,1,2]] ?_
  refine WL.defer rfl (g [[3],[0,7,6,3,1,2]] ?_)
  refine WC.drawP [(b3, boxT T (.slice a1 T.l.length c1))] (pz [1,3,5,19,21,23,25,6,9,11,12,15,16,26,28,30,32]) zk zk zX (fun _ hI => hI.tail) (g [[7]] ?_)
  refine WA.so rfl (SO.callP CaF.h rfl (fun w hI => isHut_g T a1 _ c1 hv _ _)) rfl ?_
  rintro _ _ _ ⟨rfl, rfl, rfl⟩
  refine ⟨fun _ hI => hI.tail, ?_⟩
  refine g [[1]] ?_
  refine WA.part 13 rfl (fun g13 => ?_) (fun g13 => ?_)
  · try simp only [zq] at g13
    refine g [[1]] ?_
    refine WA.sog rfl rfl (SO.callP CaF.h rfl (fun w hI => isMinK_g _ _)) rfl ?_
    rintro _ _ _ ⟨rfl, rfl, rfl⟩
    refine ⟨fun _ hI => hI.tail, ?_⟩
    refine g [[1]] ?_
    refine WA.know 16 (.bool false) rfl (congrArg Value.bool (by simp_all)) ?_
    refine WA.no rfl (SO.fail (Enters.func CaF.h rfl) (fun w hI => open_2 T a1 _ c1 D _ hR hI.imm hv) (g [[1]] ?_))
    refine WP.panicD (k := 0) [_, _] [_, _] rfl CaF.h rfl (fun w hI => catch120 _ _ _ _ _ (hI.own _ _ (List.mem_of_getElem? (i := 0) rfl))) rfl zV (fun w hI => ⟨congrArg Ending.returned (by rw [hO0]; rfl), hI.keep⟩)
  try simp only [zq] at g13
  refine g [[3]] ?_
  refine WA.no rfl (SO.fail (Enters.func CaF.h rfl) (fun w hI => open_2 T a1 _ c1 D _ hR hI.imm hv) (g [[1]] ?_))
  refine WP.panicD (k := 0) [_, _] [_, _] rfl CaF.h rfl (fun w hI => catch120 _ _ _ _ _ (hI.own _ _ (List.mem_of_getElem? (i := 0) rfl))) rfl zV (fun w hI => ⟨congrArg Ending.returned (by rw [hO0]; rfl), hI.keep⟩)
theorem Free_3 (T : Tks) (a1 : Option Addr) (n1 c1 : Nat) (D : Imm) (w : World) (hR : TksR D T a1 n1) (hH : Holds D w) (hv : tksB T = true) (hut m : Int) (hw : (hutT T hut && minT m) = true) (hne : allT T = []) : Gives Tryz.prog 46 [.agg #[it T.huts, .slice a1 n1 c1], it hut, it m] w (.tuple #[it (FreeOut T hut m).1, it (FreeOut T hut m).2]) := by
  unfold Gives
  obtain rfl := hR.tick.len'
  have hl1 := hR.len
  have hE : tksE T (hutT T hut && minT m) = 10 := by
    unfold tksE
    rw [if_neg (by rw [hv]; simp), if_neg (by rw [hw]; simp), if_pos (by rw [hne]; rfl)]
  have hO0 : FreeOut T hut m = (0, 10) := by unfold FreeOut; rw [if_pos (by rw [hE]; simp), hE]
  have hm2 : 0 ≤ m ∧ m ≤ 240 := by simp only [Bool.and_eq_true] at hw; exact of_decide_eq_true hw.2
  refine enD Tryz.func46 rfl Tryz.ntmps46 (Inv.start hH) (g [[1],[1,0,1,2]] ?_)
  refine WL.so (SO.box rfl rfl) rfl (zw fun b3 hb3 => ?_)
  refine g [[1]] ?_
  refine WL.so (SO.alloc ZvF.h rfl) rfl (zw fun b7 hb7 => ?_)
  refine g [[3],[2,7,6,3,1,2]] ?_
  refine WL.defer rfl (g [[3],[0,7,6,3,1,2]] ?_)
  refine WC.drawP [(b3, boxT T (.slice a1 T.l.length c1))] (pz [1,3,5,19,21,23,25,6,9,11,12,15,16,26,28,30,32]) zk zk zX (fun _ hI => hI.tail) (g [[7]] ?_)
  refine WA.so rfl (SO.callP CaF.h rfl (fun w hI => isHut_g T a1 _ c1 hv _ _)) rfl ?_
  rintro _ _ _ ⟨rfl, rfl, rfl⟩
  refine ⟨fun _ hI => hI.tail, ?_⟩
  refine g [[1]] ?_
  refine WA.part 13 rfl (fun g13 => ?_) (fun g13 => ?_)
  · try simp only [zq] at g13
    refine g [[1]] ?_
    refine WA.sog rfl rfl (SO.callP CaF.h rfl (fun w hI => isMinK_g _ _)) rfl ?_
    rintro _ _ _ ⟨rfl, rfl, rfl⟩
    refine ⟨fun _ hI => hI.tail, ?_⟩
    refine g [[1]] ?_
    refine WA.know 16 (.bool true) rfl (congrArg Value.bool (by simp_all)) ?_
    refine WA.so rfl (SO.makes (Enters.func Tryz.call88 rfl) (fun w hI => open_ok T a1 _ c1 D _ hR hI.imm hv)) rfl ?_
    rintro _ D2 _ ⟨hX2, ⟨bq, rfl, hO⟩, rfl⟩
    have hR2 := hR.ext hX2
    refine ⟨fun _ hI => hI.tail.shrink hX2.old, ?_⟩
    refine WA.no rfl (SO.fail (Enters.func CaF.h rfl) (fun w hI => askF_no T a1 _ c1 bq D2 _ hO hR2 hI.imm hv hut m hm2 hne) (g [[1]] ?_))
    refine WP.panicD (k := 0) [_, _] [_, _] rfl CaF.h rfl (fun w hI => catch120 _ _ _ _ _ (hI.own _ _ (List.mem_of_getElem? (i := 0) rfl))) rfl zV (fun w hI => ⟨congrArg Ending.returned (by rw [hO0]; rfl), hI.keep⟩)
  try simp only [zq] at g13
  simp_all
theorem Free_ok (T : Tks) (a1 : Option Addr) (n1 c1 : Nat) (D : Imm) (w : World) (hR : TksR D T a1 n1) (hH : Holds D w) (hv : tksB T = true) (hut m : Int) (hw : (hutT T hut && minT m) = true) (hne : allT T ≠ []) : Gives Tryz.prog 46 [.agg #[it T.huts, .slice a1 n1 c1], it hut, it m] w (.tuple #[it (FreeOut T hut m).1, it (FreeOut T hut m).2]) := by
  unfold Gives
  obtain rfl := hR.tick.len'
  have hl1 := hR.len
  have hE : tksE T (hutT T hut && minT m) = 0 := by
    unfold tksE
    rw [if_neg (by rw [hv]; simp), if_neg (by rw [hw]; simp), if_neg (by rw [List.isEmpty_iff]; exact hne)]
  have hO0 : FreeOut T hut m = (gradeI ((allT T).any fun t => !usedB T t hut m) ((allT T).any fun t => usedB T t hut m), 0) := by unfold FreeOut; rw [if_neg (by rw [hE]; simp)]
  have hm2 : 0 ≤ m ∧ m ≤ 240 := by simp only [Bool.and_eq_true] at hw; exact of_decide_eq_true hw.2
  refine enD Tryz.func46 rfl Tryz.ntmps46 (Inv.start hH) (g [[1],[1,0,1,2]] ?_)
  refine WL.so (SO.box rfl rfl) rfl (zw fun b3 hb3 => ?_)
  refine g [[1]] ?_
  refine WL.so (SO.alloc ZvF.h rfl) rfl (zw fun b7 hb7 => ?_)
  refine g [[3],[2,7,6,3,1,2]] ?_
  refine WL.defer rfl (g [[3],[0,7,6,3,1,2]] ?_)
  refine WC.drawP [(b3, boxT T (.slice a1 T.l.length c1))] (pz [1,3,5,19,21,23,25,6,9,11,12,15,16,26,28,30,32]) zk zk zX (fun _ hI => hI.tail) (g [[7]] ?_)
  refine WA.so rfl (SO.callP CaF.h rfl (fun w hI => isHut_g T a1 _ c1 hv _ _)) rfl ?_
  rintro _ _ _ ⟨rfl, rfl, rfl⟩
  refine ⟨fun _ hI => hI.tail, ?_⟩
  refine g [[1]] ?_
  refine WA.part 13 rfl (fun g13 => ?_) (fun g13 => ?_)
  · try simp only [zq] at g13
    refine g [[1]] ?_
    refine WA.sog rfl rfl (SO.callP CaF.h rfl (fun w hI => isMinK_g _ _)) rfl ?_
    rintro _ _ _ ⟨rfl, rfl, rfl⟩
    refine ⟨fun _ hI => hI.tail, ?_⟩
    refine g [[1]] ?_
    refine WA.know 16 (.bool true) rfl (congrArg Value.bool (by simp_all)) ?_
    refine WA.so rfl (SO.makes (Enters.func Tryz.call88 rfl) (fun w hI => open_ok T a1 _ c1 D _ hR hI.imm hv)) rfl ?_
    rintro _ D2 _ ⟨hX2, ⟨bq, rfl, hO⟩, rfl⟩
    have hR2 := hR.ext hX2
    refine ⟨fun _ hI => hI.tail.shrink hX2.old, ?_⟩
    refine WA.so rfl (SO.callP CaF.h rfl (fun w hI => askF_ok T a1 _ c1 bq D2 _ hO hR2 hI.imm hv hut m hm2 hne)) rfl ?_
    rintro _ _ _ ⟨rfl, rfl, rfl⟩
    refine ⟨fun _ hI => hI.tail.shrink hX2.old, ?_⟩
    refine WA.so rfl (SO.callP CaF.h rfl (fun w hI => toldv_g _ _ _)) rfl ?_
    rintro _ _ _ ⟨rfl, rfl, rfl⟩
    refine ⟨fun _ hI => hI.tail.shrink hX2.old, ?_⟩
    refine WA.so rfl (SO.ofYd (Yd.assign rfl)) rfl ?_
    rintro _ _ _ ⟨rfl, rfl, rfl⟩
    refine ⟨fun _ hI => hI.tail.shrink hX2.old, ?_⟩
    refine WA.so rfl (SO.store 0 rfl SzF.h rfl rfl rfl rfl (zqb rfl) (oneB_spec rfl)) rfl ?_
    rintro _ _ _ ⟨rfl, rfl, rfl⟩
    refine ⟨fun _ hI => hI.tail.shrink hX2.old, ?_⟩
    refine g [[3]] ?_
    refine WP.endD [_, _] [_, _] rfl rfl CaF.h (fun w hI => idle120 _ _) rfl zV (fun w hI => ⟨congrArg Ending.returned (by rw [hO0]; simp only [Bool.not_not]; rfl), hI.keep⟩)
  try simp only [zq] at g13
  simp_all
theorem Free_g (T : Tks) (a1 : Option Addr) (n1 c1 : Nat) (D : Imm) (w : World) (hR : TksR D T a1 n1) (hH : Holds D w) (hv : tksB T = true) (hut m : Int) : Gives Tryz.prog 46 [.agg #[it T.huts, .slice a1 n1 c1], it hut, it m] w (.tuple #[it (FreeOut T hut m).1, it (FreeOut T hut m).2]) := by
  cases hw : (hutT T hut && minT m) with
  | false => exact Free_2 T a1 n1 c1 D w hR hH hv hut m hw
  | true =>
    by_cases hne : allT T = []
    · exact Free_3 T a1 n1 c1 D w hR hH hv hut m hw hne
    exact Free_ok T a1 n1 c1 D w hR hH hv hut m hw hne
end Go.Proofs.YtejgofaeafphjaaGreatDoor
namespace Go.Proofs.YtejgofaeafphjaaGreatDoor
open Go.W Go.Ti
abbrev KT : Type := { l : List Int // l.length = 10 ∧ ∀ x ∈ l, -1 ≤ x ∧ x ≤ 1000 }
def kvT (y : KT) : Value := .agg (y.1.map it).toArray
theorem kvT_inj : ∀ x y, kvT x = kvT y → x = y := fun x y h => by
  apply Subtype.ext
  simp only [kvT, Value.agg.injEq] at h
  have h2 : x.1.map it = y.1.map it := by simpa using h
  exact (List.map_inj_right (fun a b e => by simpa [it] using e)).1 h2
def clI (x : Int) : Int := if -1 ≤ x ∧ x ≤ 1000 then x else 0
theorem clI_b (x : Int) : -1 ≤ clI x ∧ clI x ≤ 1000 := by unfold clI; split <;> omega
def kyT (t : Tru) : KT := ⟨[clI (t 0).1, clI (t 0).2, clI (t 1).1, clI (t 1).2, clI (t 2).1, clI (t 2).2, clI (t 3).1, clI (t 3).2, clI (t 4).1, clI (t 4).2], rfl, fun x hx => by
  simp only [List.mem_cons, List.not_mem_nil, or_false] at hx
  rcases hx with rfl | rfl | rfl | rfl | rfl | rfl | rfl | rfl | rfl | rfl <;> exact clI_b _⟩
def TrB (t : Tru) : Prop := ∀ i, (-1 ≤ (t i).1 ∧ (t i).1 ≤ 1000) ∧ -1 ≤ (t i).2 ∧ (t i).2 ≤ 1000
theorem clI_at {x : Int} (h : -1 ≤ x ∧ x ≤ 1000) : clI x = x := by unfold clI; rw [if_pos h]
theorem kvT_at {t : Tru} (h : TrB t) : truV t = kvT (kyT t) := by
  show truV t = .agg ([clI (t 0).1, clI (t 0).2, clI (t 1).1, clI (t 1).2, clI (t 2).1, clI (t 2).2, clI (t 3).1, clI (t 3).2, clI (t 4).1, clI (t 4).2].map it).toArray
  rw [clI_at (h 0).1, clI_at (h 0).2, clI_at (h 1).1, clI_at (h 1).2, clI_at (h 2).1, clI_at (h 2).2, clI_at (h 3).1, clI_at (h 3).2, clI_at (h 4).1, clI_at (h 4).2]
  rfl
theorem kyT_inj {t t' : Tru} (h : TrB t) (h' : TrB t') (e : kyT t = kyT t') : ∀ i, i < 5 → t i = t' i := fun i hi => by
  have e2 := congrArg Subtype.val e
  simp only [kyT, List.cons.injEq, and_true] at e2
  rw [clI_at (h 0).1, clI_at (h 0).2, clI_at (h 1).1, clI_at (h 1).2, clI_at (h 2).1, clI_at (h 2).2, clI_at (h 3).1, clI_at (h 3).2, clI_at (h 4).1, clI_at (h 4).2,
    clI_at (h' 0).1, clI_at (h' 0).2, clI_at (h' 1).1, clI_at (h' 1).2, clI_at (h' 2).1, clI_at (h' 2).2, clI_at (h' 3).1, clI_at (h' 3).2, clI_at (h' 4).1, clI_at (h' 4).2] at e2
  obtain ⟨e0, e1, e2, e3, e4, e5, e6, e7, e8, e9⟩ := e2
  rcases (show i = 0 ∨ i = 1 ∨ i = 2 ∨ i = 3 ∨ i = 4 by omega) with rfl | rfl | rfl | rfl | rfl
  · exact Prod.ext e0 e1
  · exact Prod.ext e2 e3
  · exact Prod.ext e4 e5
  · exact Prod.ext e6 e7
  exact Prod.ext e8 e9
theorem keyMT : Tryz.prog.keyType 150 = true := by kernel_rfl
theorem keyLawT : Go.Maps.Keyed Tryz.prog 150 := Go.Maps.Keyed.of_law (deep_law_gate laidOutB_ (Nat.le_of_ble_eq_true zk) (Nat.le_of_ble_eq_true zk) keyMT zk)
theorem wf_int {n : Int} (h : -1 ≤ n ∧ n ≤ 1000) : (Lit.int .i64 n).wf = true := by
  simp only [Lit.wf, Bool.and_eq_true, decide_eq_true_eq]
  exact ⟨Int.le_trans (by decide) h.1, Int.le_trans h.2 (by decide)⟩
theorem lits_intI (d : Nat) (n : Int) (h : -1 ≤ n ∧ n ≤ 1000) : Tryz.prog.keyLits (d + 1) 3 [it n] = some [.int .i64 n] := by
  have hw := wf_int h
  simp only [Program.keyLits, Tryz.underlying3]
  simp [hw]
set_option maxRecDepth 10000 in
theorem lits_pair (d : Nat) (a b : Int) (ha : -1 ≤ a ∧ a ≤ 1000) (hb : -1 ≤ b ∧ b ≤ 1000) : Tryz.prog.keyLits (d + 2) 148 [it a, it b] = some [.int .i64 a, .int .i64 b] := by
  have h2 : Tryz.prog.cellsOf 148 = 2 := by kernel_rfl
  have h1 : Tryz.prog.cellsOf 3 = 1 := by kernel_rfl
  unfold Program.keyLits
  simp only [Tryz.underlying148, h2]
  simp [h1, lits_intI, ha, hb]
theorem len10 {α : Type} {l : List α} (h : l.length = 10) : ∃ a b c d e f g i j k, l = [a, b, c, d, e, f, g, i, j, k] := by
  match l, h with
  | [a, b, c, d, e, f, g, i, j, k], _ => exact ⟨a, b, c, d, e, f, g, i, j, k, rfl⟩
set_option maxRecDepth 10000 in
theorem key_kT (y : KT) : ∃ l, keyOf Tryz.prog 150 (kvT y) = some l := by
  obtain ⟨l, hl, hb⟩ := y
  obtain ⟨a, b, c, d, e, f, g, i, j, k, rfl⟩ := len10 hl
  have h10 : Tryz.prog.cellsOf 150 = 10 := by kernel_rfl
  have h2 : Tryz.prog.cellsOf 148 = 2 := by kernel_rfl
  have hs : Tryz.prog.types.size + 1 = 433 + 3 := by kernel_rfl
  unfold keyOf
  rw [Tryz.underlying150]
  have hf : (kvT ⟨[a, b, c, d, e, f, g, i, j, k], hl, hb⟩).formed Tryz.prog 150 = true := by
    simp [kvT, Value.formed, Tryz.underlying150, h10]
  simp only [keyMT, hf, Bool.and_self, if_true, hs]
  have ha := hb a (by simp)
  have hb' := hb b (by simp)
  have hc := hb c (by simp)
  have hd := hb d (by simp)
  have he := hb e (by simp)
  have hf' := hb f (by simp)
  have hg := hb g (by simp)
  have hi := hb i (by simp)
  have hj := hb j (by simp)
  have hk := hb k (by simp)
  have hl : Tryz.prog.keyLits (433 + 3) 150 [it a, it b, it c, it d, it e, it f, it g, it i, it j, it k] = some [.int .i64 a, .int .i64 b, .int .i64 c, .int .i64 d, .int .i64 e, .int .i64 f, .int .i64 g, .int .i64 i, .int .i64 j, .int .i64 k] := by
    unfold Program.keyLits
    simp only [Tryz.underlying150, h10]
    simp [h2, List.range, List.range.loop, lits_pair 433 a b ha hb', lits_pair 433 c d hc hd, lits_pair 433 e f he hf', lits_pair 433 g i hg hi, lits_pair 433 j k hj hk]
  show ∃ l, (Tryz.prog.keyLits (433 + 3) 150 [it a, it b, it c, it d, it e, it f, it g, it i, it j, it k]).map _ = some l
  rw [hl]
  exact ⟨_, rfl⟩
end Go.Proofs.YtejgofaeafphjaaGreatDoor
namespace Go.Proofs.YtejgofaeafphjaaGreatDoor
open Go.W Go.Ti
def seenF (T : Tks) (m : Int) (k : Nat) (y : KT) : Bool := ((allT T).take k).any fun x => decide (y = kyT (Go.Ti.keyT x m T.l.length))
theorem seen_succ {T : Tks} {m : Int} {k : Nat} (hk : k < (allT T).length) : seenF T m (k + 1) = fun y => seenF T m k y || decide (y = kyT (Go.Ti.keyT (gt (allT T) k) m T.l.length)) := by
  funext y
  unfold seenF
  rw [take_gt hk, List.any_append]; simp
theorem keyT_b {t : Tru} (ht : okTr t) (m : Int) (n : Nat) : TrB (Go.Ti.keyT t m n) := fun i => by
  unfold Go.Ti.keyT; split
  · have := ht i; omega
  simp
theorem keyT_succ_y {t : Tru} {m : Int} {k : Nat} (h : waitB t k m = true) : upd (Go.Ti.keyT t m k) k (t k) = Go.Ti.keyT t m (k + 1) := by
  funext j
  unfold upd Go.Ti.keyT
  by_cases e : j = k
  · subst e; rw [if_pos rfl, if_pos ⟨by omega, h⟩]
  rw [if_neg e]
  by_cases h2 : j < k ∧ waitB t j m = true
  · rw [if_pos h2, if_pos ⟨by omega, h2.2⟩]
  rw [if_neg h2, if_neg (fun h3 => h2 ⟨by omega, h3.2⟩)]
theorem keyT_succ_n {t : Tru} {m : Int} {k : Nat} (h : waitB t k m = false) : Go.Ti.keyT t m k = Go.Ti.keyT t m (k + 1) := by
  funext j
  unfold Go.Ti.keyT
  by_cases h2 : j < k ∧ waitB t j m = true
  · rw [if_pos h2, if_pos ⟨by omega, h2.2⟩]
  rw [if_neg h2, if_neg (fun h3 => by
    by_cases h5 : j = k
    · rw [h5, h] at h3; cases h3.2
    exact h2 ⟨by omega, h3.2⟩)]
def iniK (k : Nat) : Tru := fun j => if j < k then (-1, -1) else (0, 0)
theorem iniK_succ (k : Nat) : upd (iniK k) k (-1, -1) = iniK (k + 1) := by
  funext j
  unfold upd iniK
  by_cases e : j = k
  · subst e; rw [if_pos rfl, if_pos (by omega)]
  rw [if_neg e]
  by_cases h2 : j < k
  · rw [if_pos h2, if_pos (by omega)]
  rw [if_neg h2, if_neg (by omega)]
theorem iniK_end (t : Tru) (m : Int) : truC (iniK 5) = truC (Go.Ti.keyT t m 0) := by
  simp [truC, iniK, Go.Ti.keyT]
theorem now_yes {t : Tru} {m : Int} {k : Nat} (h1 : waitB t k m = true) (h2 : nowI t m k < 0 ∨ befT t k (nowI t m k).toNat = true) : nowI t m (k + 1) = (k : Int) := by rw [nowI, if_pos ⟨h1, h2⟩]
theorem now_no {t : Tru} {m : Int} {k : Nat} (h : ¬ (waitB t k m = true ∧ (nowI t m k < 0 ∨ befT t k (nowI t m k).toNat = true))) : nowI t m (k + 1) = nowI t m k := by rw [nowI, if_neg h]
theorem now_no2 {t : Tru} {m : Int} {k : Nat} (h0 : ¬ nowI t m k < 0) (h1 : befT t k (nowI t m k).toNat = false) : nowI t m (k + 1) = nowI t m k := now_no fun h => by
  rcases h.2 with h2 | h2
  · exact h0 h2
  rw [h1] at h2; cases h2
theorem ini_obj (i : Nat) (hi : i < 5) : Obj.cells (splice (truC (iniK i)) (0 + (i : Int).toNat * 2) [it (-1), it (-1)]).toArray 150 (0, 0) = .cells (truC (iniK (i + 1))).toArray 150 (0, 0) := by
  rw [← iniK_succ, ← spl_tru (iniK i) hi (-1, -1), Int.toNat_natCast]
theorem key_obj {t : Tru} {m : Int} {i : Nat} (h : waitB t i m = true) (hi : i < 5) : Obj.cells (splice (truC (Go.Ti.keyT t m i)) (0 + (i : Int).toNat * 2) [it (t i).1, it (t i).2]).toArray 150 (0, 0) = .cells (truC (Go.Ti.keyT t m (i + 1))).toArray 150 (0, 0) := by
  rw [← keyT_succ_y h, ← spl_tru _ hi (t i), Int.toNat_natCast]
def whoN (T : Tks) (m : Int) (k : Nat) : Nat := bitsI (whoB m T.l.length ((allT T).take k)) T.l.length
def whoO (T : Tks) (m : Int) (k : Nat) : Bool := noB m T.l.length ((allT T).take k)
theorem whoN_zero (T : Tks) (m : Int) : whoN T m 0 = 0 := by
  unfold whoN
  have : ∀ n, bitsI (whoB m T.l.length ((allT T).take 0)) n = 0 := fun n => by
    induction n with
    | zero => rfl
    | succ n ih => rw [bitsI, ih]; simp [whoB]
  exact this _
theorem who_same {T : Tks} (hv : tksB T = true) {m : Int} {k : Nat} (hk : k < (allT T).length) (h : seenF T m k (kyT (Go.Ti.keyT (gt (allT T) k) m T.l.length)) = true) : whoN T m (k + 1) = whoN T m k ∧ whoO T m (k + 1) = whoO T m k ∧ seenF T m (k + 1) = seenF T m k := by
  obtain ⟨x, hx, he⟩ := List.any_eq_true.1 h
  have hx2 := List.mem_of_mem_take hx
  have e := of_decide_eq_true he
  have hs := who_seen (m := m) (n := T.l.length) (L := (allT T).take k) (t := gt (allT T) k) (fun y hy i => (okTr_mem hv (List.mem_of_mem_take hy) i).1.1) (fun i => (okTr_mem hv (gt_mem hk) i).1.1)
    ⟨x, hx, fun i hi => (kyT_inj (keyT_b (okTr_mem hv (gt_mem hk)) _ _) (keyT_b (okTr_mem hv hx2) _ _) e i (by have := (tks_num hv).2.1; omega)).symm⟩
  refine ⟨?_, ?_, ?_⟩
  · unfold whoN; rw [take_gt hk]; exact bits_congr fun i _ => hs.1 i
  · unfold whoO; rw [take_gt hk]; exact hs.2
  rw [seen_succ hk]; funext y
  cases hy : decide (y = kyT (Go.Ti.keyT (gt (allT T) k) m T.l.length)) with
  | false => simp
  | true => rw [of_decide_eq_true hy, h]; rfl
theorem whoN_none {T : Tks} {m : Int} {k : Nat} (hk : k < (allT T).length) (h : nowI (gt (allT T) k) m T.l.length < 0) : whoN T m (k + 1) = whoN T m k ∧ whoO T m (k + 1) = true := by
  unfold whoN whoO; rw [take_gt hk]; exact who_none h
theorem whoN_some {T : Tks} {m : Int} {k i : Nat} (hk : k < (allT T).length) (hi : i < T.l.length) (h : nowI (gt (allT T) k) m T.l.length = (i : Int)) : whoN T m k ||| 2 ^ i = whoN T m (k + 1) ∧ whoO T m (k + 1) = whoO T m k := by
  unfold whoN whoO; rw [take_gt hk, (who_some h).1, bits_or _ hi]; exact ⟨rfl, (who_some h).2⟩
theorem who_must {T : Tks} {m : Int} (hne : allT T ≠ []) (h1 : whoN T m (allT T).length = 0) (h2 : whoO T m (allT T).length = false) : False := by
  unfold whoN whoO at *
  rw [List.take_length] at h1 h2
  rcases who_any (m := m) (n := T.l.length) hne with h | ⟨i, hi, h⟩
  · rw [h] at h2; cases h2
  exact bits_pos _ hi h h1
theorem who_nil {T : Tks} {m : Int} (hne : allT T = []) : whoN T m (allT T).length = 0 ∧ whoO T m (allT T).length = false := by
  rw [hne]
  exact ⟨whoN_zero T m, by simp [whoO, noB]⟩
def orL (l : List Nat) (k : Nat) : Nat := (l.take k).foldl (fun n x => n ||| x) 0
theorem orL_succ {l : List Nat} {k : Nat} (hk : k < l.length) : orL l (k + 1) = orL l k ||| gt l k := by
  unfold orL
  rw [take_gt hk, List.foldl_append]; rfl
theorem orL_32 {l : List Nat} (h : ∀ x ∈ l, x < 32) : ∀ k, k ≤ l.length → orL l k < 32
  | 0, _ => by simp [orL]
  | k + 1, hk => by
    rw [orL_succ (by omega)]
    exact Nat.or_lt_two_pow (n := 5) (orL_32 h k (by omega)) (h _ (gt_mem (by omega)))
theorem catchM86 (b : Nat) (e v0 : Int) (t : TypeId) (w : World) (hb : w.heap[b]? = some (.cells (List.toArray [it v0]) t (0, 0))) : CatchM Tryz.prog 86 [pt b] (.iface 247 (.agg #[it e])) b (.cells (List.toArray [it e]) t (0, 0)) w := by
  refine callsDIn_of_wpS Tryz.func86 rfl fun c₀ cs hu => ?_
  apply wpS_region
  simp [wpOpsS, go_sem, recoverD, hu, Tryz.ntmps86]
  refine (stoppedK_yes e v0 b t w hb).mono ?_
  rintro en w' ⟨⟨rfl, hk⟩, hb'⟩
  cases c₀
  simp only at hu
  subst hu
  simp [bodyPostS, results, Tryz.results86, hk, hb']
theorem union_g (l : List Nat) (a : Option Addr) (n c : Nat) (D : Imm) (w : World) (hS : SlL D 1 (l.map natC) a n) (hl : ∀ x ∈ l, x < 32) (hn : n ≤ 1000) (hH : Holds D w) : Gives Tryz.prog 93 [.slice a n c] w (nt (orL l l.length)) := by
  unfold Gives
  obtain rfl := hS.len'
  refine en Tryz.func93 rfl Tryz.ntmps93 (Inv.start hH) (g [[1],[6,0],[7,2,0]] ?_)
  refine WC.loopF (fun k : Nat => [(2, nt (orL l k)), (5, .slice a l.length c), (6, nt l.length), (7, nt k)]) (fun k => k ≤ l.length) (fun k => l.length - k) 0 (by omega) (by exact ⟨rfl, rfl, rfl, rfl, trivial⟩) ?_
  intro k hk
  refine g [[1],[5,2,5,6,7]] ?_
  refine WC.cond rfl (fun c8 => ?_) (fun c8 => ?_)
  · try simp only [zq] at c8
    have hkl : k < l.length := by omega
    refine g [[5],[1,2,5,6,7]] ?_
    refine WL.yd (Yd.ix rfl rfl (hS.addr k (by omega))) rfl (WL.yd (Yd.l1 rfl ((hS.at k (by omega)).rd 0 rfl)) rfl (g [[3],[3,4,2,5,6,7]] ?_))
    refine WL.yd (Yd.orN (orL_32 hl k hk) (hl _ (gt_mem hkl)) rfl rfl) rfl (g [[4],[4,2,5,6,7]] ?_)
    exact WP.againF (k + 1) (by omega) (by omega) ⟨by rw [orL_succ hkl]; rfl, rfl, rfl, rfl, trivial⟩ (fun _ h => h) (fun h => h)
  try simp only [zq] at c8
  obtain rfl : k = l.length := by omega
  refine g [[6],[6,2]] ?_
  refine WP.ret1 rfl rfl rfl (RV.tmp rfl) (fun w hI => ⟨rfl, hI.keep⟩)
theorem Whose_2 (T : Tks) (a1 : Option Addr) (n1 c1 : Nat) (D : Imm) (w : World) (hR : TksR D T a1 n1) (hH : Holds D w) (hv : tksB T = true) (m : Int) (hw : minT m = false) : Gives Tryz.prog 25 [.agg #[it T.huts, .slice a1 n1 c1], it m] w (.tuple #[it (WhoseOut T m).1, .bool (WhoseOut T m).2.1, it (WhoseOut T m).2.2]) := by
  unfold Gives
  obtain rfl := hR.tick.len'
  have hl1 := hR.len
  have h5 := (tks_num hv).2.1
  have hE : tksE T (minT m) = 2 := by
    unfold tksE
    rw [if_neg (by rw [hv]; simp), if_pos hw]
  have hO0 : WhoseOut T m = (0, false, 2) := by unfold WhoseOut; rw [if_pos (by rw [hE]; simp), hE]
  refine enD Tryz.func25 rfl Tryz.ntmps25 (Inv.start hH) (g [[1],[1,0,1]] ?_)
  refine WL.so (SO.box rfl rfl) rfl (zw fun b2 hb2 => ?_)
  refine WL.so (SO.box rfl rfl) rfl (zw fun b3 hb3 => ?_)
  refine g [[2]] ?_
  refine WL.so (SO.alloc ZvF.h rfl) rfl (zw fun b6 hb6 => ?_)
  refine g [[3],[2,6,5,4,3,2]] ?_
  refine WL.defer rfl (g [[3]] ?_)
  refine WC.freezeN 2 b2 (boxT T (.slice a1 T.l.length c1)) rfl rfl hb2 (fun D1 hX1 h2 => ?_)
  replace hR := hR.ext hX1
  refine WC.freezeN 1 b3 (.cells (List.toArray [it m]) 3 (0, 0)) rfl rfl hb3 (fun D3 hX3 h3 => ?_)
  replace hR := hR.ext hX3
  replace h2 := hX3.old _ _ h2
  refine g [[0,6,5,4,3,2]] ?_
  refine WC.drawD [] (pz [1,3,4,6,9]) zk zk zX (fun _ hI => hI.nil) (g [[2]] ?_)
  refine WA.so rfl (SO.callP CaF.h rfl (fun w hI => isMinK_g _ _)) rfl ?_
  rintro _ _ _ ⟨rfl, rfl, rfl⟩
  refine ⟨fun _ hI => hI.nil, ?_⟩
  refine WA.no rfl (SO.fail (Enters.func CaF.h rfl) (fun w hI => by have := open_2 T a1 _ c1 _ w hR hI.imm hv; rwa [← hw] at this) (g [[1]] ?_))
  refine WP.panicD (k := 0) [_, _, _] [_, _, _] rfl CaF.h rfl (fun w hI => catch86 _ _ _ _ _ (hI.own _ _ (List.mem_of_getElem? (i := 0) rfl))) rfl zV (fun w hI => ⟨congrArg Ending.returned (by rw [hO0]; rfl), hI.keep⟩)
theorem Whose_3 (T : Tks) (a1 : Option Addr) (n1 c1 : Nat) (D : Imm) (w : World) (hR : TksR D T a1 n1) (hH : Holds D w) (hv : tksB T = true) (m : Int) (hw : minT m = true) (hne : allT T = []) : Gives Tryz.prog 25 [.agg #[it T.huts, .slice a1 n1 c1], it m] w (.tuple #[it (WhoseOut T m).1, .bool (WhoseOut T m).2.1, it (WhoseOut T m).2.2]) := by
  unfold Gives
  obtain rfl := hR.tick.len'
  have hl1 := hR.len
  have h5 := (tks_num hv).2.1
  have hE : tksE T (minT m) = 10 := by
    unfold tksE
    rw [if_neg (by rw [hv]; simp), if_neg (by rw [hw]; simp), if_pos (by rw [hne]; rfl)]
  have hO0 : WhoseOut T m = (0, false, 10) := by unfold WhoseOut; rw [if_pos (by rw [hE]; simp), hE]
  refine enM Tryz.func25 rfl Tryz.ntmps25 (Inv.start hH) (g [[1],[1,0,1]] ?_)
  refine WL.so (SO.box rfl rfl) rfl (zw fun b2 hb2 => ?_)
  refine WL.so (SO.box rfl rfl) rfl (zw fun b3 hb3 => ?_)
  refine g [[2]] ?_
  refine WL.so (SO.alloc ZvF.h rfl) rfl (zw fun b6 hb6 => ?_)
  refine g [[3],[2,6,5,4,3,2]] ?_
  refine WL.defer rfl (g [[3]] ?_)
  refine WC.freezeN 2 b2 (boxT T (.slice a1 T.l.length c1)) rfl rfl hb2 (fun D1 hX1 h2 => ?_)
  replace hR := hR.ext hX1
  refine WC.freezeN 1 b3 (.cells (List.toArray [it m]) 3 (0, 0)) rfl rfl hb3 (fun D3 hX3 h3 => ?_)
  replace hR := hR.ext hX3
  replace h2 := hX3.old _ _ h2
  refine g [[0,6,5,4,3,2]] ?_
  refine WC.drawD [] (pz [1,3,4,6,9]) zk zk zX (fun _ hI => hI.nil) (g [[2]] ?_)
  refine WA.so rfl (SO.callP CaF.h rfl (fun w hI => isMinK_g _ _)) rfl ?_
  rintro _ _ _ ⟨rfl, rfl, rfl⟩
  refine ⟨fun _ hI => hI.nil, ?_⟩
  refine WA.so rfl (SO.makes (Enters.func Tryz.call88 rfl) (fun w hI => by have := open_ok T a1 _ c1 _ w hR hI.imm hv; rwa [← hw] at this)) rfl ?_
  rintro _ D2 _ ⟨hX2, ⟨bq, rfl, hO⟩, rfl⟩
  replace hR := hR.ext hX2
  replace h2 := hX2.old _ _ h2
  replace h3 := hX2.old _ _ h3
  refine ⟨fun _ hI => hI.nil.shrink hX2.old, ?_⟩
  refine g [[4],[1,7,6,5,4,3,2]] ?_
  refine WL.so SO.makeMap rfl ?_
  rintro _ _ _ ⟨b21, hb21, rfl, rfl, rfl⟩
  refine WL.so (SO.alloc ZvF.h rfl) rfl (zw fun b8 hb8 => ?_)
  refine g [[4]] ?_
  refine WC.freezeN 0 b8 (.cells (List.toArray [.map (some b21)]) 143 (0, 0)) rfl rfl hb8 (fun D8 hX8 h8 => ?_)
  replace hR := hR.ext hX8
  replace hO := hO.ext hX8
  replace h2 := hX8.old _ _ h2
  replace h3 := hX8.old _ _ h3
  refine g [[1,8,7,6,5,4,3,2]] ?_
  refine WL.so (SO.alloc ZvF.h rfl) rfl (zw fun b9 hb9 => ?_)
  refine WL.so (SO.alloc ZvF.h rfl) rfl (zw fun b10 hb10 => ?_)
  refine g [[6],[2,10,9,8,7,6,5,4,3,2]] ?_
  refine WL.so (SO.makes (Enters.func Tryz.call90 rfl) (fun w hI => truths_g bq _ _ hI.imm)) rfl ?_
  rintro _ D4 _ ⟨hX4, ⟨bt, rfl, hbt⟩, rfl⟩
  replace hR := hR.ext hX4
  replace hO := hO.ext hX4
  replace h2 := hX4.old _ _ h2
  replace h3 := hX4.old _ _ h3
  replace h8 := hX4.old _ _ h8
  refine g [[3],[0,3,2,8,9,10,23,4,5,6]] ?_
  refine WC.hpEq (hp' := [(b10, .cells (List.toArray [.bool (whoO T m 0)]) 4 (0, 0)), (b9, .cells (List.toArray [nt (whoN T m 0)]) 3 (0, 0)), (b21, .map #[] 0), (b6, .cells (List.toArray [it 0]) 51 (0, 0))]) (by rw [whoN_zero]; rfl) ?_
  refine WC.rangeIterN (N := (allT T).length) (arg := fun k => truV (gt (allT T) k)) (fun w1 _ hD1 => truths1_iter T a1 _ c1 bq bt D4 w1 hO hR hbt hv hD1) rfl Tryz.call177 rfl (fun k _ h => (∃ es clock, h = [(b10, .cells (List.toArray [.bool (whoO T m k)]) 4 (0, 0)), (b9, .cells (List.toArray [nt (whoN T m k)]) 3 (0, 0)), (b21, .map es clock), (b6, .cells (List.toArray [it 0]) 51 (0, 0))] ∧ MapB kvT es clock (seenF T m k))) (fun _ _ _ => False) (fun _ _ _ _ _ h => h) ⟨#[], 0, rfl, MapB.empty kvT⟩ ?_ ?_ ?_
  · rintro rec1 l1 Dn0 k D6 _ w1 hrec hk ⟨es, clock, rfl, hMB⟩ hX6 hsz
    unfold RoundGN
    replace hR := hR.ext hX6
    replace h2 := hX6.old _ _ h2
    replace h3 := hX6.old _ _ h3
    replace h8 := hX6.old _ _ h8
    have hoT := okTr_mem hv (gt_mem hk)
    have hTB := keyT_b hoT m T.l.length
    refine g [[1,24,3,2,8,9,10,4,5,6]] ?_
    refine WLF.so (zn rfl) (SO.alloc ZvF.h rfl) rfl (zw fun b11 hb11 => ?_)
    skip
    refine g [[2]] ?_
    refine WP.iterBegin 1 rfl hrec (g [[2],[5,11,3,2,8,9,10,4,5,6],[1,12,11,3,2,8,9,10,4,5,6]] ?_)
    refine WLF.yd (zn rfl) (Yd.buildA (zs := [.int .i64 0, .int .i64 0, .int .i64 0, .int .i64 0, .int .i64 0, .int .i64 0, .int .i64 0, .int .i64 0, .int .i64 0, .int .i64 0]) ⟨_, ZvF.h, rfl⟩ UnF.h SzF.h rfl (cs := [_, _, _, _, _, _, _, _, _, _]) rfl) rfl ?_
    refine WLF.so (zn rfl) (SO.alloc ZvF.h rfl) rfl (zw fun b13 hb13 => ?_)
    refine g [[5],[5,13,12,11,3,2,8,9,10,4,5,6]] ?_
    refine WCF.loopHd (b := b13) _ (fun i : Nat => [(2, pt b2), (3, pt b3), (8, pt b8), (9, pt b9), (10, pt b10), (11, pt b11), (12, it (-1)), (13, pt b13), (26, nt i)]) (fun i => .cells (List.toArray (truC (iniK i))) 150 (0, 0)) (fun i => i ≤ 5) (fun i => 5 - i) 0 (by omega) rfl ⟨rfl, rfl, rfl, rfl, rfl, rfl, rfl, rfl, rfl, trivial⟩ ?_
    intro i hi
    refine g [[1],[5,2,3,8,9,10,11,12,13,26]] ?_
    refine WCF.cond rfl (fun c27 => ?_) (fun c27 => ?_)
    · try simp only [zq] at c27
      have hi5 : i < 5 := by omega
      refine g [[5],[5,2,3,8,9,10,11,12,13,26],[3,14,2,3,8,9,10,11,12,13,26]] ?_
      refine WLF.yd (zn rfl) (Yd.indexA UnF.h SzF.h rfl rfl (by omega) (by omega)) rfl ?_
      refine WLF.so (zn rfl) (SO.store 0 rfl SzF.h rfl rfl rfl rfl (by show 0 + i * 2 + 2 ≤ 10; omega) (oneB_spec rfl)) rfl (zt (g [[3],[4,2,3,8,9,10,11,12,13,26]] ?_))
      exact WP.againHd (i + 1) (by omega) (by omega) 0 rfl (ini_obj i hi5) ⟨rfl, rfl, rfl, rfl, rfl, rfl, rfl, rfl, rfl, trivial⟩
    try simp only [zq] at c27
    obtain rfl : i = 5 := by omega
    refine g [[7],[8,2,3,8,9,10,11,12,13]] ?_
    refine WCF.loopHd (b := b13) _ (fun i : Nat => [(3, pt b3), (8, pt b8), (9, pt b9), (10, pt b10), (11, pt b11), (12, it (nowI (gt (allT T) k) m i)), (13, pt b13), (34, .slice a1 T.l.length c1), (35, nt T.l.length), (36, nt i)]) (fun i => .cells (List.toArray (truC (Go.Ti.keyT (gt (allT T) k) m i))) 150 (0, 0)) (fun i => i ≤ T.l.length) (fun i => T.l.length - i) 0 (by omega) (by rw [← iniK_end]) ⟨rfl, rfl, rfl, rfl, rfl, rfl, rfl, rfl, rfl, rfl, trivial⟩ ?_
    intro i hi
    have hnn := now_num (gt (allT T) k) m i
    have hwd : waitB (gt (allT T) k) i m = inB m ((gt (allT T) k) i).1 ((gt (allT T) k) i).2 := rfl
    refine g [[1],[5,3,8,9,10,11,12,13,34,35,36]] ?_
    refine WCF.cond rfl (fun c37 => ?_) (fun c37 => ?_)
    · try simp only [zq] at c37
      have hil : i < T.l.length := by omega
      have hi5 : i < 5 := by omega
      refine g [[5],[6,3,8,9,10,11,12,13,34,35,36],[0,15,3,8,9,10,11,12,13,34,35,36]] ?_
      refine WCF.tail 4 [0, 1, 2, 3] rfl zk zk (noLets.then (noLets.blk (noLets.then (noLets.then (noLets.blk (noLets.then (noLets.blk noLets.round))))))) (g [[1]] ?_)
      refine WQ.q rfl (Yd.qt (Yd.indexA UnF.h SzF.h rfl rfl (by omega) (by omega))) rfl (WQ.q rfl (Yd.qt (Yd.lV [_, _] rfl (RdN.own (k := 1) (n := 2) rfl (tru_rdn (gt (allT T) k) hi5)))) rfl (g [[1]] ?_))
      refine WQ.tailR (WLF.know 41 (prV ((gt (allT T) k) i)) rfl rfl ?_)
      refine WLF.cl rfl (fun w hI => waits_g ((gt (allT T) k) i) m _) (g [[2]] ?_)
      refine WCF.cond rfl (fun c43 => ?_) (fun c43 => ?_)
      · try simp only [zq] at c43
        have hwt : waitB (gt (allT T) k) i m = true := by rw [hwd]; assumption
        refine g [[1],[3,15,3,8,9,10,11,12,13,34,35,36]] ?_
        refine WLF.yd (zn rfl) (Yd.indexA UnF.h SzF.h rfl rfl (by omega) (by omega)) rfl (WLF.yd (zn rfl) (Yd.lV [_, _] rfl (RdN.own (k := 1) (n := 2) rfl (tru_rdn (gt (allT T) k) hi5))) rfl ?_)
        refine WLF.yd (zn rfl) (Yd.indexA UnF.h SzF.h rfl rfl (by omega) (by omega)) rfl ?_
        refine WLF.so (zn rfl) (SO.store 0 rfl SzF.h rfl rfl rfl rfl (by show 0 + i * 2 + 2 ≤ 10; omega) (oneB_spec rfl)) rfl (zt (g [[3],[4,15,3,8,9,10,11,12,13,34,35,36]] ?_))
        refine WLF.part 51 rfl (fun g51 => ?_) (fun g51 => ?_)
        · try simp only [zq] at g51
          have hnx := now_yes (t := (gt (allT T) k)) (m := m) (k := i) hwt (.inl (by omega))
          refine g [[3]] ?_
          first | refine WLF.know 54 (nt (nowI (gt (allT T) k) m i).toNat) rfl (congrArg it hnn2) ?_ | skip
          refine g [[4]] ?_
          refine WCF.condT rfl (g [[6,15,3,8,9,10,11,12,13,34,35,36],[4,12,3,8,9,10,11,13,34,35,36]] ?_)
          exact WP.againHd (i + 1) (by omega) (by omega) 0 rfl (by first | exact key_obj hwt hi5 | rw [← keyT_succ_n hwt]) ⟨rfl, rfl, rfl, rfl, rfl, by show some (it _) = some (it _); rw [hnx], rfl, rfl, rfl, rfl, trivial⟩
        try simp only [zq] at g51
        have hnn2 : nowI (gt (allT T) k) m i = (((nowI (gt (allT T) k) m i).toNat : Nat) : Int) := by omega
        refine g [[3]] ?_
        first | refine WLF.know 54 (nt (nowI (gt (allT T) k) m i).toNat) rfl (congrArg it hnn2) ?_ | skip
        refine WLF.sog (zn rfl) rfl (SO.callP CaF.h rfl (fun w hI => before_g (gt (allT T) k) i (nowI (gt (allT T) k) m i).toNat hi5 (by omega) _)) rfl (zs (g [[3]] ?_))
        refine WCF.cond rfl (fun c56 => ?_) (fun c56 => ?_)
        · try simp only [zq] at c56
          have hnx := now_yes (t := (gt (allT T) k)) (m := m) (k := i) hwt (.inr c56)
          refine g [[6,15,3,8,9,10,11,12,13,34,35,36],[4,12,3,8,9,10,11,13,34,35,36]] ?_
          exact WP.againHd (i + 1) (by omega) (by omega) 0 rfl (by first | exact key_obj hwt hi5 | rw [← keyT_succ_n hwt]) ⟨rfl, rfl, rfl, rfl, rfl, by show some (it _) = some (it _); rw [hnx], rfl, rfl, rfl, rfl, trivial⟩
        try simp only [zq] at c56
        have hnx := now_no2 (t := (gt (allT T) k)) (m := m) (k := i) (by omega) c56
        refine g [[3],[4,3,8,9,10,11,12,13,34,35,36]] ?_
        exact WP.againHd (i + 1) (by omega) (by omega) 0 rfl (by first | exact key_obj hwt hi5 | rw [← keyT_succ_n hwt]) ⟨rfl, rfl, rfl, rfl, rfl, by show some (it _) = some (it _); rw [hnx], rfl, rfl, rfl, rfl, trivial⟩
      try simp only [zq] at c43
      have hwt : waitB (gt (allT T) k) i m = false := by rw [hwd]; assumption
      have hnx := now_no (t := (gt (allT T) k)) (m := m) (k := i) (fun h => by rw [hwt] at h; cases h.1)
      refine g [[3],[4,3,8,9,10,11,12,13,34,35,36]] ?_
      exact WP.againHd (i + 1) (by omega) (by omega) 0 rfl (by first | exact key_obj hwt hi5 | rw [← keyT_succ_n hwt]) ⟨rfl, rfl, rfl, rfl, rfl, by show some (it _) = some (it _); rw [hnx], rfl, rfl, rfl, rfl, trivial⟩
    try simp only [zq] at c37
    obtain rfl : i = T.l.length := by omega
    refine g [[7],[3,8,9,10,12,13]] ?_
    refine WLF.know 60 (kvT (kyT (Go.Ti.keyT (gt (allT T) k) m T.l.length))) rfl (kvT_at hTB) (WLF.yd (zn rfl) (Yd.lookB (y := kyT (Go.Ti.keyT (gt (allT T) k) m T.l.length)) kvT_inj keyLawT key_kT UnF.h ZvF.h (j := 6) rfl rfl rfl hMB) rfl (g [[2]] ?_))
    refine WCF.cond rfl (fun c61 => ?_) (fun c61 => ?_)
    · try simp only [zq] at c61
      obtain ⟨hs1, hs2, hs3⟩ := who_same hv hk c61
      refine g [[3]] ?_
      first
        | (refine WP.iterOnN hrec (h1 := [_, _, _, _]) zU1 zU2 (DExt.refl _ _) ⟨es, clock, ?_, ?_⟩
           · rw [hs1, hs2]
           rw [hs3]; exact hMB)
        | (refine WP.iterOnN hrec (h1 := [_, _, _, _]) zU1 zU2 (DExt.refl _ _) ⟨es1, clock1, ?_, ?_⟩
           · rw [hs1, hs2]; rfl
           rw [seen_succ hk]; exact hMB1)
        | (refine WP.iterOnN hrec (h1 := [_, _, _, _]) zU1 zU2 hX69 ⟨es1, clock1, ?_, ?_⟩
           · rw [hs2]; rfl
           rw [seen_succ hk]; exact hMB1)
    try simp only [zq] at c61
    refine g [[3],[3,8,9,10,12,13]] ?_
    refine WLF.know 63 (kvT (kyT (Go.Ti.keyT (gt (allT T) k) m T.l.length))) rfl (kvT_at hTB) (WLF.so (zn rfl) (SO.putB (y := kyT (Go.Ti.keyT (gt (allT T) k) m T.l.length)) kvT_inj keyLawT key_kT UnF.h rfl rfl rfl (j := 6) rfl hMB) rfl ?_)
    rintro _ _ _ ⟨rfl, es1, clock1, rfl, hMB1⟩
    refine g [[3],[5,9,10,12]] ?_
    refine WCF.cond rfl (fun c65 => ?_) (fun c65 => ?_)
    · try simp only [zq] at c65
      obtain ⟨hs1, hs2⟩ := whoN_none hk c65
      refine g [[4,10]] ?_
      first
        | (refine WP.iterOnN hrec (h1 := [_, _, _, _]) zU1 zU2 (DExt.refl _ _) ⟨es, clock, ?_, ?_⟩
           · rw [hs1, hs2]
           rw [hs3]; exact hMB)
        | (refine WP.iterOnN hrec (h1 := [_, _, _, _]) zU1 zU2 (DExt.refl _ _) ⟨es1, clock1, ?_, ?_⟩
           · rw [hs1, hs2]; rfl
           rw [seen_succ hk]; exact hMB1)
        | (refine WP.iterOnN hrec (h1 := [_, _, _, _]) zU1 zU2 hX69 ⟨es1, clock1, ?_, ?_⟩
           · rw [hs2]; rfl
           rw [seen_succ hk]; exact hMB1)
    try simp only [zq] at c65
    obtain ⟨q, hqn⟩ : ∃ q : Nat, nowI (gt (allT T) k) m T.l.length = (q : Int) := ⟨(nowI (gt (allT T) k) m T.l.length).toNat, by omega⟩
    have hnn := now_num (gt (allT T) k) m T.l.length
    have hql : q < T.l.length := by omega
    obtain ⟨hs1, hs2⟩ := whoN_some hk hql hqn
    have hw32 : whoN T m k < 32 := Nat.lt_of_lt_of_le (bits_lt _ _) (Nat.pow_le_pow_right (by decide) h5)
    have hq32 : 2 ^ q < 32 := Nat.lt_of_lt_of_le (Nat.pow_lt_pow_right (by decide) hql) (Nat.pow_le_pow_right (by decide) h5)
    refine g [[0,9,12]] ?_
    refine WCF.tail 3 [0, 1, 2] rfl zk zk (noLets.blk noLets.round) (g [[2]] ?_)
    refine WQ.know 67 (nt q) rfl (congrArg it hqn) (WQ.q rfl (Yd.qt (Yd.shlN (k := q) rfl rfl (by omega))) rfl ?_)
    refine WQ.tailR (WLF.so (zn rfl) (SO.buildSlice UnF.h SzF.h ZvF.h rfl rfl rfl rfl (cs := [_, _]) rfl) rfl ?_)
    rintro _ _ _ ⟨b69, hb69, rfl, rfl, rfl⟩
    refine WLF.freezeN 0 b69 (.cells (List.toArray [nt (whoN T m k), nt (2 ^ q)]) 3 (0, 0)) rfl rfl hb69 (fun D69 hX69 h69 => ?_)
    refine WLF.cl rfl (fun w hI => union_g [whoN T m k, 2 ^ q] (some ⟨b69, 0, none⟩) 2 2 D69 _ (SlL.ofBlock (f := natC) (l := [whoN T m k, 2 ^ q]) (rest := []) (fun _ => rfl) h69) (by intro x hx; simp only [List.mem_cons, List.not_mem_nil, or_false] at hx; rcases hx with rfl | rfl; exact hw32; exact hq32) (by omega) hI.imm) ?_
    refine WLF.know 70 (nt (whoN T m (k + 1))) rfl (by rw [← hs1]; show nt (orL [whoN T m k, 2 ^ q] 2) = _; simp [orL]) (g [[3]] ?_)
    first
      | (refine WP.iterOnN hrec (h1 := [_, _, _, _]) zU1 zU2 (DExt.refl _ _) ⟨es, clock, ?_, ?_⟩
         · rw [hs1, hs2]
         rw [hs3]; exact hMB)
      | (refine WP.iterOnN hrec (h1 := [_, _, _, _]) zU1 zU2 (DExt.refl _ _) ⟨es1, clock1, ?_, ?_⟩
         · rw [hs1, hs2]; rfl
         rw [seen_succ hk]; exact hMB1)
      | (refine WP.iterOnN hrec (h1 := [_, _, _, _]) zU1 zU2 hX69 ⟨es1, clock1, ?_, ?_⟩
         · rw [hs2]; rfl
         rw [seen_succ hk]; exact hMB1)
  · rintro Dn1 D6 _ hDn1 hX6 ⟨es, clock, rfl, hMB⟩
    refine g [[3],[4,9,10,4,5,6]] ?_
    refine WL.part 73 rfl (fun g73 => ?_) (fun g73 => ?_)
    · try simp only [zq] at g73
      exact absurd (who_nil (m := m) hne).1 (by omega)
    try simp only [zq] at g73
    refine g [[2]] ?_
    refine WL.part 75 rfl (fun g75 => ?_) (fun g75 => ?_)
    · try simp only [zq] at g75
      rw [(who_nil hne).2] at g75; cases g75
    try simp only [zq] at g75
    refine WL.nf rfl (fun w hI => mustK_no _ _) (g [[1]] ?_)
    refine WP.panicMsD (k := 3) [Dn1] [_, _, _, _] [_, _, _] [_, _, _] rfl CaF.h rfl (fun w hI => catchM86 _ _ _ _ _ (hI.own _ _ (List.mem_of_getElem? (i := 3) rfl))) (fun _ h => h) (fun h => h) rfl zV (fun w hI => ⟨congrArg Ending.returned (by rw [hO0]; rfl), hI.keep⟩)
  exact fun _ _ _ _ _ _ h => h.elim
theorem Whose_ok (T : Tks) (a1 : Option Addr) (n1 c1 : Nat) (D : Imm) (w : World) (hR : TksR D T a1 n1) (hH : Holds D w) (hv : tksB T = true) (m : Int) (hw : minT m = true) (hne : allT T ≠ []) : Gives Tryz.prog 25 [.agg #[it T.huts, .slice a1 n1 c1], it m] w (.tuple #[it (WhoseOut T m).1, .bool (WhoseOut T m).2.1, it (WhoseOut T m).2.2]) := by
  unfold Gives
  obtain rfl := hR.tick.len'
  have hl1 := hR.len
  have h5 := (tks_num hv).2.1
  have hE : tksE T (minT m) = 0 := by
    unfold tksE
    rw [if_neg (by rw [hv]; simp), if_neg (by rw [hw]; simp), if_neg (by rw [List.isEmpty_iff]; exact hne)]
  have hO0 : WhoseOut T m = ((whoN T m (allT T).length : Int), whoO T m (allT T).length, 0) := by rw [whose_eq hE]; unfold whoN whoO; rw [List.take_length]
  refine enM Tryz.func25 rfl Tryz.ntmps25 (Inv.start hH) (g [[1],[1,0,1]] ?_)
  refine WL.so (SO.box rfl rfl) rfl (zw fun b2 hb2 => ?_)
  refine WL.so (SO.box rfl rfl) rfl (zw fun b3 hb3 => ?_)
  refine g [[2]] ?_
  refine WL.so (SO.alloc ZvF.h rfl) rfl (zw fun b6 hb6 => ?_)
  refine g [[3],[2,6,5,4,3,2]] ?_
  refine WL.defer rfl (g [[3]] ?_)
  refine WC.freezeN 2 b2 (boxT T (.slice a1 T.l.length c1)) rfl rfl hb2 (fun D1 hX1 h2 => ?_)
  replace hR := hR.ext hX1
  refine WC.freezeN 1 b3 (.cells (List.toArray [it m]) 3 (0, 0)) rfl rfl hb3 (fun D3 hX3 h3 => ?_)
  replace hR := hR.ext hX3
  replace h2 := hX3.old _ _ h2
  refine g [[0,6,5,4,3,2]] ?_
  refine WC.drawD [] (pz [1,3,4,6,9]) zk zk zX (fun _ hI => hI.nil) (g [[2]] ?_)
  refine WA.so rfl (SO.callP CaF.h rfl (fun w hI => isMinK_g _ _)) rfl ?_
  rintro _ _ _ ⟨rfl, rfl, rfl⟩
  refine ⟨fun _ hI => hI.nil, ?_⟩
  refine WA.so rfl (SO.makes (Enters.func Tryz.call88 rfl) (fun w hI => by have := open_ok T a1 _ c1 _ w hR hI.imm hv; rwa [← hw] at this)) rfl ?_
  rintro _ D2 _ ⟨hX2, ⟨bq, rfl, hO⟩, rfl⟩
  replace hR := hR.ext hX2
  replace h2 := hX2.old _ _ h2
  replace h3 := hX2.old _ _ h3
  refine ⟨fun _ hI => hI.nil.shrink hX2.old, ?_⟩
  refine g [[4],[1,7,6,5,4,3,2]] ?_
  refine WL.so SO.makeMap rfl ?_
  rintro _ _ _ ⟨b21, hb21, rfl, rfl, rfl⟩
  refine WL.so (SO.alloc ZvF.h rfl) rfl (zw fun b8 hb8 => ?_)
  refine g [[4]] ?_
  refine WC.freezeN 0 b8 (.cells (List.toArray [.map (some b21)]) 143 (0, 0)) rfl rfl hb8 (fun D8 hX8 h8 => ?_)
  replace hR := hR.ext hX8
  replace hO := hO.ext hX8
  replace h2 := hX8.old _ _ h2
  replace h3 := hX8.old _ _ h3
  refine g [[1,8,7,6,5,4,3,2]] ?_
  refine WL.so (SO.alloc ZvF.h rfl) rfl (zw fun b9 hb9 => ?_)
  refine WL.so (SO.alloc ZvF.h rfl) rfl (zw fun b10 hb10 => ?_)
  refine g [[6],[2,10,9,8,7,6,5,4,3,2]] ?_
  refine WL.so (SO.makes (Enters.func Tryz.call90 rfl) (fun w hI => truths_g bq _ _ hI.imm)) rfl ?_
  rintro _ D4 _ ⟨hX4, ⟨bt, rfl, hbt⟩, rfl⟩
  replace hR := hR.ext hX4
  replace hO := hO.ext hX4
  replace h2 := hX4.old _ _ h2
  replace h3 := hX4.old _ _ h3
  replace h8 := hX4.old _ _ h8
  refine g [[3],[0,3,2,8,9,10,23,4,5,6]] ?_
  refine WC.hpEq (hp' := [(b10, .cells (List.toArray [.bool (whoO T m 0)]) 4 (0, 0)), (b9, .cells (List.toArray [nt (whoN T m 0)]) 3 (0, 0)), (b21, .map #[] 0), (b6, .cells (List.toArray [it 0]) 51 (0, 0))]) (by rw [whoN_zero]; rfl) ?_
  refine WC.rangeIterN (N := (allT T).length) (arg := fun k => truV (gt (allT T) k)) (fun w1 _ hD1 => truths1_iter T a1 _ c1 bq bt D4 w1 hO hR hbt hv hD1) rfl Tryz.call177 rfl (fun k _ h => (∃ es clock, h = [(b10, .cells (List.toArray [.bool (whoO T m k)]) 4 (0, 0)), (b9, .cells (List.toArray [nt (whoN T m k)]) 3 (0, 0)), (b21, .map es clock), (b6, .cells (List.toArray [it 0]) 51 (0, 0))] ∧ MapB kvT es clock (seenF T m k))) (fun _ _ _ => False) (fun _ _ _ _ _ h => h) ⟨#[], 0, rfl, MapB.empty kvT⟩ ?_ ?_ ?_
  · rintro rec1 l1 Dn0 k D6 _ w1 hrec hk ⟨es, clock, rfl, hMB⟩ hX6 hsz
    unfold RoundGN
    replace hR := hR.ext hX6
    replace h2 := hX6.old _ _ h2
    replace h3 := hX6.old _ _ h3
    replace h8 := hX6.old _ _ h8
    have hoT := okTr_mem hv (gt_mem hk)
    have hTB := keyT_b hoT m T.l.length
    refine g [[1,24,3,2,8,9,10,4,5,6]] ?_
    refine WLF.so (zn rfl) (SO.alloc ZvF.h rfl) rfl (zw fun b11 hb11 => ?_)
    skip
    refine g [[2]] ?_
    refine WP.iterBegin 1 rfl hrec (g [[2],[5,11,3,2,8,9,10,4,5,6],[1,12,11,3,2,8,9,10,4,5,6]] ?_)
    refine WLF.yd (zn rfl) (Yd.buildA (zs := [.int .i64 0, .int .i64 0, .int .i64 0, .int .i64 0, .int .i64 0, .int .i64 0, .int .i64 0, .int .i64 0, .int .i64 0, .int .i64 0]) ⟨_, ZvF.h, rfl⟩ UnF.h SzF.h rfl (cs := [_, _, _, _, _, _, _, _, _, _]) rfl) rfl ?_
    refine WLF.so (zn rfl) (SO.alloc ZvF.h rfl) rfl (zw fun b13 hb13 => ?_)
    refine g [[5],[5,13,12,11,3,2,8,9,10,4,5,6]] ?_
    refine WCF.loopHd (b := b13) _ (fun i : Nat => [(2, pt b2), (3, pt b3), (8, pt b8), (9, pt b9), (10, pt b10), (11, pt b11), (12, it (-1)), (13, pt b13), (26, nt i)]) (fun i => .cells (List.toArray (truC (iniK i))) 150 (0, 0)) (fun i => i ≤ 5) (fun i => 5 - i) 0 (by omega) rfl ⟨rfl, rfl, rfl, rfl, rfl, rfl, rfl, rfl, rfl, trivial⟩ ?_
    intro i hi
    refine g [[1],[5,2,3,8,9,10,11,12,13,26]] ?_
    refine WCF.cond rfl (fun c27 => ?_) (fun c27 => ?_)
    · try simp only [zq] at c27
      have hi5 : i < 5 := by omega
      refine g [[5],[5,2,3,8,9,10,11,12,13,26],[3,14,2,3,8,9,10,11,12,13,26]] ?_
      refine WLF.yd (zn rfl) (Yd.indexA UnF.h SzF.h rfl rfl (by omega) (by omega)) rfl ?_
      refine WLF.so (zn rfl) (SO.store 0 rfl SzF.h rfl rfl rfl rfl (by show 0 + i * 2 + 2 ≤ 10; omega) (oneB_spec rfl)) rfl (zt (g [[3],[4,2,3,8,9,10,11,12,13,26]] ?_))
      exact WP.againHd (i + 1) (by omega) (by omega) 0 rfl (ini_obj i hi5) ⟨rfl, rfl, rfl, rfl, rfl, rfl, rfl, rfl, rfl, trivial⟩
    try simp only [zq] at c27
    obtain rfl : i = 5 := by omega
    refine g [[7],[8,2,3,8,9,10,11,12,13]] ?_
    refine WCF.loopHd (b := b13) _ (fun i : Nat => [(3, pt b3), (8, pt b8), (9, pt b9), (10, pt b10), (11, pt b11), (12, it (nowI (gt (allT T) k) m i)), (13, pt b13), (34, .slice a1 T.l.length c1), (35, nt T.l.length), (36, nt i)]) (fun i => .cells (List.toArray (truC (Go.Ti.keyT (gt (allT T) k) m i))) 150 (0, 0)) (fun i => i ≤ T.l.length) (fun i => T.l.length - i) 0 (by omega) (by rw [← iniK_end]) ⟨rfl, rfl, rfl, rfl, rfl, rfl, rfl, rfl, rfl, rfl, trivial⟩ ?_
    intro i hi
    have hnn := now_num (gt (allT T) k) m i
    have hwd : waitB (gt (allT T) k) i m = inB m ((gt (allT T) k) i).1 ((gt (allT T) k) i).2 := rfl
    refine g [[1],[5,3,8,9,10,11,12,13,34,35,36]] ?_
    refine WCF.cond rfl (fun c37 => ?_) (fun c37 => ?_)
    · try simp only [zq] at c37
      have hil : i < T.l.length := by omega
      have hi5 : i < 5 := by omega
      refine g [[5],[6,3,8,9,10,11,12,13,34,35,36],[0,15,3,8,9,10,11,12,13,34,35,36]] ?_
      refine WCF.tail 4 [0, 1, 2, 3] rfl zk zk (noLets.then (noLets.blk (noLets.then (noLets.then (noLets.blk (noLets.then (noLets.blk noLets.round))))))) (g [[1]] ?_)
      refine WQ.q rfl (Yd.qt (Yd.indexA UnF.h SzF.h rfl rfl (by omega) (by omega))) rfl (WQ.q rfl (Yd.qt (Yd.lV [_, _] rfl (RdN.own (k := 1) (n := 2) rfl (tru_rdn (gt (allT T) k) hi5)))) rfl (g [[1]] ?_))
      refine WQ.tailR (WLF.know 41 (prV ((gt (allT T) k) i)) rfl rfl ?_)
      refine WLF.cl rfl (fun w hI => waits_g ((gt (allT T) k) i) m _) (g [[2]] ?_)
      refine WCF.cond rfl (fun c43 => ?_) (fun c43 => ?_)
      · try simp only [zq] at c43
        have hwt : waitB (gt (allT T) k) i m = true := by rw [hwd]; assumption
        refine g [[1],[3,15,3,8,9,10,11,12,13,34,35,36]] ?_
        refine WLF.yd (zn rfl) (Yd.indexA UnF.h SzF.h rfl rfl (by omega) (by omega)) rfl (WLF.yd (zn rfl) (Yd.lV [_, _] rfl (RdN.own (k := 1) (n := 2) rfl (tru_rdn (gt (allT T) k) hi5))) rfl ?_)
        refine WLF.yd (zn rfl) (Yd.indexA UnF.h SzF.h rfl rfl (by omega) (by omega)) rfl ?_
        refine WLF.so (zn rfl) (SO.store 0 rfl SzF.h rfl rfl rfl rfl (by show 0 + i * 2 + 2 ≤ 10; omega) (oneB_spec rfl)) rfl (zt (g [[3],[4,15,3,8,9,10,11,12,13,34,35,36]] ?_))
        refine WLF.part 51 rfl (fun g51 => ?_) (fun g51 => ?_)
        · try simp only [zq] at g51
          have hnx := now_yes (t := (gt (allT T) k)) (m := m) (k := i) hwt (.inl (by omega))
          refine g [[3]] ?_
          first | refine WLF.know 54 (nt (nowI (gt (allT T) k) m i).toNat) rfl (congrArg it hnn2) ?_ | skip
          refine g [[4]] ?_
          refine WCF.condT rfl (g [[6,15,3,8,9,10,11,12,13,34,35,36],[4,12,3,8,9,10,11,13,34,35,36]] ?_)
          exact WP.againHd (i + 1) (by omega) (by omega) 0 rfl (by first | exact key_obj hwt hi5 | rw [← keyT_succ_n hwt]) ⟨rfl, rfl, rfl, rfl, rfl, by show some (it _) = some (it _); rw [hnx], rfl, rfl, rfl, rfl, trivial⟩
        try simp only [zq] at g51
        have hnn2 : nowI (gt (allT T) k) m i = (((nowI (gt (allT T) k) m i).toNat : Nat) : Int) := by omega
        refine g [[3]] ?_
        first | refine WLF.know 54 (nt (nowI (gt (allT T) k) m i).toNat) rfl (congrArg it hnn2) ?_ | skip
        refine WLF.sog (zn rfl) rfl (SO.callP CaF.h rfl (fun w hI => before_g (gt (allT T) k) i (nowI (gt (allT T) k) m i).toNat hi5 (by omega) _)) rfl (zs (g [[3]] ?_))
        refine WCF.cond rfl (fun c56 => ?_) (fun c56 => ?_)
        · try simp only [zq] at c56
          have hnx := now_yes (t := (gt (allT T) k)) (m := m) (k := i) hwt (.inr c56)
          refine g [[6,15,3,8,9,10,11,12,13,34,35,36],[4,12,3,8,9,10,11,13,34,35,36]] ?_
          exact WP.againHd (i + 1) (by omega) (by omega) 0 rfl (by first | exact key_obj hwt hi5 | rw [← keyT_succ_n hwt]) ⟨rfl, rfl, rfl, rfl, rfl, by show some (it _) = some (it _); rw [hnx], rfl, rfl, rfl, rfl, trivial⟩
        try simp only [zq] at c56
        have hnx := now_no2 (t := (gt (allT T) k)) (m := m) (k := i) (by omega) c56
        refine g [[3],[4,3,8,9,10,11,12,13,34,35,36]] ?_
        exact WP.againHd (i + 1) (by omega) (by omega) 0 rfl (by first | exact key_obj hwt hi5 | rw [← keyT_succ_n hwt]) ⟨rfl, rfl, rfl, rfl, rfl, by show some (it _) = some (it _); rw [hnx], rfl, rfl, rfl, rfl, trivial⟩
      try simp only [zq] at c43
      have hwt : waitB (gt (allT T) k) i m = false := by rw [hwd]; assumption
      have hnx := now_no (t := (gt (allT T) k)) (m := m) (k := i) (fun h => by rw [hwt] at h; cases h.1)
      refine g [[3],[4,3,8,9,10,11,12,13,34,35,36]] ?_
      exact WP.againHd (i + 1) (by omega) (by omega) 0 rfl (by first | exact key_obj hwt hi5 | rw [← keyT_succ_n hwt]) ⟨rfl, rfl, rfl, rfl, rfl, by show some (it _) = some (it _); rw [hnx], rfl, rfl, rfl, rfl, trivial⟩
    try simp only [zq] at c37
    obtain rfl : i = T.l.length := by omega
    refine g [[7],[3,8,9,10,12,13]] ?_
    refine WLF.know 60 (kvT (kyT (Go.Ti.keyT (gt (allT T) k) m T.l.length))) rfl (kvT_at hTB) (WLF.yd (zn rfl) (Yd.lookB (y := kyT (Go.Ti.keyT (gt (allT T) k) m T.l.length)) kvT_inj keyLawT key_kT UnF.h ZvF.h (j := 6) rfl rfl rfl hMB) rfl (g [[2]] ?_))
    refine WCF.cond rfl (fun c61 => ?_) (fun c61 => ?_)
    · try simp only [zq] at c61
      obtain ⟨hs1, hs2, hs3⟩ := who_same hv hk c61
      refine g [[3]] ?_
      first
        | (refine WP.iterOnN hrec (h1 := [_, _, _, _]) zU1 zU2 (DExt.refl _ _) ⟨es, clock, ?_, ?_⟩
           · rw [hs1, hs2]
           rw [hs3]; exact hMB)
        | (refine WP.iterOnN hrec (h1 := [_, _, _, _]) zU1 zU2 (DExt.refl _ _) ⟨es1, clock1, ?_, ?_⟩
           · rw [hs1, hs2]; rfl
           rw [seen_succ hk]; exact hMB1)
        | (refine WP.iterOnN hrec (h1 := [_, _, _, _]) zU1 zU2 hX69 ⟨es1, clock1, ?_, ?_⟩
           · rw [hs2]; rfl
           rw [seen_succ hk]; exact hMB1)
    try simp only [zq] at c61
    refine g [[3],[3,8,9,10,12,13]] ?_
    refine WLF.know 63 (kvT (kyT (Go.Ti.keyT (gt (allT T) k) m T.l.length))) rfl (kvT_at hTB) (WLF.so (zn rfl) (SO.putB (y := kyT (Go.Ti.keyT (gt (allT T) k) m T.l.length)) kvT_inj keyLawT key_kT UnF.h rfl rfl rfl (j := 6) rfl hMB) rfl ?_)
    rintro _ _ _ ⟨rfl, es1, clock1, rfl, hMB1⟩
    refine g [[3],[5,9,10,12]] ?_
    refine WCF.cond rfl (fun c65 => ?_) (fun c65 => ?_)
    · try simp only [zq] at c65
      obtain ⟨hs1, hs2⟩ := whoN_none hk c65
      refine g [[4,10]] ?_
      first
        | (refine WP.iterOnN hrec (h1 := [_, _, _, _]) zU1 zU2 (DExt.refl _ _) ⟨es, clock, ?_, ?_⟩
           · rw [hs1, hs2]
           rw [hs3]; exact hMB)
        | (refine WP.iterOnN hrec (h1 := [_, _, _, _]) zU1 zU2 (DExt.refl _ _) ⟨es1, clock1, ?_, ?_⟩
           · rw [hs1, hs2]; rfl
           rw [seen_succ hk]; exact hMB1)
        | (refine WP.iterOnN hrec (h1 := [_, _, _, _]) zU1 zU2 hX69 ⟨es1, clock1, ?_, ?_⟩
           · rw [hs2]; rfl
           rw [seen_succ hk]; exact hMB1)
    try simp only [zq] at c65
    obtain ⟨q, hqn⟩ : ∃ q : Nat, nowI (gt (allT T) k) m T.l.length = (q : Int) := ⟨(nowI (gt (allT T) k) m T.l.length).toNat, by omega⟩
    have hnn := now_num (gt (allT T) k) m T.l.length
    have hql : q < T.l.length := by omega
    obtain ⟨hs1, hs2⟩ := whoN_some hk hql hqn
    have hw32 : whoN T m k < 32 := Nat.lt_of_lt_of_le (bits_lt _ _) (Nat.pow_le_pow_right (by decide) h5)
    have hq32 : 2 ^ q < 32 := Nat.lt_of_lt_of_le (Nat.pow_lt_pow_right (by decide) hql) (Nat.pow_le_pow_right (by decide) h5)
    refine g [[0,9,12]] ?_
    refine WCF.tail 3 [0, 1, 2] rfl zk zk (noLets.blk noLets.round) (g [[2]] ?_)
    refine WQ.know 67 (nt q) rfl (congrArg it hqn) (WQ.q rfl (Yd.qt (Yd.shlN (k := q) rfl rfl (by omega))) rfl ?_)
    refine WQ.tailR (WLF.so (zn rfl) (SO.buildSlice UnF.h SzF.h ZvF.h rfl rfl rfl rfl (cs := [_, _]) rfl) rfl ?_)
    rintro _ _ _ ⟨b69, hb69, rfl, rfl, rfl⟩
    refine WLF.freezeN 0 b69 (.cells (List.toArray [nt (whoN T m k), nt (2 ^ q)]) 3 (0, 0)) rfl rfl hb69 (fun D69 hX69 h69 => ?_)
    refine WLF.cl rfl (fun w hI => union_g [whoN T m k, 2 ^ q] (some ⟨b69, 0, none⟩) 2 2 D69 _ (SlL.ofBlock (f := natC) (l := [whoN T m k, 2 ^ q]) (rest := []) (fun _ => rfl) h69) (by intro x hx; simp only [List.mem_cons, List.not_mem_nil, or_false] at hx; rcases hx with rfl | rfl; exact hw32; exact hq32) (by omega) hI.imm) ?_
    refine WLF.know 70 (nt (whoN T m (k + 1))) rfl (by rw [← hs1]; show nt (orL [whoN T m k, 2 ^ q] 2) = _; simp [orL]) (g [[3]] ?_)
    first
      | (refine WP.iterOnN hrec (h1 := [_, _, _, _]) zU1 zU2 (DExt.refl _ _) ⟨es, clock, ?_, ?_⟩
         · rw [hs1, hs2]
         rw [hs3]; exact hMB)
      | (refine WP.iterOnN hrec (h1 := [_, _, _, _]) zU1 zU2 (DExt.refl _ _) ⟨es1, clock1, ?_, ?_⟩
         · rw [hs1, hs2]; rfl
         rw [seen_succ hk]; exact hMB1)
      | (refine WP.iterOnN hrec (h1 := [_, _, _, _]) zU1 zU2 hX69 ⟨es1, clock1, ?_, ?_⟩
         · rw [hs2]; rfl
         rw [seen_succ hk]; exact hMB1)
  · rintro Dn1 D6 _ hDn1 hX6 ⟨es, clock, rfl, hMB⟩
    refine g [[3],[4,9,10,4,5,6]] ?_
    refine WL.part 73 rfl (fun g73 => ?_) (fun g73 => ?_)
    · try simp only [zq] at g73
      refine g [[2]] ?_
      refine WL.cl rfl (fun w hI => mustK_ok _ _) (g [[3],[0,9,10,4,5,6]] ?_)
      refine WC.drawP [_, _] (pz [1,3,4,6,8]) zk zk zX (fun _ hI => hI.tail.left (l1 := [_, _]) (l2 := [_, _])) (g [[2]] ?_)
      refine WA.so rfl (SO.ofYd (Yd.assign rfl)) rfl ?_
      rintro _ _ _ ⟨rfl, rfl, rfl⟩
      refine ⟨fun _ hI => hI.tail.left (l1 := [_, _]) (l2 := [_, _]), ?_⟩
      refine WA.so rfl (SO.ofYd (Yd.assign rfl)) rfl ?_
      rintro _ _ _ ⟨rfl, rfl, rfl⟩
      refine ⟨fun _ hI => hI.tail.left (l1 := [_, _]) (l2 := [_, _]), ?_⟩
      refine WA.so rfl (SO.store 4 rfl SzF.h rfl rfl rfl rfl (zqb rfl) (oneB_spec rfl)) rfl ?_
      rintro _ _ _ ⟨rfl, rfl, rfl⟩
      refine ⟨fun _ hI => hI.tail.left (l1 := [_, _]) (l2 := [_, _]), ?_⟩
      refine g [[3]] ?_
      refine WP.retMsD [Dn1] [_, _, _, _] [_, _, _] [_, _, _] rfl rfl CaF.h (fun w hI => idleM86 _ _) (fun _ h => h) (fun h => h) rfl zV (fun w hI => ⟨congrArg Ending.returned (by rw [hO0]; rfl), hI.keep⟩)
    try simp only [zq] at g73
    refine g [[2]] ?_
    refine WL.part 75 rfl (fun g75 => ?_) (fun g75 => ?_)
    · try simp only [zq] at g75
      refine WL.cl rfl (fun w hI => mustK_ok _ _) (g [[3],[0,9,10,4,5,6]] ?_)
      refine WC.drawP [_, _] (pz [1,3,4,6,8]) zk zk zX (fun _ hI => hI.tail.left (l1 := [_, _]) (l2 := [_, _])) (g [[2]] ?_)
      refine WA.so rfl (SO.ofYd (Yd.assign rfl)) rfl ?_
      rintro _ _ _ ⟨rfl, rfl, rfl⟩
      refine ⟨fun _ hI => hI.tail.left (l1 := [_, _]) (l2 := [_, _]), ?_⟩
      refine WA.so rfl (SO.ofYd (Yd.assign rfl)) rfl ?_
      rintro _ _ _ ⟨rfl, rfl, rfl⟩
      refine ⟨fun _ hI => hI.tail.left (l1 := [_, _]) (l2 := [_, _]), ?_⟩
      refine WA.so rfl (SO.store 4 rfl SzF.h rfl rfl rfl rfl (zqb rfl) (oneB_spec rfl)) rfl ?_
      rintro _ _ _ ⟨rfl, rfl, rfl⟩
      refine ⟨fun _ hI => hI.tail.left (l1 := [_, _]) (l2 := [_, _]), ?_⟩
      refine g [[3]] ?_
      refine WP.retMsD [Dn1] [_, _, _, _] [_, _, _] [_, _, _] rfl rfl CaF.h (fun w hI => idleM86 _ _) (fun _ h => h) (fun h => h) rfl zV (fun w hI => ⟨congrArg Ending.returned (by rw [hO0]; rfl), hI.keep⟩)
    try simp only [zq] at g75
    exact (who_must hne (by omega) g75).elim
  exact fun _ _ _ _ _ _ h => h.elim
theorem Whose_g (T : Tks) (a1 : Option Addr) (n1 c1 : Nat) (D : Imm) (w : World) (hR : TksR D T a1 n1) (hH : Holds D w) (hv : tksB T = true) (m : Int) : Gives Tryz.prog 25 [.agg #[it T.huts, .slice a1 n1 c1], it m] w (.tuple #[it (WhoseOut T m).1, .bool (WhoseOut T m).2.1, it (WhoseOut T m).2.2]) := by
  cases hw : minT m with
  | false => exact Whose_2 T a1 n1 c1 D w hR hH hv m hw
  | true =>
    by_cases hne : allT T = []
    · exact Whose_3 T a1 n1 c1 D w hR hH hv m hw hne
    exact Whose_ok T a1 n1 c1 D w hR hH hv m hw hne
end Go.Proofs.YtejgofaeafphjaaGreatDoor
namespace Go.Proofs.YtejgofaeafphjaaGreatDoor
open Go.W Go.Ti
theorem splice_whole (cs vs : List Value) (h : vs.length = cs.length) : splice cs 0 vs = vs ++ [] := by simp [splice, h]
theorem makes_of_news {P : Program} {f : FuncId} {vals : List Value} {w : World} {D : Imm} {α : Type} [Inhabited α] {gg : α → List Value} {m : Nat} (hg : ∀ x, (gg x).length = m) {l : List α} {E : TypeId}
    (h : News P f vals w D (fun v D' h' => D' = D ∧ ∃ o, v = owV o l.length ∧ owP w o l.length m ∧ h' = owH o E (l.flatMap gg) [])) : Makes P f vals w D (fun v D' => ∃ a c, v = .slice a l.length c ∧ SlL D' m (l.map gg) a l.length ∧ l.length ≤ c) :=
  h.mono fun e w' ⟨v, D', hpc', he, hX, hI, hD, o, hv, ho, hh⟩ => by
    subst hD; subst hh; subst hv
    obtain ⟨D2, hX2, hS, hI2⟩ := Inv.freezeOw hg [] [] o E l ho hI
    refine ⟨_, D2, he, hI2.keep, hI2.imm, hX2, owAt o, owCp o l.length, owV_owL (owL_of ho), hS, ?_⟩
    cases o with
    | none => have h0 : l.length = 0 := ho
              rw [h0]; exact Nat.zero_le _
    | some u => exact ho.2.1
structure Sl where
  a : Option Addr
  n : Nat
  c : Nat
def Sl.v (s : Sl) : Value := .slice s.a s.n s.c
def nilS : Sl := ⟨none, 0, 0⟩
structure WickR (D : Imm) (x : Wick) (m s : Sl) : Prop where
  mark : SlL D 3 (x.marks.map markC) m.a m.n
  sand : SlL D 2 (x.sand.map spanC) s.a s.n
  len : m.n ≤ 1000 ∧ s.n ≤ 1000
structure DayR (D : Imm) (d : Day) (t l b : Sl) : Prop where
  tks : SlL D 5 (d.tks.map tickC) t.a t.n
  looks : SlL D 4 (d.looks.map lookC) l.a l.n
  book : SlL D 3 (d.book.map entC) b.a b.n
  len : t.n ≤ 1000 ∧ l.n ≤ 1000 ∧ b.n ≤ 1000
  cap : t.n ≤ t.c ∧ l.n ≤ l.c ∧ b.n ≤ b.c
theorem WickR.ext {w : World} {D D' : Imm} (hD : DExt w D D') {x : Wick} {m s : Sl} (h : WickR D x m s) : WickR D' x m s := ⟨h.mark.ext hD, h.sand.ext hD, h.len⟩
theorem DayR.ext {w : World} {D D' : Imm} (hD : DExt w D D') {d : Day} {t l b : Sl} (h : DayR D d t l b) : DayR D' d t l b := ⟨h.tks.ext hD, h.looks.ext hD, h.book.ext hD, h.len, h.cap⟩
def womC (x : Wick) (m s t l b : Sl) : List Value := [it x.huts, it x.price, it x.fine, it x.wait, m.v, s.v, t.v, l.v, b.v, .bool true]
def womO (x : Wick) (m s t l b : Sl) : Obj := .cells (List.toArray (womC x m s t l b)) 99 (0, 0)
theorem DayR.nil (D : Imm) : DayR D day0 nilS nilS nilS := ⟨SlL.nil _ _, SlL.nil _ _, SlL.nil _ _, by simp [nilS], by simp [nilS]⟩
theorem tideW_R {D : Imm} {x : Wick} {d : Day} {m s t l b : Sl} (hw : WickR D x m s) (hd : DayR D d t l b) : TideR D (tideW x d) m.a m.n s.a s.n l.a l.n := ⟨hw.mark, hw.sand, hd.looks, hw.len.1, hw.len.2, hd.len.2.1⟩
theorem tksW_R {D : Imm} {x : Wick} {d : Day} {t l b : Sl} (hd : DayR D d t l b) : TksR D (tksW x d) t.a t.n := ⟨hd.tks, hd.len.1⟩
theorem oneMark (x : Go.Ti.Mark) : ∀ v ∈ markC x, v.oneCell' = true := fun v hv => by
  simp only [markC, List.mem_cons, List.not_mem_nil, or_false] at hv
  rcases hv with rfl | rfl | rfl <;> rfl
theorem onesMark (l : List Go.Ti.Mark) : ∀ v ∈ l.flatMap markC, v.oneCell' = true := fun v hv => by
  obtain ⟨x, _, h⟩ := List.mem_flatMap.1 hv
  exact oneMark x v h
theorem copiedMark_g (l : List Go.Ti.Mark) (a : Option Addr) (n c : Nat) (D : Imm) (hS : SlL D 3 (l.map markC) a n) (hn : n ≤ 1000) (w w0 : World) (hs0 : w0.heap.size ≤ w.heap.size) (hH : Holds D w) : News Tryz.prog 63 [.slice a n c] w D (fun v D' h' => D' = D ∧ ∃ o, v = owV o l.length ∧ owP w0 o l.length 3 ∧ h' = owH o 62 (l.flatMap markC) []) := by
  unfold News
  obtain rfl := hS.len'
  refine en Tryz.func63 rfl Tryz.ntmps63 (Inv.start hH) (g [[1],[6,0],[6,2,0]] ?_)
  refine WC.cond rfl (fun c6 => ?_) (fun c6 => ?_)
  · try simp only [zq] at c6
    obtain rfl : l = [] := List.length_eq_zero_iff.1 (by omega)
    refine g [[1],[6,2,0]] ?_
    refine WP.ret1 rfl rfl rfl (RV.tmp rfl) (fun w1 hI => ⟨_, D, [], rfl, DExt.refl _ _, hI, rfl, none, rfl, rfl, rfl⟩)
  try simp only [zq] at c6
  have hne : l.length ≠ 0 := by omega
  refine g [[3],[3,2,0]] ?_
  refine WL.so (SO.makeSlice Tryz.underlying27 Tryz.sizeOf62 Tryz.typeInfo62 Tryz.zeroValue62 rfl rfl rfl (by omega) (by show (24 : Int) * _ ≤ _; omega)) rfl ?_
  rintro _ _ _ ⟨b9, hb9, rfl, rfl, rfl⟩
  refine g [[4],[3,3,2,0]] ?_
  refine WL.so (SO.copy (k := 0) (cs := zeroL [.int .i64 0, .int .i64 0, .int .i64 0] (l.length * 3)) rfl Tryz.underlying27 Tryz.sizeOf62 rfl rfl rfl (ys := l.flatMap markC) (hS.rdS markC_len (fun e => by subst e; simp at hne)) (onesMark l) (by rw [zeroL_len, flat_len markC_len]; exact Nat.le_refl _)) rfl ?_
  rintro _ _ _ ⟨rfl, rfl⟩
  rw [splice_whole (zeroL [.int .i64 0, .int .i64 0, .int .i64 0] (l.length * 3)) (l.flatMap markC) (by rw [zeroL_len, flat_len markC_len])]
  refine g [[3],[6,3,2]] ?_
  refine WP.ret1 rfl rfl rfl (RV.tmp rfl) (fun w1 hI => ⟨_, D, _, rfl, DExt.refl _ _, hI, rfl, some ⟨b9, l.length, []⟩, rfl, ⟨Nat.le_trans hs0 hb9, Nat.le_refl _, by simp⟩, rfl⟩)
theorem oneSpan (x : Sp) : ∀ v ∈ spanC x, v.oneCell' = true := fun v hv => by
  simp only [spanC, List.mem_cons, List.not_mem_nil, or_false] at hv
  rcases hv with rfl | rfl <;> rfl
theorem onesSpan (l : List Sp) : ∀ v ∈ l.flatMap spanC, v.oneCell' = true := fun v hv => by
  obtain ⟨x, _, h⟩ := List.mem_flatMap.1 hv
  exact oneSpan x v h
theorem copiedSpan_g (l : List Sp) (a : Option Addr) (n c : Nat) (D : Imm) (hS : SlL D 2 (l.map spanC) a n) (hn : n ≤ 1000) (w w0 : World) (hs0 : w0.heap.size ≤ w.heap.size) (hH : Holds D w) : News Tryz.prog 64 [.slice a n c] w D (fun v D' h' => D' = D ∧ ∃ o, v = owV o l.length ∧ owP w0 o l.length 2 ∧ h' = owH o 39 (l.flatMap spanC) []) := by
  unfold News
  obtain rfl := hS.len'
  refine en Tryz.func64 rfl Tryz.ntmps64 (Inv.start hH) (g [[1],[6,0],[6,2,0]] ?_)
  refine WC.cond rfl (fun c6 => ?_) (fun c6 => ?_)
  · try simp only [zq] at c6
    obtain rfl : l = [] := List.length_eq_zero_iff.1 (by omega)
    refine g [[1],[6,2,0]] ?_
    refine WP.ret1 rfl rfl rfl (RV.tmp rfl) (fun w1 hI => ⟨_, D, [], rfl, DExt.refl _ _, hI, rfl, none, rfl, rfl, rfl⟩)
  try simp only [zq] at c6
  have hne : l.length ≠ 0 := by omega
  refine g [[3],[3,2,0]] ?_
  refine WL.so (SO.makeSlice Tryz.underlying28 Tryz.sizeOf39 Tryz.typeInfo39 Tryz.zeroValue39 rfl rfl rfl (by omega) (by show (16 : Int) * _ ≤ _; omega)) rfl ?_
  rintro _ _ _ ⟨b9, hb9, rfl, rfl, rfl⟩
  refine g [[4],[3,3,2,0]] ?_
  refine WL.so (SO.copy (k := 0) (cs := zeroL [.int .i64 0, .int .i64 0] (l.length * 2)) rfl Tryz.underlying28 Tryz.sizeOf39 rfl rfl rfl (ys := l.flatMap spanC) (hS.rdS spanC_len (fun e => by subst e; simp at hne)) (onesSpan l) (by rw [zeroL_len, flat_len spanC_len]; exact Nat.le_refl _)) rfl ?_
  rintro _ _ _ ⟨rfl, rfl⟩
  rw [splice_whole (zeroL [.int .i64 0, .int .i64 0] (l.length * 2)) (l.flatMap spanC) (by rw [zeroL_len, flat_len spanC_len])]
  refine g [[3],[6,3,2]] ?_
  refine WP.ret1 rfl rfl rfl (RV.tmp rfl) (fun w1 hI => ⟨_, D, _, rfl, DExt.refl _ _, hI, rfl, some ⟨b9, l.length, []⟩, rfl, ⟨Nat.le_trans hs0 hb9, Nat.le_refl _, by simp⟩, rfl⟩)
theorem oneTick (x : Tick) : ∀ v ∈ tickC x, v.oneCell' = true := fun v hv => by
  simp only [tickC, List.mem_cons, List.not_mem_nil, or_false] at hv
  rcases hv with rfl | rfl | rfl | rfl | rfl <;> rfl
theorem onesTick (l : List Tick) : ∀ v ∈ l.flatMap tickC, v.oneCell' = true := fun v hv => by
  obtain ⟨x, _, h⟩ := List.mem_flatMap.1 hv
  exact oneTick x v h
theorem copiedTick_g (l : List Tick) (a : Option Addr) (n c : Nat) (D : Imm) (hS : SlL D 5 (l.map tickC) a n) (hn : n ≤ 1000) (w w0 : World) (hs0 : w0.heap.size ≤ w.heap.size) (hH : Holds D w) : News Tryz.prog 75 [.slice a n c] w D (fun v D' h' => D' = D ∧ ∃ o, v = owV o l.length ∧ owP w0 o l.length 5 ∧ h' = owH o 41 (l.flatMap tickC) []) := by
  unfold News
  obtain rfl := hS.len'
  refine en Tryz.func75 rfl Tryz.ntmps75 (Inv.start hH) (g [[1],[6,0],[6,2,0]] ?_)
  refine WC.cond rfl (fun c6 => ?_) (fun c6 => ?_)
  · try simp only [zq] at c6
    obtain rfl : l = [] := List.length_eq_zero_iff.1 (by omega)
    refine g [[1],[6,2,0]] ?_
    refine WP.ret1 rfl rfl rfl (RV.tmp rfl) (fun w1 hI => ⟨_, D, [], rfl, DExt.refl _ _, hI, rfl, none, rfl, rfl, rfl⟩)
  try simp only [zq] at c6
  have hne : l.length ≠ 0 := by omega
  refine g [[3],[3,2,0]] ?_
  refine WL.so (SO.makeSlice Tryz.underlying22 Tryz.sizeOf41 Tryz.typeInfo41 Tryz.zeroValue41 rfl rfl rfl (by omega) (by show (40 : Int) * _ ≤ _; omega)) rfl ?_
  rintro _ _ _ ⟨b9, hb9, rfl, rfl, rfl⟩
  refine g [[4],[3,3,2,0]] ?_
  refine WL.so (SO.copy (k := 0) (cs := zeroL [.int .i64 0, .int .i64 0, .int .i64 0, .int .i64 0, .int .i64 0] (l.length * 5)) rfl Tryz.underlying22 Tryz.sizeOf41 rfl rfl rfl (ys := l.flatMap tickC) (hS.rdS tickC_len (fun e => by subst e; simp at hne)) (onesTick l) (by rw [zeroL_len, flat_len tickC_len]; exact Nat.le_refl _)) rfl ?_
  rintro _ _ _ ⟨rfl, rfl⟩
  rw [splice_whole (zeroL [.int .i64 0, .int .i64 0, .int .i64 0, .int .i64 0, .int .i64 0] (l.length * 5)) (l.flatMap tickC) (by rw [zeroL_len, flat_len tickC_len])]
  refine g [[3],[6,3,2]] ?_
  refine WP.ret1 rfl rfl rfl (RV.tmp rfl) (fun w1 hI => ⟨_, D, _, rfl, DExt.refl _ _, hI, rfl, some ⟨b9, l.length, []⟩, rfl, ⟨Nat.le_trans hs0 hb9, Nat.le_refl _, by simp⟩, rfl⟩)
theorem oneLook (x : Look) : ∀ v ∈ lookC x, v.oneCell' = true := fun v hv => by
  simp only [lookC, List.mem_cons, List.not_mem_nil, or_false] at hv
  rcases hv with rfl | rfl | rfl | rfl <;> rfl
theorem onesLook (l : List Look) : ∀ v ∈ l.flatMap lookC, v.oneCell' = true := fun v hv => by
  obtain ⟨x, _, h⟩ := List.mem_flatMap.1 hv
  exact oneLook x v h
theorem copiedLook_g (l : List Look) (a : Option Addr) (n c : Nat) (D : Imm) (hS : SlL D 4 (l.map lookC) a n) (hn : n ≤ 1000) (w w0 : World) (hs0 : w0.heap.size ≤ w.heap.size) (hH : Holds D w) : News Tryz.prog 76 [.slice a n c] w D (fun v D' h' => D' = D ∧ ∃ o, v = owV o l.length ∧ owP w0 o l.length 4 ∧ h' = owH o 44 (l.flatMap lookC) []) := by
  unfold News
  obtain rfl := hS.len'
  refine en Tryz.func76 rfl Tryz.ntmps76 (Inv.start hH) (g [[1],[6,0],[6,2,0]] ?_)
  refine WC.cond rfl (fun c6 => ?_) (fun c6 => ?_)
  · try simp only [zq] at c6
    obtain rfl : l = [] := List.length_eq_zero_iff.1 (by omega)
    refine g [[1],[6,2,0]] ?_
    refine WP.ret1 rfl rfl rfl (RV.tmp rfl) (fun w1 hI => ⟨_, D, [], rfl, DExt.refl _ _, hI, rfl, none, rfl, rfl, rfl⟩)
  try simp only [zq] at c6
  have hne : l.length ≠ 0 := by omega
  refine g [[3],[3,2,0]] ?_
  refine WL.so (SO.makeSlice Tryz.underlying29 Tryz.sizeOf44 Tryz.typeInfo44 Tryz.zeroValue44 rfl rfl rfl (by omega) (by show (32 : Int) * _ ≤ _; omega)) rfl ?_
  rintro _ _ _ ⟨b9, hb9, rfl, rfl, rfl⟩
  refine g [[4],[3,3,2,0]] ?_
  refine WL.so (SO.copy (k := 0) (cs := zeroL [.int .i64 0, .int .i64 0, .int .i64 0, .int .i64 0] (l.length * 4)) rfl Tryz.underlying29 Tryz.sizeOf44 rfl rfl rfl (ys := l.flatMap lookC) (hS.rdS lookC_len (fun e => by subst e; simp at hne)) (onesLook l) (by rw [zeroL_len, flat_len lookC_len]; exact Nat.le_refl _)) rfl ?_
  rintro _ _ _ ⟨rfl, rfl⟩
  rw [splice_whole (zeroL [.int .i64 0, .int .i64 0, .int .i64 0, .int .i64 0] (l.length * 4)) (l.flatMap lookC) (by rw [zeroL_len, flat_len lookC_len])]
  refine g [[3],[6,3,2]] ?_
  refine WP.ret1 rfl rfl rfl (RV.tmp rfl) (fun w1 hI => ⟨_, D, _, rfl, DExt.refl _ _, hI, rfl, some ⟨b9, l.length, []⟩, rfl, ⟨Nat.le_trans hs0 hb9, Nat.le_refl _, by simp⟩, rfl⟩)
theorem oneEnt (x : Ent) : ∀ v ∈ entC x, v.oneCell' = true := fun v hv => by
  simp only [entC, List.mem_cons, List.not_mem_nil, or_false] at hv
  rcases hv with rfl | rfl | rfl <;> rfl
theorem onesEnt (l : List Ent) : ∀ v ∈ l.flatMap entC, v.oneCell' = true := fun v hv => by
  obtain ⟨x, _, h⟩ := List.mem_flatMap.1 hv
  exact oneEnt x v h
theorem copiedEnt_g (l : List Ent) (a : Option Addr) (n c : Nat) (D : Imm) (hS : SlL D 3 (l.map entC) a n) (hn : n ≤ 1000) (w w0 : World) (hs0 : w0.heap.size ≤ w.heap.size) (hH : Holds D w) : News Tryz.prog 77 [.slice a n c] w D (fun v D' h' => D' = D ∧ ∃ o, v = owV o l.length ∧ owP w0 o l.length 3 ∧ h' = owH o 46 (l.flatMap entC) []) := by
  unfold News
  obtain rfl := hS.len'
  refine en Tryz.func77 rfl Tryz.ntmps77 (Inv.start hH) (g [[1],[6,0],[6,2,0]] ?_)
  refine WC.cond rfl (fun c6 => ?_) (fun c6 => ?_)
  · try simp only [zq] at c6
    obtain rfl : l = [] := List.length_eq_zero_iff.1 (by omega)
    refine g [[1],[6,2,0]] ?_
    refine WP.ret1 rfl rfl rfl (RV.tmp rfl) (fun w1 hI => ⟨_, D, [], rfl, DExt.refl _ _, hI, rfl, none, rfl, rfl, rfl⟩)
  try simp only [zq] at c6
  have hne : l.length ≠ 0 := by omega
  refine g [[3],[3,2,0]] ?_
  refine WL.so (SO.makeSlice Tryz.underlying32 Tryz.sizeOf46 Tryz.typeInfo46 Tryz.zeroValue46 rfl rfl rfl (by omega) (by show (24 : Int) * _ ≤ _; omega)) rfl ?_
  rintro _ _ _ ⟨b9, hb9, rfl, rfl, rfl⟩
  refine g [[4],[3,3,2,0]] ?_
  refine WL.so (SO.copy (k := 0) (cs := zeroL [.int .i64 0, .int .i64 0, .int .i64 0] (l.length * 3)) rfl Tryz.underlying32 Tryz.sizeOf46 rfl rfl rfl (ys := l.flatMap entC) (hS.rdS entC_len (fun e => by subst e; simp at hne)) (onesEnt l) (by rw [zeroL_len, flat_len entC_len]; exact Nat.le_refl _)) rfl ?_
  rintro _ _ _ ⟨rfl, rfl⟩
  rw [splice_whole (zeroL [.int .i64 0, .int .i64 0, .int .i64 0] (l.length * 3)) (l.flatMap entC) (by rw [zeroL_len, flat_len entC_len])]
  refine g [[3],[6,3,2]] ?_
  refine WP.ret1 rfl rfl rfl (RV.tmp rfl) (fun w1 hI => ⟨_, D, _, rfl, DExt.refl _ _, hI, rfl, some ⟨b9, l.length, []⟩, rfl, ⟨Nat.le_trans hs0 hb9, Nat.le_refl _, by simp⟩, rfl⟩)
theorem grownTick_g (l : List Tick) (x : Tick) (a : Option Addr) (n c : Nat) (D : Imm) (hS : SlL D 5 (l.map tickC) a n) (hn : n ≤ 1000) (w : World) (hH : Holds D w) : Makes Tryz.prog 222 [.slice a n c, .agg (List.toArray (tickC x))] w D (fun v D' => ∃ a c, v = .slice a (l ++ [x]).length c ∧ SlL D' 5 ((l ++ [x]).map tickC) a (l ++ [x]).length ∧ (l ++ [x]).length ≤ c) := by
  unfold Makes
  obtain rfl := hS.len'
  refine en Tryz.func222 rfl Tryz.ntmps222 (Inv.start hH) (g [[1],[1,0,1]] ?_)
  refine WL.so (SO.box rfl rfl) rfl (zw fun b3 hb3 => ?_)
  refine g [[4],[0,4,3,0]] ?_
  refine WC.drawH [_] zk (fun _ hI => hI) (g [[1000],[1002]] ?_)
  refine WH.two (i := 1) (j := 3) zk ?_ ?_
  · refine WHo.so rfl (SO.news (Enters.func CaF.h rfl) (fun w1 hI => copiedTick_g l a _ c D hS (by omega) w1 w hI.keep.size hI.imm)) rfl ?_
    rintro _ _ _ ⟨hp6, hX6, ⟨rfl, o, rfl, ho, rfl⟩, rfl⟩
    refine ⟨(fun _ hI => Inv.left (l1 := [_]) hI), ?_⟩
    refine WH.one (i := 3) zk (WHo.so rfl (SO.buildRows UnF.h SzF.h ZvF.h rfl rfl rfl (rows := [tickC x]) rfl (by intro r hr; obtain rfl := List.mem_singleton.1 hr; rfl) rfl) rfl ?_)
    rintro _ _ _ ⟨b8, hb8, rfl, rfl, rfl⟩
    refine ⟨(fun _ hI => Inv.left (l1 := [_]) hI.tail), ?_⟩
    refine WH.one (i := 4) zk (WHo.so rfl (SO.appendOwW (W := w) (Nat.le_refl _) (o := o) (len := l.length) (n := 1) (xs := (l.flatMap tickC)) (size := 5) [_] [_] [] rfl rfl Tryz.underlying22 Tryz.sizeOf41 Tryz.typeInfo41 Tryz.zeroValue41 rfl rfl rfl rfl ⟨rfl, .inr ⟨_, _, _, rfl, RdN.own (k := 0) (n := 5) rfl rfl⟩⟩ (oneB_spec rfl) ho (flat_len tickC_len l) (by omega) (by show (2 * (_ + _) + 1000) * 40 ≤ 2 ^ 48; omega) (by omega)) rfl ?_)
    rintro _ _ _ ⟨u1, hu1, rfl, rfl, rfl⟩
    refine ⟨(fun _ hI => Inv.left (l1 := [_]) hI), ?_⟩
    refine WH.know 9 (.slice (owAt (some u1)) (l ++ [x]).length (owCp (some u1) (l ++ [x]).length)) rfl (by rw [List.length_append]; rfl) ?_
    refine WH.freezeOw (f := tickC) (m := 5) tickC_len [_] [] (some u1) 41 (l ++ [x]) rfl (by rw [List.length_append]; exact hu1) (by rw [List.flatMap_append]; rfl) (fun D2 hX2 hS2 => ?_)
    refine g [[1005]] ?_
    refine WH.nil zk (g [[2]] ?_)
    refine WP.ret1 rfl rfl rfl (RV.tmp rfl) (fun w1 hI => ⟨_, D2, rfl, hI.keep, hI.imm, hX2, _, _, rfl, hS2, by rw [List.length_append]; exact hu1.2.1⟩)
  refine WHo.so rfl (SO.buildRows UnF.h SzF.h ZvF.h rfl rfl rfl (rows := [tickC x]) rfl (by intro r hr; obtain rfl := List.mem_singleton.1 hr; rfl) rfl) rfl ?_
  rintro _ _ _ ⟨b8, hb8, rfl, rfl, rfl⟩
  refine ⟨(fun _ hI => hI.tail), ?_⟩
  refine WH.one (i := 1) zk (WHo.so rfl (SO.news (Enters.func CaF.h rfl) (fun w1 hI => copiedTick_g l a _ c D hS (by omega) w1 w hI.keep.size hI.imm)) rfl ?_)
  rintro _ _ _ ⟨hp6, hX6, ⟨rfl, o, rfl, ho, rfl⟩, rfl⟩
  refine ⟨(fun _ hI => Inv.left (l1 := [_]) hI.tail), ?_⟩
  refine WH.one (i := 4) zk (WHo.so rfl (SO.appendOwW (W := w) (Nat.le_refl _) (o := o) (len := l.length) (n := 1) (xs := (l.flatMap tickC)) (size := 5) [_] [_] [] rfl rfl Tryz.underlying22 Tryz.sizeOf41 Tryz.typeInfo41 Tryz.zeroValue41 rfl rfl rfl rfl ⟨rfl, .inr ⟨_, _, _, rfl, RdN.own (k := 0) (n := 5) rfl rfl⟩⟩ (oneB_spec rfl) ho (flat_len tickC_len l) (by omega) (by show (2 * (_ + _) + 1000) * 40 ≤ 2 ^ 48; omega) (by omega)) rfl ?_)
  rintro _ _ _ ⟨u1, hu1, rfl, rfl, rfl⟩
  refine ⟨(fun _ hI => Inv.left (l1 := [_]) hI), ?_⟩
  refine WH.know 9 (.slice (owAt (some u1)) (l ++ [x]).length (owCp (some u1) (l ++ [x]).length)) rfl (by rw [List.length_append]; rfl) ?_
  refine WH.freezeOw (f := tickC) (m := 5) tickC_len [_] [] (some u1) 41 (l ++ [x]) rfl (by rw [List.length_append]; exact hu1) (by rw [List.flatMap_append]; rfl) (fun D2 hX2 hS2 => ?_)
  refine g [[1005]] ?_
  refine WH.nil zk (g [[2]] ?_)
  refine WP.ret1 rfl rfl rfl (RV.tmp rfl) (fun w1 hI => ⟨_, D2, rfl, hI.keep, hI.imm, hX2, _, _, rfl, hS2, by rw [List.length_append]; exact hu1.2.1⟩)
theorem grownLook_g (l : List Look) (x : Look) (a : Option Addr) (n c : Nat) (D : Imm) (hS : SlL D 4 (l.map lookC) a n) (hn : n ≤ 1000) (w : World) (hH : Holds D w) : Makes Tryz.prog 224 [.slice a n c, .agg (List.toArray (lookC x))] w D (fun v D' => ∃ a c, v = .slice a (l ++ [x]).length c ∧ SlL D' 4 ((l ++ [x]).map lookC) a (l ++ [x]).length ∧ (l ++ [x]).length ≤ c) := by
  unfold Makes
  obtain rfl := hS.len'
  refine en Tryz.func224 rfl Tryz.ntmps224 (Inv.start hH) (g [[1],[1,0,1]] ?_)
  refine WL.so (SO.box rfl rfl) rfl (zw fun b3 hb3 => ?_)
  refine g [[4],[0,4,3,0]] ?_
  refine WC.drawH [_] zk (fun _ hI => hI) (g [[1000],[1002]] ?_)
  refine WH.two (i := 1) (j := 3) zk ?_ ?_
  · refine WHo.so rfl (SO.news (Enters.func CaF.h rfl) (fun w1 hI => copiedLook_g l a _ c D hS (by omega) w1 w hI.keep.size hI.imm)) rfl ?_
    rintro _ _ _ ⟨hp6, hX6, ⟨rfl, o, rfl, ho, rfl⟩, rfl⟩
    refine ⟨(fun _ hI => Inv.left (l1 := [_]) hI), ?_⟩
    refine WH.one (i := 3) zk (WHo.so rfl (SO.buildRows UnF.h SzF.h ZvF.h rfl rfl rfl (rows := [lookC x]) rfl (by intro r hr; obtain rfl := List.mem_singleton.1 hr; rfl) rfl) rfl ?_)
    rintro _ _ _ ⟨b8, hb8, rfl, rfl, rfl⟩
    refine ⟨(fun _ hI => Inv.left (l1 := [_]) hI.tail), ?_⟩
    refine WH.one (i := 4) zk (WHo.so rfl (SO.appendOwW (W := w) (Nat.le_refl _) (o := o) (len := l.length) (n := 1) (xs := (l.flatMap lookC)) (size := 4) [_] [_] [] rfl rfl Tryz.underlying29 Tryz.sizeOf44 Tryz.typeInfo44 Tryz.zeroValue44 rfl rfl rfl rfl ⟨rfl, .inr ⟨_, _, _, rfl, RdN.own (k := 0) (n := 4) rfl rfl⟩⟩ (oneB_spec rfl) ho (flat_len lookC_len l) (by omega) (by show (2 * (_ + _) + 1000) * 32 ≤ 2 ^ 48; omega) (by omega)) rfl ?_)
    rintro _ _ _ ⟨u1, hu1, rfl, rfl, rfl⟩
    refine ⟨(fun _ hI => Inv.left (l1 := [_]) hI), ?_⟩
    refine WH.know 9 (.slice (owAt (some u1)) (l ++ [x]).length (owCp (some u1) (l ++ [x]).length)) rfl (by rw [List.length_append]; rfl) ?_
    refine WH.freezeOw (f := lookC) (m := 4) lookC_len [_] [] (some u1) 44 (l ++ [x]) rfl (by rw [List.length_append]; exact hu1) (by rw [List.flatMap_append]; rfl) (fun D2 hX2 hS2 => ?_)
    refine g [[1005]] ?_
    refine WH.nil zk (g [[2]] ?_)
    refine WP.ret1 rfl rfl rfl (RV.tmp rfl) (fun w1 hI => ⟨_, D2, rfl, hI.keep, hI.imm, hX2, _, _, rfl, hS2, by rw [List.length_append]; exact hu1.2.1⟩)
  refine WHo.so rfl (SO.buildRows UnF.h SzF.h ZvF.h rfl rfl rfl (rows := [lookC x]) rfl (by intro r hr; obtain rfl := List.mem_singleton.1 hr; rfl) rfl) rfl ?_
  rintro _ _ _ ⟨b8, hb8, rfl, rfl, rfl⟩
  refine ⟨(fun _ hI => hI.tail), ?_⟩
  refine WH.one (i := 1) zk (WHo.so rfl (SO.news (Enters.func CaF.h rfl) (fun w1 hI => copiedLook_g l a _ c D hS (by omega) w1 w hI.keep.size hI.imm)) rfl ?_)
  rintro _ _ _ ⟨hp6, hX6, ⟨rfl, o, rfl, ho, rfl⟩, rfl⟩
  refine ⟨(fun _ hI => Inv.left (l1 := [_]) hI.tail), ?_⟩
  refine WH.one (i := 4) zk (WHo.so rfl (SO.appendOwW (W := w) (Nat.le_refl _) (o := o) (len := l.length) (n := 1) (xs := (l.flatMap lookC)) (size := 4) [_] [_] [] rfl rfl Tryz.underlying29 Tryz.sizeOf44 Tryz.typeInfo44 Tryz.zeroValue44 rfl rfl rfl rfl ⟨rfl, .inr ⟨_, _, _, rfl, RdN.own (k := 0) (n := 4) rfl rfl⟩⟩ (oneB_spec rfl) ho (flat_len lookC_len l) (by omega) (by show (2 * (_ + _) + 1000) * 32 ≤ 2 ^ 48; omega) (by omega)) rfl ?_)
  rintro _ _ _ ⟨u1, hu1, rfl, rfl, rfl⟩
  refine ⟨(fun _ hI => Inv.left (l1 := [_]) hI), ?_⟩
  refine WH.know 9 (.slice (owAt (some u1)) (l ++ [x]).length (owCp (some u1) (l ++ [x]).length)) rfl (by rw [List.length_append]; rfl) ?_
  refine WH.freezeOw (f := lookC) (m := 4) lookC_len [_] [] (some u1) 44 (l ++ [x]) rfl (by rw [List.length_append]; exact hu1) (by rw [List.flatMap_append]; rfl) (fun D2 hX2 hS2 => ?_)
  refine g [[1005]] ?_
  refine WH.nil zk (g [[2]] ?_)
  refine WP.ret1 rfl rfl rfl (RV.tmp rfl) (fun w1 hI => ⟨_, D2, rfl, hI.keep, hI.imm, hX2, _, _, rfl, hS2, by rw [List.length_append]; exact hu1.2.1⟩)
theorem grownEnt_g (l : List Ent) (x : Ent) (a : Option Addr) (n c : Nat) (D : Imm) (hS : SlL D 3 (l.map entC) a n) (hn : n ≤ 1000) (w : World) (hH : Holds D w) : Makes Tryz.prog 227 [.slice a n c, .agg (List.toArray (entC x))] w D (fun v D' => ∃ a c, v = .slice a (l ++ [x]).length c ∧ SlL D' 3 ((l ++ [x]).map entC) a (l ++ [x]).length ∧ (l ++ [x]).length ≤ c) := by
  unfold Makes
  obtain rfl := hS.len'
  refine en Tryz.func227 rfl Tryz.ntmps227 (Inv.start hH) (g [[1],[1,0,1]] ?_)
  refine WL.so (SO.box rfl rfl) rfl (zw fun b3 hb3 => ?_)
  refine g [[4],[0,4,3,0]] ?_
  refine WC.drawH [_] zk (fun _ hI => hI) (g [[1000],[1002]] ?_)
  refine WH.two (i := 1) (j := 3) zk ?_ ?_
  · refine WHo.so rfl (SO.news (Enters.func CaF.h rfl) (fun w1 hI => copiedEnt_g l a _ c D hS (by omega) w1 w hI.keep.size hI.imm)) rfl ?_
    rintro _ _ _ ⟨hp6, hX6, ⟨rfl, o, rfl, ho, rfl⟩, rfl⟩
    refine ⟨(fun _ hI => Inv.left (l1 := [_]) hI), ?_⟩
    refine WH.one (i := 3) zk (WHo.so rfl (SO.buildRows UnF.h SzF.h ZvF.h rfl rfl rfl (rows := [entC x]) rfl (by intro r hr; obtain rfl := List.mem_singleton.1 hr; rfl) rfl) rfl ?_)
    rintro _ _ _ ⟨b8, hb8, rfl, rfl, rfl⟩
    refine ⟨(fun _ hI => Inv.left (l1 := [_]) hI.tail), ?_⟩
    refine WH.one (i := 4) zk (WHo.so rfl (SO.appendOwW (W := w) (Nat.le_refl _) (o := o) (len := l.length) (n := 1) (xs := (l.flatMap entC)) (size := 3) [_] [_] [] rfl rfl Tryz.underlying32 Tryz.sizeOf46 Tryz.typeInfo46 Tryz.zeroValue46 rfl rfl rfl rfl ⟨rfl, .inr ⟨_, _, _, rfl, RdN.own (k := 0) (n := 3) rfl rfl⟩⟩ (oneB_spec rfl) ho (flat_len entC_len l) (by omega) (by show (2 * (_ + _) + 1000) * 24 ≤ 2 ^ 48; omega) (by omega)) rfl ?_)
    rintro _ _ _ ⟨u1, hu1, rfl, rfl, rfl⟩
    refine ⟨(fun _ hI => Inv.left (l1 := [_]) hI), ?_⟩
    refine WH.know 9 (.slice (owAt (some u1)) (l ++ [x]).length (owCp (some u1) (l ++ [x]).length)) rfl (by rw [List.length_append]; rfl) ?_
    refine WH.freezeOw (f := entC) (m := 3) entC_len [_] [] (some u1) 46 (l ++ [x]) rfl (by rw [List.length_append]; exact hu1) (by rw [List.flatMap_append]; rfl) (fun D2 hX2 hS2 => ?_)
    refine g [[1005]] ?_
    refine WH.nil zk (g [[2]] ?_)
    refine WP.ret1 rfl rfl rfl (RV.tmp rfl) (fun w1 hI => ⟨_, D2, rfl, hI.keep, hI.imm, hX2, _, _, rfl, hS2, by rw [List.length_append]; exact hu1.2.1⟩)
  refine WHo.so rfl (SO.buildRows UnF.h SzF.h ZvF.h rfl rfl rfl (rows := [entC x]) rfl (by intro r hr; obtain rfl := List.mem_singleton.1 hr; rfl) rfl) rfl ?_
  rintro _ _ _ ⟨b8, hb8, rfl, rfl, rfl⟩
  refine ⟨(fun _ hI => hI.tail), ?_⟩
  refine WH.one (i := 1) zk (WHo.so rfl (SO.news (Enters.func CaF.h rfl) (fun w1 hI => copiedEnt_g l a _ c D hS (by omega) w1 w hI.keep.size hI.imm)) rfl ?_)
  rintro _ _ _ ⟨hp6, hX6, ⟨rfl, o, rfl, ho, rfl⟩, rfl⟩
  refine ⟨(fun _ hI => Inv.left (l1 := [_]) hI.tail), ?_⟩
  refine WH.one (i := 4) zk (WHo.so rfl (SO.appendOwW (W := w) (Nat.le_refl _) (o := o) (len := l.length) (n := 1) (xs := (l.flatMap entC)) (size := 3) [_] [_] [] rfl rfl Tryz.underlying32 Tryz.sizeOf46 Tryz.typeInfo46 Tryz.zeroValue46 rfl rfl rfl rfl ⟨rfl, .inr ⟨_, _, _, rfl, RdN.own (k := 0) (n := 3) rfl rfl⟩⟩ (oneB_spec rfl) ho (flat_len entC_len l) (by omega) (by show (2 * (_ + _) + 1000) * 24 ≤ 2 ^ 48; omega) (by omega)) rfl ?_)
  rintro _ _ _ ⟨u1, hu1, rfl, rfl, rfl⟩
  refine ⟨(fun _ hI => Inv.left (l1 := [_]) hI), ?_⟩
  refine WH.know 9 (.slice (owAt (some u1)) (l ++ [x]).length (owCp (some u1) (l ++ [x]).length)) rfl (by rw [List.length_append]; rfl) ?_
  refine WH.freezeOw (f := entC) (m := 3) entC_len [_] [] (some u1) 46 (l ++ [x]) rfl (by rw [List.length_append]; exact hu1) (by rw [List.flatMap_append]; rfl) (fun D2 hX2 hS2 => ?_)
  refine g [[1005]] ?_
  refine WH.nil zk (g [[2]] ?_)
  refine WP.ret1 rfl rfl rfl (RV.tmp rfl) (fun w1 hI => ⟨_, D2, rfl, hI.keep, hI.imm, hX2, _, _, rfl, hS2, by rw [List.length_append]; exact hu1.2.1⟩)
end Go.Proofs.YtejgofaeafphjaaGreatDoor
namespace Go.Proofs.YtejgofaeafphjaaGreatDoor
open Go.W Go.Ti
theorem SA24 : StructAt Tryz.prog 24 [.int .i64 0, .slice none 0 0] [(0, 1), (1, 1)] := ⟨⟨_, Tryz.zeroValue24, rfl⟩, _, Tryz.underlying24, fun w => by simp [Tryz.sizeOf3, Tryz.sizeOf22]⟩
@[reducible, instance] def ISA24 := SaF.mk SA24
theorem SA26 : StructAt Tryz.prog 26 [.int .i64 0, .slice none 0 0, .int .i64 0, .int .i64 0, .int .i64 0] [(0, 2), (2, 1), (3, 1), (4, 1)] := ⟨⟨_, Tryz.zeroValue26, rfl⟩, _, Tryz.underlying26, fun w => by simp [Tryz.sizeOf3, Tryz.sizeOf24]⟩
@[reducible, instance] def ISA26 := SaF.mk SA26
theorem SA31 : StructAt Tryz.prog 31 [.slice none 0 0, .slice none 0 0, .slice none 0 0] [(0, 1), (1, 1), (2, 1)] := ⟨⟨_, Tryz.zeroValue31, rfl⟩, _, Tryz.underlying31, fun w => by simp [Tryz.sizeOf27, Tryz.sizeOf28, Tryz.sizeOf29]⟩
@[reducible, instance] def ISA31 := SaF.mk SA31
theorem wTide_g (x : Wick) (m s t l b : Sl) (xb : Nat) (w : World) (hx : w.heap[xb]? = some (womO x m s t l b)) : Gives Tryz.prog 68 [pt xb] w (.agg #[m.v, s.v, l.v]) := by
  unfold Gives
  refine en Tryz.func68 rfl Tryz.ntmps68 (Inv.start (Holds.one hx)) (g [[1],[1,0]] ?_)
  refine WL.so (SO.alloc ZvF.h rfl) rfl (zw fun b2 hb2 => ?_)
  refine g [[3],[0,2,0],[3015],[4]] ?_
  refine WQ.q rfl (Yd.qt (Yd.l1 rfl (Rd.imm (Imm.one_self _ _) rfl))) rfl (g [[4]] ?_)
  refine WQ.q rfl (Yd.qt (Yd.l1 rfl (Rd.imm (Imm.one_self _ _) rfl))) rfl (g [[4]] ?_)
  refine WQ.q rfl (Yd.qt (Yd.l1 rfl (Rd.imm (Imm.one_self _ _) rfl))) rfl (g [[6]] ?_)
  refine WP.ret1 rfl rfl rfl (RV.cellN AgF.h SzF.h rfl (vs := [_, _, _]) rfl (RdN.own (k := 0) (n := 3) rfl rfl)) (fun w hI => ⟨rfl, hI.keep⟩)
theorem wTks_g (x : Wick) (m s t l b : Sl) (xb : Nat) (w : World) (hx : w.heap[xb]? = some (womO x m s t l b)) : Gives Tryz.prog 148 [pt xb] w (.agg #[it x.huts, t.v]) := by
  unfold Gives
  refine en Tryz.func148 rfl Tryz.ntmps148 (Inv.start (Holds.one hx)) (g [[1],[1,0]] ?_)
  refine WL.so (SO.alloc ZvF.h rfl) rfl (zw fun b2 hb2 => ?_)
  refine g [[3],[0,2,0],[3010],[4]] ?_
  refine WQ.q rfl (Yd.qt (Yd.l1 rfl (Rd.imm (Imm.one_self _ _) rfl))) rfl (g [[4]] ?_)
  refine WQ.q rfl (Yd.qt (Yd.l1 rfl (Rd.imm (Imm.one_self _ _) rfl))) rfl (g [[6]] ?_)
  refine WP.ret1 rfl rfl rfl (RV.cellN AgF.h SzF.h rfl (vs := [_, _]) rfl (RdN.own (k := 0) (n := 2) rfl rfl)) (fun w hI => ⟨rfl, hI.keep⟩)
theorem wTill_g (x : Wick) (m s t l b : Sl) (xb : Nat) (w : World) (hx : w.heap[xb]? = some (womO x m s t l b)) : Gives Tryz.prog 66 [pt xb] w (.agg #[it x.huts, t.v, it x.price, it x.fine, it x.wait]) := by
  unfold Gives
  refine en Tryz.func66 rfl Tryz.ntmps66 (Inv.start (Holds.one hx)) (g [[1],[1,0]] ?_)
  refine WL.so (SO.alloc ZvF.h rfl) rfl (zw fun b2 hb2 => ?_)
  refine g [[3],[0,2,0],[3017],[1]] ?_
  refine WQ.q rfl (Qt.callP CaF.h rfl (fun w hI => wTks_g x m s t l b xb _ (hI.imm _ _ (Imm.one_self _ _)))) rfl (g [[4]] ?_)
  refine WQ.q rfl (Yd.qt (Yd.l1 rfl (Rd.imm (Imm.one_self _ _) rfl))) rfl (g [[4]] ?_)
  refine WQ.q rfl (Yd.qt (Yd.l1 rfl (Rd.imm (Imm.one_self _ _) rfl))) rfl (g [[4]] ?_)
  refine WQ.q rfl (Yd.qt (Yd.l1 rfl (Rd.imm (Imm.one_self _ _) rfl))) rfl (g [[6]] ?_)
  refine WP.ret1 rfl rfl rfl (RV.cellN AgF.h SzF.h rfl (vs := [_, _, _, _, _]) rfl (RdN.own (k := 0) (n := 5) rfl rfl)) (fun w hI => ⟨rfl, hI.keep⟩)
theorem CountM_g (T : Tide) (a1 a2 a3 : Option Addr) (n1 n2 n3 c1 c2 c3 : Nat) (D : Imm) (w : World) (hR : TideR D T a1 n1 a2 n2 a3 n3) (hH : Holds D w) (hL : LibW D) : Makes Tryz.prog 149 [.agg #[.slice a1 n1 c1, .slice a2 n2 c2, .slice a3 n3 c3]] w D (fun v _ => ∃ n, v = .tuple #[it n, it (if tideB T then 0 else 1)]) := by
  cases hv : tideB T with
  | false => exact Count_1 T a1 a2 a3 n1 n2 n3 c1 c2 c3 D w hR hH hL hv
  | true => exact Count_3 T a1 a2 a3 n1 n2 n3 c1 c2 c3 D w hR hH hL hv
theorem wIsTide_g (xv : Value) (T : Tide) (a1 a2 a3 : Option Addr) (n1 n2 n3 c1 c2 c3 : Nat) (D : Imm) (w : World) (hR : TideR D T a1 n1 a2 n2 a3 n3) (hH : Holds D w) (hL : LibW D) : Gives Tryz.prog 67 [xv, .agg #[.slice a1 n1 c1, .slice a2 n2 c2, .slice a3 n3 c3]] w (.bool (tideB T)) := by
  unfold Gives
  obtain rfl := hR.mark.len'
  obtain rfl := hR.sand.len'
  obtain rfl := hR.look.len'
  obtain ⟨hl1, hl2, hl3⟩ := hR.len
  refine en Tryz.func67 rfl Tryz.ntmps67 (Inv.start hH) (g [[1],[1,1]] ?_)
  refine WL.so (SO.box rfl rfl) rfl (zw fun b3 hb3 => ?_)
  refine g [[4],[2,4,3]] ?_
  refine WL.so (SO.makes (Enters.func Tryz.call149 rfl) (fun w hI => CountM_g T a1 a2 a3 _ _ _ c1 c2 c3 D w hR hI.imm hL)) rfl ?_
  rintro _ D2 _ ⟨hX2, ⟨n, rfl⟩, rfl⟩
  refine g [[8],[7,6,4]] ?_
  refine WP.ret1 rfl rfl rfl (RV.tmp rfl) (fun w hI => ⟨ret_bool (by cases tideB T <;> rfl), hI.keep⟩)
end Go.Proofs.YtejgofaeafphjaaGreatDoor
