import Derived.Test.YtejgofaeafphjaaGreatDoorXG20
import Derived.Test.YtejgofaeafphjaaGreatDoorXG15
import Derived.Test.YtejgofaeafphjaaGreatDoorXG19
import Derived.Test.YtejgofaeafphjaaGreatDoorXG5
import Derived.Test.YtejgofaeafphjaaGreatDoorXG7
set_option linter.all false
set_option maxRecDepth 100000
set_option maxHeartbeats 4000000
attribute [local irreducible] Go.W.WL Go.W.WLF Go.W.WC Go.W.WCF Go.W.WP Go.W.WA Go.W.WQ Go.W.WH Go.W.WHo Go.W.WCn Go.W.Yd Go.W.Qt Go.W.SO Go.Code.wp Go.Code.wpIn
namespace Go.Ti
open Go.W (gt wX)
structure IsH (l : List Int) (s : Sp) : Prop where
  lo : s.lo ∈ l
  hi : s.hi ∈ l
  mem : ∀ v, v ∈ l → s.lo ≤ v ∧ v ≤ s.hi
theorem IsH.uniq {l : List Int} {s t : Sp} (h : IsH l s) (h' : IsH l t) : s = t := by
  obtain ⟨a, b⟩ := s;obtain ⟨c, d⟩ := t;have h1 := h.mem _ h'.lo;have h2 := h.mem _ h'.hi;have h3 := h'.mem _ h.lo;have h4 := h'.mem _ h.hi;simp only at h1 h2 h3 h4;rw [Sp.mk.injEq];omega
end Go.Ti
namespace Go.Ti
open Go.W
theorem za2 (f : Nat → Bool) {n i : Nat} (hi : i < n) : xN f n ||| 2 ^ i = xN (fun j => f j || decide (j = i)) n := by
  apply Nat.eq_of_testBit_eq;intro j;rw [Nat.testBit_or, qC, qC, Nat.testBit_two_pow];by_cases h : j < n
  · rw [decide_eq_true h];simp only [Bool.true_and];congr 1;exact decide_eq_decide.2 ⟨Eq.symm, Eq.symm⟩
  · rw [decide_eq_false h, decide_eq_false (by omega : ¬ i = j)]; rfl
theorem QC (f : Nat → Bool) {n i : Nat} (hi : i < n) : xN f n / 2 ^ i % 2 = 1 ↔ f i = true := by
  have h := qC f n i;rw [Nat.testBit_eq_decide_div_mod_eq, decide_eq_true hi, Bool.true_and] at h;rw [← h, decide_eq_true_eq]
theorem vU (t : Tru) (m : Int) : ∀ k, -1 ≤ nowI t m k ∧ nowI t m k < (k : Int) ∧ (nowI t m k < 0 → nowI t m k = -1)
  | 0 => by simp [nowI]
  | k + 1 => by
    have := vU t m k;unfold nowI;split <;> omega
theorem XH (t : Tru) (m : Int) : ∀ k, 0 ≤ nowI t m k → w6 t (nowI t m k).toNat m = true
  | 0 => by simp [nowI]
  | k + 1 => by
    have := XH t m k;unfold nowI;split
    · rename_i h; intro _; simpa using h.1
    · exact this
def keyT (t : Tru) (m : Int) (n : Nat) : Tru := fun i => if i < n ∧ w6 t i m = true then t i else (-1, -1)
theorem U3 {t t' : Tru} {m : Int} {n : Nat} (ht : ∀ i, 0 ≤ (t i).1) (ht' : ∀ i, 0 ≤ (t' i).1) (h : ∀ i, i < n → keyT t m n i = keyT t' m n i) : ∀ k, k ≤ n → nowI t m k = nowI t' m k
  | 0, _ => rfl
  | k + 1, hk => by
    have ih := U3 ht ht' h k (by omega)
    have same : ∀ i, i < n → w6 t i m = w6 t' i m ∧ (w6 t i m = true → t i = t' i) := fun i hi => by
      have e := h i hi;unfold keyT at e;have a := ht i;have a' := ht' i;cases h1 : w6 t i m with
      | true =>
        rw [if_pos ⟨hi, h1⟩] at e;cases h2 : w6 t' i m with
        | true => rw [if_pos ⟨hi, h2⟩] at e; exact ⟨rfl, fun _ => e⟩
        | false => rw [if_neg (by rw [h2]; simp)] at e; rw [e] at a; exact absurd a (by decide)
      | false =>
        rw [if_neg (by rw [h1]; simp)] at e;cases h2 : w6 t' i m with
        | true => rw [if_pos ⟨hi, h2⟩] at e; rw [← e] at a'; exact absurd a' (by decide)
        | false => exact ⟨rfl, fun h => by cases h⟩
    unfold nowI;rw [← ih];have s1 := same k (by omega);have hnn := vU t m k;cases hw : w6 t k m with
    | false => rw [← s1.1, hw]; simp
    | true =>
      rw [← s1.1, hw];by_cases h0 : nowI t m k < 0
      · rw [if_pos ⟨rfl, .inl h0⟩, if_pos ⟨rfl, .inl h0⟩]
      · have w0 := XH t m k (by omega);have s2 := same (nowI t m k).toNat (by omega)
        have eb : befT t k (nowI t m k).toNat = befT t' k (nowI t m k).toNat := by
          unfold befT;rw [s1.2 hw, s2.2 w0]
        rw [eb]
def whoB (m : Int) (n : Nat) (L : List Tru) (i : Nat) : Bool := L.any fun t => decide (nowI t m n = (i : Int))
def noB (m : Int) (n : Nat) (L : List Tru) : Bool := L.any fun t => decide (nowI t m n < 0)
theorem Kd {T : Tks} {m : Int} (h : tksE T (minT m) = 0) : zi T m = ((xN (whoB m T.l.length (allT T)) T.l.length : Int), noB m T.l.length (allT T), 0) := by
  unfold zi;rw [if_neg (by rw [h]; simp)]; rfl
theorem vF (m : Int) (n : Nat) (L : List Tru) (t : Tru) : (∀ i, whoB m n (L ++ [t]) i = (whoB m n L i || decide (nowI t m n = (i : Int)))) ∧ noB m n (L ++ [t]) = (noB m n L || decide (nowI t m n < 0)) := by
  simp [whoB, noB]
theorem Kb {m : Int} {n : Nat} {L : List Tru} {t : Tru} (hL : ∀ x ∈ L, ∀ i, 0 ≤ (x i).1) (ht : ∀ i, 0 ≤ (t i).1) (h : ∃ x ∈ L, ∀ i, i < n → keyT x m n i = keyT t m n i) : (∀ i, whoB m n (L ++ [t]) i = whoB m n L i) ∧ noB m n (L ++ [t]) = noB m n L := by
  obtain ⟨x, hx, hk⟩ := h;have e := U3 (hL x hx) ht hk n (Nat.le_refl _);refine ⟨fun i => ?_, ?_⟩
  · rw [(vF m n L t).1];by_cases h : nowI t m n = (i : Int)
    · rw [show whoB m n L i = true from List.any_eq_true.2 ⟨x, hx, by rw [e]; exact decide_eq_true h⟩]; rfl
    · rw [decide_eq_false h, Bool.or_false]
  · rw [(vF m n L t).2];by_cases h : nowI t m n < 0
    · rw [show noB m n L = true from List.any_eq_true.2 ⟨x, hx, by rw [e]; exact decide_eq_true h⟩]; rfl
    · rw [decide_eq_false h, Bool.or_false]
theorem Ka {m : Int} {n : Nat} {L : List Tru} {t : Tru} (h : nowI t m n < 0) : xN (whoB m n (L ++ [t])) n = xN (whoB m n L) n ∧ noB m n (L ++ [t]) = true := by
  refine ⟨uB fun i _ => ?_, by rw [(vF m n L t).2, decide_eq_true h, Bool.or_true]⟩;rw [(vF m n L t).1, decide_eq_false (by omega), Bool.or_false]
theorem We {m : Int} {n : Nat} {L : List Tru} {t : Tru} {i : Nat} (h : nowI t m n = (i : Int)) : xN (whoB m n (L ++ [t])) n = xN (fun j => whoB m n L j || decide (j = i)) n ∧ noB m n (L ++ [t]) = noB m n L := by
  refine ⟨uB fun j _ => ?_, by rw [(vF m n L t).2, decide_eq_false (by omega), Bool.or_false]⟩;rw [(vF m n L t).1];congr 1;exact decide_eq_decide.2 (by omega)
theorem zbt {m : Int} {n : Nat} {L : List Tru} (h : L ≠ []) : noB m n L = true ∨ ∃ i, i < n ∧ whoB m n L i = true := by
  cases L with
  | nil => exact absurd rfl h
  | cons t r =>
    have hn := vU t m n;by_cases h0 : nowI t m n < 0
    · exact .inl (List.any_eq_true.2 ⟨t, by simp, decide_eq_true h0⟩)
    · exact .inr ⟨(nowI t m n).toNat, by omega, List.any_eq_true.2 ⟨t, by simp, decide_eq_true (by omega)⟩⟩
theorem QD (f : Nat → Bool) {n i : Nat} (hi : i < n) (hf : f i = true) : xN f n ≠ 0 := fun e => by
  have := (QC f hi).2 hf;rw [e] at this;simp at this
end Go.Ti
namespace Go.Proofs.YtejgofaeafphjaaGreatDoor
open Go.W Go.Ti
theorem vB (n : Int) (w : World) : z8 Tryz.prog 89 [it n] w (.bool (minT n)) := by
  unfold z8;refine en Tryz.func89 rfl Tryz.ntmps89 zI (g [[1],[5,0],[2,2,0]] ?_);refine WL.cl rfl (fun w hI => xB _ _ _ _) (g [[4]] ?_);refine WP.ret1 rfl rfl rfl (RV.tmp rfl) (fun w hI => ⟨zb (by simp [minT, inB]), hI.keep⟩)
theorem YD (T : Tks) (a1 : Option Addr) (n1 c1 : Nat) (hv : tksB T = true) (n : Int) (w : World) : z8 Tryz.prog 121 [.agg #[it T.huts, .slice a1 n1 c1], it n] w (.bool (hutT T n)) := by
  unfold z8;have hh := (y8 hv).1;refine en Tryz.func121 rfl Tryz.ntmps121 zI (g [[1],[1,0,1]] ?_);refine WL.so (SO.box rfl rfl) rfl (zw fun b2 hb2 => ?_);refine g [[4],[5,4,2,1]] ?_;refine WL.cl rfl (fun w hI => xB _ _ _ _) (g [[4]] ?_);refine WP.ret1 rfl rfl rfl (RV.tmp rfl) (fun w hI => ⟨zb (by simp [hutT, inB]), hI.keep⟩)
theorem zcs (p : Pr) (m : Int) (hp : 0 ≤ p.2 ∧ p.2 ≤ 240) (hm : 0 ≤ m ∧ m ≤ 240) (w : World) : z8 Tryz.prog 333 [prV p, it m] w (.bool (inB (m - p.2) 0 29)) := by
  unfold z8;refine en Tryz.func333 rfl Tryz.ntmps333 zI (g [[1],[1,0,1]] ?_);refine WL.so (SO.box rfl rfl) rfl (zw fun b2 hb2 => ?_);refine g [[4],[5,4,2,1]] ?_;refine WL.cl rfl (fun w hI => xB _ _ _ _) (g [[4]] ?_);refine WP.ret1 rfl rfl rfl (RV.tmp rfl) (fun w hI => ⟨rfl, hI.keep⟩)
theorem Qi (p : Pr) (m : Int) (w : World) : z8 Tryz.prog 91 [prV p, it m] w (.bool (inB m p.1 p.2)) := by
  unfold z8;refine en Tryz.func91 rfl Tryz.ntmps91 zI (g [[1],[1,0,1]] ?_);refine WL.so (SO.box rfl rfl) rfl (zw fun b2 hb2 => ?_);refine g [[4],[6,4,2,1]] ?_;refine WL.cl rfl (fun w hI => xB _ _ _ _) (g [[4]] ?_);refine WP.ret1 rfl rfl rfl (RV.tmp rfl) (fun w hI => ⟨rfl, hI.keep⟩)
def VS (T : Tks) (t : Tru) (hut m : Int) (i : Nat) : Bool := decide ((gt T.l i).hut = hut) && inB (m - (t i).2) 0 29
theorem Y8 (T : Tks) (t : Tru) (hut m : Int) : yr T t hut m = (List.range T.l.length).any (VS T t hut m) := rfl
theorem K7 {T : Tks} {t : Tru} {hut m : Int} {i : Nat} (hi : i < T.l.length) (h : VS T t hut m i = true) : yr T t hut m = true := by
  rw [Y8]; exact List.any_eq_true.2 ⟨i, List.mem_range.2 hi, h⟩
theorem zbs {T : Tks} {t : Tru} {hut m : Int} (h : ∀ i, i < T.l.length → VS T t hut m i = false) : yr T t hut m = false := by
  rw [Y8, List.any_eq_false]; intro i hi; rw [h i (List.mem_range.1 hi)]; simp
theorem Xn (T : Tks) (a1 : Option Addr) (n1 c1 : Nat) (q : Nat) (D : Imm) (w : World) (hO : xM D q T (.slice a1 n1 c1)) (hR : TksR D T a1 n1) (hH : Holds D w) (hv : tksB T = true) (t : Tru) (ht : okTr t) (hut m : Int) (hm : 0 ≤ m ∧ m ≤ 240) : z8 Tryz.prog 337 [.agg #[it hut, it m], pt q, truV t] w (.bool (!yr T t hut m)) := by
  unfold z8;obtain rfl := hR.tick.len';have hl1 := hR.len;have h5 := (y8 hv).2.1;obtain ⟨a3, c3, hq, hS3, hc3⟩ := hO;refine en Tryz.func337 rfl Tryz.ntmps337 (Inv.start hH) (g [[1],[1,0,1,2]] ?_);refine WL.so (SO.box rfl rfl) rfl (zw fun b3 hb3 => ?_);refine WL.so (SO.box rfl rfl) rfl (zw fun b5 hb5 => ?_);refine g [[5],[11,6,5,3,1]] ?_;refine WC.loopF (fun k : Nat => [(3, pt b3), (5, pt b5), (13, .slice a1 T.l.length c1), (14, nt T.l.length), (15, nt k)]) (fun k => k ≤ T.l.length ∧ ∀ i, i < k → VS T t hut m i = false) (fun k => T.l.length - k) 0 ⟨by omega, by intro i hi; omega⟩ (by exact ⟨rfl, rfl, rfl, rfl, rfl, trivial⟩) ?_;intro k ⟨hk, hd⟩;refine g [[1],[5,3,5,13,14,15]] ?_;refine WC.cond rfl (fun c16 => ?_) (fun c16 => ?_)
  · try simp only [zq] at c16
    have hkl : k < T.l.length := by omega
    have hk5 : k < 5 := by omega
    have hhb : VS T t hut m k = (decide ((gt T.l k).hut = hut) && inB (m - (t k).2) 0 29) := rfl;refine g [[5],[2,3,5,13,14,15]] ?_;refine WL.yd (Yd.ix rfl rfl (hR.tick.addr k (by omega))) rfl (WL.yd (Yd.lV [_, _, _, _, _] rfl ((hR.tick.at k (by omega)).rdn 0 5 rfl)) rfl ?_);refine WL.so (SO.alloc ZvF.h rfl) rfl (zw fun b8 hb8 => ?_);refine g [[5],[0,7,8,3,5,13,14,15],[3011],[6]] ?_;refine WQ.part 25 rfl (fun g25 => ?_) (fun g25 => ?_)
    · try simp only [zq] at g25
      refine g [[1]] ?_;refine WQ.qg rfl rfl (Yd.qt (Yd.indexA UnF.h SzF.h rfl rfl (by omega) (by omega))) rfl (WQ.qg rfl rfl (Yd.qt (Yd.lV [_, _] rfl (RdN.own (k := 1) (n := 2) rfl (uR t hk5)))) rfl (g [[3]] ?_))
      first | refine WL.know 28 (prV (t k)) rfl rfl ?_ | skip
      refine WL.sog rfl (SO.callP CaF.h rfl (fun w hI => zcs (t k) m (ht k).2 hm _)) rfl (zs (g [[3]] ?_));refine WC.cond rfl (fun c32 => ?_) (fun c32 => ?_)
      · refine g [[1],[10,3,5,13,14,15]] ?_;refine WP.ret1 rfl rfl rfl (RV.tmp rfl) (fun w hI => ⟨zb (by rw [K7 hkl (by rw [hhb]; simp_all)]; rfl), hI.keep⟩)
      refine g [[3],[4,3,5,13,14,15]] ?_;exact WP.againF (k + 1) ⟨by omega, xd hd (by rw [hhb]; simp_all)⟩ (by omega) ⟨rfl, rfl, rfl, rfl, rfl, trivial⟩ (fun _ h => List.mem_cons_of_mem _ h) (fun h => (List.nodup_cons.1 h).2)
    try simp only [zq] at g25
    refine g [[6]] ?_
    first | refine WL.know 28 (prV (t k)) rfl rfl ?_ | skip
    refine g [[8],[4,3,5,13,14,15]] ?_;exact WP.againF (k + 1) ⟨by omega, xd hd (by rw [hhb]; simp_all)⟩ (by omega) ⟨rfl, rfl, rfl, rfl, rfl, trivial⟩ (fun _ h => List.mem_cons_of_mem _ h) (fun h => (List.nodup_cons.1 h).2)
  try simp only [zq] at c16
  obtain rfl : k = T.l.length := by omega
  refine g [[6]] ?_;refine WC.ofFr [] trivial (g [[5]] ?_);refine WP.ret1 rfl rfl rfl (RV.tmp rfl) (fun w hI => ⟨zb (by rw [zbs hd]; rfl), hI.keep⟩)
end Go.Proofs.YtejgofaeafphjaaGreatDoor
