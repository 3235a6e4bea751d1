import Derived.Test.YtejgofaeafphjaaGreatDoorXG15
import Derived.Test.YtejgofaeafphjaaGreatDoorXG5
import Derived.Test.YtejgofaeafphjaaGreatDoorXG3
import Derived.Test.YtejgofaeafphjaaGreatDoorXG7
set_option linter.all false
set_option maxRecDepth 100000
set_option maxHeartbeats 4000000
attribute [local irreducible] Go.W.WL Go.W.WLF Go.W.WC Go.W.WCF Go.W.WP Go.W.WA Go.W.WQ Go.W.WH Go.W.WHo Go.W.WCn Go.W.Yd Go.W.Qt Go.W.SO Go.Code.wp Go.Code.wpIn
namespace Go.Ti
open Go.W
section
variable (w : Wick) (d : Day) (l : List Int)
theorem qF : doD w d zo l = jy w d ⟨⟨gt l 0, gt l 1⟩, gt l 2, ⟨gt l 3, gt l 4⟩⟩ := by rw [doD, if_pos rfl]
theorem Ys : doD w d yk l = jw w d ⟨gt l 0, gt l 1, ⟨gt l 2, gt l 3⟩⟩ := by rw [doD, if_neg (by decide), if_pos rfl]
theorem kk : doD w d yF l = askD d yF [(zu (tksW w d) (gt l 0)).1] (zu (tksW w d) (gt l 0)).2 := by rw [doD, if_neg (by decide), if_neg (by decide), if_pos rfl]
theorem qi : doD w d y3 l = askD d y3 [(zi (tksW w d) (gt l 0)).1, wS (zi (tksW w d) (gt l 0)).2.1] (zi (tksW w d) (gt l 0)).2.2 := by
  rw [doD, if_neg (by decide), if_neg (by decide), if_neg (by decide), if_pos rfl]
theorem kj : doD w d yN l = askD d yN [(zF (tksW w d) (gt l 0) (gt l 1)).1] (zF (tksW w d) (gt l 0) (gt l 1)).2 := by
  rw [doD, if_neg (by decide), if_neg (by decide), if_neg (by decide), if_neg (by decide), if_pos rfl]
theorem qf : doD w d zz l = askD d zz [(zf (zE w d) (gt l 0) (gt l 1)).1.lo, (zf (zE w d) (gt l 0) (gt l 1)).1.hi] (zf (zE w d) (gt l 0) (gt l 1)).2 := by
  rw [doD, if_neg (by decide), if_neg (by decide), if_neg (by decide), if_neg (by decide), if_neg (by decide), if_pos rfl]
theorem qh : doD w d y9 l = askD d y9 [(zv (zE w d) (gt l 0) (gt l 1) (gt l 2)).1] (zv (zE w d) (gt l 0) (gt l 1) (gt l 2)).2 := by
  rw [doD, if_neg (by decide), if_neg (by decide), if_neg (by decide), if_neg (by decide), if_neg (by decide), if_neg (by decide), if_pos rfl]
theorem ki : doD w d yp l = if (zh (zD w d) d.book).2.2 = 4 then (d, yp, 0) else askD d yp [(zh (zD w d) d.book).1, (zh (zD w d) d.book).2.1] (zh (zD w d) d.book).2.2 := by
  rw [doD, if_neg (by decide), if_neg (by decide), if_neg (by decide), if_neg (by decide), if_neg (by decide), if_neg (by decide), if_neg (by decide), if_pos rfl]
theorem Xg : doD w d sumS l = askD d sumS [(yh (zD w d) d.book).1] (yh (zD w d) d.book).2 := by
  rw [doD, if_neg (by decide), if_neg (by decide), if_neg (by decide), if_neg (by decide), if_neg (by decide), if_neg (by decide), if_neg (by decide), if_neg (by decide), if_pos rfl]
theorem VB : doD w d payS l = xX d ⟨gt l 0, 1, w.price⟩ := by
  rw [doD, if_neg (by decide), if_neg (by decide), if_neg (by decide), if_neg (by decide), if_neg (by decide), if_neg (by decide), if_neg (by decide), if_neg (by decide), if_neg (by decide), if_pos rfl]
theorem Yr : doD w d xw l = xX d ⟨gt l 0, 2, w.fine⟩ := by
  rw [doD, if_neg (by decide), if_neg (by decide), if_neg (by decide), if_neg (by decide), if_neg (by decide), if_neg (by decide), if_neg (by decide), if_neg (by decide), if_neg (by decide), if_neg (by decide), if_pos rfl]
theorem Yq : doD w d xE l = xX d ⟨gt l 0, 3, gt l 1⟩ := by
  rw [doD, if_neg (by decide), if_neg (by decide), if_neg (by decide), if_neg (by decide), if_neg (by decide), if_neg (by decide), if_neg (by decide), if_neg (by decide), if_neg (by decide), if_neg (by decide), if_neg (by decide)]
end
theorem pig : ∀ (n : Nat) (l : List Nat), l.Nodup → (∀ x ∈ l, x < n) → l.length ≤ n
  | 0, l, _, h => by
    cases l with
    | nil => exact Nat.le_refl _
    | cons a r => exact absurd (h a (by simp)) (Nat.not_lt_zero _)
  | n + 1, l, hn, h => by
    by_cases hm : n ∈ l
    · have h1 := pig n (l.erase n) (hn.erase n) (fun x hx => by
        have h2 := (hn.mem_erase_iff).1 hx;have := h x h2.2;have := h2.1;omega)
      rw [List.length_erase_of_mem hm] at h1;omega
    · have h1 := pig n l hn (fun x hx => by
        have := h x hx;have : x ≠ n := fun e => hm (e ▸ hx);omega)
      omega
theorem Vs {l : List Ent} {t k : Int} (h : zM l t k = false) {j : Nat} (hj : j < l.length) : ¬ ((gt l j).ticket = t ∧ (gt l j).kind = k) := fun e => by
  exact List.any_eq_false.1 h _ (yE hj) (decide_eq_true e)
theorem J3 {α : Type} [Inhabited α] {l : List α} {i j : Nat} (h : j < i) : gt (l.take i) j = gt l j := by
  simp only [gt, List.getD, List.getElem?_take_of_lt h]
theorem wx {w : Wick} {d : Day} (hd : zT w d) : d.book.length ≤ 15 := by
  have h5 : d.tks.length ≤ 5 := (y8 hd.tks).2.1;have h := pig 15 (d.book.map fun e => ((e.ticket * 3 + e.kind) - 1).toNat) ?_ ?_
  · simpa using h
  · rw [List.Nodup, List.pairwise_iff_getElem];intro i j hi hj hij;simp only [List.length_map] at hi hj;simp only [List.getElem_map, ne_eq];have e1 : d.book[i] = gt d.book i := by simp [gt, List.getD, hi]
    have e2 : d.book[j] = gt d.book j := by simp [gt, List.getD, hj]
    rw [e1, e2];have h1 := hd.ent i hi;have h2 := hd.ent j hj;have h3 := Vs (hd.once j hj) (j := i) (by simp; omega);rw [J3 hij] at h3;intro e;exact h3 (by omega)
  · intro x hx;obtain ⟨e, he, rfl⟩ := List.mem_map.1 hx;obtain ⟨i, hi, rfl⟩ := uU he;have := hd.ent i hi;omega
theorem Z7 {w : Wick} (h : zS w = true) : (0 ≤ w.price ∧ w.price ≤ 100) ∧ (0 ≤ w.fine ∧ w.fine ≤ 100) ∧ (0 ≤ w.wait ∧ w.wait ≤ 100) := by
  simp only [zS, yx, Bool.and_eq_true, inB, decide_eq_true_eq] at h;exact ⟨h.1.1.1.2, h.1.1.2, h.1.2⟩
theorem zbk {w : Wick} {d : Day} (hw : zS w = true) (hd : zT w d) : yx (zD w d) = true := by
  have := Z7 hw;simp only [yx, Bool.and_eq_true, inB, decide_eq_true_eq];exact ⟨⟨⟨hd.tks, this.1⟩, this.2.1⟩, this.2.2⟩
theorem VG {w : Wick} {d : Day} (hd : zT w d) : d.book.all (entB (zD w d)) = true := by
  rw [wv];intro i hi;have := hd.ent i hi;have e : (zD w d).tk.l = d.tks := rfl;simp only [entB, isT, inB, Bool.and_eq_true, decide_eq_true_eq, e];omega
theorem zbp {w : Wick} {d : Day} (hw : zS w = true) (hd : zT w d) : uQ (zD w d) d.book = tksE (tksW w d) true := by
  have h1 : yq (zD w d) d.book true = 0 := by
    have := wx hd;unfold yq;rw [if_neg (by rw [zbk hw hd]; simp), if_neg (by omega), if_neg (by simp), if_neg (by rw [VG hd]; simp)]
  unfold uQ;rw [if_neg (by rw [h1]; simp)]; rfl
theorem zbo {w : Wick} {d : Day} (hd : zT w d) : tksE (tksW w d) true = 0 ∨ tksE (tksW w d) true = 10 := by
  unfold tksE;rw [if_neg (by rw [hd.tks]; simp), if_neg (by simp)];split
  · exact .inr rfl
  · exact .inl rfl
theorem Xe {w : Wick} {d : Day} (hw : zS w = true) (hd : zT w d) : ((zh (zD w d) d.book).2.2 = 0 ∧ (zh (zD w d) d.book).2.1 = 2 ∧ 0 ≤ (zh (zD w d) d.book).1 ∧ (zh (zD w d) d.book).1 < 15) ∨ (zh (zD w d) d.book).2.2 = 4 ∨ (zh (zD w d) d.book).2.2 = 10 := by
  unfold zh;rw [zbp hw hd];rcases zbo hd with h | h
  · rw [if_neg (by rw [h]; simp)];cases hb : yH (zD w d) d.book d.book.length with
    | nil => exact .inr (.inl rfl)
    | cons i r =>
      left;have hi : i ∈ yH (zD w d) d.book d.book.length := by rw [hb]; simp
      unfold yH at hi;rw [List.mem_filter, List.mem_range] at hi;have h15 := wx hd;refine ⟨rfl, ?_, by show (0 : Int) ≤ (i : Int); omega, by show (i : Int) < 15; omega⟩;have h2 := of_decide_eq_true hi.2
      show xj (zD w d) d.book i = 2;unfold xj at h2 ⊢;rw [hd.once i hi.1] at h2 ⊢;rw [if_neg (by simp)] at h2 ⊢;split at h2
      · rename_i h3; rw [if_pos h3]
      · exact absurd rfl h2
  · rw [if_pos (by rw [h]; decide)];exact .inr (.inr h)
def Zd (d : Day) (r : Rep) : Prop := (∃ e, e ≠ 0 ∧ r = errD d e) ∨ (r.2.2 = 0 ∧ r.2.1 ≠ [])
theorem XQ {s : Bs} (hs : s ≠ []) (l : List Int) : repL s l ≠ [] := by
  unfold repL;intro e;exact hs (List.append_eq_nil_iff.1 e).1
theorem vL (d : Day) {s : Bs} (hs : s ≠ []) (r : List Int) (e : Int) : Zd d (askD d s r e) := by
  unfold askD;split
  · rename_i h; exact .inl ⟨e, h, rfl⟩
  · exact .inr ⟨rfl, XQ hs r⟩
theorem JL (w : Wick) (d : Day) (x : Tick) : Zd d (jy w d x) := by
  unfold jy;split
  · exact .inl ⟨9, by decide, rfl⟩
  · split
    · exact .inl ⟨2, by decide, rfl⟩
    · exact .inr ⟨rfl, XQ (by decide) _⟩
theorem Jn (w : Wick) (d : Day) (x : Look) : Zd d (jw w d x) := by
  unfold jw;split
  · exact .inl ⟨9, by decide, rfl⟩
  · split
    · exact .inl ⟨2, by decide, rfl⟩
    · exact .inr ⟨rfl, XQ (by decide) _⟩
theorem kb (d : Day) (x : Ent) : Zd d (xX d x) := by
  unfold xX;split
  · exact .inl ⟨2, by decide, rfl⟩
  · split
    · exact .inl ⟨5, by decide, rfl⟩
    · exact .inr ⟨rfl, XQ (by decide) _⟩
def askW : List Bs := [yF, y3, yN, zz, y9, yp, sumS]
def putW : List Bs := [zo, yk, payS, xw, xE]
theorem zbw {p : Bs} {n : Nat} (h : vv p = some n) : p ∈ askW ∨ p ∈ putW := by
  unfold vv at h;by_cases h0 : p = zo
  · subst h0; exact .inr (by decide)
  rw [if_neg h0] at h;by_cases h1 : p = yk
  · subst h1; exact .inr (by decide)
  rw [if_neg h1] at h;by_cases h2 : p = yF
  · subst h2; exact .inl (by decide)
  rw [if_neg h2] at h;by_cases h3 : p = y3
  · subst h3; exact .inl (by decide)
  rw [if_neg h3] at h;by_cases h4 : p = yN
  · subst h4; exact .inl (by decide)
  rw [if_neg h4] at h;by_cases h5 : p = zz
  · subst h5; exact .inl (by decide)
  rw [if_neg h5] at h;by_cases h6 : p = y9
  · subst h6; exact .inl (by decide)
  rw [if_neg h6] at h;by_cases h7 : p = yp
  · subst h7; exact .inl (by decide)
  rw [if_neg h7] at h;by_cases h8 : p = sumS
  · subst h8; exact .inl (by decide)
  rw [if_neg h8] at h;by_cases h9 : p = payS
  · subst h9; exact .inr (by decide)
  rw [if_neg h9] at h;by_cases h10 : p = xw
  · subst h10; exact .inr (by decide)
  rw [if_neg h10] at h;by_cases h11 : p = xE
  · subst h11; exact .inr (by decide)
  rw [if_neg h11] at h;cases h
theorem zch (w : Wick) (d : Day) (l : List Int) {p : Bs} (h : p ∈ askW) : (doD w d p l).1 = d ∧ Zd d (doD w d p l) := by
  simp only [askW, List.mem_cons, List.not_mem_nil, or_false] at h;rcases h with rfl | rfl | rfl | rfl | rfl | rfl | rfl
  · rw [kk]; exact ⟨ya .., vL d (by decide) _ _⟩
  · rw [qi]; exact ⟨ya .., vL d (by decide) _ _⟩
  · rw [kj]; exact ⟨ya .., vL d (by decide) _ _⟩
  · rw [qf]; exact ⟨ya .., vL d (by decide) _ _⟩
  · rw [qh]; exact ⟨ya .., vL d (by decide) _ _⟩
  · rw [ki];split
    · exact ⟨rfl, .inr ⟨rfl, (show yp ≠ [] by decide)⟩⟩
    · exact ⟨ya .., vL d (by decide) _ _⟩
  · rw [Xg]; exact ⟨ya .., vL d (by decide) _ _⟩
theorem zci (w : Wick) (d : Day) (l : List Int) {p : Bs} (h : p ∈ putW) : Zd d (doD w d p l) := by
  simp only [putW, List.mem_cons, List.not_mem_nil, or_false] at h;rcases h with rfl | rfl | rfl | rfl | rfl
  · rw [qF]; exact JL w d _
  · rw [Ys]; exact Jn w d _
  · rw [VB]; exact kb d _
  · rw [Yr]; exact kb d _
  · rw [Yq]; exact kb d _
theorem Ji (w : Wick) (d : Day) (s : Bs) : Zd d (zC w d s) := by
  unfold zC;split
  · exact .inl ⟨3, by decide, rfl⟩
  · split
    · exact .inl ⟨8, by decide, rfl⟩
    · rename_i n hn
      split
      · exact .inl ⟨8, by decide, rfl⟩
      · split
        · exact .inl ⟨8, by decide, rfl⟩
        · rcases zbw hn with h | h
          · exact (zch w d _ h).2
          · exact zci w d _ h
theorem zb7 {d : Day} {r : Rep} (h : Zd d r) (he : r.2.2 ≠ 0) : r.1 = d ∧ r.2.1 = [] := by
  rcases h with ⟨e, _, rfl⟩ | ⟨h1, _⟩
  · exact ⟨rfl, rfl⟩
  · exact absurd h1 he
theorem zmk {d : Day} {r : Rep} (h : Zd d r) : r.2.2 = 0 ↔ r.2.1 ≠ [] := by
  rcases h with ⟨e, h1, rfl⟩ | ⟨h1, h2⟩
  · exact ⟨fun h => absurd h h1, fun h => absurd rfl h⟩
  · exact ⟨fun _ => h2, fun _ => h1⟩
def zcf (s q : Bs) : Bool := decide (q.length ≤ s.length) && decide (s.take q.length = q)
def quietB (s : Bs) : Bool := askW.any (zcf s)
theorem zlW (s : Bs) : ∃ r, s = (Lib.split s [32]).headD [] ++ r := by
  by_cases h : (32 : UInt8) ∈ s
  · obtain ⟨p, q, rfl, hp⟩ := za9 s h;rw [uN q hp];exact ⟨32 :: q, rfl⟩
  · rw [je h]; exact ⟨[], by simp⟩
theorem zlM (w : Wick) (d : Day) {s : Bs} (hq : quietB s = true) : (zC w d s).1 = d := by
  unfold zC;split
  · rfl
  · split
    · rfl
    · rename_i n hn
      split
      · rfl
      · split
        · rfl
        · rcases zbw hn with h | h
          · exact (zch w d _ h).1
          · exfalso
            obtain ⟨r, hr⟩ := zlW s;obtain ⟨q, hq1, hq2⟩ := List.any_eq_true.1 hq;simp only [zcf, Bool.and_eq_true, decide_eq_true_eq] at hq2;generalize (Lib.split s [32]).headD [] = p at h hr
            have h3 : 3 ≤ p.length ∧ 3 ≤ q.length := by
              have a1 : ∀ p ∈ putW, 3 ≤ p.length := by decide
              have a2 : ∀ p ∈ askW, 3 ≤ p.length := by decide
              exact ⟨a1 p h, a2 q hq1⟩
            have e1 : s.take 3 = p.take 3 := by rw [hr, List.take_append_of_le_length h3.1]
            have e2 : q.take 3 = s.take 3 := by
              conv => lhs; rw [← hq2.2]
              rw [List.take_take, Nat.min_eq_left h3.2]
            have a3 : ∀ p ∈ putW, ∀ q ∈ askW, q.take 3 ≠ p.take 3 := by decide
            exact a3 p h q hq1 (e2.trans e1)
theorem ZM (w : Wick) : ∀ (a b : List Bs) (d : Day), y0 w d (a ++ b) = y0 w (y0 w d a) b
  | [], _, _ => rfl
  | _ :: a, b, d => by rw [List.cons_append, y0, y0, ZM w a b]
theorem XR (w : Wick) : ∀ (a : List Bs) (s : Bs) (d : Day), yV w d (a ++ [s]) = ((yV w d a).1 ++ [(zC w (y0 w d a) s).2.1], (yV w d a).2 + if (zC w (y0 w d a) s).2.2 ≠ 0 then 1 else 0)
  | [], s, d => by
    show ([(zC w d s).2.1], (if (zC w d s).2.2 ≠ 0 then 1 else 0) + 0) = ([] ++ [(zC w d s).2.1], 0 + if (zC w d s).2.2 ≠ 0 then 1 else 0);rw [Nat.add_zero, Nat.zero_add]; rfl
  | b :: a, s, d => by
    rw [List.cons_append, yV, XR w a s];simp only [yV, y0, List.cons_append];rw [Nat.add_assoc]; rfl
theorem zP {α : Type} [Inhabited α] {l : List α} {k : Nat} (h : k < l.length) : l.take (k + 1) = l.take k ++ [gt l k] := by
  have hg : gt l k = l[k] := by simp [gt, List.getD, h]
  rw [List.take_succ_eq_append_getElem h, hg]
theorem vC (w : Wick) (d : Day) {l : List Bs} {k : Nat} (h : k < l.length) : y0 w d (l.take (k + 1)) = (zC w (y0 w d (l.take k)) (gt l k)).1 := by
  rw [zP h, ZM]; rfl
theorem j6 (w : Wick) (d : Day) {l : List Bs} {k : Nat} (h : k < l.length) : yV w d (l.take (k + 1)) = ((yV w d (l.take k)).1 ++ [(zC w (y0 w d (l.take k)) (gt l k)).2.1], (yV w d (l.take k)).2 + if (zC w (y0 w d (l.take k)) (gt l k)).2.2 ≠ 0 then 1 else 0) := by
  rw [zP h, XR]
theorem kL (w : Wick) : ∀ (l : List Bs) (d : Day), (yV w d l).1.length = l.length ∧ (yV w d l).2 ≤ l.length
  | [], _ => ⟨rfl, Nat.le_refl _⟩
  | s :: l, d => by
    have := kL w l (zC w d s).1;simp only [yV, List.length_cons];refine ⟨by rw [this.1], ?_⟩;split <;> omega
theorem zlN (w : Wick) : ∀ (l : List Bs) (d : Day) (i : Nat), i < l.length → gt (yV w d l).1 i = (zC w (y0 w d (l.take i)) (gt l i)).2.1
  | [], _, i, h => absurd h (Nat.not_lt_zero _)
  | s :: l, d, 0, _ => rfl
  | s :: l, d, i + 1, h => by
    have := zlN w l (zC w d s).1 i (by simpa using h);simpa [yV, y0, gt, List.getD] using this
end Go.Ti
namespace Go.Proofs.YtejgofaeafphjaaGreatDoor
open Go.W Go.Ti
def sumU (l : List Int) : Nat := (l.map fun n => 2 ^ n.toNat).sum
def setN (T : Tide) (h : Hts) (p k : Nat) : Nat := sumU (((rng (gt T.sand p).lo (gt T.sand p).hi).take k).filter (kQ T h p))
def setU (T : Tide) (h : Hts) (p : Nat) : Nat := sumU (setL T h p)
theorem VH {n j : Nat} (hn : n ≤ 6) (hj : j < n) : (2 ^ n - 1) / 2 ^ j % 2 = 1 := by
  have h : ∀ n, n < 7 → ∀ j, j < n → (2 ^ n - 1) / 2 ^ j % 2 = 1 := by decide
  exact h n (by omega) j hj
theorem j9 {T : Tide} {h : Hts} {p k : Nat} (hk : k < ((gt T.sand p).hi - (gt T.sand p).lo + 1).toNat) : setN T h p (k + 1) = setN T h p k + if kQ T h p ((gt T.sand p).lo + (k : Int)) then 2 ^ ((gt T.sand p).lo + (k : Int)).toNat else 0 := by
  have hl : k < (rng (gt T.sand p).lo (gt T.sand p).hi).length := by rw [wH]; exact hk
  unfold setN sumU;rw [zP hl, List.filter_append, List.map_append, List.sum_append, Xo hk];congr 1;generalize (gt T.sand p).lo + (k : Int) = n;cases hb : kQ T h p n <;> simp [hb]
theorem kR {T : Tide} {h : Hts} {p : Nat} (hlo : 0 ≤ (gt T.sand p).lo) : ∀ k, k ≤ ((gt T.sand p).hi - (gt T.sand p).lo + 1).toNat → setN T h p k < 2 ^ ((gt T.sand p).lo + (k : Int)).toNat
  | 0, _ => by simp [setN, sumU, Nat.two_pow_pos]
  | k + 1, hk => by
    have ih := kR (h := h) hlo k (by omega);rw [j9 (by omega)];have e : ((gt T.sand p).lo + ((k + 1 : Nat) : Int)).toNat = ((gt T.sand p).lo + (k : Int)).toNat + 1 := by omega
    rw [e, Nat.pow_succ];split <;> omega
theorem JM (T : Tide) (h : Hts) (p : Nat) : setN T h p ((gt T.sand p).hi - (gt T.sand p).lo + 1).toNat = setU T h p := by
  unfold setN setU setL;rw [List.take_of_length_le (by rw [wH]; exact Nat.le_refl _)]
theorem KA {a i : Nat} (h : a < 2 ^ i) : a ||| 2 ^ i = a + 2 ^ i := by
  have := Nat.two_pow_add_eq_or_of_lt h 1;rw [Nat.mul_one] at this;rw [Nat.or_comm, ← this, Nat.add_comm]
def jL (T : Tide) (h : Hts) (p : Nat) (n : Int) (j : Nat) : Bool := (T.looks.take j).all fun l => !decide (l.place = (p : Int)) || fitB l (y5 T h l.minute) n
theorem wn {T : Tide} {h : Hts} {p : Nat} {n : Int} {j : Nat} (hj : j < T.looks.length) : jL T h p n (j + 1) = (jL T h p n j && (!decide ((gt T.looks j).place = (p : Int)) || fitB (gt T.looks j) (y5 T h (gt T.looks j).minute) n)) := by
  unfold jL;rw [zP hj, List.all_append];simp
theorem Xl (T : Tide) (h : Hts) (p : Nat) (n : Int) : jL T h p n T.looks.length = kQ T h p n := by
  unfold jL kQ;rw [List.take_length]
theorem ze9 : zj Tryz.prog 362 [] [] := ⟨⟨_, Tryz.zeroValue362, rfl⟩, _, Tryz.underlying362, fun w => by simp []⟩
abbrev zc0 := SaF.mk ze9
attribute [instance] zc0
theorem zea : zj Tryz.prog 366 [.int .i64 0, .int .i64 0] [(0, 0), (0, 2)] := ⟨⟨_, Tryz.zeroValue366, rfl⟩, _, Tryz.underlying366, fun w => by simp [Tryz.sizeOf39, Tryz.sizeOf362]⟩
abbrev zc1 := SaF.mk zea
attribute [instance] zc1
theorem zcV (T : Tide) (a1 a2 a3 : Option Addr) (n1 n2 n3 c1 c2 c3 : Nat) (D : Imm) (w : World) (hR : yo D T a1 n1 a2 n2 a3 n3) (qb mb : Nat) (hq : D qb = some (shoO (.slice a1 n1 c1) (.slice a2 n2 c2) (.slice a3 n3 c3) mb)) (hH : Holds D w) (hT : zG T) (hdn : ux D) (h : Hts) (hh : HtB h) (p : Nat) (hp : p < T.sand.length) (hM0 : Hp) (hMM0 : MapK T mb hM0) (hI0 : Inv D hM0 [mb] w w) : zp Tryz.prog 238 [pt qb, htV h, nt p, ut (2 ^ T.looks.length - 1)] w D [mb] (fun v D' hp' => v = ut (setU T h p) ∧ D' = D ∧ MapK T mb hp') := by
  unfold zp;obtain rfl := hR.mark.len';obtain rfl := hR.sand.len';obtain rfl := hR.look.len';obtain ⟨hl1, hl2, hl3⟩ := hR.len;have hs := ws.1 (hT.sand p hp);refine en Tryz.func238 rfl Tryz.ntmps238 hI0 (g [[1],[1,0,1,2,3]] ?_);refine WL.so (SO.box rfl rfl) rfl (zw fun b5 hb5 => ?_);refine g [[5],[7,8,5,0,2,3]] ?_;refine WL.yd (Yd.ix rfl rfl (hR.sand.addr p (by omega))) rfl (g [[1]] ?_);refine WL.yd (Yd.l1 rfl ((hR.sand.at p (by omega)).rd 0 rfl)) rfl (g [[4]] ?_);refine WC.loop (fun y : Nat × Hp => [(0, pt qb), (2, nt p), (3, ut (2 ^ T.looks.length - 1)), (5, pt b5), (8, ut (setN T h p y.1)), (9, it ((gt T.sand p).lo + ((y.1 : Nat) : Int)))]) (fun y => (b5, .cells (List.toArray (htC h)) 232 (0, 0)) :: y.2) (fun _ => D) (fun y => y.1 ≤ ((gt T.sand p).hi - (gt T.sand p).lo + 1).toNat ∧ MapK T mb y.2) (fun y => ((gt T.sand p).hi - (gt T.sand p).lo + 1).toNat - y.1) (0, hM0) ⟨by omega, hMM0⟩ (fun a w h => y4 h ⟨rfl, rfl, rfl, rfl, rfl, by show some (it _) = some (it _); congr 2; push_cast; omega, trivial⟩) ?_;rintro ⟨k, hM⟩ ⟨hk, hMM⟩;dsimp only at hk hMM;refine g [[2],[8,0,2,3,5,8,9]] ?_;refine WL.yd (Yd.ix rfl rfl (hR.sand.addr p (by omega))) rfl (g [[1]] ?_);refine WL.yd (Yd.l1 rfl ((hR.sand.at p (by omega)).rd 1 rfl)) rfl (g [[3]] ?_);refine WC.cond rfl (fun c33 => ?_) (fun c33 => ?_)
  · try simp only [zq] at c33
    have hkW : k < ((gt T.sand p).hi - (gt T.sand p).lo + 1).toNat := by omega
    refine g [[5],[6,0,2,3,5,8,9],[11,10,0,2,3,5,8,9]] ?_;refine WC.loop (fun y : Nat × Hp => [(0, pt qb), (2, nt p), (3, ut (2 ^ T.looks.length - 1)), (5, pt b5), (8, ut (setN T h p k)), (9, it ((gt T.sand p).lo + ((k : Nat) : Int))), (10, .bool (jL T h p ((gt T.sand p).lo + ((k : Nat) : Int)) y.1)), (40, .slice a3 T.looks.length c3), (41, nt T.looks.length), (42, nt y.1)]) (fun y => (b5, .cells (List.toArray (htC h)) 232 (0, 0)) :: y.2) (fun _ => D) (fun y => y.1 ≤ T.looks.length ∧ MapK T mb y.2) (fun y => T.looks.length - y.1) (0, hM) ⟨by omega, hMM⟩ (fun a w h => y4 h ⟨rfl, rfl, rfl, rfl, rfl, rfl, rfl, rfl, rfl, rfl, trivial⟩) ?_;rintro ⟨j, hM2⟩ ⟨hj, hMM2⟩;dsimp only at hj hMM2;obtain ⟨es, clock, F, rfl, hMR, hFK⟩ := hMM2;refine g [[1],[5,0,2,3,5,8,9,10,40,41,42]] ?_;refine WC.cond rfl (fun c43 => ?_) (fun c43 => ?_)
    · try simp only [zq] at c43
      have hjl : j < T.looks.length := by omega
      have hlm := (kC.1 (hT.look j hjl)).2.1;have hsn := uO hT (h := h) (fun i _ => hh i) hlm;have hnb : 0 ≤ ((gt T.sand p).lo + ((k : Nat) : Int)) ∧ ((gt T.sand p).lo + ((k : Nat) : Int)) ≤ 60 := by omega
      have hev := VH hT.nl hjl;have hj60 : j ≤ 60 := by have := hT.nl; omega
      refine g [[5],[2,0,2,3,5,8,9,10,40,41,42]] ?_;refine WL.yd (Yd.ix rfl rfl (hR.look.addr j (by omega))) rfl (WL.yd (Yd.lV [_, _, _, _] rfl ((hR.look.at j (by omega)).rdn 0 4 rfl)) rfl ?_);refine WL.so (SO.alloc ZvF.h rfl) rfl (zw fun b12 hb12 => ?_);refine g [[5],[8,11,12,0,2,3,5,8,9,10,40,41,42],[6,13,11,12,0,2,3,5,8,9,10,40,41,42]] ?_;refine WL.part 53 rfl (fun g53 => ?_) (fun g53 => ?_)
      · try simp only [zq] at g53
        refine g [[2]] ?_;refine WL.ydg rfl (Yd.shrUN rfl rfl (by omega)) rfl (WL.ydg rfl (Yd.andU1 rfl rfl) rfl (g [[4]] ?_));refine WC.cond rfl (fun c59 => ?_) (fun c59 => ?_)
        · try simp only [zq] at c59
          refine g [[9,13,12,0,2,3,5,8,9,10,40,41,42],[0,13,12,0,2,3,5,8,9,10,40,41,42]] ?_;refine WC.drawO [_, _] (pz [1,3,5,7,9,11,13,17,19,21,23,14,24,27,29]) zk zk zX (fun _ hI => Inv.left (l1 := [_, _]) (l2 := [_]) hI) (g [[2]] ?_);refine WA.part 66 rfl (fun g66 => ?_) (fun g66 => ?_)
          · try simp only [zq] at g66
            refine g [[7]] ?_;refine WA.ydg rfl rfl (Yd.nilCheckM rfl (fun w => by kernel_rfl)) rfl (g [[1]] ?_);refine WA.sog rfl rfl (SO.altersN (own := [_, _]) (hpc := [(mb, .map es clock)]) (fun _ h => h) (fun h => h) (fun _ h => h) (fun _ h => h) (Enters.func CaF.h rfl) (fun w1 hI => qx T a1 a2 a3 _ _ _ c1 c2 c3 D w1 hR qb mb hq hI.imm hT hdn h (gt T.looks j).minute hh hlm es clock F hMR hFK hI)) rfl ?_;rintro _ _ _ ⟨hp3, _, ⟨rfl, rfl, es2, clock2, F2, rfl, hMR2, hFK2⟩, rfl⟩;refine ⟨fun _ hI => Inv.left (l1 := [_, _]) hI, ?_⟩;refine WA.sog rfl rfl (SO.call (Enters.meth CaF.h (fun w => by kernel_rfl) rfl rfl) (fun w hI => zai (gt T.looks j) (y5 T h (gt T.looks j).minute) ((gt T.sand p).lo + ((k : Nat) : Int)) hsn hnb _)) rfl ?_;rintro _ _ _ ⟨rfl, rfl, rfl⟩;refine ⟨fun _ hI => Inv.left (l1 := [_, _]) hI, ?_⟩;refine g [[5],[4,10,0,2,3,5,8,9,40,41,42]] ?_;exact WP.again (⟨j + 1, [(mb, .map es2 clock2)]⟩ : Nat × Hp) ⟨by simp only; omega, es2, clock2, F2, rfl, hMR2, hFK2⟩ (by simp only; omega) (fun a w h => yi h ⟨rfl, rfl, rfl, rfl, rfl, rfl, by show some (Value.bool _) = some (.bool _); congr 2; rw [wn hjl]; simp_all, rfl, rfl, rfl, trivial⟩ (fun _ h => List.mem_cons_of_mem _ h) (fun h => (List.nodup_cons.1 h).2))
          try simp only [zq] at g66
          refine g [[16],[4,10,0,2,3,5,8,9,40,41,42]] ?_;exact WP.again (⟨j + 1, [(mb, .map es clock)]⟩ : Nat × Hp) ⟨by simp only; omega, es, clock, F, rfl, hMR, hFK⟩ (by simp only; omega) (fun a w h => yi h ⟨rfl, rfl, rfl, rfl, rfl, rfl, by show some (Value.bool _) = some (.bool _); congr 2; rw [wn hjl]; simp_all, rfl, rfl, rfl, trivial⟩ (fun _ h => List.mem_cons_of_mem _ h) (fun h => (List.nodup_cons.1 h).2))
        try simp only [zq] at c59
        refine g [[2],[0,13,12,0,2,3,5,8,9,10,40,41,42]] ?_;refine WC.drawO [_, _] (pz [1,3,5,7,9,11,13,17,19,21,23,14,24,27,29]) zk zk zX (fun _ hI => Inv.left (l1 := [_, _]) (l2 := [_]) hI) (g [[2]] ?_);refine WA.part 66 rfl (fun g66 => ?_) (fun g66 => ?_)
        · try simp only [zq] at g66
          refine g [[7]] ?_;refine WA.ydg rfl rfl (Yd.nilCheckM rfl (fun w => by kernel_rfl)) rfl (g [[1]] ?_);refine WA.sog rfl rfl (SO.altersN (own := [_, _]) (hpc := [(mb, .map es clock)]) (fun _ h => h) (fun h => h) (fun _ h => h) (fun _ h => h) (Enters.func CaF.h rfl) (fun w1 hI => qx T a1 a2 a3 _ _ _ c1 c2 c3 D w1 hR qb mb hq hI.imm hT hdn h (gt T.looks j).minute hh hlm es clock F hMR hFK hI)) rfl ?_;rintro _ _ _ ⟨hp3, _, ⟨rfl, rfl, es2, clock2, F2, rfl, hMR2, hFK2⟩, rfl⟩;refine ⟨fun _ hI => Inv.left (l1 := [_, _]) hI, ?_⟩;refine WA.sog rfl rfl (SO.call (Enters.meth CaF.h (fun w => by kernel_rfl) rfl rfl) (fun w hI => Yv _ _ _)) rfl ?_;rintro _ _ _ ⟨rfl, rfl, rfl⟩;refine ⟨fun _ hI => Inv.left (l1 := [_, _]) hI, ?_⟩;refine g [[5],[4,10,0,2,3,5,8,9,40,41,42]] ?_;exact WP.again (⟨j + 1, [(mb, .map es2 clock2)]⟩ : Nat × Hp) ⟨by simp only; omega, es2, clock2, F2, rfl, hMR2, hFK2⟩ (by simp only; omega) (fun a w h => yi h ⟨rfl, rfl, rfl, rfl, rfl, rfl, by show some (Value.bool _) = some (.bool _); congr 2; rw [wn hjl]; simp_all, rfl, rfl, rfl, trivial⟩ (fun _ h => List.mem_cons_of_mem _ h) (fun h => (List.nodup_cons.1 h).2))
        try simp only [zq] at g66
        refine g [[16],[4,10,0,2,3,5,8,9,40,41,42]] ?_;exact WP.again (⟨j + 1, [(mb, .map es clock)]⟩ : Nat × Hp) ⟨by simp only; omega, es, clock, F, rfl, hMR, hFK⟩ (by simp only; omega) (fun a w h => yi h ⟨rfl, rfl, rfl, rfl, rfl, rfl, by show some (Value.bool _) = some (.bool _); congr 2; rw [wn hjl]; simp_all, rfl, rfl, rfl, trivial⟩ (fun _ h => List.mem_cons_of_mem _ h) (fun h => (List.nodup_cons.1 h).2))
      try simp only [zq] at g53
      refine g [[11],[0,13,12,0,2,3,5,8,9,10,40,41,42]] ?_;refine WC.drawO [_, _] (pz [1,3,5,7,9,11,13,17,19,21,23,14,24,27,29]) zk zk zX (fun _ hI => Inv.left (l1 := [_, _]) (l2 := [_]) hI) (g [[2]] ?_);refine WA.part 66 rfl (fun g66 => ?_) (fun g66 => ?_)
      · try simp only [zq] at g66
        refine g [[7]] ?_;refine WA.ydg rfl rfl (Yd.nilCheckM rfl (fun w => by kernel_rfl)) rfl (g [[1]] ?_);refine WA.sog rfl rfl (SO.altersN (own := [_, _]) (hpc := [(mb, .map es clock)]) (fun _ h => h) (fun h => h) (fun _ h => h) (fun _ h => h) (Enters.func CaF.h rfl) (fun w1 hI => qx T a1 a2 a3 _ _ _ c1 c2 c3 D w1 hR qb mb hq hI.imm hT hdn h (gt T.looks j).minute hh hlm es clock F hMR hFK hI)) rfl ?_;rintro _ _ _ ⟨hp3, _, ⟨rfl, rfl, es2, clock2, F2, rfl, hMR2, hFK2⟩, rfl⟩;refine ⟨fun _ hI => Inv.left (l1 := [_, _]) hI, ?_⟩;refine WA.sog rfl rfl (SO.call (Enters.meth CaF.h (fun w => by kernel_rfl) rfl rfl) (fun w hI => Yv _ _ _)) rfl ?_;rintro _ _ _ ⟨rfl, rfl, rfl⟩;refine ⟨fun _ hI => Inv.left (l1 := [_, _]) hI, ?_⟩;refine g [[5],[4,10,0,2,3,5,8,9,40,41,42]] ?_;exact WP.again (⟨j + 1, [(mb, .map es2 clock2)]⟩ : Nat × Hp) ⟨by simp only; omega, es2, clock2, F2, rfl, hMR2, hFK2⟩ (by simp only; omega) (fun a w h => yi h ⟨rfl, rfl, rfl, rfl, rfl, rfl, by show some (Value.bool _) = some (.bool _); congr 2; rw [wn hjl]; simp_all, rfl, rfl, rfl, trivial⟩ (fun _ h => List.mem_cons_of_mem _ h) (fun h => (List.nodup_cons.1 h).2))
      try simp only [zq] at g66
      refine g [[16],[4,10,0,2,3,5,8,9,40,41,42]] ?_;exact WP.again (⟨j + 1, [(mb, .map es clock)]⟩ : Nat × Hp) ⟨by simp only; omega, es, clock, F, rfl, hMR, hFK⟩ (by simp only; omega) (fun a w h => yi h ⟨rfl, rfl, rfl, rfl, rfl, rfl, by show some (Value.bool _) = some (.bool _); congr 2; rw [wn hjl]; simp_all, rfl, rfl, rfl, trivial⟩ (fun _ h => List.mem_cons_of_mem _ h) (fun h => (List.nodup_cons.1 h).2))
    try simp only [zq] at c43
    obtain rfl : j = T.looks.length := by omega
    refine g [[6]] ?_;have hMM2 : MapK T mb [(mb, .map es clock)] := ⟨es, clock, F, rfl, hMR, hFK⟩;refine g [[4,0,2,3,5,8,9,10]] ?_;refine WC.cond rfl (fun c80 => ?_) (fun c80 => ?_)
    · try simp only [zq] at c80
      refine g [[3,0,2,3,5,8,9]] ?_;refine WL.know 82 (nt ((gt T.sand p).lo + ((k : Nat) : Int)).toNat) rfl (by show it _ = it _; congr 1; omega) ?_;have hs63 : setN T h p k < 2 ^ 63 := Nat.lt_trans (kR hs.1.1 k (by omega)) (Nat.pow_lt_pow_right (by omega) (by omega));have hn63 : 2 ^ ((gt T.sand p).lo + ((k : Nat) : Int)).toNat < 2 ^ 63 := Nat.pow_lt_pow_right (by omega) (by omega);refine WL.yd (Yd.shlU rfl rfl (by omega)) rfl (WL.yd (Yd.orU hs63 hn63 rfl rfl) rfl (g [[4],[5,8,0,2,3,5,9]] ?_));exact WP.again (⟨k + 1, [(mb, .map es clock)]⟩ : Nat × Hp) ⟨by simp only; omega, hMM2⟩ (by simp only; omega) (fun a w h => y4 h ⟨rfl, rfl, rfl, rfl, by show some (ut _) = some (ut _); congr 2; rw [j9 hkW, ← Xl]; first | (rw [c80, if_pos rfl, KA (kR hs.1.1 k (by omega))]) | (rw [c80]; rfl), by show some (it _) = some (it _); congr 2; push_cast; omega, trivial⟩)
    try simp only [zq] at c80
    refine g [[3],[5,0,2,3,5,8,9]] ?_;exact WP.again (⟨k + 1, [(mb, .map es clock)]⟩ : Nat × Hp) ⟨by simp only; omega, hMM2⟩ (by simp only; omega) (fun a w h => y4 h ⟨rfl, rfl, rfl, rfl, by show some (ut _) = some (ut _); congr 2; rw [j9 hkW, ← Xl]; first | (rw [c80, if_pos rfl, KA (kR hs.1.1 k (by omega))]) | (rw [c80]; rfl), by show some (it _) = some (it _); congr 2; push_cast; omega, trivial⟩)
  try simp only [zq] at c33
  obtain rfl : k = ((gt T.sand p).hi - (gt T.sand p).lo + 1).toNat := by omega
  refine g [[6],[6,8]] ?_;refine WP.ret1 rfl rfl rfl (RV.tmp rfl) (fun w1 hI => ⟨_, D, hM, rfl, DExt.refl _ _, hI.drop 1, by rw [← JM], rfl, hMM⟩)
def tdC (T : Tide) (h : Hts) : List Value := htC h ++ (List.range 4).map fun p => if p < T.sand.length then ut (setU T h p) else ut 0
def tdV (T : Tide) (h : Hts) : Value := .agg (tdC T h).toArray
theorem X1 (T : Tide) : ∀ h, (tdC T h).length = 8 := fun _ => rfl
theorem VI (T : Tide) (a1 a2 a3 : Option Addr) (n1 n2 n3 c1 c2 c3 : Nat) (D : Imm) (w : World) (hR : yo D T a1 n1 a2 n2 a3 n3) (qb mb : Nat) (hq : D qb = some (shoO (.slice a1 n1 c1) (.slice a2 n2 c2) (.slice a3 n3 c3) mb)) (hH : Holds D w) (hT : zG T) : z8 Tryz.prog 172 [pt qb] w (ut (2 ^ T.looks.length - 1)) := by
  unfold z8;obtain rfl := hR.mark.len';obtain rfl := hR.sand.len';obtain rfl := hR.look.len';obtain ⟨hl1, hl2, hl3⟩ := hR.len;have hnl := hT.nl;refine en Tryz.func172 rfl Tryz.ntmps172 (Inv.start hH) (g [[1],[5,0],[7,2,0]] ?_);refine WL.yd (Yd.shlU rfl rfl (by omega)) rfl (WL.yd (Yd.subU (i := 2 ^ T.looks.length) (j := 1) rfl rfl (Nat.one_le_two_pow) (Nat.pow_le_pow_right (by omega) (by omega))) rfl (g [[4]] ?_));refine WP.ret1 rfl rfl rfl (RV.tmp rfl) (fun w hI => ⟨rfl, hI.keep⟩)
theorem Y7 (q n : Nat) (D : Imm) (w : World) (hH : Holds D w) : y6 Tryz.prog 171 [pt q, ut n] w D (fun v D' => ∃ b c, v = .func (.func 235) #[] #[pt b, pt c] ∧ D' b = some (.cells (List.toArray [pt q]) 134 (0, 0)) ∧ D' c = some (.cells (List.toArray [ut n]) 200 (0, 0))) := by
  unfold y6;refine en Tryz.func171 rfl Tryz.ntmps171 (Inv.start hH) (g [[1],[1,0,1]] ?_);refine WL.so (SO.box rfl rfl) rfl (zw fun b2 hb2 => ?_);refine WL.so (SO.box rfl rfl) rfl (zw fun b3 hb3 => ?_);refine g [[4]] ?_;refine WC.freezeK 0 rfl (fun hn3 => ?_);refine WC.freezeK 0 rfl (fun hn2 => ?_);refine g [[6,4,3,2]] ?_;refine WP.ret1 rfl rfl rfl (RV.tmp rfl) (fun w1 hI => ⟨_, _, rfl, hI.keep, hI.imm, ((DExt.refl w D).add hn3 hb3).add hn2 hb2, b2, b3, rfl, Imm.add_self _ _ _, ((DExt.refl w _).add hn2 hb2).old _ _ (Imm.add_self _ _ _)⟩)
def tdF (T : Tide) (rem : Nat) (h : Hts) (k : Nat) : List Hts := (hsL T rem h k).filter (truB T)
def spR (T : Tide) (k : Nat) : List Int := rng (gt T.marks k).high.lo (gt T.marks k).high.hi
theorem W5 (T : Tide) (h : Hts) (k : Nat) : tdF T 0 h k = if truB T h then [h] else [] := by
  unfold tdF hsL;cases hb : truB T h <;> simp [hb]
theorem W4 (T : Tide) (rem : Nat) (h : Hts) (k : Nat) : tdF T (rem + 1) h k = (spR T k).flatMap fun n => tdF T rem (updH h k n) (k + 1) := by
  unfold tdF spR;rw [hsL, List.filter_flatMap]
def tdN (T : Tide) (rem : Nat) (h : Hts) (k i : Nat) : Nat := (((spR T k).take i).flatMap fun n => tdF T rem (updH h k n) (k + 1)).length
theorem JS {T : Tide} {rem : Nat} {h : Hts} {k i : Nat} (hi : i < (spR T k).length) : tdN T rem h k (i + 1) = tdN T rem h k i + (tdF T rem (updH h k (gt (spR T k) i)) (k + 1)).length := by
  unfold tdN;exact jh (fun n => tdF T rem (updH h k n) (k + 1)) hi
theorem JR {T : Tide} {rem : Nat} {h : Hts} {k i k0 : Nat} {A : List Hts} (hA : PartOf A (tdF T (rem + 1) h k) k0) (hi : i < (spR T k).length) : PartOf A (tdF T rem (updH h k (gt (spR T k) i)) (k + 1)) (k0 + tdN T rem h k i) := by
  rw [W4] at hA;exact hA.step hi
theorem zbg (T : Tide) (rem : Nat) (h : Hts) (k : Nat) : tdN T rem h k (spR T k).length = (tdF T (rem + 1) h k).length := by
  unfold tdN;rw [W4, List.take_length]
theorem zbf (T : Tide) : tdF T T.marks.length Zb 0 = tdL T := rfl
theorem zam {h : Hts} (hh : HtB h) (k : Nat) {n : Int} (hn : 0 ≤ n ∧ n ≤ 60) : HtB (updH h k n) := fun j => by
  unfold updH; split
  · exact hn
  exact hh j
theorem J4 : HtB Zb := fun _ => by simp [Zb]
def K6 (T : Tide) (h : Hts) (k : Nat) : Bool := (List.range k).all fun p => !(setL T h p).isEmpty
theorem kZ {l : List Int} : sumU l = 0 ↔ l = [] := by
  unfold sumU;cases l with
  | nil => simp
  | cons a r =>
    have := Nat.two_pow_pos a.toNat;simp only [List.map_cons, List.sum_cons, reduceCtorEq, iff_false];omega
theorem V1 {T : Tide} {h : Hts} {k : Nat} : K6 T h (k + 1) = (K6 T h k && !decide (setU T h k = 0)) := by
  unfold K6 setU;rw [List.range_succ, List.all_append];simp only [List.all_cons, List.all_nil, Bool.and_true];congr 1;cases hl : setL T h k with
  | nil => rfl
  | cons a r =>
    have : ¬ sumU (a :: r) = 0 := fun e => by have := kZ.1 e; cases this
    simp [this]
def tdP (T : Tide) (h : Hts) (j : Nat) : List Value := htC h ++ (List.range 4).map fun p => if p < j then ut (setU T h p) else ut 0
theorem zd4 (T : Tide) (h : Hts) {j : Nat} (hj : j < 4) : splice (tdP T h j) (0 + 4 + j * 1) [ut (setU T h j)] = tdP T h (j + 1) := by
  rcases (show j = 0 ∨ j = 1 ∨ j = 2 ∨ j = 3 by omega) with rfl | rfl | rfl | rfl <;> simp [tdP, htC, splice, List.range, List.range.loop]
theorem zlm (T : Tide) (h : Hts) {j : Nat} (hj : j < 4) : (tdP T h (j + 1))[0 + 4 + j * 1]? = some (ut (setU T h j)) := by
  rcases (show j = 0 ∨ j = 1 ∨ j = 2 ∨ j = 3 by omega) with rfl | rfl | rfl | rfl <;> simp [tdP, htC, List.range, List.range.loop]
theorem Jc {D : Imm} {a b : Nat × Obj} {h0 hM : Hp} {S : List Nat} {w0 w : World} (h : Inv D ((a :: b :: h0) ++ hM) S w0 w) : Inv D (hM ++ h0) S w0 w := by
  have hp : ((a :: b :: h0) ++ hM).Perm (a :: b :: (hM ++ h0)) := (List.perm_append_comm.cons b).cons a;refine h.sub (fun e he => hp.mem_iff.2 (List.mem_cons_of_mem _ (List.mem_cons_of_mem _ he))) ?_;have hn := ((hp.map Prod.fst).nodup_iff).1 h.nodup;rw [List.map_cons, List.map_cons] at hn;exact (List.nodup_cons.1 (List.nodup_cons.1 hn).2).2
theorem zdZ : zj Tryz.prog 236 [.int .i64 0, .int .i64 0, .int .i64 0, .int .i64 0, .int .u64 0, .int .u64 0, .int .u64 0, .int .u64 0] [(0, 4), (4, 4)] := ⟨⟨_, Tryz.zeroValue236, rfl⟩, _, Tryz.underlying236, fun w => by simp [Tryz.sizeOf232, Tryz.sizeOf234]⟩
abbrev zbQ := SaF.mk zdZ
attribute [instance] zbQ
theorem zlf (T : Tide) (a1 a2 a3 : Option Addr) (n1 n2 n3 c1 c2 c3 : Nat) (qb mb bs bo bm by_ ly : Nat) (St : Nat → Imm → Hp → Prop) (Sp : Imm → Hp → Prop) (w0 : World) (A : List Hts) (hT : zG T)
    (hSm : ∀ k D1 D2 h, DExt w0 D1 D2 → St k D1 h → St k D2 h)
    (DD : Imm) (hround : ∀ k D' h w', k < A.length → w0.heap.size ≤ w'.heap.size → DExt w0 DD D' → St k D' h → Inv D' h (keys h) w' w' → YieldAt Fence.wide 0 Tryz.prog ly #[tdV T (gt A k)] w' (xV w' D' (keys h) (fun b D'' h' => (b = true ∧ St (k + 1) D'' h') ∨ (b = false ∧ Sp D'' h')))) : ∀ (h : Hts) (k k0 : Nat) (D : Imm) (w : World) (hM h0 : Hp), k + 0 = T.marks.length → PartOf A (tdF T 0 h k) k0 → HtB h → w0.heap.size ≤ w.heap.size → DExt w0 DD D → yo D T a1 n1 a2 n2 a3 n3 → D qb = some (shoO (.slice a1 n1 c1) (.slice a2 n2 c2) (.slice a3 n3 c3) mb) → ux D → D bs = some (.cells (List.toArray [pt qb]) 134 (0, 0)) → D bo = some (.cells (List.toArray [.func (.func 236) #[] #[pt bs, pt bo, pt bm, pt by_]]) 312 (0, 0)) → D bm = some (.cells (List.toArray [ut (2 ^ T.looks.length - 1)]) 200 (0, 0)) → D by_ = some (.cells (List.toArray [.func (.yield ly) #[] #[]]) 311 (0, 0)) → MapK T mb hM → St k0 D h0 → Inv D (hM ++ h0) (keys (hM ++ h0)) w w → zp Tryz.prog 236 [htV h, nt k, pt bs, pt bo, pt bm, pt by_] w D (keys (hM ++ h0)) (fun v D' h' => ∃ b hM' h1, v = .bool b ∧ h' = hM' ++ h1 ∧ MapK T mb hM' ∧ ((b = true ∧ St (k0 + (tdF T 0 h k).length) D' h1) ∨ (b = false ∧ Sp D' h1))) := by
  intro h k k0 D w hM h0 hin hpart hh hsw hXX hR hq hdn h1 h2 h3 h4 hMM hS0 hI0;obtain rfl := hR.mark.len';obtain rfl := hR.sand.len';obtain rfl := hR.look.len';obtain ⟨hl1, hl2, hl3⟩ := hR.len;obtain ⟨es0, clock0, F0, rfl, hMR0, hFK0⟩ := hMM;have hnm := hT.nm;have hns := hT.ns;unfold zp;refine en Tryz.func236 rfl Tryz.ntmps236 hI0 (g [[1],[1,0,1,2,3,4,5]] ?_);refine WL.so (SO.box rfl rfl) rfl (zw fun b6 hb6 => ?_);refine g [[5],[11,8,6,1,2,3,4,5]] ?_;refine WC.cond rfl (fun c20 => ?_) (fun c20 => ?_)
  · try simp only [zq] at c20
    omega
  try simp only [zq] at c20
  refine g [[3],[3,8,6,2,4,5]] ?_;refine WL.so (SO.alloc ZvF.h rfl) rfl (zw fun b11 hb11 => ?_);refine g [[5],[11,11,8,6,2,4,5]] ?_
  refine WC.loop (fun y : Nat × Hp => [(2, pt bs), (4, pt bm), (5, pt by_), (6, pt b6), (11, pt b11), (63, nt T.sand.length), (64, nt y.1)]) (fun y => ((b11, .cells (List.toArray (tdP T h y.1)) 236 (0, 0)) :: (b6, .cells (List.toArray (htC h)) 232 (0, 0)) :: h0) ++ y.2) (fun _ => D) (fun y => y.1 ≤ T.sand.length ∧ MapK T mb y.2 ∧ K6 T h y.1 = true) (fun y => T.sand.length - y.1) (0, [(mb, .map es0 clock0)]) ⟨by omega, ⟨es0, clock0, F0, rfl, hMR0, hFK0⟩, rfl⟩ (fun a w h => yi h ⟨rfl, rfl, rfl, rfl, rfl, rfl, rfl, trivial⟩ (fun e he => by
    rcases List.mem_append.1 he with he | he
    · rcases List.mem_cons.1 he with rfl | he
      · exact List.mem_cons_self
      rcases List.mem_cons.1 he with rfl | he
      · exact List.mem_cons_of_mem _ List.mem_cons_self
      exact List.mem_cons_of_mem _ (List.mem_cons_of_mem _ (List.mem_cons_of_mem _ he))
    · obtain rfl := List.mem_singleton.1 he;exact List.mem_cons_of_mem _ (List.mem_cons_of_mem _ List.mem_cons_self)) (fun hn => by
    simp only [keys, List.map_append, List.map_cons, List.map_nil, List.cons_append, List.nil_append] at hn ⊢;exact ((((List.perm_append_singleton mb (h0.map Prod.fst)).cons b6).cons b11).nodup_iff).2 hn)) ?_
  rintro ⟨j, hM⟩ ⟨hj, hMM, htr⟩;dsimp only at hj hMM htr;obtain ⟨es, clock, F, rfl, hMR, hFK⟩ := hMM;refine g [[1],[5,2,4,5,6,11,63,64]] ?_;refine WC.cond rfl (fun c65 => ?_) (fun c65 => ?_)
  · try simp only [zq] at c65
    have hjs : j < T.sand.length := by omega
    refine g [[5],[6,2,4,5,6,11,63,64],[6,12,2,4,5,6,11,63,64]] ?_;refine WL.so (SO.altersN (own := ((b11, .cells (List.toArray (tdP T h j)) 236 (0, 0)) :: (b6, .cells (List.toArray (htC h)) 232 (0, 0)) :: h0)) (hpc := [(mb, .map es clock)]) (S1 := [mb]) (fun _ h => h) (fun h => h) (fun _ h => h) (fun _ h => h) (Enters.func CaF.h rfl) (fun w1 hI => zcV T a1 a2 a3 _ _ _ c1 c2 c3 D w1 hR qb mb hq hI.imm hT hdn h hh j hjs _ ⟨es, clock, F, rfl, hMR, hFK⟩ hI)) rfl ?_;rintro _ _ _ ⟨hM2, _, ⟨rfl, rfl, hMM2⟩, rfl⟩;refine g [[1]] ?_;refine WL.yd (Yd.indexA UnF.h SzF.h rfl rfl (by omega) (by omega)) rfl ?_;refine WL.so (SO.store 0 rfl SzF.h rfl rfl rfl rfl (by show 0 + 4 + j * 1 + 1 ≤ 8; omega) (za rfl)) rfl (zt (g [[3],[1,12,2,4,5,6,11,63,64]] ?_));rw [show splice (tdP T h j) (0 + 4 + (j : Int).toNat * 1) [ut (setU T h j)] = tdP T h (j + 1) from zd4 T h (by omega)];refine g [[2]] ?_;refine WL.yd (Yd.indexA UnF.h SzF.h rfl rfl (by omega) (by omega)) rfl (WL.yd (Yd.l1 rfl (Rd.own (k := 0) rfl (zlm T h (j := j) (by omega)))) rfl (g [[3]] ?_));refine WC.cond rfl (fun c79 => ?_) (fun c79 => ?_)
    · try simp only [zq] at c79
      refine g [[1],[10,2,4,5,6,11,63,64]] ?_
      refine WP.ret1 rfl rfl rfl (RV.tmp rfl) (fun w1 hI => ⟨_, _, hM2 ++ h0, rfl, DExt.refl _ _, Jc hI, true, hM2, h0, rfl, rfl, hMM2, .inl ⟨rfl, by
        have hno : truB T h = false := by
          cases hb : truB T h with
          | false => rfl
          | true =>
            have h9 := List.all_eq_true.1 hb j (List.mem_range.2 hjs);have h8 : setL T h j = [] := kZ.1 (by show setU T h j = 0; omega);rw [h8] at h9; cases h9
        rw [W5, hno]; exact hS0⟩⟩)
    try simp only [zq] at c79
    refine g [[3],[4,2,4,5,6,11,63,64]] ?_;exact WP.again (⟨j + 1, hM2⟩ : Nat × Hp) ⟨by simp only; omega, hMM2, by simp only; rw [V1, htr, decide_eq_false (by omega)]; rfl⟩ (by simp only; omega) (fun a w h => y4 h ⟨rfl, rfl, rfl, rfl, rfl, rfl, rfl, trivial⟩)
  try simp only [zq] at c65
  obtain rfl : j = T.sand.length := by omega
  refine g [[6]] ?_;have htB : truB T h = true := htr;have hA1 : tdF T 0 h k = [h] := by rw [W5, if_pos htB]
  have hkA := hpart.at 0 (by rw [hA1]; exact Nat.zero_lt_one);have hgA : gt A k0 = h := by have := hkA.1; rw [hA1] at this; exact this
  refine g [[0,5,11]] ?_;refine WC.ofF (g [[3]] ?_);refine WLF.know 82 (tdV T h) rfl rfl ?_;refine WLF.yieldN (l := ly) (vals := [tdV T h]) [(b11, .cells (List.toArray (tdP T h T.sand.length)) 236 (0, 0)), (b6, .cells (List.toArray (htC h)) 232 (0, 0)), (mb, .map es clock)] h0 (fun e he => by simp only [List.cons_append, List.nil_append, List.mem_cons, List.mem_append, List.not_mem_nil, or_false] at he ⊢; rcases he with h | h | h | h <;> simp [h]) (fun hn => by simp only [keys, List.map_append, List.map_cons, List.map_nil, List.cons_append, List.nil_append] at hn ⊢; exact ((((List.perm_append_singleton mb (h0.map Prod.fst)).cons b6).cons b11).nodup_iff).1 hn) rfl rfl rfl (fun w' hsz hI => by rw [← hgA]; exact hround k0 D h0 w' hkA.2 (Nat.le_trans hsw hsz) hXX hS0 hI) ?_;rintro b22 D5 hp5 hK5 hX5;refine g [[4]] ?_
  refine WP.ret1 rfl rfl rfl (RV.tmp rfl) (fun w1 hI => by
    rcases hK5 with ⟨rfl, hK5⟩ | ⟨rfl, hK5⟩
    · exact ⟨_, D5, [(mb, .map es clock)] ++ hp5, rfl, hX5, hI.drop 2, true, _, hp5, rfl, rfl, ⟨es, clock, F, rfl, hMR, hFK⟩, .inl ⟨rfl, by rw [hA1]; exact hK5⟩⟩
    exact ⟨_, D5, [(mb, .map es clock)] ++ hp5, rfl, hX5, hI.drop 2, false, _, hp5, rfl, rfl, ⟨es, clock, F, rfl, hMR, hFK⟩, .inr ⟨rfl, hK5⟩⟩)
end Go.Proofs.YtejgofaeafphjaaGreatDoor
