import Derived.Test.YtejgofaeafphjaaGreatDoorXG13
import Derived.Test.YtejgofaeafphjaaGreatDoorXG5
import Derived.Test.YtejgofaeafphjaaGreatDoorXG7
set_option linter.all false
set_option maxRecDepth 100000
set_option maxHeartbeats 4000000
attribute [local irreducible] Go.W.WL Go.W.WLF Go.W.WC Go.W.WCF Go.W.WP Go.W.WA Go.W.WQ Go.W.WH Go.W.WHo Go.W.WCn Go.W.Yd Go.W.Qt Go.W.SO Go.Code.wp Go.Code.wpIn
namespace Go.Ti
open Go.W
abbrev Hts := Nat → Int
def updH (h : Hts) (k : Nat) (n : Int) : Hts := fun j => if j = k then n else h j
theorem vq (h : Hts) (k : Nat) (n : Int) : updH h k n k = n := if_pos rfl
theorem jl (h : Hts) {k j : Nat} (n : Int) (e : j ≠ k) : updH h k n j = h j := if_neg e
def Zb : Hts := fun _ => 0
def hsL (T : Tide) : Nat → Hts → Nat → List Hts
  | 0, h, _ => [h]
  | r + 1, h, k => (rng (gt T.marks k).high.lo (gt T.marks k).high.hi).flatMap fun n => hsL T r (updH h k n) (k + 1)
def fitB (l : Look) (w n : Int) : Bool := decide (l.depth.lo ≤ max 0 (w - n) ∧ max 0 (w - n) ≤ l.depth.hi)
def kQ (T : Tide) (h : Hts) (p : Nat) (n : Int) : Bool := T.looks.all fun l => !decide (l.place = (p : Int)) || fitB l (y5 T h l.minute) n
def setL (T : Tide) (h : Hts) (p : Nat) : List Int := (rng (gt T.sand p).lo (gt T.sand p).hi).filter (kQ T h p)
def truB (T : Tide) (h : Hts) : Bool := (List.range T.sand.length).all fun p => !(setL T h p).isEmpty
def tdL (T : Tide) : List Hts := (hsL T T.marks.length Zb 0).filter (truB T)
structure Yk (T : Tide) (h : Hts) : Prop where
  at_ : ∀ i, i < T.marks.length → (gt T.marks i).high.lo ≤ h i ∧ h i ≤ (gt T.marks i).high.hi
  rest : ∀ i, T.marks.length ≤ i → h i = 0
theorem YK {T : Tide} : ∀ (r : Nat) (h : Hts) (k : Nat) (x : Hts), x ∈ hsL T r h k ↔ (∀ i, i < k → x i = h i) ∧ (∀ i, k ≤ i → i < k + r → (gt T.marks i).high.lo ≤ x i ∧ x i ≤ (gt T.marks i).high.hi) ∧ (∀ i, k + r ≤ i → x i = h i)
  | 0, h, k, x => by
    rw [hsL, List.mem_singleton];constructor
    · rintro rfl;exact ⟨fun _ _ => rfl, fun i h1 h2 => by omega, fun _ _ => rfl⟩
    · rintro ⟨h1, _, h3⟩;funext i;rcases Nat.lt_or_ge i k with h4 | h4
      · exact h1 i h4
      · exact h3 i (by omega)
  | r + 1, h, k, x => by
    rw [hsL, List.mem_flatMap];constructor
    · rintro ⟨n, hn, hx⟩;rw [YK r] at hx;obtain ⟨h1, h2, h3⟩ := hx;rw [vT] at hn;refine ⟨fun i hi => by rw [h1 i (by omega), jl h n (by omega)], fun i hi1 hi2 => ?_, fun i hi => by rw [h3 i (by omega), jl h n (by omega)]⟩;rcases Nat.eq_or_lt_of_le hi1 with e | e
      · subst e; rw [h1 k (by omega), vq]; exact hn
      · exact h2 i e (by omega)
    · rintro ⟨h1, h2, h3⟩;refine ⟨x k, vT.2 (h2 k (Nat.le_refl _) (by omega)), ?_⟩;rw [YK r];refine ⟨fun i hi => ?_, fun i hi1 hi2 => h2 i (by omega) (by omega), fun i hi => ?_⟩
      · by_cases e : i = k
        · subst e; rw [vq]
        · rw [jl h _ e]; exact h1 i (by omega)
      · rw [jl h _ (by omega)]; exact h3 i (by omega)
theorem zaI {T : Tide} {x : Hts} : x ∈ hsL T T.marks.length Zb 0 ↔ Yk T x := by
  rw [YK];constructor
  · rintro ⟨_, h2, h3⟩;exact ⟨fun i hi => h2 i (Nat.zero_le _) (by omega), fun i hi => h3 i (by omega)⟩
  · intro h;exact ⟨fun i hi => absurd hi (Nat.not_lt_zero _), fun i _ hi => h.at_ i (by omega), fun i hi => h.rest i (by omega)⟩
theorem Yk.high {T : Tide} (hT : zG T) {h : Hts} (hh : Yk T h) : zbB T h := fun i hi => by
  have h1 := ws.1 (hT.mark i hi).2;have h2 := hh.at_ i hi;omega
theorem qZ {T : Tide} {h : Hts} : h ∈ tdL T ↔ Yk T h ∧ ∀ p, p < T.sand.length → setL T h p ≠ [] := by
  rw [tdL, List.mem_filter, zaI, truB, List.all_eq_true];simp only [List.mem_range, Bool.not_eq_true', List.isEmpty_eq_false_iff]
theorem qu {T : Tide} {h : Hts} {p : Nat} {n : Int} : n ∈ setL T h p ↔ ((gt T.sand p).lo ≤ n ∧ n ≤ (gt T.sand p).hi) ∧ kQ T h p n = true := by
  rw [setL, List.mem_filter, vT]
theorem kT {T : Tide} (hT : zG T) {h : Hts} {p : Nat} (hp : p < T.sand.length) {n : Int} (hn : n ∈ setL T h p) : 0 ≤ n ∧ n ≤ 60 := by
  have h1 := ws.1 (hT.sand p hp);have h2 := (qu.1 hn).1;omega
def uZ (l : List Int) : Int := l.headD 0
def u7 (l : List Int) : Int := l.getLastD 0
theorem jW (lo hi : Int) : (rng lo hi).Pairwise (· < ·) := by
  unfold rng;rw [List.pairwise_map];exact List.Pairwise.imp (fun h => by omega) List.pairwise_lt_range
theorem Zt {l : List Int} (hs : l.Pairwise (· < ·)) (h : l ≠ []) : uZ l ∈ l ∧ u7 l ∈ l ∧ ∀ x, x ∈ l → uZ l ≤ x ∧ x ≤ u7 l := by
  cases l with
  | nil => exact absurd rfl h
  | cons a l =>
    have e1 : uZ (a :: l) = a := rfl;have e2 : u7 (a :: l) = (a :: l).getLast (by simp) := by simp [u7, List.getLastD]
    refine ⟨by rw [e1]; simp, by rw [e2]; exact List.getLast_mem _, fun x hx => ?_⟩;rw [e1, e2];constructor
    · rcases List.mem_cons.1 hx with rfl | hx
      · exact Int.le_refl _
      · exact Int.le_of_lt ((List.pairwise_cons.1 hs).1 x hx)
    · obtain ⟨i, hi, rfl⟩ := List.getElem_of_mem hx;rw [List.getLast_eq_getElem];rcases Nat.lt_or_ge i ((a :: l).length - 1) with h1 | h1
      · exact Int.le_of_lt (List.pairwise_iff_getElem.1 hs i _ hi (by omega) h1)
      · have : i = (a :: l).length - 1 := by omega
        subst this; exact Int.le_refl _
theorem kS {T : Tide} {h : Hts} {p : Nat} (hne : setL T h p ≠ []) : uZ (setL T h p) ∈ setL T h p ∧ u7 (setL T h p) ∈ setL T h p ∧ ∀ x, x ∈ setL T h p → uZ (setL T h p) ≤ x ∧ x ≤ u7 (setL T h p) :=
  Zt (List.Pairwise.filter _ (jW _ _)) hne
def seeD (s : Ms) (a : Int × Int) : Ms := (true, if s.1 then min s.2.1 a.1 else a.1, if s.1 then max s.2.2 a.2 else a.2)
def Yw (f : Hts → Int × Int) (l : List Hts) : Ms := l.foldl (fun s h => seeD s (f h)) (false, 0, 0)
def YW (f : Hts → Int × Int) (l : List Hts) : Sp := ⟨(Yw f l).2.1, (Yw f l).2.2⟩
structure X6 (S : Int → Prop) (s : Sp) : Prop where
  lo : S s.lo
  hi : S s.hi
  mem : ∀ x, S x → s.lo ≤ x ∧ x ≤ s.hi
theorem X6.uniq {S : Int → Prop} {s t : Sp} (h : X6 S s) (k : X6 S t) : s = t := by
  obtain ⟨a, b⟩ := s;obtain ⟨c, d⟩ := t;have h1 := h.mem _ k.lo;have h2 := k.mem _ h.lo;have h3 := h.mem _ k.hi;have h4 := k.mem _ h.hi;simp only at h1 h2 h3 h4;congr 1 <;> omega
theorem jM (f : Hts → Int × Int) : ∀ (l l0 : List Hts) (s : Ms), (l0 = [] ∧ s.1 = false ∨ s.1 = true ∧ (∃ h, h ∈ l0 ∧ (f h).1 = s.2.1) ∧ (∃ h, h ∈ l0 ∧ (f h).2 = s.2.2) ∧ ∀ h, h ∈ l0 → s.2.1 ≤ (f h).1 ∧ (f h).2 ≤ s.2.2) → l0 ++ l ≠ [] →
    (∃ h, h ∈ l0 ++ l ∧ (f h).1 = (l.foldl (fun s h => seeD s (f h)) s).2.1) ∧ (∃ h, h ∈ l0 ++ l ∧ (f h).2 = (l.foldl (fun s h => seeD s (f h)) s).2.2) ∧ ∀ h, h ∈ l0 ++ l → (l.foldl (fun s h => seeD s (f h)) s).2.1 ≤ (f h).1 ∧ (f h).2 ≤ (l.foldl (fun s h => seeD s (f h)) s).2.2
  | [], l0, s, hs, hne => by
    rcases hs with ⟨rfl, _⟩ | ⟨_, h1, h2, h3⟩
    · exact absurd rfl hne
    · rw [List.append_nil]; exact ⟨h1, h2, h3⟩
  | x :: l, l0, s, hs, hne => by
    have e : l0 ++ x :: l = (l0 ++ [x]) ++ l := by simp
    rw [List.foldl_cons, e];refine jM f l (l0 ++ [x]) (seeD s (f x)) (.inr ⟨rfl, ?_⟩) (by simp);rcases hs with ⟨rfl, h0⟩ | ⟨h0, ⟨a, ha, ea⟩, ⟨b, hb, eb⟩, h3⟩
    · simp only [seeD, h0, Bool.false_eq_true, if_false];refine ⟨⟨x, by simp, rfl⟩, ⟨x, by simp, rfl⟩, fun h hh => ?_⟩;obtain rfl : h = x := by simpa using hh
      exact ⟨Int.le_refl _, Int.le_refl _⟩
    · simp only [seeD, h0, if_true];refine ⟨?_, ?_, fun h hh => ?_⟩
      · rcases Int.le_total s.2.1 (f x).1 with h4 | h4
        · exact ⟨a, by simp [ha], by rw [ea]; omega⟩
        · exact ⟨x, by simp, by omega⟩
      · rcases Int.le_total s.2.2 (f x).2 with h4 | h4
        · exact ⟨x, by simp, by omega⟩
        · exact ⟨b, by simp [hb], by rw [eb]; omega⟩
      · rcases List.mem_append.1 hh with hh | hh
        · have := h3 h hh; omega
        · obtain rfl : h = x := by simpa using hh
          omega
theorem WV (f : Hts → Int × Int) {l : List Hts} (h : l ≠ []) : (∃ x, x ∈ l ∧ (f x).1 = (YW f l).lo) ∧ (∃ x, x ∈ l ∧ (f x).2 = (YW f l).hi) ∧ ∀ x, x ∈ l → (YW f l).lo ≤ (f x).1 ∧ (f x).2 ≤ (YW f l).hi :=
  jM f l [] (false, 0, 0) (.inl ⟨rfl, rfl⟩) h
theorem Ww (f : Hts → Int × Int) {l : List Hts} {k : Nat} (hk : k < l.length) : Yw f (l.take (k + 1)) = seeD (Yw f (l.take k)) (f (gt l k)) := by
  have e : gt l k = l[k] := by simp [gt, List.getD, hk]
  rw [Yw, List.take_succ_eq_append_getElem hk, List.foldl_append, e]; rfl
def Zp (T : Tide) (p : Nat) (m : Int) (h : Hts) : Int × Int := (max 0 (y5 T h m - u7 (setL T h p)), max 0 (y5 T h m - uZ (setL T h p)))
def xY (T : Tide) (p : Nat) (m : Int) : Sp := YW (Zp T p m) (tdL T)
def un (T : Tide) (is : Bool) : Int := if zQ T = false then 1 else if is = false then 2 else if tdL T = [] then 10 else 0
def ju (n : Int) : Bool := decide (0 ≤ n ∧ n ≤ 60)
def zf (T : Tide) (p m : Int) : Sp × Int := if un T (yO T p && zx T m) ≠ 0 then (⟨0, 0⟩, un T (yO T p && zx T m)) else (xY T p.toNat m, 0)
def wW (T : Tide) (p : Nat) (least : Int) : Nat → Int → Option Int
  | 0, _ => none
  | n + 1, m => if least ≤ (xY T p m).lo then some m else wW T p least n (m + 1)
def zv (T : Tide) (p least m : Int) : Int × Int := if un T (yO T p && (ju least && zx T m)) ≠ 0 then (0, un T (yO T p && (ju least && zx T m))) else match wW T p.toNat least (wB T - m + 1).toNat m with
  | some n => (n, 0)
  | none => (0, 4)
def TruR (T : Tide) (h s : Hts) : Prop := Yk T h ∧ (∀ p, p < T.sand.length → ((gt T.sand p).lo ≤ s p ∧ s p ≤ (gt T.sand p).hi)) ∧ ∀ i, i < T.looks.length → fitB (gt T.looks i) (kX T h (gt T.looks i).minute) (s (gt T.looks i).place.toNat) = true
def zca (T : Tide) (p : Nat) (m x : Int) : Prop := ∃ h s, TruR T h s ∧ x = max 0 (kX T h m - s p)
theorem kC {T : Tide} {l : Look} : lookB T l = true ↔ (0 ≤ l.place ∧ l.place ≤ (T.sand.length : Int) - 1) ∧ zx T l.minute = true ∧ zA l.depth = true := by
  simp only [lookB, yO, Bool.and_eq_true, decide_eq_true_eq, and_assoc]
theorem Z6 {T : Tide} (hT : zG T) {h s : Hts} : TruR T h s ↔ Yk T h ∧ ∀ p, p < T.sand.length → s p ∈ setL T h p := by
  constructor
  · rintro ⟨h1, h2, h3⟩;refine ⟨h1, fun p hp => qu.2 ⟨h2 p hp, ?_⟩⟩;rw [kQ, wv];intro i hi;have hl := kC.1 (hT.look i hi);rw [xk hT h hl.2.1];by_cases e : (gt T.looks i).place = (p : Int)
    · have := h3 i hi;rw [e, Int.toNat_natCast] at this;rw [this]; simp
    · rw [decide_eq_false e]; rfl
  · rintro ⟨h1, h2⟩;refine ⟨h1, fun p hp => (qu.1 (h2 p hp)).1, fun i hi => ?_⟩;have hl := kC.1 (hT.look i hi);have h3 := (qu.1 (h2 (gt T.looks i).place.toNat (by omega))).2;rw [kQ, wv] at h3;have h4 := h3 i hi;rw [xk hT h hl.2.1, decide_eq_true (by omega)] at h4;simpa using h4
def zll (T : Tide) (h : Hts) : Hts := fun p => uZ (setL T h p)
theorem Wa {T : Tide} (hT : zG T) {h : Hts} (hh : h ∈ tdL T) {p : Nat} {n : Int} (hn : n ∈ setL T h p) : TruR T h (updH (zll T h) p n) := by
  obtain ⟨h1, h2⟩ := qZ.1 hh;refine (Z6 hT).2 ⟨h1, fun q hq => ?_⟩;by_cases e : q = p
  · subst e; rw [vq]; exact hn
  · rw [jl _ _ e]; exact (kS (h2 q hq)).1
theorem zdi {T : Tide} (hT : zG T) {h s : Hts} (ht : TruR T h s) : h ∈ tdL T := by
  obtain ⟨h1, h2⟩ := (Z6 hT).1 ht;exact qZ.2 ⟨h1, fun p hp e => by have := h2 p hp; rw [e] at this; cases this⟩
theorem Wv {T : Tide} (hT : zG T) (hne : tdL T ≠ []) {p : Nat} (hp : p < T.sand.length) {m : Int} (hm : zx T m = true) : X6 (zca T p m) (xY T p m) := by
  obtain ⟨⟨a, ha, ea⟩, ⟨b, hb, eb⟩, h3⟩ := WV (Zp T p m) hne;have ends : ∀ h, h ∈ tdL T → uZ (setL T h p) ∈ setL T h p ∧ u7 (setL T h p) ∈ setL T h p ∧ ∀ x, x ∈ setL T h p → uZ (setL T h p) ≤ x ∧ x ≤ u7 (setL T h p) := fun h hh => kS ((qZ.1 hh).2 p hp);refine ⟨⟨a, _, Wa hT ha (ends a ha).2.1, ?_⟩, ⟨b, _, Wa hT hb (ends b hb).1, ?_⟩, ?_⟩
  · rw [vq, ← xk hT a hm]; exact ea.symm
  · rw [vq, ← xk hT b hm]; exact eb.symm
  · rintro x ⟨h, s, ht, rfl⟩;have hh := zdi hT ht;have h4 := (ends h hh).2.2 _ (((Z6 hT).1 ht).2 p hp);have h5 := h3 h hh;rw [← xk hT h hm];simp only [Zp, xY] at h5 ⊢;omega
theorem Vy {T : Tide} (hT : zG T) (hne : tdL T ≠ []) {p : Nat} (hp : p < T.sand.length) {m : Int} (hm : zx T m = true) : 0 ≤ (xY T p m).lo ∧ (xY T p m).lo ≤ (xY T p m).hi ∧ (xY T p m).hi ≤ 60 := by
  have h := Wv hT hne hp hm;obtain ⟨a, s, ht, e⟩ := h.lo;obtain ⟨b, u, ht2, e2⟩ := h.hi;have h1 := h.mem _ h.hi;have h2 := uO hT (Yk.high hT ht2.1) hm;rw [xk hT b hm] at h2;have h3 := kT hT hp (((Z6 hT).1 ht2).2 p hp);omega
end Go.Ti
namespace Go.Ti
open Go.W
end Go.Ti
namespace Go.Proofs.YtejgofaeafphjaaGreatDoor
open Go.W Go.Ti
theorem zdU : zj Tryz.prog 212 [.int .i64 0] [(0, 1)] := ⟨⟨_, Tryz.zeroValue212, rfl⟩, _, Tryz.underlying212, fun w => by simp [Tryz.sizeOf51]⟩
abbrev zbL := SaF.mk zdU
attribute [instance] zbL
theorem zdX : zj Tryz.prog 225 [.int .i64 0] [(0, 1)] := ⟨⟨_, Tryz.zeroValue225, rfl⟩, _, Tryz.underlying225, fun w => by simp [Tryz.sizeOf51]⟩
abbrev zbO := SaF.mk zdX
attribute [instance] zbO
def ub (x : Go.Ti.Mark) : List Value := [it x.minute, it x.high.lo, it x.high.hi]
def ym (x : Look) : List Value := [it x.place, it x.minute, it x.depth.lo, it x.depth.hi]
def ul (s : Sp) : List Value := [it s.lo, it s.hi]
theorem vc : ∀ x, (ub x).length = 3 := fun _ => rfl
theorem yw : ∀ x, (ym x).length = 4 := fun _ => rfl
theorem vh : ∀ x, (ul x).length = 2 := fun _ => rfl
structure yo (D : Imm) (T : Tide) (a1 : Option Addr) (n1 : Nat) (a2 : Option Addr) (n2 : Nat) (a3 : Option Addr) (n3 : Nat) : Prop where
  mark : SlL D 3 (T.marks.map ub) a1 n1
  sand : SlL D 2 (T.sand.map ul) a2 n2
  look : SlL D 4 (T.looks.map ym) a3 n3
  len : n1 ≤ 1000 ∧ n2 ≤ 1000 ∧ n3 ≤ 1000
theorem yo.ext {w : World} {D D' : Imm} (hD : DExt w D D') {T : Tide} {a1 a2 a3 : Option Addr} {n1 n2 n3 : Nat} (h : yo D T a1 n1 a2 n2 a3 n3) : yo D' T a1 n1 a2 n2 a3 n3 := ⟨h.mark.ext hD, h.sand.ext hD, h.look.ext hD, h.len⟩
def WX (e : Int) : List PanicEntry := [{ v := .iface 225 (.agg #[it e]), recovered := false }]
def jA (e : Int) : List PanicEntry := [{ v := .iface 212 (.agg #[it e]), recovered := false }]
theorem w7 (n lo hi : Int) (w : World) : z8 Tryz.prog 163 [it n, it lo, it hi] w (.bool (inB n lo hi)) := by
  unfold z8;refine en Tryz.func163 rfl Tryz.ntmps163 zI (g [[1],[5,0,1,2],[5,6,0,1,2]] ?_);refine WL.part 10 rfl (fun g10 => ?_) (fun g10 => ?_)
  · try simp only [zq] at g10
    refine g [[8]] ?_;refine WP.ret1 rfl rfl rfl (RV.tmp rfl) (fun w hI => ⟨zb (by rw [Bool.eq_iff_iff]; simp [inB]; omega), hI.keep⟩)
  try simp only [zq] at g10
  refine g [[8]] ?_;refine WP.ret1 rfl rfl rfl (RV.tmp rfl) (fun w hI => ⟨zb (by rw [Bool.eq_iff_iff]; simp [inB]; omega), hI.keep⟩)
theorem wE (e : Int) (w : World) : z8 Tryz.prog 162 [.bool true, it e] w (.tuple #[]) := by
  unfold z8;refine en Tryz.func162 rfl Tryz.ntmps162 zI (g [[1],[7,0,1]] ?_);refine WP.ret0 rfl rfl rfl  (fun w hI => ⟨rfl, hI.keep⟩)
theorem yT (e : Int) (w : World) : xC Tryz.prog 162 [.bool false, it e] w (WX e) := by
  unfold xC;refine en Tryz.func162 rfl Tryz.ntmps162 zI (g [[1],[6,0,1],[4,1]] ?_);refine WL.no (SO.panic rfl ?_);refine WP.panicBody rfl (fun w hI => ⟨rfl, hI.keep⟩)
theorem vj (v : Value) (w : World) : z8 Tryz.prog 79 [.nilIface, v] w (.tuple #[]) := by
  unfold z8;refine en Tryz.func79 rfl Tryz.ntmps79 zI (g [[2],[2,0,1]] ?_);refine WL.yd (Yd.eqlNilNil UnF.h rfl) rfl (g [[5]] ?_);refine WP.ret0 rfl rfl rfl  (fun w hI => ⟨rfl, hI.keep⟩)
theorem vk (e v0 : Int) (b : Nat) (t : TypeId) (w : World) (hb : w.heap[b]? = some (.cells (List.toArray [it v0]) t (0, 0))) : Calls Tryz.prog 79 (List.toArray [.iface 225 (.agg #[it e]), pt b]) w fun en w' => (en = .returned (.tuple #[]) ∧ Keep [b] w w') ∧ w'.heap[b]? = some (.cells (List.toArray [it e]) t (0, 0)) := by
  refine en Tryz.func79 rfl Tryz.ntmps79 (Inv.one hb) (g [[2],[2,0,1]] ?_);refine WL.yd (Yd.eqlNil UnF.h rfl) rfl (g [[6],[2,0,1]] ?_);refine WL.yd (Yd.assert UnF.h (by intro _ h; cases h) rfl) rfl (g [[3]] ?_);refine WL.so (SO.alloc ZvF.h rfl) rfl (zw fun b4 hb4 => ?_);refine g [[6],[8,5,4,0,1],[7,4,1]] ?_;refine WP.ret0 rfl rfl rfl  (fun w hI => ⟨⟨rfl, hI.keep⟩, hI.own _ _ (List.mem_of_getElem? (i := 1) rfl)⟩)
theorem zB (e : Int) (w : World) : z8 Tryz.prog 71 [.bool true, it e] w (.tuple #[]) := by
  unfold z8;refine en Tryz.func71 rfl Tryz.ntmps71 zI (g [[1],[7,0,1]] ?_);refine WP.ret0 rfl rfl rfl  (fun w hI => ⟨rfl, hI.keep⟩)
theorem zy (e : Int) (w : World) : xC Tryz.prog 71 [.bool false, it e] w (jA e) := by
  unfold xC;refine en Tryz.func71 rfl Tryz.ntmps71 zI (g [[1],[6,0,1],[4,1]] ?_);refine WL.no (SO.panic rfl ?_);refine WP.panicBody rfl (fun w hI => ⟨rfl, hI.keep⟩)
theorem Y3 (v : Value) (w : World) : z8 Tryz.prog 70 [.nilIface, v] w (.tuple #[]) := by
  unfold z8;refine en Tryz.func70 rfl Tryz.ntmps70 zI (g [[2],[2,0,1]] ?_);refine WL.yd (Yd.eqlNilNil UnF.h rfl) rfl (g [[5]] ?_);refine WP.ret0 rfl rfl rfl  (fun w hI => ⟨rfl, hI.keep⟩)
theorem Y4 (e v0 : Int) (b : Nat) (t : TypeId) (w : World) (hb : w.heap[b]? = some (.cells (List.toArray [it v0]) t (0, 0))) : Calls Tryz.prog 70 (List.toArray [.iface 212 (.agg #[it e]), pt b]) w fun en w' => (en = .returned (.tuple #[]) ∧ Keep [b] w w') ∧ w'.heap[b]? = some (.cells (List.toArray [it e]) t (0, 0)) := by
  refine en Tryz.func70 rfl Tryz.ntmps70 (Inv.one hb) (g [[2],[2,0,1]] ?_);refine WL.yd (Yd.eqlNil UnF.h rfl) rfl (g [[6],[2,0,1]] ?_);refine WL.yd (Yd.assert UnF.h (by intro _ h; cases h) rfl) rfl (g [[3]] ?_);refine WL.so (SO.alloc ZvF.h rfl) rfl (zw fun b4 hb4 => ?_);refine g [[6],[8,5,4,0,1],[7,4,1]] ?_;refine WP.ret0 rfl rfl rfl  (fun w hI => ⟨⟨rfl, hI.keep⟩, hI.own _ _ (List.mem_of_getElem? (i := 1) rfl)⟩)
theorem VW (b : Nat) (w : World) : V7 Tryz.prog 86 [pt b] w := by
  refine yI Tryz.func86 rfl fun c₀ cs hu => ?_;apply wpS_region;simp [wpOpsS, go_sem, recoverD, hu, Tryz.ntmps86];refine (xA (pt b) w).mono ?_;rintro e w' ⟨rfl, hk⟩;cases c₀
  simp only at hu;subst hu;simp [bodyPostS, results, Tryz.results86, hk]
theorem za6 (b : Nat) (e v0 : Int) (t : TypeId) (w : World) (hb : w.heap[b]? = some (.cells (List.toArray [it v0]) t (0, 0))) : uw Tryz.prog 86 [pt b] (.iface 247 (.agg #[it e])) b (.cells (List.toArray [it e]) t (0, 0)) w := by
  refine callsD_of_wpS Tryz.func86 rfl fun c₀ cs hu => ?_;apply wpS_region;simp [wpOpsS, go_sem, recoverD, hu, Tryz.ntmps86];refine (yW e v0 b t w hb).mono ?_;rintro en w' ⟨⟨rfl, hk⟩, hb'⟩;cases c₀
  simp only at hu;subst hu;simp [bodyPostS, results, Tryz.results86, hk, hb']
theorem zap (b : Nat) (w : World) : Idle Tryz.prog 120 [pt b] w := by
  refine callsD_of_wpS Tryz.func120 rfl fun c₀ cs hu => ?_;apply wpS_region;simp [wpOpsS, go_sem, recoverD, hu, Tryz.ntmps120];refine (xA (pt b) w).mono ?_;rintro e w' ⟨rfl, hk⟩;cases c₀
  simp only at hu;subst hu;simp [bodyPostS, results, Tryz.results120, hk]
theorem kg (b : Nat) (e v0 : Int) (t : TypeId) (w : World) (hb : w.heap[b]? = some (.cells (List.toArray [it v0]) t (0, 0))) : uw Tryz.prog 120 [pt b] (.iface 247 (.agg #[it e])) b (.cells (List.toArray [it e]) t (0, 0)) w := by
  refine callsD_of_wpS Tryz.func120 rfl fun c₀ cs hu => ?_;apply wpS_region;simp [wpOpsS, go_sem, recoverD, hu, Tryz.ntmps120];refine (yW e v0 b t w hb).mono ?_;rintro en w' ⟨⟨rfl, hk⟩, hb'⟩;cases c₀
  simp only at hu;subst hu;simp [bodyPostS, results, Tryz.results120, hk, hb']
theorem zct (b : Nat) (w : World) : Idle Tryz.prog 78 [pt b] w := by
  refine callsD_of_wpS Tryz.func78 rfl fun c₀ cs hu => ?_;apply wpS_region;simp [wpOpsS, go_sem, recoverD, hu, Tryz.ntmps78];refine (vj (pt b) w).mono ?_;rintro e w' ⟨rfl, hk⟩;cases c₀
  simp only at hu;subst hu;simp [bodyPostS, results, Tryz.results78, hk]
theorem Yn (b : Nat) (e v0 : Int) (t : TypeId) (w : World) (hb : w.heap[b]? = some (.cells (List.toArray [it v0]) t (0, 0))) : uw Tryz.prog 78 [pt b] (.iface 225 (.agg #[it e])) b (.cells (List.toArray [it e]) t (0, 0)) w := by
  refine callsD_of_wpS Tryz.func78 rfl fun c₀ cs hu => ?_;apply wpS_region;simp [wpOpsS, go_sem, recoverD, hu, Tryz.ntmps78];refine (vk e v0 b t w hb).mono ?_;rintro en w' ⟨⟨rfl, hk⟩, hb'⟩;cases c₀
  simp only at hu;subst hu;simp [bodyPostS, results, Tryz.results78, hk, hb']
theorem VU (b : Nat) (w : World) : Idle Tryz.prog 122 [pt b] w := by
  refine callsD_of_wpS Tryz.func122 rfl fun c₀ cs hu => ?_;apply wpS_region;simp [wpOpsS, go_sem, recoverD, hu, Tryz.ntmps122];refine (vj (pt b) w).mono ?_;rintro e w' ⟨rfl, hk⟩;cases c₀
  simp only at hu;subst hu;simp [bodyPostS, results, Tryz.results122, hk]
theorem kh (b : Nat) (e v0 : Int) (t : TypeId) (w : World) (hb : w.heap[b]? = some (.cells (List.toArray [it v0]) t (0, 0))) : uw Tryz.prog 122 [pt b] (.iface 225 (.agg #[it e])) b (.cells (List.toArray [it e]) t (0, 0)) w := by
  refine callsD_of_wpS Tryz.func122 rfl fun c₀ cs hu => ?_;apply wpS_region;simp [wpOpsS, go_sem, recoverD, hu, Tryz.ntmps122];refine (vk e v0 b t w hb).mono ?_;rintro en w' ⟨⟨rfl, hk⟩, hb'⟩;cases c₀
  simp only at hu;subst hu;simp [bodyPostS, results, Tryz.results122, hk, hb']
theorem J6 (b : Nat) (w : World) : V7 Tryz.prog 218 [pt b] w := by
  refine yI Tryz.func218 rfl fun c₀ cs hu => ?_;apply wpS_region;simp [wpOpsS, go_sem, recoverD, hu, Tryz.ntmps218];refine (vj (pt b) w).mono ?_;rintro e w' ⟨rfl, hk⟩;cases c₀
  simp only at hu;subst hu;simp [bodyPostS, results, Tryz.results218, hk]
theorem QK (b : Nat) (e v0 : Int) (t : TypeId) (w : World) (hb : w.heap[b]? = some (.cells (List.toArray [it v0]) t (0, 0))) : uw Tryz.prog 218 [pt b] (.iface 225 (.agg #[it e])) b (.cells (List.toArray [it e]) t (0, 0)) w := by
  refine callsD_of_wpS Tryz.func218 rfl fun c₀ cs hu => ?_;apply wpS_region;simp [wpOpsS, go_sem, recoverD, hu, Tryz.ntmps218];refine (vk e v0 b t w hb).mono ?_;rintro en w' ⟨⟨rfl, hk⟩, hb'⟩;cases c₀
  simp only at hu;subst hu;simp [bodyPostS, results, Tryz.results218, hk, hb']
theorem VV (b : Nat) (w : World) : Idle Tryz.prog 69 [pt b] w := by
  refine callsD_of_wpS Tryz.func69 rfl fun c₀ cs hu => ?_;apply wpS_region;simp [wpOpsS, go_sem, recoverD, hu, Tryz.ntmps69];refine (Y3 (pt b) w).mono ?_;rintro e w' ⟨rfl, hk⟩;cases c₀
  simp only at hu;subst hu;simp [bodyPostS, results, Tryz.results69, hk]
theorem yY (b : Nat) (e v0 : Int) (t : TypeId) (w : World) (hb : w.heap[b]? = some (.cells (List.toArray [it v0]) t (0, 0))) : uw Tryz.prog 69 [pt b] (.iface 212 (.agg #[it e])) b (.cells (List.toArray [it e]) t (0, 0)) w := by
  refine callsD_of_wpS Tryz.func69 rfl fun c₀ cs hu => ?_;apply wpS_region;simp [wpOpsS, go_sem, recoverD, hu, Tryz.ntmps69];refine (Y4 e v0 b t w hb).mono ?_;rintro en w' ⟨⟨rfl, hk⟩, hb'⟩;cases c₀
  simp only at hu;subst hu;simp [bodyPostS, results, Tryz.results69, hk, hb']
theorem zc {s : Sp} : zA s = true ↔ 0 ≤ s.lo ∧ s.lo ≤ s.hi ∧ s.hi ≤ 60 := by simp only [zA, decide_eq_true_eq]
def shoO (s1 s2 s3 : Value) (mb : Nat) : Obj := .cells (List.toArray [s1, s2, s3, .map (some mb)]) 229 (0, 0)
theorem Jd (n : Int) (w : World) : z8 Tryz.prog 124 [it n] w (.bool (ju n)) := by
  unfold z8;refine en Tryz.func124 rfl Tryz.ntmps124 zI (g [[1],[5,0],[2,2,0]] ?_);refine WL.cl rfl (fun w hI => w7 _ _ _ _) (g [[4]] ?_);refine WP.ret1 rfl rfl rfl (RV.tmp rfl) (fun w hI => ⟨rfl, hI.keep⟩)
theorem Xu (s : Sp) (w : World) : z8 Tryz.prog 165 [.agg #[it s.lo, it s.hi]] w (.bool (zA s)) := by
  unfold z8;refine en Tryz.func165 rfl Tryz.ntmps165 zI (g [[1],[1,0]] ?_);refine WL.so (SO.box rfl rfl) rfl (zw fun b1 hb1 => ?_);refine g [[4],[5,2,1]] ?_;refine WL.part 6 rfl (fun g6 => ?_) (fun g6 => ?_)
  · try simp only [zq] at g6
    refine g [[7]] ?_;refine WL.part 13 rfl (fun g13 => ?_) (fun g13 => ?_)
    · try simp only [zq] at g13
      refine g [[8]] ?_;refine WP.ret1 rfl rfl rfl (RV.tmp rfl) (fun w hI => ⟨zb (by rw [Bool.eq_iff_iff]; simp_all [zA]; try omega), hI.keep⟩)
    try simp only [zq] at g13
    refine g [[8]] ?_;refine WP.ret1 rfl rfl rfl (RV.tmp rfl) (fun w hI => ⟨zb (by rw [Bool.eq_iff_iff]; simp_all [zA]; try omega), hI.keep⟩)
  try simp only [zq] at g6
  refine g [[15]] ?_;refine WP.ret1 rfl rfl rfl (RV.tmp rfl) (fun w hI => ⟨zb (by rw [Bool.eq_iff_iff]; simp_all [zA]; try omega), hI.keep⟩)
theorem XG (s : Sp) (w : World) : z8 Tryz.prog 164 [.agg #[it s.lo, it s.hi]] w (.bool (y2 s)) := by
  unfold z8;refine en Tryz.func164 rfl Tryz.ntmps164 zI (g [[1],[1,0]] ?_);refine WL.so (SO.box rfl rfl) rfl (zw fun b1 hb1 => ?_);refine g [[4],[2,2,1]] ?_;refine WL.cl rfl (fun w hI => Xu s _) (g [[1]] ?_);refine WL.part 5 rfl (fun g5 => ?_) (fun g5 => ?_)
  · refine g [[4]] ?_;refine WL.ydg rfl (Yd.sub rfl rfl (wr64 ⟨by first | omega | (have := zc.1 (by assumption); omega) | (simp_all; omega), by first | omega | (have := zc.1 (by assumption); omega) | (simp_all; omega)⟩)) rfl (g [[6]] ?_);refine WP.ret1 rfl rfl rfl (RV.tmp rfl) (fun w hI => ⟨zb (by rw [Bool.eq_iff_iff]; simp_all [y2]), hI.keep⟩)
  refine g [[11]] ?_;refine WP.ret1 rfl rfl rfl (RV.tmp rfl) (fun w hI => ⟨zb (by rw [Bool.eq_iff_iff]; simp_all [y2]), hI.keep⟩)
theorem Kv (T : Tide) (a1 a2 a3 : Option Addr) (n1 n2 n3 c1 c2 c3 : Nat) (D : Imm) (w : World) (hR : yo D T a1 n1 a2 n2 a3 n3) (qb mb : Nat) (hq : D qb = some (shoO (.slice a1 n1 c1) (.slice a2 n2 c2) (.slice a3 n3 c3) mb)) (hH : Holds D w) (hnm : 2 ≤ T.marks.length) : z8 Tryz.prog 125 [pt qb] w (it (wB T)) := by
  unfold z8;obtain rfl := hR.mark.len';obtain rfl := hR.sand.len';obtain rfl := hR.look.len';obtain ⟨hl1, hl2, hl3⟩ := hR.len
  have hrl : Rd D [] ⟨sb a1, so a1 + ((T.marks.length : Int) - 1).toNat * 3 + 0, none⟩ (it (wB T)) := by
    rw [show ((T.marks.length : Int) - 1).toNat = T.marks.length - 1 by omega]; exact (hR.mark.at (T.marks.length - 1) (by omega)).rd 0 rfl
  refine en Tryz.func125 rfl Tryz.ntmps125 (Inv.start hH) (g [[1],[5,0],[0,2,0],[3012],[13]] ?_);refine WL.yd (Yd.ix rfl rfl (hR.mark.addr (T.marks.length - 1) (by omega))) rfl (g [[1]] ?_);refine WL.yd (Yd.l1 rfl (hrl)) rfl (g [[4]] ?_);refine WP.ret1 rfl rfl rfl (RV.tmp rfl) (fun w hI => ⟨rfl, hI.keep⟩)
theorem qL (T : Tide) (a1 a2 a3 : Option Addr) (n1 n2 n3 c1 c2 c3 : Nat) (D : Imm) (w : World) (hR : yo D T a1 n1 a2 n2 a3 n3) (qb mb : Nat) (hq : D qb = some (shoO (.slice a1 n1 c1) (.slice a2 n2 c2) (.slice a3 n3 c3) mb)) (hH : Holds D w) (n : Int) : z8 Tryz.prog 82 [pt qb, it n] w (.bool (yO T n)) := by
  unfold z8;obtain rfl := hR.mark.len';obtain rfl := hR.sand.len';obtain rfl := hR.look.len';obtain ⟨hl1, hl2, hl3⟩ := hR.len;refine en Tryz.func82 rfl Tryz.ntmps82 (Inv.start hH) (g [[1],[5,0,1],[9,4,0,1]] ?_);refine WL.cl rfl (fun w hI => w7 _ _ _ _) (g [[4]] ?_);refine WP.ret1 rfl rfl rfl (RV.tmp rfl) (fun w hI => ⟨rfl, hI.keep⟩)
theorem uD (T : Tide) (a1 a2 a3 : Option Addr) (n1 n2 n3 c1 c2 c3 : Nat) (D : Imm) (w : World) (hR : yo D T a1 n1 a2 n2 a3 n3) (qb mb : Nat) (hq : D qb = some (shoO (.slice a1 n1 c1) (.slice a2 n2 c2) (.slice a3 n3 c3) mb)) (hH : Holds D w) (hnm : 2 ≤ T.marks.length) (n : Int) : z8 Tryz.prog 83 [pt qb, it n] w (.bool (zx T n)) := by
  unfold z8;obtain rfl := hR.mark.len';obtain rfl := hR.sand.len';obtain rfl := hR.look.len';obtain ⟨hl1, hl2, hl3⟩ := hR.len;refine en Tryz.func83 rfl Tryz.ntmps83 (Inv.start hH) (g [[1],[5,0,1],[0,4,0,1],[3011],[6]] ?_);refine WQ.q rfl (Yd.qt (Yd.ix rfl rfl (hR.mark.addr 0 (by omega)))) rfl (g [[1]] ?_);refine WQ.q rfl (Yd.qt (Yd.l1 rfl ((hR.mark.at 0 (by omega)).rd 0 rfl))) rfl (g [[1]] ?_);refine WQ.q rfl (Qt.callP CaF.h rfl (fun w hI => Kv T a1 a2 a3 _ _ _ c1 c2 c3 D _ hR qb mb hq hI.imm hnm)) rfl (g [[1]] ?_);refine WL.cl rfl (fun w hI => w7 _ _ _ _) (g [[4]] ?_);refine WP.ret1 rfl rfl rfl (RV.tmp rfl) (fun w hI => ⟨rfl, hI.keep⟩)
theorem zdY : zj Tryz.prog 229 [.slice none 0 0, .slice none 0 0, .slice none 0 0, .map none] [(0, 3), (3, 1)] := ⟨⟨_, Tryz.zeroValue229, rfl⟩, _, Tryz.underlying229, fun w => by simp [Tryz.sizeOf31, Tryz.sizeOf227]⟩
abbrev zbP := SaF.mk zdY
attribute [instance] zbP
def zdH (T : Tide) (is : Bool) (s1 s2 s3 : Value) (D : Imm) (w : World) (e : Ending) (w' : World) : Prop :=
  (zQ T = false → e = .panicked (WX 1) ∧ Keep [] w w') ∧ (zQ T = true → is = false → e = .panicked (WX 2) ∧ Keep [] w w') ∧
  (zQ T = true → is = true → ∃ q mb D', e = .returned (pt q) ∧ DExt w D D' ∧ D' q = some (shoO s1 s2 s3 mb) ∧ Inv D' [(mb, .map #[] 0)] [] w w')
theorem kE {T : Tide} {k : Nat} (h1 : inB (gt T.marks k).minute 0 240 = true) (h2 : y2 (gt T.marks k).high = true) (h3 : k = 0 ∨ (gt T.marks (k - 1)).minute + 6 ≤ (gt T.marks k).minute) : qW T k = true :=
  zl.2 ⟨⟨by simpa [inB] using h1, h2⟩, h3⟩
theorem vS {T : Tide} {k : Nat} (hT : zG T) (hk : k < T.marks.length) : inB (gt T.marks k).minute 0 240 = true ∧ y2 (gt T.marks k).high = true ∧ (k = 0 ∨ (gt T.marks (k - 1)).minute + 6 ≤ (gt T.marks k).minute) := by
  refine ⟨by have := (hT.mark k hk).1; simpa [inB] using this, (hT.mark k hk).2, ?_⟩;cases k with
  | zero => exact .inl rfl
  | succ k => exact .inr (hT.apart k hk)
theorem x9 {T : Tide} (h1 : inB (T.marks.length : Int) 2 4 = true) (h2 : inB (T.sand.length : Int) 1 4 = true) (h3 : (T.looks.length : Int) ≤ 6) (hm : ∀ i, i < T.marks.length → qW T i = true) (hs : ∀ i, i < T.sand.length → y2 (gt T.sand i) = true) (hl : ∀ i, i < T.looks.length → lookB T (gt T.looks i) = true) : zQ T = true := by
  simp only [inB, decide_eq_true_eq] at h1 h2;simp only [zQ, Bool.and_eq_true, decide_eq_true_eq];refine ⟨⟨⟨⟨⟨by omega, by omega⟩, by omega⟩, List.all_eq_true.2 fun i hi => hm i (List.mem_range.1 hi)⟩, wv.2 hs⟩, wv.2 hl⟩
theorem yf {T : Tide} (h : ∀ hT : zG T, False) : zQ T = false := by
  cases hb : zQ T with
  | false => rfl
  | true => exact (h (yK.1 hb)).elim
theorem YM (T : Tide) (a1 a2 a3 : Option Addr) (n1 n2 n3 c1 c2 c3 : Nat) (D : Imm) (w : World) (hR : yo D T a1 n1 a2 n2 a3 n3) (hH : Holds D w) (fi : FuncId) (cp : List Value) (is : Bool) (hfi : ∀ args w, (callFunc fi args).run Tryz.prog w = .ok (.enter fi args) w) (hIs : zQ T = true → ∀ q mb D' w', DExt w D D' → D' q = some (shoO (.slice a1 n1 c1) (.slice a2 n2 c2) (.slice a3 n3 c3) mb) → Holds D' w' → z8 Tryz.prog fi (pt q :: cp) w' (.bool is)) : Calls Tryz.prog 80 (List.toArray [.agg #[.slice a1 n1 c1, .slice a2 n2 c2, .slice a3 n3 c3], .func (.func fi) #[] cp.toArray]) w fun e w' => zdH T is (.slice a1 n1 c1) (.slice a2 n2 c2) (.slice a3 n3 c3) D w e w' := by
  obtain rfl := hR.mark.len';obtain rfl := hR.sand.len';obtain rfl := hR.look.len';obtain ⟨hl1, hl2, hl3⟩ := hR.len;refine en Tryz.func80 rfl Tryz.ntmps80 (Inv.start hH) (g [[1],[1,0,1]] ?_);refine WL.so (SO.box rfl rfl) rfl (zw fun b2 hb2 => ?_);refine g [[4],[4,4,2,1]] ?_;refine WL.cl rfl (fun w hI => w7 _ _ _ _) (g [[1]] ?_);refine WL.part 17 rfl (fun g17 => ?_) (fun g17 => ?_)
  · refine g [[3]] ?_;refine WL.sog rfl (SO.callP CaF.h rfl (fun w hI => w7 _ _ _ _)) rfl (zs (g [[2]] ?_));refine WL.part 23 rfl (fun g23 => ?_) (fun g23 => ?_)
    · refine g [[5]] ?_;refine WL.part 28 rfl (fun g28 => ?_) (fun g28 => ?_)
      · try simp only [zq] at g28
        refine WL.cl rfl (fun w hI => wE _ _) (g [[3],[6,4,2,1],[8,5,4,2,1]] ?_);refine WC.loopF (fun k : Nat => [(1, .func (.func fi) #[] cp.toArray), (2, pt b2), (5, .func (.func 164) #[] #[]), (31, .slice a1 T.marks.length c1), (32, nt T.marks.length), (33, nt k)]) (fun k => k ≤ T.marks.length ∧ ∀ i, i < k → qW T i = true) (fun k => T.marks.length - k) 0 ⟨by omega, by intro i hi; omega⟩ (by exact ⟨rfl, rfl, rfl, rfl, rfl, rfl, trivial⟩) ?_;intro k ⟨hk, hd⟩;refine g [[1],[5,1,2,5,31,32,33]] ?_;refine WC.cond rfl (fun c34 => ?_) (fun c34 => ?_)
        · try simp only [zq] at c34
          refine g [[5],[2,1,2,5,31,32,33]] ?_;refine WL.yd (Yd.ix rfl rfl (hR.mark.addr k (by omega))) rfl (WL.yd (Yd.lV [_, _, _] rfl ((hR.mark.at k (by omega)).rdn 0 3 rfl)) rfl ?_);refine WL.so (SO.alloc ZvF.h rfl) rfl (zw fun b7 hb7 => ?_);refine g [[4],[0,6,7,1,2,5,31,32,33],[3023],[2]] ?_;refine WQ.q rfl (Qt.callP CaF.h rfl (fun w hI => w7 _ _ _ _)) rfl (g [[1]] ?_);refine WQ.part 41 rfl (fun g41 => ?_) (fun g41 => ?_)
          · refine g [[3]] ?_;refine WQ.qg rfl rfl (Qt.call (Enters.val CaF.h rfl rfl) (fun w hI => XG ⟨_, _⟩ _)) rfl (g [[2]] ?_);refine WQ.part 47 rfl (fun g47 => ?_) (fun g47 => ?_)
            · refine g [[3]] ?_;refine WQ.part 50 rfl (fun g50 => ?_) (fun g50 => ?_)
              · try simp only [zq] at g50
                refine g [[14]] ?_;refine WL.cl rfl (fun w hI => wE _ _) (g [[3],[4,1,2,5,31,32,33]] ?_);exact WP.againF (k + 1) ⟨by omega, zZ hd (kE (by assumption) (by assumption) (by first | (left; omega) | (right; omega)))⟩ (by omega) ⟨rfl, rfl, rfl, rfl, rfl, rfl, trivial⟩ (fun _ h => List.mem_cons_of_mem _ h) (fun h => (List.nodup_cons.1 h).2)
              try simp only [zq] at g50
              have hrk : ∀ hp, Rd D hp ⟨sb a1, so a1 + ((k : Int) - 1).toNat * 3 + 0, none⟩ (it (gt T.marks (k - 1)).minute) := fun hp => by
                rw [show ((k : Int) - 1).toNat = k - 1 by omega]; exact (hR.mark.at (k - 1) (by omega)).rd 0 rfl
              have hmp := (zl.1 (hd (k - 1) (by omega))).1.1;refine g [[6]] ?_;refine WQ.qg rfl rfl (Yd.qt (Yd.ix rfl rfl (hR.mark.addr k (by omega)))) rfl (g [[1]] ?_);refine WQ.qg rfl rfl (Yd.qt (Yd.l1 rfl (hrk _))) rfl (g [[5]] ?_);refine WL.part 63 rfl (fun g63 => ?_) (fun g63 => ?_)
              · try simp only [zq] at g63
                refine WL.cl rfl (fun w hI => wE _ _) (g [[3],[4,1,2,5,31,32,33]] ?_);exact WP.againF (k + 1) ⟨by omega, zZ hd (kE (by assumption) (by assumption) (by first | (left; omega) | (right; omega)))⟩ (by omega) ⟨rfl, rfl, rfl, rfl, rfl, rfl, trivial⟩ (fun _ h => List.mem_cons_of_mem _ h) (fun h => (List.nodup_cons.1 h).2)
              try simp only [zq] at g63
              refine WL.nf rfl (fun w hI => yT _ _) (g [[5]] ?_);refine WP.panicBody rfl (fun w hI => ?_)
              have hno : zQ T = false := yf fun hT => by
                have h1 := vS hT (k := k) (by omega); simp_all; omega
              exact ⟨fun _ => ⟨rfl, hI.keep⟩, fun h => absurd (hno.symm.trans h) (by decide), fun h => absurd (hno.symm.trans h) (by decide)⟩
            refine g [[17]] ?_;refine WL.nf rfl (fun w hI => yT _ _) (g [[5]] ?_);refine WP.panicBody rfl (fun w hI => ?_)
            have hno : zQ T = false := yf fun hT => by
              have h1 := vS hT (k := k) (by omega); simp_all; done
            exact ⟨fun _ => ⟨rfl, hI.keep⟩, fun h => absurd (hno.symm.trans h) (by decide), fun h => absurd (hno.symm.trans h) (by decide)⟩
          refine g [[23]] ?_;refine WL.nf rfl (fun w hI => yT _ _) (g [[5]] ?_);refine WP.panicBody rfl (fun w hI => ?_)
          have hno : zQ T = false := yf fun hT => by
            have h1 := vS hT (k := k) (by omega); simp_all; done
          exact ⟨fun _ => ⟨rfl, hI.keep⟩, fun h => absurd (hno.symm.trans h) (by decide), fun h => absurd (hno.symm.trans h) (by decide)⟩
        try simp only [zq] at c34
        refine g [[6],[2,1,2,5]] ?_;refine WL.so SO.makeMap rfl ?_;rintro _ _ _ ⟨b67, hb67, rfl, rfl, rfl⟩;refine g [[1]] ?_;refine WL.so (SO.box rfl rfl) rfl (zw fun b69 hb69 => ?_);refine g [[5],[8,8,1,2,5]] ?_;have hmk : ∀ i, i < T.marks.length → qW T i = true := fun i hi => hd i (by omega);clear hd hk c34 k;refine WC.loopF (fun k : Nat => [(1, .func (.func fi) #[] cp.toArray), (2, pt b2), (5, .func (.func 164) #[] #[]), (8, pt b69), (71, .slice a2 T.sand.length c2), (72, nt T.sand.length), (73, nt k)]) (fun k => k ≤ T.sand.length ∧ ∀ i, i < k → y2 (gt T.sand i) = true) (fun k => T.sand.length - k) 0 ⟨by omega, by intro i hi; omega⟩ (by exact ⟨rfl, rfl, rfl, rfl, rfl, rfl, rfl, trivial⟩) ?_;intro k ⟨hk, hd⟩;refine g [[1],[5,1,2,5,8,71,72,73]] ?_;refine WC.cond rfl (fun c74 => ?_) (fun c74 => ?_)
        · try simp only [zq] at c74
          refine g [[5],[1,1,2,5,8,71,72,73]] ?_;refine WL.yd (Yd.ix rfl rfl (hR.sand.addr k (by omega))) rfl (WL.yd (Yd.lV [_, _] rfl ((hR.sand.at k (by omega)).rdn 0 2 rfl)) rfl ?_);refine WL.so (SO.alloc ZvF.h rfl) rfl (zw fun b10 hb10 => ?_);refine g [[3],[3,10,1,2,5,8,71,72,73]] ?_;refine WL.so (SO.call (Enters.val CaF.h rfl rfl) (fun w hI => XG ⟨_, _⟩ _)) rfl (zs ?_);refine WL.part 79 rfl (fun g79 => ?_) (fun g79 => ?_)
          · refine WL.cl rfl (fun w hI => wE _ _) (g [[3],[4,1,2,5,8,71,72,73]] ?_);exact WP.againF (k + 1) ⟨by omega, zZ hd (by assumption)⟩ (by omega) ⟨rfl, rfl, rfl, rfl, rfl, rfl, rfl, trivial⟩ (fun _ h => List.mem_cons_of_mem _ h) (fun h => (List.nodup_cons.1 h).2)
          refine WL.nf rfl (fun w hI => yT _ _) (g [[5]] ?_);refine WP.panicBody rfl (fun w hI => ?_)
          have hno : zQ T = false := yf fun hT => by
            have h1 := hT.sand k (by omega); simp_all; done
          exact ⟨fun _ => ⟨rfl, hI.keep⟩, fun h => absurd (hno.symm.trans h) (by decide), fun h => absurd (hno.symm.trans h) (by decide)⟩
        try simp only [zq] at c74
        refine g [[7]] ?_;have hsd : ∀ i, i < T.sand.length → y2 (gt T.sand i) = true := fun i hi => hd i (by omega);refine WC.freezeK 0 rfl (fun hn69 => ?_);have hX1 : DExt w D (D.add b69 (shoO (.slice a1 T.marks.length c1) (.slice a2 T.sand.length c2) (.slice a3 T.looks.length c3) b67)) := (DExt.refl w D).add hn69 hb69;have hq1 : (D.add b69 (shoO (.slice a1 T.marks.length c1) (.slice a2 T.sand.length c2) (.slice a3 T.looks.length c3) b67)) b69 = some (shoO (.slice a1 T.marks.length c1) (.slice a2 T.sand.length c2) (.slice a3 T.looks.length c3) b67) := Imm.add_self _ _ _;have hR1 := hR.ext hX1;refine (?_ : WC Tryz.prog _ _ (D.add b69 (shoO (.slice a1 T.marks.length c1) (.slice a2 T.sand.length c2) (.slice a3 T.looks.length c3) b67)) [(b67, .map #[] 0), (b2, .cells (List.toArray [.slice a1 T.marks.length c1, .slice a2 T.sand.length c2, .slice a3 T.looks.length c3]) 31 (0, 0))] _ _);generalize (D.add b69 (shoO (.slice a1 T.marks.length c1) (.slice a2 T.sand.length c2) (.slice a3 T.looks.length c3) b67)) = D1 at hX1 hq1 hR1 ⊢;refine g [[8,1,2,8]] ?_;refine WC.loopF (fun k : Nat => [(1, .func (.func fi) #[] cp.toArray), (8, pt b69), (83, .slice a3 T.looks.length c3), (84, nt T.looks.length), (85, nt k)]) (fun k => k ≤ T.looks.length ∧ ∀ i, i < k → lookB T (gt T.looks i) = true) (fun k => T.looks.length - k) 0 ⟨by omega, by intro i hi; omega⟩ (by exact ⟨rfl, rfl, rfl, rfl, rfl, trivial⟩) ?_;intro k ⟨hk, hd⟩;refine g [[1],[5,1,8,83,84,85]] ?_;refine WC.cond rfl (fun c86 => ?_) (fun c86 => ?_)
        · try simp only [zq] at c86
          refine g [[5],[1,1,8,83,84,85]] ?_;refine WL.yd (Yd.ix rfl rfl (hR.look.addr k (by omega))) rfl (WL.yd (Yd.lV [_, _, _, _] rfl ((hR1.look.at k (by omega)).rdn 0 4 rfl)) rfl ?_);refine WL.so (SO.alloc ZvF.h rfl) rfl (zw fun b12 hb12 => ?_);refine g [[3],[4,12,1,8,83,84,85]] ?_;refine WL.cl rfl (fun w hI => qL T a1 a2 a3 _ _ _ c1 c2 c3 _ _ hR1 b69 b67 hq1 hI.imm _) (g [[1]] ?_);refine WL.part 93 rfl (fun g93 => ?_) (fun g93 => ?_)
          · refine g [[3]] ?_;refine WL.sog rfl (SO.callP CaF.h rfl (fun w hI => uD T a1 a2 a3 _ _ _ c1 c2 c3 _ _ hR1 b69 b67 hq1 hI.imm (by simp_all [inB]; omega) _)) rfl (zs (g [[2]] ?_));refine WL.part 99 rfl (fun g99 => ?_) (fun g99 => ?_)
            · refine g [[2]] ?_;refine WL.sog rfl (SO.callP CaF.h rfl (fun w hI => Xu ⟨_, _⟩ _)) rfl (zs (g [[1]] ?_));refine WL.part 103 rfl (fun g103 => ?_) (fun g103 => ?_)
              · refine WL.cl rfl (fun w hI => wE _ _) (g [[3],[4,1,8,83,84,85]] ?_);exact WP.againF (k + 1) ⟨by omega, zZ hd (by simp_all [lookB])⟩ (by omega) ⟨rfl, rfl, rfl, rfl, rfl, trivial⟩ (fun _ h => List.mem_cons_of_mem _ h) (fun h => (List.nodup_cons.1 h).2)
              refine WL.nf rfl (fun w hI => yT _ _) (g [[5]] ?_);refine WP.panicBody rfl (fun w hI => ?_)
              have hno : zQ T = false := yf fun hT => by
                have h1 := hT.look k (by omega); simp_all [lookB]; done
              exact ⟨fun _ => ⟨rfl, hI.keep⟩, fun h => absurd (hno.symm.trans h) (by decide), fun h => absurd (hno.symm.trans h) (by decide)⟩
            refine g [[4]] ?_;refine WL.nf rfl (fun w hI => yT _ _) (g [[5]] ?_);refine WP.panicBody rfl (fun w hI => ?_)
            have hno : zQ T = false := yf fun hT => by
              have h1 := hT.look k (by omega); simp_all [lookB]; done
            exact ⟨fun _ => ⟨rfl, hI.keep⟩, fun h => absurd (hno.symm.trans h) (by decide), fun h => absurd (hno.symm.trans h) (by decide)⟩
          refine g [[10]] ?_;refine WL.nf rfl (fun w hI => yT _ _) (g [[5]] ?_);refine WP.panicBody rfl (fun w hI => ?_)
          have hno : zQ T = false := yf fun hT => by
            have h1 := hT.look k (by omega); simp_all [lookB]; done
          exact ⟨fun _ => ⟨rfl, hI.keep⟩, fun h => absurd (hno.symm.trans h) (by decide), fun h => absurd (hno.symm.trans h) (by decide)⟩
        try simp only [zq] at c86
        refine g [[6]] ?_;have hok : zQ T = true := x9 g17 g23 g28 hmk hsd (fun i hi => hd i (by omega));refine g [[3,1,8]] ?_;refine WL.so (SO.call (Enters.val hfi rfl rfl) (fun w hI => hIs hok _ b67 _ _ hX1 hq1 hI.imm)) rfl (zs ?_);refine WL.part 108 rfl (fun g108 => ?_) (fun g108 => ?_)
        · refine WL.cl rfl (fun w hI => wE _ _) (g [[3],[6,8]] ?_);refine WP.ret1 rfl rfl rfl (RV.tmp rfl) (fun w1 hI => ⟨fun h => absurd (hok.symm.trans h) (by decide), fun _ h => (by rw [g108] at h; cases h), fun _ _ => ⟨_, b67, D1, rfl, hX1, hq1, hI.sub (fun e he => by simp only [List.mem_singleton] at he; subst he; simp) (by simp [keys])⟩⟩)
        refine WL.nf rfl (fun w hI => yT _ _) (g [[1]] ?_);exact WP.panicBody rfl (fun w hI => ⟨fun h => absurd (hok.symm.trans h) (by decide), fun _ _ => ⟨rfl, hI.keep⟩, fun _ h => by rw [g108] at h; cases h⟩)
      try simp only [zq] at g28
      refine WL.nf rfl (fun w hI => yT _ _) (g [[1]] ?_);refine WP.panicBody rfl (fun w hI => ?_)
      have hno : zQ T = false := yf fun hT => by
        have h1 := hT.nm; have h2 := hT.ns; have h3 := hT.nl; simp_all [inB]; omega
      exact ⟨fun _ => ⟨rfl, hI.keep⟩, fun h => absurd (hno.symm.trans h) (by decide), fun h => absurd (hno.symm.trans h) (by decide)⟩
    refine g [[5]] ?_;refine WL.nf rfl (fun w hI => yT _ _) (g [[1]] ?_);refine WP.panicBody rfl (fun w hI => ?_)
    have hno : zQ T = false := yf fun hT => by
      have h1 := hT.nm; have h2 := hT.ns; have h3 := hT.nl; simp_all [inB]; omega
    exact ⟨fun _ => ⟨rfl, hI.keep⟩, fun h => absurd (hno.symm.trans h) (by decide), fun h => absurd (hno.symm.trans h) (by decide)⟩
  refine g [[11]] ?_;refine WL.nf rfl (fun w hI => yT _ _) (g [[1]] ?_);refine WP.panicBody rfl (fun w hI => ?_)
  have hno : zQ T = false := yf fun hT => by
    have h1 := hT.nm; have h2 := hT.ns; have h3 := hT.nl; simp_all [inB]; omega
  exact ⟨fun _ => ⟨rfl, hI.keep⟩, fun h => absurd (hno.symm.trans h) (by decide), fun h => absurd (hno.symm.trans h) (by decide)⟩
end Go.Proofs.YtejgofaeafphjaaGreatDoor
