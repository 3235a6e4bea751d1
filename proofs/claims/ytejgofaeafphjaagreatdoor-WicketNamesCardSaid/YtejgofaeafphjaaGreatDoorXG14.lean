import Derived.Test.YtejgofaeafphjaaGreatDoorXG13
import Derived.Test.YtejgofaeafphjaaGreatDoorXG5
import Derived.Test.YtejgofaeafphjaaGreatDoorXG7
set_option linter.unusedSimpArgs false
set_option linter.unusedVariables false
set_option linter.all false
set_option maxRecDepth 100000
set_option maxHeartbeats 4000000
attribute [local irreducible] Go.W.WL Go.W.WLF Go.W.WC Go.W.WCF Go.W.WP Go.W.WA Go.W.WQ Go.W.WH Go.W.WHo Go.W.WCn Go.W.Yd Go.W.Qt Go.W.SO Go.Code.wp Go.Code.wpIn
namespace Go.Ti
open Go.W
abbrev Hts := Nat → Int
def updH (h : Hts) (k : Nat) (n : Int) : Hts := fun j => if j = k then n else h j
theorem updH_same (h : Hts) (k : Nat) (n : Int) : updH h k n k = n := if_pos rfl
theorem updH_ne (h : Hts) {k j : Nat} (n : Int) (e : j ≠ k) : updH h k n j = h j := if_neg e
def zeroH : Hts := fun _ => 0
def hsL (T : Tide) : Nat → Hts → Nat → List Hts
  | 0, h, _ => [h]
  | r + 1, h, k => (rng (gt T.marks k).high.lo (gt T.marks k).high.hi).flatMap fun n => hsL T r (updH h k n) (k + 1)
def fitB (l : Look) (w n : Int) : Bool := decide (l.depth.lo ≤ max 0 (w - n) ∧ max 0 (w - n) ≤ l.depth.hi)
def sandB (T : Tide) (h : Hts) (p : Nat) (n : Int) : Bool := T.looks.all fun l => !decide (l.place = (p : Int)) || fitB l (standsI T h l.minute) n
def setL (T : Tide) (h : Hts) (p : Nat) : List Int := (rng (gt T.sand p).lo (gt T.sand p).hi).filter (sandB T h p)
def truB (T : Tide) (h : Hts) : Bool := (List.range T.sand.length).all fun p => !(setL T h p).isEmpty
def tdL (T : Tide) : List Hts := (hsL T T.marks.length zeroH 0).filter (truB T)
structure HtsOk (T : Tide) (h : Hts) : Prop where
  at_ : ∀ i, i < T.marks.length → (gt T.marks i).high.lo ≤ h i ∧ h i ≤ (gt T.marks i).high.hi
  rest : ∀ i, T.marks.length ≤ i → h i = 0
theorem mem_hsL {T : Tide} : ∀ (r : Nat) (h : Hts) (k : Nat) (x : Hts), x ∈ hsL T r h k ↔ (∀ i, i < k → x i = h i) ∧ (∀ i, k ≤ i → i < k + r → (gt T.marks i).high.lo ≤ x i ∧ x i ≤ (gt T.marks i).high.hi) ∧ (∀ i, k + r ≤ i → x i = h i)
  | 0, h, k, x => by
    rw [hsL, List.mem_singleton]
    constructor
    · rintro rfl
      exact ⟨fun _ _ => rfl, fun i h1 h2 => by omega, fun _ _ => rfl⟩
    · rintro ⟨h1, _, h3⟩
      funext i
      rcases Nat.lt_or_ge i k with h4 | h4
      · exact h1 i h4
      · exact h3 i (by omega)
  | r + 1, h, k, x => by
    rw [hsL, List.mem_flatMap]
    constructor
    · rintro ⟨n, hn, hx⟩
      rw [mem_hsL r] at hx
      obtain ⟨h1, h2, h3⟩ := hx
      rw [mem_rng] at hn
      refine ⟨fun i hi => by rw [h1 i (by omega), updH_ne h n (by omega)], fun i hi1 hi2 => ?_, fun i hi => by rw [h3 i (by omega), updH_ne h n (by omega)]⟩
      rcases Nat.eq_or_lt_of_le hi1 with e | e
      · subst e; rw [h1 k (by omega), updH_same]; exact hn
      · exact h2 i e (by omega)
    · rintro ⟨h1, h2, h3⟩
      refine ⟨x k, mem_rng.2 (h2 k (Nat.le_refl _) (by omega)), ?_⟩
      rw [mem_hsL r]
      refine ⟨fun i hi => ?_, fun i hi1 hi2 => h2 i (by omega) (by omega), fun i hi => ?_⟩
      · by_cases e : i = k
        · subst e; rw [updH_same]
        · rw [updH_ne h _ e]; exact h1 i (by omega)
      · rw [updH_ne h _ (by omega)]; exact h3 i (by omega)
theorem mem_all {T : Tide} {x : Hts} : x ∈ hsL T T.marks.length zeroH 0 ↔ HtsOk T x := by
  rw [mem_hsL]
  constructor
  · rintro ⟨_, h2, h3⟩
    exact ⟨fun i hi => h2 i (Nat.zero_le _) (by omega), fun i hi => h3 i (by omega)⟩
  · intro h
    exact ⟨fun i hi => absurd hi (Nat.not_lt_zero _), fun i _ hi => h.at_ i (by omega), fun i hi => h.rest i (by omega)⟩
theorem HtsOk.high {T : Tide} (hT : TideOk T) {h : Hts} (hh : HtsOk T h) : HighH T h := fun i hi => by
  have h1 := narrow_iff.1 (hT.mark i hi).2
  have h2 := hh.at_ i hi
  omega
theorem mem_tdL {T : Tide} {h : Hts} : h ∈ tdL T ↔ HtsOk T h ∧ ∀ p, p < T.sand.length → setL T h p ≠ [] := by
  rw [tdL, List.mem_filter, mem_all, truB, List.all_eq_true]
  simp only [List.mem_range, Bool.not_eq_true', List.isEmpty_eq_false_iff]
theorem mem_setL {T : Tide} {h : Hts} {p : Nat} {n : Int} : n ∈ setL T h p ↔ ((gt T.sand p).lo ≤ n ∧ n ≤ (gt T.sand p).hi) ∧ sandB T h p n = true := by
  rw [setL, List.mem_filter, mem_rng]
theorem set_num {T : Tide} (hT : TideOk T) {h : Hts} {p : Nat} (hp : p < T.sand.length) {n : Int} (hn : n ∈ setL T h p) : 0 ≤ n ∧ n ≤ 60 := by
  have h1 := narrow_iff.1 (hT.sand p hp)
  have h2 := (mem_setL.1 hn).1
  omega
def headI (l : List Int) : Int := l.headD 0
def lastI (l : List Int) : Int := l.getLastD 0
theorem rng_sorted (lo hi : Int) : (rng lo hi).Pairwise (· < ·) := by
  unfold rng
  rw [List.pairwise_map]
  exact List.Pairwise.imp (fun h => by omega) List.pairwise_lt_range
theorem ends_spec {l : List Int} (hs : l.Pairwise (· < ·)) (h : l ≠ []) : headI l ∈ l ∧ lastI l ∈ l ∧ ∀ x, x ∈ l → headI l ≤ x ∧ x ≤ lastI l := by
  cases l with
  | nil => exact absurd rfl h
  | cons a l =>
    have e1 : headI (a :: l) = a := rfl
    have e2 : lastI (a :: l) = (a :: l).getLast (by simp) := by simp [lastI, List.getLastD]
    refine ⟨by rw [e1]; simp, by rw [e2]; exact List.getLast_mem _, fun x hx => ?_⟩
    rw [e1, e2]
    constructor
    · rcases List.mem_cons.1 hx with rfl | hx
      · exact Int.le_refl _
      · exact Int.le_of_lt ((List.pairwise_cons.1 hs).1 x hx)
    · obtain ⟨i, hi, rfl⟩ := List.getElem_of_mem hx
      rw [List.getLast_eq_getElem]
      rcases Nat.lt_or_ge i ((a :: l).length - 1) with h1 | h1
      · exact Int.le_of_lt (List.pairwise_iff_getElem.1 hs i _ hi (by omega) h1)
      · have : i = (a :: l).length - 1 := by omega
        subst this; exact Int.le_refl _
theorem set_ends {T : Tide} {h : Hts} {p : Nat} (hne : setL T h p ≠ []) : headI (setL T h p) ∈ setL T h p ∧ lastI (setL T h p) ∈ setL T h p ∧ ∀ x, x ∈ setL T h p → headI (setL T h p) ≤ x ∧ x ≤ lastI (setL T h p) :=
  ends_spec (List.Pairwise.filter _ (rng_sorted _ _)) hne
def seeD (s : Ms) (a : Int × Int) : Ms := (true, if s.1 then min s.2.1 a.1 else a.1, if s.1 then max s.2.2 a.2 else a.2)
def foldD (f : Hts → Int × Int) (l : List Hts) : Ms := l.foldl (fun s h => seeD s (f h)) (false, 0, 0)
def spanD (f : Hts → Int × Int) (l : List Hts) : Sp := ⟨(foldD f l).2.1, (foldD f l).2.2⟩
structure IsHull (S : Int → Prop) (s : Sp) : Prop where
  lo : S s.lo
  hi : S s.hi
  mem : ∀ x, S x → s.lo ≤ x ∧ x ≤ s.hi
theorem IsHull.uniq {S : Int → Prop} {s t : Sp} (h : IsHull S s) (k : IsHull S t) : s = t := by
  obtain ⟨a, b⟩ := s
  obtain ⟨c, d⟩ := t
  have h1 := h.mem _ k.lo
  have h2 := k.mem _ h.lo
  have h3 := h.mem _ k.hi
  have h4 := k.mem _ h.hi
  simp only at h1 h2 h3 h4
  congr 1 <;> omega
theorem foldD_spec (f : Hts → Int × Int) : ∀ (l l0 : List Hts) (s : Ms), (l0 = [] ∧ s.1 = false ∨ s.1 = true ∧ (∃ h, h ∈ l0 ∧ (f h).1 = s.2.1) ∧ (∃ h, h ∈ l0 ∧ (f h).2 = s.2.2) ∧ ∀ h, h ∈ l0 → s.2.1 ≤ (f h).1 ∧ (f h).2 ≤ s.2.2) → l0 ++ l ≠ [] →
    (∃ h, h ∈ l0 ++ l ∧ (f h).1 = (l.foldl (fun s h => seeD s (f h)) s).2.1) ∧ (∃ h, h ∈ l0 ++ l ∧ (f h).2 = (l.foldl (fun s h => seeD s (f h)) s).2.2) ∧ ∀ h, h ∈ l0 ++ l → (l.foldl (fun s h => seeD s (f h)) s).2.1 ≤ (f h).1 ∧ (f h).2 ≤ (l.foldl (fun s h => seeD s (f h)) s).2.2
  | [], l0, s, hs, hne => by
    rcases hs with ⟨rfl, _⟩ | ⟨_, h1, h2, h3⟩
    · exact absurd rfl hne
    · rw [List.append_nil]; exact ⟨h1, h2, h3⟩
  | x :: l, l0, s, hs, hne => by
    have e : l0 ++ x :: l = (l0 ++ [x]) ++ l := by simp
    rw [List.foldl_cons, e]
    refine foldD_spec f l (l0 ++ [x]) (seeD s (f x)) (.inr ⟨rfl, ?_⟩) (by simp)
    rcases hs with ⟨rfl, h0⟩ | ⟨h0, ⟨a, ha, ea⟩, ⟨b, hb, eb⟩, h3⟩
    · simp only [seeD, h0, Bool.false_eq_true, if_false]
      refine ⟨⟨x, by simp, rfl⟩, ⟨x, by simp, rfl⟩, fun h hh => ?_⟩
      obtain rfl : h = x := by simpa using hh
      exact ⟨Int.le_refl _, Int.le_refl _⟩
    · simp only [seeD, h0, if_true]
      refine ⟨?_, ?_, fun h hh => ?_⟩
      · rcases Int.le_total s.2.1 (f x).1 with h4 | h4
        · exact ⟨a, by simp [ha], by rw [ea]; omega⟩
        · exact ⟨x, by simp, by omega⟩
      · rcases Int.le_total s.2.2 (f x).2 with h4 | h4
        · exact ⟨x, by simp, by omega⟩
        · exact ⟨b, by simp [hb], by rw [eb]; omega⟩
      · rcases List.mem_append.1 hh with hh | hh
        · have := h3 h hh; omega
        · obtain rfl : h = x := by simpa using hh
          omega
theorem spanD_spec (f : Hts → Int × Int) {l : List Hts} (h : l ≠ []) : (∃ x, x ∈ l ∧ (f x).1 = (spanD f l).lo) ∧ (∃ x, x ∈ l ∧ (f x).2 = (spanD f l).hi) ∧ ∀ x, x ∈ l → (spanD f l).lo ≤ (f x).1 ∧ (f x).2 ≤ (spanD f l).hi :=
  foldD_spec f l [] (false, 0, 0) (.inl ⟨rfl, rfl⟩) h
theorem foldD_take (f : Hts → Int × Int) {l : List Hts} {k : Nat} (hk : k < l.length) : foldD f (l.take (k + 1)) = seeD (foldD f (l.take k)) (f (gt l k)) := by
  have e : gt l k = l[k] := by simp [gt, List.getD, hk]
  rw [foldD, List.take_succ_eq_append_getElem hk, List.foldl_append, e]; rfl
def depthF (T : Tide) (p : Nat) (m : Int) (h : Hts) : Int × Int := (max 0 (standsI T h m - lastI (setL T h p)), max 0 (standsI T h m - headI (setL T h p)))
def depthS (T : Tide) (p : Nat) (m : Int) : Sp := spanD (depthF T p m) (tdL T)
def tideE (T : Tide) (is : Bool) : Int := if tideB T = false then 1 else if is = false then 2 else if tdL T = [] then 10 else 0
def deepB (n : Int) : Bool := decide (0 ≤ n ∧ n ≤ 60)
def DepthOut (T : Tide) (p m : Int) : Sp × Int := if tideE T (placeB T p && minuteB T m) ≠ 0 then (⟨0, 0⟩, tideE T (placeB T p && minuteB T m)) else (depthS T p.toNat m, 0)
def firstF (T : Tide) (p : Nat) (least : Int) : Nat → Int → Option Int
  | 0, _ => none
  | n + 1, m => if least ≤ (depthS T p m).lo then some m else firstF T p least n (m + 1)
def FirstOut (T : Tide) (p least m : Int) : Int × Int := if tideE T (placeB T p && (deepB least && minuteB T m)) ≠ 0 then (0, tideE T (placeB T p && (deepB least && minuteB T m))) else match firstF T p.toNat least (lastM T - m + 1).toNat m with
  | some n => (n, 0)
  | none => (0, 4)
def TruR (T : Tide) (h s : Hts) : Prop := HtsOk T h ∧ (∀ p, p < T.sand.length → ((gt T.sand p).lo ≤ s p ∧ s p ≤ (gt T.sand p).hi)) ∧ ∀ i, i < T.looks.length → fitB (gt T.looks i) (standsR T h (gt T.looks i).minute) (s (gt T.looks i).place.toNat) = true
def UnderS (T : Tide) (p : Nat) (m x : Int) : Prop := ∃ h s, TruR T h s ∧ x = max 0 (standsR T h m - s p)
theorem look_iff {T : Tide} {l : Look} : lookB T l = true ↔ (0 ≤ l.place ∧ l.place ≤ (T.sand.length : Int) - 1) ∧ minuteB T l.minute = true ∧ highB l.depth = true := by
  simp only [lookB, placeB, Bool.and_eq_true, decide_eq_true_eq, and_assoc]
theorem tru_iff {T : Tide} (hT : TideOk T) {h s : Hts} : TruR T h s ↔ HtsOk T h ∧ ∀ p, p < T.sand.length → s p ∈ setL T h p := by
  constructor
  · rintro ⟨h1, h2, h3⟩
    refine ⟨h1, fun p hp => mem_setL.2 ⟨h2 p hp, ?_⟩⟩
    rw [sandB, all_iff]
    intro i hi
    have hl := look_iff.1 (hT.look i hi)
    rw [stands_same hT h hl.2.1]
    by_cases e : (gt T.looks i).place = (p : Int)
    · have := h3 i hi
      rw [e, Int.toNat_natCast] at this
      rw [this]; simp
    · rw [decide_eq_false e]; rfl
  · rintro ⟨h1, h2⟩
    refine ⟨h1, fun p hp => (mem_setL.1 (h2 p hp)).1, fun i hi => ?_⟩
    have hl := look_iff.1 (hT.look i hi)
    have h3 := (mem_setL.1 (h2 (gt T.looks i).place.toNat (by omega))).2
    rw [sandB, all_iff] at h3
    have h4 := h3 i hi
    rw [stands_same hT h hl.2.1, decide_eq_true (by omega)] at h4
    simpa using h4
def someS (T : Tide) (h : Hts) : Hts := fun p => headI (setL T h p)
theorem tru_some {T : Tide} (hT : TideOk T) {h : Hts} (hh : h ∈ tdL T) {p : Nat} {n : Int} (hn : n ∈ setL T h p) : TruR T h (updH (someS T h) p n) := by
  obtain ⟨h1, h2⟩ := mem_tdL.1 hh
  refine (tru_iff hT).2 ⟨h1, fun q hq => ?_⟩
  by_cases e : q = p
  · subst e; rw [updH_same]; exact hn
  · rw [updH_ne _ _ e]; exact (set_ends (h2 q hq)).1
theorem tru_td {T : Tide} (hT : TideOk T) {h s : Hts} (ht : TruR T h s) : h ∈ tdL T := by
  obtain ⟨h1, h2⟩ := (tru_iff hT).1 ht
  exact mem_tdL.2 ⟨h1, fun p hp e => by have := h2 p hp; rw [e] at this; cases this⟩
theorem depth_hull {T : Tide} (hT : TideOk T) (hne : tdL T ≠ []) {p : Nat} (hp : p < T.sand.length) {m : Int} (hm : minuteB T m = true) : IsHull (UnderS T p m) (depthS T p m) := by
  obtain ⟨⟨a, ha, ea⟩, ⟨b, hb, eb⟩, h3⟩ := spanD_spec (depthF T p m) hne
  have ends : ∀ h, h ∈ tdL T → headI (setL T h p) ∈ setL T h p ∧ lastI (setL T h p) ∈ setL T h p ∧ ∀ x, x ∈ setL T h p → headI (setL T h p) ≤ x ∧ x ≤ lastI (setL T h p) := fun h hh => set_ends ((mem_tdL.1 hh).2 p hp)
  refine ⟨⟨a, _, tru_some hT ha (ends a ha).2.1, ?_⟩, ⟨b, _, tru_some hT hb (ends b hb).1, ?_⟩, ?_⟩
  · rw [updH_same, ← stands_same hT a hm]; exact ea.symm
  · rw [updH_same, ← stands_same hT b hm]; exact eb.symm
  · rintro x ⟨h, s, ht, rfl⟩
    have hh := tru_td hT ht
    have h4 := (ends h hh).2.2 _ (((tru_iff hT).1 ht).2 p hp)
    have h5 := h3 h hh
    rw [← stands_same hT h hm]
    simp only [depthF, depthS] at h5 ⊢
    omega
theorem depth_num {T : Tide} (hT : TideOk T) (hne : tdL T ≠ []) {p : Nat} (hp : p < T.sand.length) {m : Int} (hm : minuteB T m = true) : 0 ≤ (depthS T p m).lo ∧ (depthS T p m).lo ≤ (depthS T p m).hi ∧ (depthS T p m).hi ≤ 60 := by
  have h := depth_hull hT hne hp hm
  obtain ⟨a, s, ht, e⟩ := h.lo
  obtain ⟨b, u, ht2, e2⟩ := h.hi
  have h1 := h.mem _ h.hi
  have h2 := stands_num hT (HtsOk.high hT ht2.1) hm
  rw [stands_same hT b hm] at h2
  have h3 := set_num hT hp (((tru_iff hT).1 ht2).2 p hp)
  omega
end Go.Ti
namespace Go.Ti
open Go.W
end Go.Ti
namespace Go.Proofs.YtejgofaeafphjaaGreatDoor
open Go.W Go.Ti
theorem SA212 : StructAt Tryz.prog 212 [.int .i64 0] [(0, 1)] := ⟨⟨_, Tryz.zeroValue212, rfl⟩, _, Tryz.underlying212, fun w => by simp [Tryz.sizeOf51]⟩
@[reducible, instance] def ISA212 := SaF.mk SA212
theorem SA225 : StructAt Tryz.prog 225 [.int .i64 0] [(0, 1)] := ⟨⟨_, Tryz.zeroValue225, rfl⟩, _, Tryz.underlying225, fun w => by simp [Tryz.sizeOf51]⟩
@[reducible, instance] def ISA225 := SaF.mk SA225
def markC (x : Go.Ti.Mark) : List Value := [it x.minute, it x.high.lo, it x.high.hi]
def lookC (x : Look) : List Value := [it x.place, it x.minute, it x.depth.lo, it x.depth.hi]
def spanC (s : Sp) : List Value := [it s.lo, it s.hi]
theorem markC_len : ∀ x, (markC x).length = 3 := fun _ => rfl
theorem lookC_len : ∀ x, (lookC x).length = 4 := fun _ => rfl
theorem spanC_len : ∀ x, (spanC x).length = 2 := fun _ => rfl
structure TideR (D : Imm) (T : Tide) (a1 : Option Addr) (n1 : Nat) (a2 : Option Addr) (n2 : Nat) (a3 : Option Addr) (n3 : Nat) : Prop where
  mark : SlL D 3 (T.marks.map markC) a1 n1
  sand : SlL D 2 (T.sand.map spanC) a2 n2
  look : SlL D 4 (T.looks.map lookC) a3 n3
  len : n1 ≤ 1000 ∧ n2 ≤ 1000 ∧ n3 ≤ 1000
theorem TideR.ext {w : World} {D D' : Imm} (hD : DExt w D D') {T : Tide} {a1 a2 a3 : Option Addr} {n1 n2 n3 : Nat} (h : TideR D T a1 n1 a2 n2 a3 n3) : TideR D' T a1 n1 a2 n2 a3 n3 := ⟨h.mark.ext hD, h.sand.ext hD, h.look.ext hD, h.len⟩
def stopD (e : Int) : List PanicEntry := [{ v := .iface 225 (.agg #[it e]), recovered := false }]
def stopW (e : Int) : List PanicEntry := [{ v := .iface 212 (.agg #[it e]), recovered := false }]
theorem withinD_g (n lo hi : Int) (w : World) : Gives Tryz.prog 163 [it n, it lo, it hi] w (.bool (inB n lo hi)) := by
  unfold Gives
  refine en Tryz.func163 rfl Tryz.ntmps163 zI (g [[1],[5,0,1,2],[5,6,0,1,2]] ?_)
  refine WL.part 10 rfl (fun g10 => ?_) (fun g10 => ?_)
  · try simp only [zq] at g10
    refine g [[8]] ?_
    refine WP.ret1 rfl rfl rfl (RV.tmp rfl) (fun w hI => ⟨ret_bool (by rw [Bool.eq_iff_iff]; simp [inB]; omega), hI.keep⟩)
  try simp only [zq] at g10
  refine g [[8]] ?_
  refine WP.ret1 rfl rfl rfl (RV.tmp rfl) (fun w hI => ⟨ret_bool (by rw [Bool.eq_iff_iff]; simp [inB]; omega), hI.keep⟩)
theorem mustD_ok (e : Int) (w : World) : Gives Tryz.prog 162 [.bool true, it e] w (.tuple #[]) := by
  unfold Gives
  refine en Tryz.func162 rfl Tryz.ntmps162 zI (g [[1],[7,0,1]] ?_)
  refine WP.ret0 rfl rfl rfl  (fun w hI => ⟨rfl, hI.keep⟩)
theorem mustD_no (e : Int) (w : World) : Fails Tryz.prog 162 [.bool false, it e] w (stopD e) := by
  unfold Fails
  refine en Tryz.func162 rfl Tryz.ntmps162 zI (g [[1],[6,0,1],[4,1]] ?_)
  refine WL.no (SO.panic rfl ?_)
  refine WP.panicBody rfl (fun w hI => ⟨rfl, hI.keep⟩)
theorem stoppedD_nil (v : Value) (w : World) : Gives Tryz.prog 79 [.nilIface, v] w (.tuple #[]) := by
  unfold Gives
  refine en Tryz.func79 rfl Tryz.ntmps79 zI (g [[2],[2,0,1]] ?_)
  refine WL.yd (Yd.eqlNilNil UnF.h rfl) rfl (g [[5]] ?_)
  refine WP.ret0 rfl rfl rfl  (fun w hI => ⟨rfl, hI.keep⟩)
theorem stoppedD_yes (e v0 : Int) (b : Nat) (t : TypeId) (w : World) (hb : w.heap[b]? = some (.cells (List.toArray [it v0]) t (0, 0))) : Calls Tryz.prog 79 (List.toArray [.iface 225 (.agg #[it e]), pt b]) w fun en w' => (en = .returned (.tuple #[]) ∧ Keep [b] w w') ∧ w'.heap[b]? = some (.cells (List.toArray [it e]) t (0, 0)) := by
  refine en Tryz.func79 rfl Tryz.ntmps79 (Inv.one hb) (g [[2],[2,0,1]] ?_)
  refine WL.yd (Yd.eqlNil UnF.h rfl) rfl (g [[6],[2,0,1]] ?_)
  refine WL.yd (Yd.assert UnF.h (by intro _ h; cases h) rfl) rfl (g [[3]] ?_)
  refine WL.so (SO.alloc ZvF.h rfl) rfl (zw fun b4 hb4 => ?_)
  refine g [[6],[8,5,4,0,1],[7,4,1]] ?_
  refine WP.ret0 rfl rfl rfl  (fun w hI => ⟨⟨rfl, hI.keep⟩, hI.own _ _ (List.mem_of_getElem? (i := 1) rfl)⟩)
theorem mustW_ok (e : Int) (w : World) : Gives Tryz.prog 71 [.bool true, it e] w (.tuple #[]) := by
  unfold Gives
  refine en Tryz.func71 rfl Tryz.ntmps71 zI (g [[1],[7,0,1]] ?_)
  refine WP.ret0 rfl rfl rfl  (fun w hI => ⟨rfl, hI.keep⟩)
theorem mustW_no (e : Int) (w : World) : Fails Tryz.prog 71 [.bool false, it e] w (stopW e) := by
  unfold Fails
  refine en Tryz.func71 rfl Tryz.ntmps71 zI (g [[1],[6,0,1],[4,1]] ?_)
  refine WL.no (SO.panic rfl ?_)
  refine WP.panicBody rfl (fun w hI => ⟨rfl, hI.keep⟩)
theorem stoppedW_nil (v : Value) (w : World) : Gives Tryz.prog 70 [.nilIface, v] w (.tuple #[]) := by
  unfold Gives
  refine en Tryz.func70 rfl Tryz.ntmps70 zI (g [[2],[2,0,1]] ?_)
  refine WL.yd (Yd.eqlNilNil UnF.h rfl) rfl (g [[5]] ?_)
  refine WP.ret0 rfl rfl rfl  (fun w hI => ⟨rfl, hI.keep⟩)
theorem stoppedW_yes (e v0 : Int) (b : Nat) (t : TypeId) (w : World) (hb : w.heap[b]? = some (.cells (List.toArray [it v0]) t (0, 0))) : Calls Tryz.prog 70 (List.toArray [.iface 212 (.agg #[it e]), pt b]) w fun en w' => (en = .returned (.tuple #[]) ∧ Keep [b] w w') ∧ w'.heap[b]? = some (.cells (List.toArray [it e]) t (0, 0)) := by
  refine en Tryz.func70 rfl Tryz.ntmps70 (Inv.one hb) (g [[2],[2,0,1]] ?_)
  refine WL.yd (Yd.eqlNil UnF.h rfl) rfl (g [[6],[2,0,1]] ?_)
  refine WL.yd (Yd.assert UnF.h (by intro _ h; cases h) rfl) rfl (g [[3]] ?_)
  refine WL.so (SO.alloc ZvF.h rfl) rfl (zw fun b4 hb4 => ?_)
  refine g [[6],[8,5,4,0,1],[7,4,1]] ?_
  refine WP.ret0 rfl rfl rfl  (fun w hI => ⟨⟨rfl, hI.keep⟩, hI.own _ _ (List.mem_of_getElem? (i := 1) rfl)⟩)
theorem idleM86 (b : Nat) (w : World) : IdleM Tryz.prog 86 [pt b] w := by
  refine callsDIn_of_wpS Tryz.func86 rfl fun c₀ cs hu => ?_
  apply wpS_region
  simp [wpOpsS, go_sem, recoverD, hu, Tryz.ntmps86]
  refine (stoppedK_nil (pt b) w).mono ?_
  rintro e w' ⟨rfl, hk⟩
  cases c₀
  simp only at hu
  subst hu
  simp [bodyPostS, results, Tryz.results86, hk]
theorem catch86 (b : Nat) (e v0 : Int) (t : TypeId) (w : World) (hb : w.heap[b]? = some (.cells (List.toArray [it v0]) t (0, 0))) : Catch Tryz.prog 86 [pt b] (.iface 247 (.agg #[it e])) b (.cells (List.toArray [it e]) t (0, 0)) w := by
  refine callsD_of_wpS Tryz.func86 rfl fun c₀ cs hu => ?_
  apply wpS_region
  simp [wpOpsS, go_sem, recoverD, hu, Tryz.ntmps86]
  refine (stoppedK_yes e v0 b t w hb).mono ?_
  rintro en w' ⟨⟨rfl, hk⟩, hb'⟩
  cases c₀
  simp only at hu
  subst hu
  simp [bodyPostS, results, Tryz.results86, hk, hb']
theorem idle120 (b : Nat) (w : World) : Idle Tryz.prog 120 [pt b] w := by
  refine callsD_of_wpS Tryz.func120 rfl fun c₀ cs hu => ?_
  apply wpS_region
  simp [wpOpsS, go_sem, recoverD, hu, Tryz.ntmps120]
  refine (stoppedK_nil (pt b) w).mono ?_
  rintro e w' ⟨rfl, hk⟩
  cases c₀
  simp only at hu
  subst hu
  simp [bodyPostS, results, Tryz.results120, hk]
theorem catch120 (b : Nat) (e v0 : Int) (t : TypeId) (w : World) (hb : w.heap[b]? = some (.cells (List.toArray [it v0]) t (0, 0))) : Catch Tryz.prog 120 [pt b] (.iface 247 (.agg #[it e])) b (.cells (List.toArray [it e]) t (0, 0)) w := by
  refine callsD_of_wpS Tryz.func120 rfl fun c₀ cs hu => ?_
  apply wpS_region
  simp [wpOpsS, go_sem, recoverD, hu, Tryz.ntmps120]
  refine (stoppedK_yes e v0 b t w hb).mono ?_
  rintro en w' ⟨⟨rfl, hk⟩, hb'⟩
  cases c₀
  simp only at hu
  subst hu
  simp [bodyPostS, results, Tryz.results120, hk, hb']
theorem idle78 (b : Nat) (w : World) : Idle Tryz.prog 78 [pt b] w := by
  refine callsD_of_wpS Tryz.func78 rfl fun c₀ cs hu => ?_
  apply wpS_region
  simp [wpOpsS, go_sem, recoverD, hu, Tryz.ntmps78]
  refine (stoppedD_nil (pt b) w).mono ?_
  rintro e w' ⟨rfl, hk⟩
  cases c₀
  simp only at hu
  subst hu
  simp [bodyPostS, results, Tryz.results78, hk]
theorem catch78 (b : Nat) (e v0 : Int) (t : TypeId) (w : World) (hb : w.heap[b]? = some (.cells (List.toArray [it v0]) t (0, 0))) : Catch Tryz.prog 78 [pt b] (.iface 225 (.agg #[it e])) b (.cells (List.toArray [it e]) t (0, 0)) w := by
  refine callsD_of_wpS Tryz.func78 rfl fun c₀ cs hu => ?_
  apply wpS_region
  simp [wpOpsS, go_sem, recoverD, hu, Tryz.ntmps78]
  refine (stoppedD_yes e v0 b t w hb).mono ?_
  rintro en w' ⟨⟨rfl, hk⟩, hb'⟩
  cases c₀
  simp only at hu
  subst hu
  simp [bodyPostS, results, Tryz.results78, hk, hb']
theorem idle122 (b : Nat) (w : World) : Idle Tryz.prog 122 [pt b] w := by
  refine callsD_of_wpS Tryz.func122 rfl fun c₀ cs hu => ?_
  apply wpS_region
  simp [wpOpsS, go_sem, recoverD, hu, Tryz.ntmps122]
  refine (stoppedD_nil (pt b) w).mono ?_
  rintro e w' ⟨rfl, hk⟩
  cases c₀
  simp only at hu
  subst hu
  simp [bodyPostS, results, Tryz.results122, hk]
theorem catch122 (b : Nat) (e v0 : Int) (t : TypeId) (w : World) (hb : w.heap[b]? = some (.cells (List.toArray [it v0]) t (0, 0))) : Catch Tryz.prog 122 [pt b] (.iface 225 (.agg #[it e])) b (.cells (List.toArray [it e]) t (0, 0)) w := by
  refine callsD_of_wpS Tryz.func122 rfl fun c₀ cs hu => ?_
  apply wpS_region
  simp [wpOpsS, go_sem, recoverD, hu, Tryz.ntmps122]
  refine (stoppedD_yes e v0 b t w hb).mono ?_
  rintro en w' ⟨⟨rfl, hk⟩, hb'⟩
  cases c₀
  simp only at hu
  subst hu
  simp [bodyPostS, results, Tryz.results122, hk, hb']
theorem idleM218 (b : Nat) (w : World) : IdleM Tryz.prog 218 [pt b] w := by
  refine callsDIn_of_wpS Tryz.func218 rfl fun c₀ cs hu => ?_
  apply wpS_region
  simp [wpOpsS, go_sem, recoverD, hu, Tryz.ntmps218]
  refine (stoppedD_nil (pt b) w).mono ?_
  rintro e w' ⟨rfl, hk⟩
  cases c₀
  simp only at hu
  subst hu
  simp [bodyPostS, results, Tryz.results218, hk]
theorem catch218 (b : Nat) (e v0 : Int) (t : TypeId) (w : World) (hb : w.heap[b]? = some (.cells (List.toArray [it v0]) t (0, 0))) : Catch Tryz.prog 218 [pt b] (.iface 225 (.agg #[it e])) b (.cells (List.toArray [it e]) t (0, 0)) w := by
  refine callsD_of_wpS Tryz.func218 rfl fun c₀ cs hu => ?_
  apply wpS_region
  simp [wpOpsS, go_sem, recoverD, hu, Tryz.ntmps218]
  refine (stoppedD_yes e v0 b t w hb).mono ?_
  rintro en w' ⟨⟨rfl, hk⟩, hb'⟩
  cases c₀
  simp only at hu
  subst hu
  simp [bodyPostS, results, Tryz.results218, hk, hb']
theorem idle69 (b : Nat) (w : World) : Idle Tryz.prog 69 [pt b] w := by
  refine callsD_of_wpS Tryz.func69 rfl fun c₀ cs hu => ?_
  apply wpS_region
  simp [wpOpsS, go_sem, recoverD, hu, Tryz.ntmps69]
  refine (stoppedW_nil (pt b) w).mono ?_
  rintro e w' ⟨rfl, hk⟩
  cases c₀
  simp only at hu
  subst hu
  simp [bodyPostS, results, Tryz.results69, hk]
theorem catch69 (b : Nat) (e v0 : Int) (t : TypeId) (w : World) (hb : w.heap[b]? = some (.cells (List.toArray [it v0]) t (0, 0))) : Catch Tryz.prog 69 [pt b] (.iface 212 (.agg #[it e])) b (.cells (List.toArray [it e]) t (0, 0)) w := by
  refine callsD_of_wpS Tryz.func69 rfl fun c₀ cs hu => ?_
  apply wpS_region
  simp [wpOpsS, go_sem, recoverD, hu, Tryz.ntmps69]
  refine (stoppedW_yes e v0 b t w hb).mono ?_
  rintro en w' ⟨⟨rfl, hk⟩, hb'⟩
  cases c₀
  simp only at hu
  subst hu
  simp [bodyPostS, results, Tryz.results69, hk, hb']
theorem highB_iff {s : Sp} : highB s = true ↔ 0 ≤ s.lo ∧ s.lo ≤ s.hi ∧ s.hi ≤ 60 := by simp only [highB, decide_eq_true_eq]
def shoO (s1 s2 s3 : Value) (mb : Nat) : Obj := .cells (List.toArray [s1, s2, s3, .map (some mb)]) 229 (0, 0)
theorem isDeep_g (n : Int) (w : World) : Gives Tryz.prog 124 [it n] w (.bool (deepB n)) := by
  unfold Gives
  refine en Tryz.func124 rfl Tryz.ntmps124 zI (g [[1],[5,0],[2,2,0]] ?_)
  refine WL.cl rfl (fun w hI => withinD_g _ _ _ _) (g [[4]] ?_)
  refine WP.ret1 rfl rfl rfl (RV.tmp rfl) (fun w hI => ⟨rfl, hI.keep⟩)
theorem isHigh_g (s : Sp) (w : World) : Gives Tryz.prog 165 [.agg #[it s.lo, it s.hi]] w (.bool (highB s)) := by
  unfold Gives
  refine en Tryz.func165 rfl Tryz.ntmps165 zI (g [[1],[1,0]] ?_)
  refine WL.so (SO.box rfl rfl) rfl (zw fun b1 hb1 => ?_)
  refine g [[4],[5,2,1]] ?_
  refine WL.part 6 rfl (fun g6 => ?_) (fun g6 => ?_)
  · try simp only [zq] at g6
    refine g [[7]] ?_
    refine WL.part 13 rfl (fun g13 => ?_) (fun g13 => ?_)
    · try simp only [zq] at g13
      refine g [[8]] ?_
      refine WP.ret1 rfl rfl rfl (RV.tmp rfl) (fun w hI => ⟨ret_bool (by rw [Bool.eq_iff_iff]; simp_all [highB]; try omega), hI.keep⟩)
    try simp only [zq] at g13
    refine g [[8]] ?_
    refine WP.ret1 rfl rfl rfl (RV.tmp rfl) (fun w hI => ⟨ret_bool (by rw [Bool.eq_iff_iff]; simp_all [highB]; try omega), hI.keep⟩)
  try simp only [zq] at g6
  refine g [[15]] ?_
  refine WP.ret1 rfl rfl rfl (RV.tmp rfl) (fun w hI => ⟨ret_bool (by rw [Bool.eq_iff_iff]; simp_all [highB]; try omega), hI.keep⟩)
theorem narrow_g (s : Sp) (w : World) : Gives Tryz.prog 164 [.agg #[it s.lo, it s.hi]] w (.bool (narrowB s)) := by
  unfold Gives
  refine en Tryz.func164 rfl Tryz.ntmps164 zI (g [[1],[1,0]] ?_)
  refine WL.so (SO.box rfl rfl) rfl (zw fun b1 hb1 => ?_)
  refine g [[4],[2,2,1]] ?_
  refine WL.cl rfl (fun w hI => isHigh_g s _) (g [[1]] ?_)
  refine WL.part 5 rfl (fun g5 => ?_) (fun g5 => ?_)
  · try simp only [zq] at g5
    refine g [[4]] ?_
    refine WL.ydg rfl (Yd.sub rfl rfl (wr64 ⟨by first | omega | (have := highB_iff.1 (by assumption); omega) | (simp_all; omega), by first | omega | (have := highB_iff.1 (by assumption); omega) | (simp_all; omega)⟩)) rfl (g [[6]] ?_)
    refine WP.ret1 rfl rfl rfl (RV.tmp rfl) (fun w hI => ⟨ret_bool (by rw [Bool.eq_iff_iff]; simp_all [narrowB]), hI.keep⟩)
  try simp only [zq] at g5
  refine g [[11]] ?_
  refine WP.ret1 rfl rfl rfl (RV.tmp rfl) (fun w hI => ⟨ret_bool (by rw [Bool.eq_iff_iff]; simp_all [narrowB]), hI.keep⟩)
theorem last_g (T : Tide) (a1 a2 a3 : Option Addr) (n1 n2 n3 c1 c2 c3 : Nat) (D : Imm) (w : World) (hR : TideR D T a1 n1 a2 n2 a3 n3) (qb mb : Nat) (hq : D qb = some (shoO (.slice a1 n1 c1) (.slice a2 n2 c2) (.slice a3 n3 c3) mb)) (hH : Holds D w) (hnm : 2 ≤ T.marks.length) : Gives Tryz.prog 125 [pt qb] w (it (lastM T)) := by
  unfold Gives
  obtain rfl := hR.mark.len'
  obtain rfl := hR.sand.len'
  obtain rfl := hR.look.len'
  obtain ⟨hl1, hl2, hl3⟩ := hR.len
  have hrl : Rd D [] ⟨sb a1, so a1 + ((T.marks.length : Int) - 1).toNat * 3 + 0, none⟩ (it (lastM T)) := by
    rw [show ((T.marks.length : Int) - 1).toNat = T.marks.length - 1 by omega]; exact (hR.mark.at (T.marks.length - 1) (by omega)).rd 0 rfl
  refine en Tryz.func125 rfl Tryz.ntmps125 (Inv.start hH) (g [[1],[5,0],[0,2,0],[3012],[13]] ?_)
  refine WL.yd (Yd.ix rfl rfl (hR.mark.addr (T.marks.length - 1) (by omega))) rfl (g [[1]] ?_)
  refine WL.yd (Yd.l1 rfl (hrl)) rfl (g [[4]] ?_)
  refine WP.ret1 rfl rfl rfl (RV.tmp rfl) (fun w hI => ⟨rfl, hI.keep⟩)
theorem isPlace_g (T : Tide) (a1 a2 a3 : Option Addr) (n1 n2 n3 c1 c2 c3 : Nat) (D : Imm) (w : World) (hR : TideR D T a1 n1 a2 n2 a3 n3) (qb mb : Nat) (hq : D qb = some (shoO (.slice a1 n1 c1) (.slice a2 n2 c2) (.slice a3 n3 c3) mb)) (hH : Holds D w) (n : Int) : Gives Tryz.prog 82 [pt qb, it n] w (.bool (placeB T n)) := by
  unfold Gives
  obtain rfl := hR.mark.len'
  obtain rfl := hR.sand.len'
  obtain rfl := hR.look.len'
  obtain ⟨hl1, hl2, hl3⟩ := hR.len
  refine en Tryz.func82 rfl Tryz.ntmps82 (Inv.start hH) (g [[1],[5,0,1],[9,4,0,1]] ?_)
  refine WL.cl rfl (fun w hI => withinD_g _ _ _ _) (g [[4]] ?_)
  refine WP.ret1 rfl rfl rfl (RV.tmp rfl) (fun w hI => ⟨rfl, hI.keep⟩)
theorem isMinute_g (T : Tide) (a1 a2 a3 : Option Addr) (n1 n2 n3 c1 c2 c3 : Nat) (D : Imm) (w : World) (hR : TideR D T a1 n1 a2 n2 a3 n3) (qb mb : Nat) (hq : D qb = some (shoO (.slice a1 n1 c1) (.slice a2 n2 c2) (.slice a3 n3 c3) mb)) (hH : Holds D w) (hnm : 2 ≤ T.marks.length) (n : Int) : Gives Tryz.prog 83 [pt qb, it n] w (.bool (minuteB T n)) := by
  unfold Gives
  obtain rfl := hR.mark.len'
  obtain rfl := hR.sand.len'
  obtain rfl := hR.look.len'
  obtain ⟨hl1, hl2, hl3⟩ := hR.len
  refine en Tryz.func83 rfl Tryz.ntmps83 (Inv.start hH) (g [[1],[5,0,1],[0,4,0,1],[3011],[6]] ?_)
  refine WQ.q rfl (Yd.qt (Yd.ix rfl rfl (hR.mark.addr 0 (by omega)))) rfl (g [[1]] ?_)
  refine WQ.q rfl (Yd.qt (Yd.l1 rfl ((hR.mark.at 0 (by omega)).rd 0 rfl))) rfl (g [[1]] ?_)
  refine WQ.q rfl (Qt.callP CaF.h rfl (fun w hI => last_g T a1 a2 a3 _ _ _ c1 c2 c3 D _ hR qb mb hq hI.imm hnm)) rfl (g [[1]] ?_)
  refine WL.cl rfl (fun w hI => withinD_g _ _ _ _) (g [[4]] ?_)
  refine WP.ret1 rfl rfl rfl (RV.tmp rfl) (fun w hI => ⟨rfl, hI.keep⟩)
end Go.Proofs.YtejgofaeafphjaaGreatDoor
